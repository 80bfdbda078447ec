import Derived.Test.YtnafpeohfbglmaaGreatQd
import Derived.WideKeyRuns
set_option linter.unusedVariables false
set_option linter.unusedSimpArgs false
set_option maxRecDepth 100000
set_option maxHeartbeats 4000000
open List (all_cons all_eq_true all_nil append_assoc append_nil drop_zero find?_cons getD_eq_getElem?_getD getElem?_eq_getElem getElem?_eq_none getElem?_map isEmpty length_append length_cons length_drop length_map length_nil length_replicate length_take length_take_le' map_append map_cons map_nil mem_append mem_cons_of_mem mem_cons_self mem_map mem_of_getElem? mem_singleton nil_append range replicate replicate_succ' take_length take_zero)
open Nat (mul_one zero_add zero_le)
open Bool (and_eq_true eq_false_iff)
open Int (toNat_natCast)
open Option (getD_none getD_some map_none map_some)
open Array (length_toList toList_push)
theorem uk {p:Prop} (h:p:=by (first|rw [jD (by omega)]|(rw [iA aE,Kr,iR,iR];congr 1;split<;>omega))):p:=h
theorem um {p:Prop} (h:p:=by show aH _ [(_,.row _ _ (xs (j+1)).length)] _;rw [df];exact aH.dq _):p:=h
theorem Ak {p:Prop} (h:p:=by show aH _ [(_,.row _ _ (xs (j+1)).length)] _;rw [ar];exact aH.dq _):p:=h
theorem uo {p:Prop} (h:p:=by (first|rfl|(rw [aB];simp [iR,a7 aB])|(rw [aB];simp [iR]))):p:=h
theorem Gv {p:Prop} (h:p:=by simp only [List.length_nil,Nat.zero_add,List.length_map];omega):p:=h
theorem x2 {p:Prop} (h:p:=by show p.ck.length-(j+1)<p.ck.length-j;omega):p:=h
theorem Da {p:Prop} (h:p:=by show w.owner.length-(j+1)<w.owner.length-j;omega):p:=h
theorem Db {p:Prop} (h:p:=by show c.bo.length-(k+1)<c.bo.length-k;omega):p:=h
theorem nY {p:Prop} (h:p:=by show f.kids.length-(j+1)<f.kids.length-j;omega):p:=h
theorem rF {p:Prop} (h:p:=by first|(simp_all [];done)|(simp_all []<;>omega)):p:=h
theorem x3 {p:Prop} (h:p:=by (rw [ek (by omega) (by omega)])):p:=h
theorem mO {p:Prop} (h:p:=by show l.length-(j+1)<l.length-j;omega):p:=h
theorem kR {p:Prop} (h:p:=by rw [ad];exact List.mem_cons_self):p:=h
theorem wh {p:Prop} (h:p:=by rw [bt];exact aH.dq _):p:=h
theorem rG {p:Prop} (h:p:=by rw [ad];simp):p:=h
namespace Go.cU
section
variable {P:Program} {Γ:cw} {N:Nat} {ops:Array Oper} {Q:b8→Env→ao→Prop} {env:Env} {s:ao} {l:List Oper} {o:Oper} {d:Nat} {L R:a8}
def rH (b off n cap:Nat):af := .hv (.slice (some ⟨b,off,none⟩) n cap)
theorem Lh {t bH:TypeId} {x y:Operand} {a:Act} {val:Value} {w w':World} (ah:o.op = .call { callee := .builtin .copy,args := #[x,y],argTypes := #[t,bH] }) (h:(Builtin.copy_ #[t,bH] o.type #[a.eval x,a.eval y]).run P w = .ok val w') :
  (execOp a.eval o).run P w = .ok (.value val) w':=by
 unfold execOp;rw [ah];simp only [resolve,invoke,builtin,Sem.run_bind,Sem.run_pure,Result.andThen_ok,List.map_toArray,map_cons,map_nil,h]
theorem Li (I:Ok s L) {w:World} {p:bR} {b off:Nat} {e:TypeId} {cs ys:List af} {us:List Value} {vs:Array Value} (cc:dm w p (aT s L)) (ar:bp L (.own b) (.box e cs) R) (c4:w.heap[b]? = some (.cells vs e (0,0))) (dd:bG w p vs.toList cs) (hu:bG w p us ys) (fy:off+ys.length≤cs.length) :
  dc w p (w.setRow b (vs.toList.take off++us++vs.toList.drop (off+us.length)).toArray) p∧Kept (aT s L) (aT s ((.own b,.box e (cs.take off++ys++cs.drop (off+ys.length)))::R)) w p (w.setRow b (vs.toList.take off++us++vs.toList.drop (off+us.length)).toArray) p ∧
   dm (w.setRow b (vs.toList.take off++us++vs.toList.drop (off+us.length)).toArray) p (aT s ((.own b,.box e (cs.take off++ys++cs.drop (off+ys.length)))::R))∧Ok s ((.own b,.box e (cs.take off++ys++cs.drop (off+ys.length)))::R):=by
 have my:=hu.length;have sD:=dd.length;have hc:bG w p (vs.toList.take off++us++vs.toList.drop (off+us.length)) (cs.take off++ys++cs.drop (off+ys.length)):=by
  rw [my];exact bG.append (bG.append (dd.take _) hu) (dd.drop _)
 obtain ⟨dG,j',iy⟩:=vj cc (ar.get I) (vs':=(vs.toList.take off++us++vs.toList.drop (off+us.length)).toArray) (cs':=cs.take off++ys++cs.drop (off+ys.length)) (fun zO bt=>by
  rw [c4] at bt;cases bt
  rw [length_toList] at sD
  simp only [List.size_toArray,length_append,length_take,length_drop,length_toList]
  omega) (by simpa using hc) _ C
 obtain ⟨f1,f2⟩:=ar.put (.box e (cs.take off++ys++cs.drop (off+ys.length))) I;rw [f1] at j' iy;exact ⟨dG,j',iy,f2⟩
theorem aZ.Gw (aP:bQ P Γ) (I:Ok s L) {t bH e:TypeId} {x y:Operand} {it aG:bM} {b off dl qE bU:Nat} {cs ys:List af} {dj:bL}
  (ah:o.op = .call { callee := .builtin .copy,args := #[x,y],argTypes := #[t,bH] }) (aM:Γ.get? t=some it) (br:it.bF = .aA e) (bI:Γ.get? e=some aG) (U:aG.size=1) (ab:aJ env x=some (rH b off dl qE)) (ar:bp L (.own b) (.box e cs) R)
  (ay:aJ env y=some (.aA bU ys dj)) (c8:bU=1) (dJ:ys.all e7=true) (ax:ys.length≤dl) (fy:off+ys.length≤cs.length) {X:af→ao→Prop} :
  aZ P N o env (aT s L) (fun r aj=>r = .int .i64 ys.length∧aj=aT s ((.own b,.box e (cs.take off++ys++cs.drop (off+ys.length)))::R)∧Ok s ((.own b,.box e (cs.take off++ys++cs.drop (off+ys.length)))::R)) X:=by
 refine aZ.ki i' fun ro B a w p aI=>?_
 have ga:=aI.aJ ab;have fh:=aI.aJ ay;have eI:=fun val w'=>Lh (P:=P) (a:=a) (val:=val) (w:=w) (w':=w') ah
 generalize ew:a.eval x=dP at ga eI;generalize fb:a.eval y=fU at fh eI;cases ga;obtain ⟨info,d,g1,g2,g3,-⟩:=aP.parts aM;obtain ⟨jL,kj,cD,dh,fa,eD,jM,jl⟩:=aP.parts bI;have cl:d = .slice e:=by rw [br] at g3;cases d<;>simp [ev] at g3;rw [g3]
 subst cl;subst c8;obtain ⟨us,ic,pe,jN,j6,sy,sA,sB⟩:=qd (sz':=1) fh (.inr rfl);have my:=ic.length;have ma:∀ x∈us,x.oneCell'=true:=qb ic dJ;have sR:flat us=us:=sQ ma;obtain ⟨vs,c4,dd,eZ⟩:=aI.wf.obj _ _ (ar.get I);have sD:=dd.length;rw [length_toList] at sD;have aB:=jN P;have a6:=j6 P w (fun _ _ _=>rfl);rw [sR] at a6;have vJ:=run_storeCells_at P b off e us 0 vs w c4 ag ma;simp only [Nat.add_zero] at vJ;have TA:Nat.min ys.length dl=ys.length:=Nat.min_eq_left ax;have cO:(Builtin.copy_ #[t,bH] o.type #[.slice (some ⟨b,off,none⟩) dl qE,fU]).run P w = .ok (.int .i64 ys.length) (w.setRow b (vs.toList.take off++us++vs.toList.drop (off+us.length)).toArray):=by
  simp [Builtin.copy_,run_underlying g2,sizeOf,typeInfo,cD,eD,U,aB,TA,a6,vJ,goInt]
 obtain ⟨ef,di,dL,mw⟩:=Li I aI.wf ar c4 dd ic fy;exact ⟨_,_,_,p,_,eI _ _ cO,ef,di,dL,⟨rfl,rfl,mw⟩,.int _ _⟩
theorem aZ.Al (aP:bQ P Γ) (I:Ok s L) {t bH e:TypeId} {x y:Operand} {it aG:bM} {b off dl qE ju bB x4 k:Nat} {cs:List af}
    (ah:o.op = .call { callee := .builtin .copy,args := #[x,y],argTypes := #[t,bH] }) (aM:Γ.get? t=some it) (br:it.bF = .aA e) (bI:Γ.get? e=some aG) (U:aG.size=1) (ab:aJ env x=some (rH b off dl qE)) (ar:bp L (.own b) (.box e cs) R)
    (ay:aJ env y=some (rH b ju bB x4)) (aE:k=min bB dl) (dJ:((cs.drop ju).take k).all e7=true) (ad:ju+k≤cs.length) (fy:off+k≤cs.length) {X:af→ao→Prop} :
    aZ P N o env (aT s L) (fun r aj=>r = .int .i64 k∧aj=aT s ((.own b,.box e (cs.take off++(cs.drop ju).take k++cs.drop (off+k)))::R)∧Ok s ((.own b,.box e (cs.take off++(cs.drop ju).take k++cs.drop (off+k)))::R)) X:=by
  refine aZ.ki i' fun ro B a w p aI=>?_
  have ga:=aI.aJ ab;have fh:=aI.aJ ay;have eI:=fun val w'=>Lh (P:=P) (a:=a) (val:=val) (w:=w) (w':=w') ah
  generalize ew:a.eval x=dP at ga eI;generalize fb:a.eval y=fU at fh eI;cases ga;cases fh;obtain ⟨info,d,g1,g2,g3,-⟩:=aP.parts aM;obtain ⟨jL,kj,cD,dh,fa,eD,jM,jl⟩:=aP.parts bI;have cl:d = .slice e:=by rw [br] at g3;cases d<;>simp [ev] at g3;rw [g3]
  subst cl;obtain ⟨vs,c4,dd,eZ⟩:=aI.wf.obj _ _ (ar.get I);have sD:=dd.length;have su:bG w p ((vs.toList.drop ju).take k) ((cs.drop ju).take k):=(dd.drop _).take _;have ma:=qb su dJ;have km:((vs.toList.drop ju).take k).length=k:=by rw [length_take,length_drop];omega
  have cv:((cs.drop ju).take k).length=k:=by rw [length_take,length_drop];omega
  rw [length_toList] at sD
  have cO:=run_copy_row P w t bH o.type e b off dl qE ⟨b,ju,none⟩ bB x4 vs e ((vs.toList.drop ju).take k) g2 (by rw [cD];simp [eD,U]) c4 (by rw [km,aE]) (fun j u hu=>by
    rw [k5,jB c4]
    rw [List.getElem?_take] at hu
    split at hu
    · rw [List.getElem?_drop] at hu
      simpa using hu
    · cases hu) (by rw [km];omega) ma
  rw [km] at cO;obtain ⟨ef,di,dL,mw⟩:=Li (off:=off) I aI.wf ar c4 dd su (by rw [cv];exact fy);rw [km] at ef di dL;rw [cv] at di dL mw;exact ⟨_,_,_,p,_,eI _ _ cO,ef,di,dL,⟨rfl,rfl,mw⟩,.int _ _⟩
theorem aa.Gw (aP:bQ P Γ) (I:Ok s L) {t bH e:TypeId} {x y:Operand} {it aG:bM} {b off dl qE bU:Nat} {cs ys:List af} {dj:bL} (aw:guardOf ops env o=some true) (ax:o.dst=some d) (aU:Nat.blt d N=true)
  (ah:o.op = .call { callee := .builtin .copy,args := #[x,y],argTypes := #[t,bH] }) (aM:Γ.get? t=some it) (br:it.bF = .aA e) (bI:Γ.get? e=some aG) (U:aG.size=1) (ab:aJ env x=some (rH b off dl qE)) (ar:bp L (.own b) (.box e cs) R)
  (ay:aJ env y=some (.aA bU ys dj)) (c8:bU=1) (dJ:ys.all e7=true) (wi:ys.length≤dl) (fy:off+ys.length≤cs.length)
  (h:Ok s ((.own b,.box e (cs.take off++ys++cs.drop (off+ys.length)))::R)→aa P N ops l Q ((d,.int .i64 ys.length)::env) (aT s ((.own b,.box e (cs.take off++ys++cs.drop (off+ys.length)))::R))):aa P N ops (o::l) Q env (aT s L):=
 aa.op aw ax aU (aZ.Gw aP I ah aM br bI U ab ar ay c8 dJ wi fy (X:=fun _ _=>False)) (fun x aj ⟨U,ad,al⟩=>by subst U;subst ad;exact h al) (fun _ _ h=>h.elim)
theorem aa.Al (aP:bQ P Γ) (I:Ok s L) {t bH e:TypeId} {x y:Operand} {it aG:bM} {b off dl qE ju bB x4:Nat} (k:Nat) {cs:List af} (aw:guardOf ops env o=some true) (ax:o.dst=some d) (aU:Nat.blt d N=true)
  (ah:o.op = .call { callee := .builtin .copy,args := #[x,y],argTypes := #[t,bH] }) (aM:Γ.get? t=some it) (br:it.bF = .aA e) (bI:Γ.get? e=some aG) (U:aG.size=1) (ab:aJ env x=some (rH b off dl qE)) (ar:bp L (.own b) (.box e cs) R)
  (ay:aJ env y=some (rH b ju bB x4)) (aE:k=min bB dl) (dJ:((cs.drop ju).take k).all e7=true) (ad:ju+k≤cs.length) (fy:off+k≤cs.length)
  (h:Ok s ((.own b,.box e (cs.take off++(cs.drop ju).take k++cs.drop (off+k)))::R)→aa P N ops l Q ((d,.int .i64 k)::env) (aT s ((.own b,.box e (cs.take off++(cs.drop ju).take k++cs.drop (off+k)))::R))):aa P N ops (o::l) Q env (aT s L):=
 aa.op aw ax aU (aZ.Al aP I ah aM br bI U ab ar ay aE dJ ad fy (X:=fun _ _=>False)) (fun x aj ⟨U,ad,al⟩=>by subst U;subst ad;exact h al) (fun _ _ h=>h.elim)
theorem bm.Al {J:ao→Prop} {m:Nat} (i:Nat) (aP:bQ P Γ) (I:Ok s L) {t bH e:TypeId} {x y:Operand} {it aG:bM} {b off dl qE ju bB x4:Nat} (k:Nat) {cs:List af} (aF:eE l.toArray m (idxs 0 l)=[i]) (aQ:l.toArray[i]? = some o) (ax:o.dst=some d) (aU:Nat.blt d N=true)
  (aw:c7 l env o)
  (ah:o.op = .call { callee := .builtin .copy,args := #[x,y],argTypes := #[t,bH] }) (aM:Γ.get? t=some it) (br:it.bF = .aA e) (bI:Γ.get? e=some aG) (U:aG.size=1) (ab:aJ (bZ l env o) x=some (rH b off dl qE)) (ar:bp L (.own b) (.box e cs) R)
  (ay:aJ (bZ l env o) y=some (rH b ju bB x4)) (aE:k=min bB dl) (dJ:((cs.drop ju).take k).all e7=true) (ad:ju+k≤cs.length) (fy:off+k≤cs.length)
  (aK:Ok s ((.own b,.box e (cs.take off++(cs.drop ju).take k++cs.drop (off+k)))::R)→J (aT s ((.own b,.box e (cs.take off++(cs.drop ju).take k++cs.drop (off+k)))::R))∨ko l.toArray i=true)
  (h:Ok s ((.own b,.box e (cs.take off++(cs.drop ju).take k++cs.drop (off+k)))::R)→bm J P Γ N l.toArray Q (bV (m|||2^i)) ((d,.int .i64 k)::env) (aT s ((.own b,.box e (cs.take off++(cs.drop ju).take k++cs.drop (off+k)))::R))):bm J P Γ N l.toArray Q (bV m) env (aT s L):=
 bm.one aF aQ ax aU aw (aZ.Al aP I ah aM br bI U ab ar ay aE dJ ad fy (X:=fun _ _=>False)) (fun x aj ⟨U,ad,al⟩=>by subst U;subst ad;exact aK al) (fun x aj ⟨U,ad,al⟩=>by subst U;subst ad;exact h al) (fun _ _ h=>h.elim)
theorem aZ.Gx (aP:bQ P Γ) {t e:TypeId} {x y:Operand} {it aG:bM} {b n cap k:Nat} {qv:IntKind} (ah:o.op = .slice t x (some y) none none) (aM:Γ.get? t=some it) (br:it.bF = .aA e) (bI:Γ.get? e=some aG) (U:aG.size=1) (ab:aJ env x=some (eo b n cap)) (ay:aJ env y=some (.int qv (k:Int))) (aE:k≤n) (az:n≤cap) (BU:k<cap) :
  aZ P N o env s (fun x aj=>x=rH b k (n-k) (cap-k)∧aj=s) (fun _ _=>False):=by
 refine aZ.m3 i' fun ro B a w p aI=>?_
 obtain ⟨info,d,g1,g2,g3,-⟩:=aP.parts aM;obtain ⟨jL,kj,cD,dh,fa,eD,-⟩:=aP.parts bI;have ax:d = .slice e:=by rw [br] at g3;cases d<;>simp [ev] at g3;rw [g3]
 subst ax;have aF:=aI.aJ ab;have fh:=aI.aJ ay;generalize ew:a.eval x=dP at aF;generalize fb:a.eval y=fU at fh;cases aF;cases fh;refine .same (val := .slice (some ⟨b,k,none⟩) (n-k) (cap-k)) ?_ (.hv _);unfold execOp;rw [ah];simp only [ew,map_none,map_some,fb];refine gR ?_;have k7:(k:Int)≤(n:Int):=by omega
 have s5:(n:Int)≤(cap:Int):=by omega
 have aq:(Instr.sliceBounds true n cap (some (.int qv (k:Int))) none none).run P w = .ok (k,n,cap) w:=by
  simp [Instr.sliceBounds,run_sliceBound,k7,s5]
 have bt:cap-k≠0:=by omega
 simp only [Instr.sliceAt,Instr.slice,Sem.run_bind,run_underlying g2,Result.andThen_ok,aq,sizeOf,typeInfo,run_program,cD,Sem.run_pure,eD,U];simp [bt,k5];intro cX;omega
theorem bm.Gx {J:ao→Prop} {m:Nat} (i:Nat) (aP:bQ P Γ) (cy:J s) {t e:TypeId} {x y:Operand} {it aG:bM} {b n cap:Nat} (k:Nat) {qv:IntKind} (aF:ix l.toArray m i=true) (aQ:l.toArray[i]? = some o) (ax:o.dst=some d) (aU:Nat.blt d N=true)
  (aw:c7 l env o) (ah:o.op = .slice t x (some y) none none) (aM:Γ.get? t=some it) (br:it.bF = .aA e) (bI:Γ.get? e=some aG) (U:aG.size=1) (ab:aJ (bZ l env o) x=some (eo b n cap)) (ay:aJ (bZ l env o) y=some (.int qv (k:Int))) (aE:k≤n) (az:n≤cap) (BU:k<cap)
  (h:bm J P Γ N l.toArray Q (bV (m|||2^i)) ((d,rH b k (n-k) (cap-k))::env) s):bm J P Γ N l.toArray Q (bV m) env s:=
 bm.rm cy aF aQ ax aU aw (fun _ _=>aZ.Gx aP ah aM br bI U ab ay aE az BU) h
theorem bm.zS {J:ao→Prop} {m:Nat} (i:Nat) (aP:bQ P Γ) (cy:J s) {t e:TypeId} {x y:Operand} {it aG:bM} {b n cap:Nat} (k:Nat) {qv:IntKind} (aF:ix l.toArray m i=true) (aQ:l.toArray[i]? = some o) (ax:o.dst=some d) (aU:Nat.blt d N=true)
  (aw:c7 l env o) (ah:o.op = .slice t x none (some y) none) (aM:Γ.get? t=some it) (br:it.bF = .aA e) (bI:Γ.get? e=some aG) (ab:aJ (bZ l env o) x=some (eo b n cap)) (ay:aJ (bZ l env o) y=some (.int qv (k:Int))) (aE:k≤cap)
  (h:bm J P Γ N l.toArray Q (bV (m|||2^i)) ((d,eo b k cap)::env) s):bm J P Γ N l.toArray Q (bV m) env s:=
 bm.rm cy aF aQ ax aU aw (fun _ _=>aZ.zS aP ah aM br bI ab ay aE) h
end
section
variable {J:ao→Prop} {P:Program} {Γ:cw} {N:Nat} {Q:b8→Env→ao→Prop} {env:Env} {s:ao} {l:List Oper} {o:Oper} {d m:Nat}
theorem bm.rI (i:Nat) (cy:J s) {g:Operand} {name:String} {fN:Array Operand} {c6:Array TypeId} {t:TypeId} {v:af} {f:FuncId} {xs:List af} {r:af} (aF:ix l.toArray m i=true) (aQ:l.toArray[i]? = some o) (ax:o.dst=some d) (aU:Nat.blt d N=true)
  (aw:c7 l env o) (ah:o.op = .call { callee := .invoke g name,args:=fN,argTypes:=c6 }) (av:aJ (bZ l env o) g=some (.iface t v)) (a7:fM (bZ l env o) fN.toList=some xs) (hm:pj P t name f) (h:aR P f (v::xs) r)
  (aE:bm J P Γ N l.toArray Q (bV (m|||2^i)) ((d,r)::env) s):bm J P Γ N l.toArray Q (bV m) env s:=
 bm.rm cy aF aQ ax aU aw (fun s _=>(aZ.invoke ah av a7 hm (h s)).mono (fun x aj h=>by cases h.1;exact ⟨rfl,h.2⟩) (fun x aj h=>by cases h.1)) aE
end
section
variable {J:ao→Prop} {P:Program} {Γ:cw} {N:Nat} {l:List Oper} {i:Nat} {rest:List Oper} {Q:b8→Env→ao→Prop} {env:Env} {s:ao} {o:Oper} {d:Nat}
theorem aN.rI {g:Operand} {name:String} {fN:Array Operand} {c6:Array TypeId} {t:TypeId} {v:af} {f:FuncId} {xs:List af} {r:af} (aw:c7 l env o) (ax:o.dst=some d) (aU:Nat.blt d N=true)
  (ah:o.op = .call { callee := .invoke g name,args:=fN,argTypes:=c6 }) (av:aJ (bZ l env o) g=some (.iface t v)) (a7:fM (bZ l env o) fN.toList=some xs) (hm:pj P t name f) (h:aR P f (v::xs) r)
  (aE:aN J P Γ N l (i+1) rest Q ((d,r)::env) s):aN J P Γ N l i (o::rest) Q env s:=
 aN.calm aw ax aU (fun s _=>(aZ.invoke ah av a7 hm (h s)).mono (fun x aj h=>by cases h.1;exact ⟨rfl,h.2⟩) (fun x aj h=>by cases h.1)) aE
end
section
variable {J:ao→Prop} {P:Program} {Γ:cw} {N:Nat} {l:List Oper} {i:Nat} {rest:List Oper} {Q:b8→Env→ao→Prop} {env:Env} {s:ao} {o:Oper} {d:Nat}
theorem aN.gH {L R K:a8} {acs:ey→a8→Prop} {g:Operand} {fv:af} {fN:Array Operand} {c6:Array TypeId} {xs:List af} (aw:c7 l env o) (ax:o.dst=some d) (aU:Nat.blt d N=true) (lP:ko l.toArray i=true)
  (b2:o.op = .call { callee := .value g,args:=fN,argTypes:=c6 }) (av:aJ (bZ l env o) g=some fv) (a7:fM (bZ l env o) fN.toList=some xs) (h:dp P fv xs K acs) (I:Ok s L) (ar:aH L K R)
  (aE:∀ x aO,acs (.ret x) aO→Ok s (aO++R)→Q .normal ((d,x)::env) (aT s (aO++R))) (ab:∀ x aO,acs (.panic x) aO→Ok s (aO++R)→Q (.panic x) [] (aT s (aO++R))):aN J P Γ N l i [o] Q env (aT s L):=
 aN.last aw ax aU lP (aZ.gH b2 av a7 h I ar) (fun x aj ⟨aO,U,ad,al⟩=>by subst U;exact aE x aO al ad) (fun x aj ⟨aO,U,ad,al⟩=>by subst U;exact ab x aO al ad)
end
section
variable {J:ao→Prop} {P:Program} {Γ:cw} {N:Nat} {l:List Oper} {i:Nat} {rest:List Oper} {Q:b8→Env→ao→Prop} {env:Env} {s:ao} {o:Oper} {d:Nat}
theorem aN.fi (aP:bQ P Γ) {t e:TypeId} {x y:Operand} {it aG:bM} {b n cap:Nat} {k:IntKind} {z:Int} (j:Nat) (aw:c7 l env o) (ax:o.dst=some d) (aU:Nat.blt d N=true)
  (ah:o.op = .indexAddr t x y) (aM:Γ.get? t=some it) (br:it.bF = .aA e) (bI:Γ.get? e=some aG)
  (ab:aJ (bZ l env o) x=some (eo b n cap)) (ay:aJ (bZ l env o) y=some (.int k z)) (eK:z=(j:Int)) (aK:j<n)
  (h:aN J P Γ N l (i+1) rest Q ((d,.ptr b (j*aG.size))::env) s):aN J P Γ N l i (o::rest) Q env s:=
 aN.calm aw ax aU (fun _ _=>aZ.fi aP ah aM br bI ab ay eK aK) h
end
end Go.cU
namespace Go.Proofs.YtnafpeohfbglmaaGreat
open Go.cU Go.eb
theorem Lj:∀ {g:List b0} {len i k:Nat} {x:b0},oH len i g=true→g[k]? = some x→ie len (i+k) x=true
  | y::r,len,i,0,x,h,ab=>by
    rw [oH,and_eq_true] at h;simp at ab;subst ab;exact h.1
  | y::r,len,i,k+1,x,h,ab=>by
    rw [oH,and_eq_true] at h;have:=Lj (k:=k) h.2 (by simpa using ab);rw [show i+(k+1)=i+1+k by omega];exact this
theorem uq {g:List b0} {k:Nat} {x:b0} (h:gI g=true) (ab:g[k]? = some x):ie g.length k x=true:=by
 unfold gI at h;simp only [and_eq_true] at h;have:=Lj h.2.2 ab;rwa [zero_add] at this
theorem wj {g:List b0} (h:gI g=true):1≤g.length∧g.length≤300:=by
 unfold gI at h;simp only [and_eq_true,decide_eq_true_eq] at h;exact ⟨h.1,h.2.1⟩
theorem Dc:∀ (g:List b0) (i:Nat),(hN i g).length=g.length
 | [],_=>rfl
 | x::r,i=>by rw [hN,length_cons,length_cons,Dc r]
theorem Dd {l:List Int} {j:Nat} {n:Int} (az:0≤n) (h:∀ v∈l,0≤v∧v≤n):0≤l.getD j 0∧l.getD j 0≤n:=by
 rw [getD_eq_getElem?_getD];cases aK:l[j]? with
 | none=>exact ⟨Int.le_refl _,az⟩
 | some v=>exact h v (mem_of_getElem? aK)
theorem Am:∀ (g:List b0) (i:Nat),∀ v∈hN i g,0≤v∧v≤g.length
  | [],_,v,h=>by cases h
  | x::r,i,v,h=>by
    have a1:=Am r (i+1);have U:=Dd (j:=x.no.toNat-(i+1)) ag a1;have ad:=Dd (j:=x.yes.toNat-(i+1)) ag a1;rw [hN] at h;rw [length_cons];rcases List.mem_cons.1 h with rfl|h
    · split<;>omega
    · have:=a1 v h;omega
def jn (g:List b0) (j:Nat):List Int:=replicate j 0++hN j (g.drop j)
theorem Lk {g:List b0} {j:Nat} (h:j≤g.length):(jn g j).length=g.length:=by
 unfold jn;rw [length_append,length_replicate,Dc,length_drop];omega
theorem Ll {g:List b0} {k:Nat} {n:Int} (U:n>(k:Int)) (ad:n<(g.length:Int)):((jn g (k+1)).map ba)[n.toNat*1]? = some (.int .i64 ((hN (k+1) (g.drop (k+1))).getD (n.toNat-(k+1)) 0)):=by
 have aB:n.toNat<(jn g (k+1)).length:=by rw [Lk ag];omega
 unfold jn at aB ⊢;rw [mul_one,getElem?_map,List.getElem?_append_right cG,length_replicate,getD_eq_getElem?_getD];rw [length_append,length_replicate] at aB;rw [getElem?_eq_getElem ag];rfl
theorem TB {g:List b0} {k:Nat} {x:b0} {v:Int} (ab:g[k]? = some x) (a7:x.atom≥0) (av:v=1+max ((hN (k+1) (g.drop (k+1))).getD (x.no.toNat-(k+1)) 0) ((hN (k+1) (g.drop (k+1))).getD (x.yes.toNat-(k+1)) 0)) :
  eQ (k*1) [.int .i64 v] ((jn g (k+1)).map ba)=(jn g k).map ba:=by
 rw [pD,mul_one];unfold jn;rw [drop_cons ab,hN,if_pos a7,← av,replicate_succ',append_assoc,map_append,map_append,List.set_append_right _ _ a'];simp [ba]
theorem TC {g:List b0} {k:Nat} {x:b0} (ab:g[k]? = some x) (a7:¬ x.atom≥0):jn g (k+1)=jn g k:=by
 unfold jn;rw [drop_cons ab,hN,if_neg a7,replicate_succ',append_assoc];rfl
theorem TD (g:List b0) (aw:g.length<bz):aR Tryz.prog 18 [fO g] (.cp [.int .i64 (if gI g then lf g else 0),.int .i64 (if gI g then 0 else 2)]):=by
 have aq:=bA;refine aR.bh ai Tryz.func18 C C fun s I=>?_
 have a6:=C' g aw;unfold fO at *;cases hY:gI g with
 | false=>
  rw [hY] at a6;refine bW ?_;exact bl I
 | true=>
 rw [hY] at a6;obtain ⟨lz,eS⟩:=wj hY;have jF:((g.map eW).length:Int)=(g.length:Int):=by rw [length_map]
 refine bW ?_;refine aa.ui ai I g.length C C C C C C C C C C (congrArg (fun z=>some (af.int .i64 z)) jF) (congrArg (fun z=>some (af.int .i64 z)) jF) (by show _*8≤_;omega) ag (fun b I=>?_);rw [show replicate g.length (af.int .i64 0)=(jn g g.length).map ba by unfold jn;rw [ep (Nat.le_refl _),hN,append_nil,List.map_replicate];rfl] at I ⊢;refine bC ?_;have hw:IntKind.wrap .i64 ((g.length:Int)-1)=(g.length:Int)-1:=ek ag ag;refine ae.b4 [0,4] C I (σ:=Nat) (fun j=>[(5,.int .i64 ((j:Int)-1))]) (fun j=>[(.own b,.box 3 ((jn g j).map ba))]) (fun j=>j≤g.length) (fun j=>j) g.length (Nat.le_refl _) (by repeat (first|exact trivial|refine ⟨⟨_,rfl,aL⟩,?_⟩|refine ⟨⟨_,rfl,aS.of_eq (by (rw [jF,hw]))⟩,?_⟩)) aX ?_;rintro j aK I;refine b7 ?_;cases j with
 | zero=>
  refine ae.cond C (fun h=>by simp at h) (fun _=>?_);refine bC ?_;refine aa.fi ai 0 C C C C C C C C C C ag ?_
  refine aa.jW ai I C C C C C C aY C (v := .int .i64 (lf g)) (by
   unfold jn lf
   rw [drop_zero,List.replicate_zero,nil_append,getElem?_map,getElem?_eq_getElem (by rw [Dc];omega),getD_eq_getElem?_getD,getElem?_eq_getElem (by rw [Dc];omega)];rfl) ?_
  refine eu ?_;exact bl I
 | succ k=>
 have e:(((k+1:Nat):Int)-1)=(k:Int):=by omega
 rw [e];refine ae.cond C (fun _=>?_) (fun h=>by simp at h);obtain ⟨x,ab,bJ⟩:=b1 (f:=eW) (show k<g.length by omega);have aU:=uq hY ab;unfold eW gZ bf at bJ;refine dF ?_;refine ae.cond C (fun a7=>?_) (fun a7=>?_);rotate_left
 ·have a7:¬ x.atom≥0:=by simpa using a7
  rw [TC ab a7] at I ⊢;refine gd ?_;exact bn.mk k I (by show k≤g.length;omega) (by repeat (first|exact trivial|refine ⟨⟨_,rfl,aL⟩,?_⟩|refine ⟨⟨_,rfl,aS.of_eq x3⟩,?_⟩)) aX (by show k<k+1;omega)
 have a7:x.atom≥0:=by simpa using a7
 have ez:=(kc ag).1 aU;have iM:=Dd (j:=x.no.toNat-(k+1)) (n:=300) ag (fun v av=>⟨(Am (g.drop (k+1)) (k+1) v av).1,by have:=(Am (g.drop (k+1)) (k+1) v av).2;rw [length_drop] at this;omega⟩);have aa9:=Dd (j:=x.yes.toNat-(k+1)) (n:=300) ag (fun v av=>⟨(Am (g.drop (k+1)) (k+1) v av).1,by have:=(Am (g.drop (k+1)) (k+1) v av).2;rw [length_drop] at this;omega⟩)
 have vh:=TB ab a7 (v:=IntKind.wrap .i64 (1+(if (hN (k+1) (g.drop (k+1))).getD (x.yes.toNat-(k+1)) 0>(hN (k+1) (g.drop (k+1))).getD (x.no.toNat-(k+1)) 0 then (hN (k+1) (g.drop (k+1))).getD (x.yes.toNat-(k+1)) 0 else (hN (k+1) (g.drop (k+1))).getD (x.no.toNat-(k+1)) 0))) (by
  rw [ek (by split<;>omega) (by split<;>omega)];split<;>omega)
 refine oE ?_;refine aN.fi ai x.no.toNat C C C C C C C C C ag ag ?_;refine aN.jW ai I C C C C C C aY C (Ll ez.2.2.1 ez.2.2.2.1) ?_;refine c1 ?_;refine aN.fi ai x.yes.toNat C C C C C C C C C ag ag ?_;refine aN.jW ai I C C C C C C aY C (Ll ez.2.2.2.2.1 ez.2.2.2.2.2.1) ?_;refine c1 ?_;refine aN.fi ai k C C C C C C C C C C ag ?_;refine aN.jX ai I _ C C C C C C C C C C aY (by rw [length_map,Lk ag];show k*1+1≤_;omega) vh (fun I=>?_);refine gd ?_;exact bn.mk k I (by show k≤g.length;omega) (by repeat (first|exact trivial|refine ⟨⟨_,rfl,aL⟩,?_⟩|refine ⟨⟨_,rfl,aS.of_eq x3⟩,?_⟩)) aX (by show k<k+1;omega)
theorem TE (x y:b0) (ab:x.ms.length<bz) (ay:y.ms.length<bz):aR Tryz.prog 66 [eW x,eW y] (.bool (x==y)):=by
 have aq:=bA;refine aR.bh ai Tryz.func66 C C fun s I=>?_
 have U:=s3 x.ms y.ms ab ay;have he:(x==y)=(decide (x.atom=y.atom)&&(decide (x.no=y.no)&&(decide (x.yes=y.yes)&&x.ms==y.ms))):=by
  obtain ⟨a,b,c,d⟩:=x;obtain ⟨c',aW,oI,c3⟩:=y;rw [Bool.eq_iff_iff];simp
 unfold eW gZ bf at *
 repeat' (first|(with_reducible first|apply ae.seq|apply b5|apply ae.ret)|refine c0 C ?_|refine ae.cH ?_|refine aa.nil ?_|refine cE C ?_|refine aa.skip C C C ?_|refine aa.eg C C C C C cu ?_|(fail_if_success refine aa.same true C ?_);(fail_if_success refine aa.same false C ?_);refine aa.gV C C (fun h=>?_) (fun h=>?_))
 all_goals (refine Fin.cx I C (aS.of_eq (congrArg af.bool ?_));rw [he];clear I U he;grind)
theorem Lm (a b:List b0) (a7:a.length<bz) (dI:b.length<bz) (TF:∀ x∈a,x.ms.length<bz) (wc:∀ x∈b,x.ms.length<bz):aR Tryz.prog 15 [fO a,fO b] (.bool (a==b)):=by
 have aq:=bA;refine aR.bh ai Tryz.func15 C C fun s I=>?_
 unfold fO;refine b7 ?_;refine ae.cond C (fun cP=>?_) (fun heq=>?_)
 ·have cP:a.length≠b.length:=by simp at cP;omega
  have:(a==b)=false:=by rw [beq_eq_false_iff_ne];rintro rfl;exact cP C
  rw [this];refine gv ?_;exact bl I
 have heq:a.length=b.length:=by simp at heq;omega
 refine jb ?_;refine ae.b4 [0,1] C I (σ:=Nat) (fun j=>[(5,.int .i64 (j:Int))]) (fun _=>[]) (fun j=>j≤a.length∧(a==b)=(a.drop j==b.drop j)) (fun j=>a.length-j) 0 ⟨zero_le _,by simp⟩ (cq C) .nil ?_;rintro j ⟨aK,an⟩ I
 try simp only at aK an I ⊢
 refine b7 ?_;refine ae.cond C (fun au=>?_) (fun aV=>?_);rotate_left
 ·have aV:j=a.length:=by simp at aV;omega
  rw [ep ag,ep (l:=b) ag] at an;rw [an];refine dN ?_;exact bl I
 have au:j<a.length:=by simpa using au
 obtain ⟨x,ab,bJ⟩:=b1 (f:=eW) au;obtain ⟨y,ay,da⟩:=b1 (f:=eW) (show j<b.length by omega);have ar:=TE x y (TF x (mem_of_getElem? ab)) (wc y (mem_of_getElem? ay));rw [drop_cons ab,drop_cons ay,List.cons_beq_cons] at an;unfold eW gZ bf at bJ da ar;cases aC:x==y with
 | false=>
  rw [aC] at ar;rw [an,aC,Bool.false_and];refine bW ?_;exact bl I
 | true=>
  rw [aC] at ar;rw [aC,Bool.true_and] at an;refine bW ?_;exact bn.mk (j+1) I ⟨au,an⟩ ca .nil CJ
theorem TG (g:List b0) (aw:g.length<bz) (hm:∀ x∈g,x.ms.length<bz):aR Tryz.prog 69 [fO g] (.bool (gI g)):=by
 have aq:=bA;refine aR.bh ai Tryz.func69 C C fun s I=>?_
 unfold fO;have dz:gI g=gI g:=rfl
 conv at dz=>rhs;unfold gI
 refine dv ?_;by_cases g1:g.length=0
 ·refine aa.de 9 C (by simp [g1]) ?_
  rw [show decide (1≤g.length)=false by simp [g1],Bool.false_and] at dz;rw [dz];refine eh ?_;exact bl I
 refine aa.cY 9 C cG ?_;rw [show decide (1≤g.length)=true by simp;omega,Bool.true_and] at dz;refine fH ?_;refine ae.cond C (fun g2=>?_) (fun g2=>?_)
 ·rw [show decide (g.length≤300)=false by simp at g2 ⊢;omega,Bool.false_and] at dz
  rw [dz];refine gv ?_;exact bl I
 have g2:g.length≤300:=by simp at g2;omega
 rw [decide_eq_true g2,Bool.true_and] at dz;rw [dz];refine jb ?_;refine ae.b4 [0] C I (σ:=Nat) (fun j=>[(3,.int .i64 (j:Int))]) (fun _=>[]) (fun j=>j≤g.length∧oH g.length 0 g=oH g.length j (g.drop j)) (fun j=>g.length-j) 0 ⟨zero_le _,rfl⟩ (cq C) aX ?_;rintro j ⟨aK,an⟩ I
 try simp only at aK an I ⊢
 refine b7 ?_;refine ae.cond C (fun au=>?_) (fun aV=>?_);rotate_left
 ·have aV:j=g.length:=by simp at aV;omega
  rw [ep ag,oH] at an;rw [an];refine dN ?_;exact bl I
 have au:j<g.length:=by simpa using au
 obtain ⟨x,ab,bJ⟩:=b1 (f:=eW) au;have De:=hm x (mem_of_getElem? ab);rw [drop_cons ab,oH] at an;unfold eW gZ bf at bJ;refine ej ?_;refine ae.cond C (fun a7=>?_) (fun a7=>?_);rotate_left
 ·have a7:x.atom ≠ -1:=by simpa using a7
  refine dF ?_;by_cases U:x.atom<0
  ·refine aa.de 75 C cG ?_
   refine e1 ?_;rw [an,show ie g.length j x=false from eq_false_iff.2 (fun h=>by have:=(kc a7).1 h;omega),Bool.false_and];skip;exact bl I
  refine aa.cY 75 C cG ?_;refine dy ?_;by_cases ad:x.atom≥7
  ·refine aa.de 80 C cG ?_
   refine e1 ?_;rw [an,show ie g.length j x=false from eq_false_iff.2 (fun h=>by have:=(kc a7).1 h;omega),Bool.false_and];skip;exact bl I
  refine aa.cY 80 C cG ?_;refine dy ?_;by_cases al:x.no≤(j:Int)
  ·refine aa.de 86 C cG ?_
   refine e1 ?_;rw [an,show ie g.length j x=false from eq_false_iff.2 (fun h=>by have:=(kc a7).1 h;omega),Bool.false_and];skip;exact bl I
  refine aa.cY 86 C cG ?_;refine dy ?_;by_cases bd:x.no≥(g.length:Int)
  ·refine aa.de 93 C cG ?_
   refine e1 ?_;rw [an,show ie g.length j x=false from eq_false_iff.2 (fun h=>by have:=(kc a7).1 h;omega),Bool.false_and];skip;exact bl I
  refine aa.cY 93 C cG ?_;refine dy ?_;by_cases bD:x.yes≤(j:Int)
  ·refine aa.de 99 C cG ?_
   refine e1 ?_;rw [an,show ie g.length j x=false from eq_false_iff.2 (fun h=>by have:=(kc a7).1 h;omega),Bool.false_and];skip;exact bl I
  refine aa.cY 99 C cG ?_;refine dy ?_;by_cases gj:x.yes≥(g.length:Int)
  ·refine aa.de 106 C cG ?_
   refine e1 ?_;rw [an,show ie g.length j x=false from eq_false_iff.2 (fun h=>by have:=(kc a7).1 h;omega),Bool.false_and];skip;exact bl I
  refine aa.cY 106 C cG ?_;refine fH ?_;refine ae.cond C (fun bD=>?_) (fun bD=>?_)
  ·have bD:x.ms.length≠0:=by simp at bD;omega
   rw [an,show ie g.length j x=false from eq_false_iff.2 (fun h=>by have:=(kc a7).1 h;omega),Bool.false_and];refine ja ?_;exact bl I
  have ib:x.ms.length=0:=by simp at bD;rw [bD];rfl
  rw [(kc a7).2 ag,Bool.true_and] at an;refine gd ?_;exact bn.mk (j+1) I ⟨au,an⟩ ca aX sO
 have a7:x.atom = -1:=by simpa using a7
 refine jS ?_;by_cases U:x.no=0;rotate_left
 ·refine aa.de 30 C sP ?_
  refine e1 ?_;rw [an,show ie g.length j x=false from eq_false_iff.2 (fun h=>by have:=(np a7).1 h;omega),Bool.false_and];skip;exact bl I
 refine aa.cY 30 C sP ?_;refine dy ?_;by_cases ad:x.yes=0;rotate_left
 ·refine aa.de 35 C p2 ?_
  refine e1 ?_;rw [an,show ie g.length j x=false from eq_false_iff.2 (fun h=>by have:=(np a7).1 h;omega),Bool.false_and];skip;exact bl I
 refine aa.cY 35 C p2 ?_;refine fH ?_;refine ae.cond C (fun al=>?_) (fun al=>?_)
 ·rw [an,show ie g.length j x=false from eq_false_iff.2 (fun h=>by have:=(np a7).1 h;simp at al;omega),Bool.false_and]
  refine ja ?_;exact bl I
 have al:x.ms.length≤16:=by simp at al;omega
 refine jb ?_;refine ae.b4 [0,3,4] C I (σ:=Nat) (fun k=>[(5,.int .i64 (k:Int))]) (fun _=>[]) (fun k=>k≤x.ms.length∧qw x.ms=mh (if k=0 then none else x.ms[k-1]?) (x.ms.drop k)) (fun k=>x.ms.length-k) 0 ⟨zero_le _,Lf _⟩ (cq C) aX ?_;rintro k ⟨aE,bg⟩ I
 try simp only at aE bg I ⊢
 refine b7 ?_;refine ae.cond C (fun cz=>?_) (fun dr=>?_);rotate_left
 ·have dr:k=x.ms.length:=by simp at dr;omega
  rw [ep ag,mh] at bg;rw [(np a7).2 ⟨U,ad,al,bg⟩,Bool.true_and] at an;refine dN ?_;exact bn.mk (j+1) I ⟨au,an⟩ ca aX sO
 have cz:k<x.ms.length:=by simpa using cz
 obtain ⟨y,ay,da⟩:=b1 (f:=ba) cz;rw [drop_cons ay] at bg;unfold ba at da;refine oE ?_;by_cases bd:y<0
 ·refine aN.split 54 C (fun _=>?_) (fun h=>by simp at h;omega)
  have bg:qw x.ms=false:=by
   rw [bg];cases (if k=0 then none else x.ms[k-1]?)<;>rw [mh,show decide (y≥0)=false by simp;omega,Bool.false_and]
  rw [an,show ie g.length j x=false from eq_false_iff.2 (fun h=>by have:=((np a7).1 h).2.2.2;rw [bg] at this;cases this),Bool.false_and];refine hr ?_;exact bl I
 refine aN.split 54 C (fun h=>by simp at h;omega) (fun _=>?_);have m2:decide (y≥0)=true:=by simp;omega
 cases k with
 | zero=>
  rw [if_pos C,mh,m2,Bool.true_and] at bg;refine jE ?_;exact bn.mk 1 I ⟨cz,by rw [if_neg ag];simpa [ay] using bg⟩ (by repeat (first|exact trivial|refine ⟨⟨_,rfl,aL⟩,?_⟩|refine ⟨⟨_,rfl,aS.of_eq CI⟩,?_⟩)) aX (by show x.ms.length-1<x.ms.length-0;omega)
 | succ k=>
 rw [if_neg ag,Nat.add_sub_cancel] at bg;obtain ⟨z,bO,s6⟩:=b1 (f:=ba) (show k<x.ms.length by omega);rw [bO,mh,m2,Bool.true_and] at bg;unfold ba at s6;refine ld ?_;refine aN.split 57 C (fun _=>?_) (fun h=>by simp at h);refine c1 ?_;refine aN.idx k C C C C C C C C C C (by rw [ek ag ag];push_cast;omega) s6 C ?_;refine jE ?_;refine ae.cond C (fun bD=>?_) (fun bD=>?_)
 ·rw [show decide (z<y)=false by simp at bD ⊢;omega,Bool.false_and] at bg
  rw [an,show ie g.length j x=false from eq_false_iff.2 (fun h=>by have:=((np a7).1 h).2.2.2;rw [bg] at this;cases this),Bool.false_and];refine ja ?_;exact bl I
 rw [show decide (z<y)=true by simp at bD ⊢;omega,Bool.true_and] at bg;refine gd ?_;exact bn.mk (k+2) I ⟨cz,by rw [if_neg ag];simpa [ay] using bg⟩ (by repeat (first|exact trivial|refine ⟨⟨_,rfl,aL⟩,?_⟩|refine ⟨⟨_,rfl,aS.of_eq zL⟩,?_⟩)) aX (by show x.ms.length-(k+2)<x.ms.length-(k+1);omega)
abbrev kd:=List (Int×af)
def pF (l:kd):List (af×af):=l.map fun e=>(.int .i64 e.1,e.2)
def nZ (l:kd) (n:Int):Option af:=(l.find? fun e=>n==e.1).map (·.2)
def rJ:kd→Int→af→kd
 | [],n,v=>[(n,v)]
 | e::r,n,v=>if n==e.1 then (n,v)::r else e::rJ r n v
theorem Gy:∀ (l:kd) (n m:Int) (v:af),nZ (rJ l n v) m=if m=n then some v else nZ l m
  | [],n,m,v=>by
    unfold rJ nZ;by_cases h:m=n
    · subst h;simp
    · have:(m==n)=false:=by simpa using h
      simp [h,this]
  | (k,x)::r,n,m,v=>by
    have a1:=Gy r n m v;rw [rJ];by_cases h:n=k
    · subst h
      rw [if_pos a'];unfold nZ;by_cases ad:m=n
      · subst ad;simp
      · have:(m==n)=false:=by simpa using ad
        simp [ad,this]
    · rw [if_neg fD]
      unfold nZ at a1 ⊢;by_cases ad:m=k
      · subst ad
        have:¬ m=n:=fun e=>h e.symm
        simp [this]
      · have al:(m==k)=false:=by simpa using ad
        simp only [find?_cons,al];exact a1
theorem ur (n:Int):∀ l:kd,iV (pF l) (.int .i64 n)=some (nZ l n)
  | []=>rfl
  | (k,x)::r=>by
    have a1:=ur n r;unfold pF nZ at *;rw [map_cons,iV];by_cases h:n=k
    · subst h;simp [j2]
    · have al:(n==k)=false:=by simpa using h
      simp only [j2,al,find?_cons];simpa using a1
theorem uu (n:Int) (v:af):∀ l:kd,lA (pF l) (.int .i64 n) v=some (pF (rJ l n v))
  | []=>rfl
  | (k,x)::r=>by
    have a1:=uu n v r;unfold pF at *;rw [map_cons,lA,rJ];by_cases h:n=k
    · subst h;simp [j2]
    · have al:(n==k)=false:=by simpa using h
      simp only [j2,al];simp [a1]
def pG {α:Type} (e:α→α→Bool):List α→List α→Bool
 | [],[]=>true
 | x::r,y::t=>e x y&&pG e r t
 | _,_=>false
theorem Ln {α:Type} (e:α→α→Bool):∀ (a b:List α),a.length≠b.length→pG e a b=false
 | [],[],h=>absurd C h
 | [],_::_,_=>rfl
 | _::_,[],_=>rfl
 | x::r,y::t,h=>by rw [pG,Ln e r t fD,Bool.and_false]
theorem TH (fv:af) (e:ak→ak→Bool) (a b:List ak) (aB:a.length<bz) (z6:b.length<bz) (bq:∀ x∈a,∀ y∈b,eA Tryz.prog fv [ak.bK x,ak.bK y] (.bool (e x y))) :
  aR Tryz.prog 94 [.aA 6 (a.map ak.bK) .bb,.aA 6 (b.map ak.bK) .bb,fv] (.bool (pG e a b)):=by
 have aq:=bA;refine aR.bh ai Tryz.func94 C C fun s I=>?_
 refine b7 ?_;refine ae.cond C (fun h=>?_) (fun h=>?_)
 ·have cP:a.length≠b.length:=by simp at h;omega
  rw [Ln e a b cP];refine gv ?_;exact bl I
 ·have eS:a.length=b.length:=by simp at h;omega
  refine jb ?_;refine ae.b4 [0,1,2,15,16] C I (σ:=Nat) (fun j=>[(17,.int .i64 (j:Int))]) (fun _=>[]) (fun j=>j≤a.length∧pG e a b=pG e (a.drop j) (b.drop j)) (fun j=>a.length-j) 0 ⟨zero_le _,rfl⟩ (cq C) aX ?_;rintro j ⟨aK,an⟩ I;refine b7 ?_;refine ae.cond C (fun au=>?_) (fun aV=>?_);rotate_left;have aV:j=a.length:=by
   have:a.length≤j:=by simpa using aV
   omega
  ·rw [ep ag,ep ag] at an
   rw [an];refine dN ?_;exact bl I
  have au:j<a.length:=by simpa using au
  obtain ⟨x,ab,bJ⟩:=b1 (f:=ak.bK) au;obtain ⟨y,ay,da⟩:=b1 (f:=ak.bK) (by omega:j<b.length);have aC:=bq x (mem_of_getElem? ab) y (mem_of_getElem? ay);rw [ak.bX] at bJ;rw [ak.bX] at da;rw [ak.bX,ak.bX] at aC;rw [drop_cons ab,drop_cons ay,pG] at an;refine dF ?_;refine aa.dY ai I C C C C C C C (fun h3 I=>?_);refine J4 I ?_;intro I;refine aa.dY ai I C C C C C C C (fun dx I=>?_);refine J4 I ?_;intro I;refine aa.l' C C C C C C aC ?_;cases av:e x y with
  | false=>
   rw [an,av,Bool.false_and];refine e1 ?_;exact bl I
  | true=>
   rw [av,Bool.true_and] at an;refine bC ?_;refine bn.mk (j+1) I ⟨au,an⟩ ca aX CJ
theorem An {α:Type} (q:α→Bool) (l:List α):(!l.any fun x => !q x)=l.all q:=by
 induction l with
 | nil=>rfl
 | cons x r a1=>rw [List.any_cons,all_cons,Bool.not_or,Bool.not_not,a1]
theorem TI (fv:af) (q:Bool) (x:ak) (h:eA Tryz.prog fv [ak.bK x] (.bool q)):eA Tryz.prog (.func 234 [] [.bw [fv] 0]) [ak.bK x] (.bool (!q)):=by
 refine eA.fk (first:=[]) (cap:=[.bw [fv] 0]) ?_;refine aR.bh ai Tryz.func234 C C fun s I=>?_
 rw [ak.bX] at h ⊢;refine dv ?_;refine aa.l' C C C C C C h ?_;refine eu ?_;exact bl I
theorem TJ (f:FuncId) (ig ho:List af) (q:ak→Bool) (xs:List ak) (aB:xs.length<bz) (h:∀ x∈xs,eA Tryz.prog (.func f ig ho) [ak.bK x] (.bool (q x))) :
  aR Tryz.prog 200 [.aA 6 (xs.map ak.bK) .bb,.func f ig ho] (.bool (xs.all q)):=by
 rw [← An];refine aR.bh ai Tryz.func200 C C fun s I=>?_
 have aC:=Th (.func 234 [] [.bw [.func f ig ho] 0]) (fun x => !q x) xs aB (fun x ab=>TI (.func f ig ho) (q x) x (h x ab));refine dv ?_;refine aa.eg C C C C C aC ?_;refine eu ?_;exact bl I
def pH (x:ak×Bool):List af:=x.1.cells++[.bool x.2]
def hZ (x:ak×Bool):af := .agg (pH x)
theorem Gz (l:List Int):∀ y∈l.map ba,j5 1 y=true:=by
 intro y ay;obtain ⟨z,-,rfl⟩:=mem_map.1 ay;first|rfl|(rw [ba];rfl)
theorem Ao (l:List Int) (own:bL) (aB:l.length<bz):aR Tryz.prog 47 [.aA 1 (l.map ba) own] (.aA 1 (l.map ba) .bb):=by
 have aq:=bA;refine aR.bh ai Tryz.func47 C C fun s I=>?_
 refine dv ?_;refine aa.op C C C (aZ.Gm ai C C C C (X:=fun _ _=>False)) ?_ (fun _ _ h=>False.elim h);rintro r aj ⟨rfl,⟨rfl,az⟩|rfl⟩
 ·refine eh ?_
  refine Fin.cx I C ?_;rw [az];exact aS.empty
 ·refine bC ?_
  refine aa.rp ai C C C C C C C en C C C (.inl C) (.inr C) C (Gz _) (by simp only [length_nil,zero_add,length_map];show _*8≤_;omega) Gv (.inr C) ?_;refine eu ?_;exact bl I
theorem TK (l:List (ak×Bool)):∀ y∈l.map hZ,j5 7 y=true:=by
 intro y ay;obtain ⟨z,-,rfl⟩:=mem_map.1 ay;first|rfl|(rw [hZ];rfl)
theorem TL (xs:List af) (own:bL):aR Tryz.prog 193 [.aA 2 xs own] (.aA 2 xs .clip):=by
 refine aR.bh ai Tryz.func193 C C fun s I=>?_
 refine dv ?_;refine aa.slice ai 0 xs.length C C C C C C C C (.inr C) (.inl ⟨rfl,rfl⟩) (.inr ⟨_,_,rfl,rfl⟩) (.inr ⟨_,_,rfl,rfl,rfl⟩) ag (Nat.le_refl _) ?_;rw [take_length,drop_zero];refine eu ?_;exact bl I
theorem GA (xs:List af) (own:bL):aR Tryz.prog 194 [.aA 1 xs own] (.aA 1 xs .clip):=by
 refine aR.bh ai Tryz.func194 C C fun s I=>?_
 refine dv ?_;refine aa.slice ai 0 xs.length C C C C C C C C (.inr C) (.inl ⟨rfl,rfl⟩) (.inr ⟨_,_,rfl,rfl⟩) (.inr ⟨_,_,rfl,rfl,rfl⟩) ag (Nat.le_refl _) ?_;rw [take_length,drop_zero];refine eu ?_;exact bl I
theorem TM (xs:List af) (own:bL):aR Tryz.prog 262 [.aA 1 xs own] (.aA 1 xs .clip):=by
 refine aR.bh ai Tryz.func262 C C fun s I=>?_
 refine dv ?_;refine aa.slice ai 0 xs.length C C C C C C C C (.inr C) (.inl ⟨rfl,rfl⟩) (.inr ⟨_,_,rfl,rfl⟩) (.inr ⟨_,_,rfl,rfl,rfl⟩) ag (Nat.le_refl _) ?_;rw [take_length,drop_zero];refine eu ?_;exact bl I
theorem TN (fv:af) (q:Bool) (x:Int) (h:eA Tryz.prog fv [ba x] (.bool q)):eA Tryz.prog (.func 233 [] [.bw [fv] 0]) [ba x] (.bool (!q)):=by
 refine eA.fk (first:=[]) (cap:=[.bw [fv] 0]) ?_;refine aR.bh ai Tryz.func233 C C fun s I=>?_
 rw [ba] at h ⊢;refine dv ?_;refine aa.l' C C C C C C h ?_;refine eu ?_;exact bl I
theorem Lo (f:FuncId) (ig ho:List af) (q:Int→Bool) (xs:List Int) (aB:xs.length<bz) (h:∀ x∈xs,eA Tryz.prog (.func f ig ho) [ba x] (.bool (q x))) :
  aR Tryz.prog 198 [.aA 1 (xs.map ba) .bb,.func f ig ho] (.bool (xs.all q)):=by
 rw [← An];refine aR.bh ai Tryz.func198 C C fun s I=>?_
 have aC:=Tk (.func 233 [] [.bw [.func f ig ho] 0]) (fun x => !q x) xs aB (fun x ab=>TN (.func f ig ho) (q x) x (h x ab));refine dv ?_;refine aa.eg C C C C C aC ?_;refine eu ?_;exact bl I
theorem TO (fv:af) (q:Bool) (x:(Int×Int)) (h:eA Tryz.prog fv [fZ x] (.bool q)):eA Tryz.prog (.func 208 [] [.bw [fv] 0]) [fZ x] (.bool (!q)):=by
 refine eA.fk (first:=[]) (cap:=[.bw [fv] 0]) ?_;refine aR.bh ai Tryz.func208 C C fun s I=>?_
 rw [fZ] at h ⊢;refine dv ?_;refine aa.l' C C C C C C h ?_;refine eu ?_;exact bl I
theorem Lp (f:FuncId) (ig ho:List af) (q:(Int×Int)→Bool) (xs:List (Int×Int)) (aB:xs.length<bz) (h:∀ x∈xs,eA Tryz.prog (.func f ig ho) [fZ x] (.bool (q x))) :
  aR Tryz.prog 168 [.aA 2 (xs.map fZ) .bb,.func f ig ho] (.bool (xs.all q)):=by
 rw [← An];refine aR.bh ai Tryz.func168 C C fun s I=>?_
 have aC:=Tn (.func 208 [] [.bw [.func f ig ho] 0]) (fun x => !q x) xs aB (fun x ab=>TO (.func f ig ho) (q x) x (h x ab));refine dv ?_;refine aa.eg C C C C C aC ?_;refine eu ?_;exact bl I
theorem TP (fv:af) (q:Bool) (x:e2) (h:eA Tryz.prog fv [iS x] (.bool q)):eA Tryz.prog (.func 240 [] [.bw [fv] 0]) [iS x] (.bool (!q)):=by
 refine eA.fk (first:=[]) (cap:=[.bw [fv] 0]) ?_;refine aR.bh ai Tryz.func240 C C fun s I=>?_
 rw [iS] at h ⊢;refine dv ?_;refine aa.l' C C C C C C h ?_;refine eu ?_;exact bl I
theorem TQ (f:FuncId) (ig ho:List af) (q:e2→Bool) (xs:List e2) (aB:xs.length<bz) (h:∀ x∈xs,eA Tryz.prog (.func f ig ho) [iS x] (.bool (q x))) :
  aR Tryz.prog 203 [.aA 2 (xs.map iS) .bb,.func f ig ho] (.bool (xs.all q)):=by
 rw [← An];refine aR.bh ai Tryz.func203 C C fun s I=>?_
 have aC:=Tq (.func 240 [] [.bw [.func f ig ho] 0]) (fun x => !q x) xs aB (fun x ab=>TP (.func f ig ho) (q x) x (h x ab));refine dv ?_;refine aa.eg C C C C C aC ?_;refine eu ?_;exact bl I
theorem GB (f:ak):aR Tryz.prog 171 [f.bK] (.bool f.cW):=by
 have aq:=bA;refine aR.bh ai Tryz.func171 C C fun s I=>?_
 rw [ak.bX]
 repeat' (first|(with_reducible first|apply ae.seq|apply b5|apply ae.ret)|refine c0 C ?_|refine ae.cH ?_|refine aa.nil ?_|refine cE C ?_|refine aa.skip C C C ?_|(fail_if_success refine aa.same true C ?_);(fail_if_success refine aa.same false C ?_);refine aa.gV C C (fun h=>?_) (fun h=>?_))
 all_goals exact Fin.cx I C (aS.of_eq (by first|(simp_all [ak.cW];done)|(simp_all [ak.cW]<;>omega)))
theorem TR (op:Int):aR Tryz.prog 235 [.int .i64 op] (.int .i64 (pA op)):=by
 have aq:=bA;refine aR.bh ai Tryz.func235 C C fun s I=>?_
 repeat' (first|(with_reducible first|apply ae.seq|apply b5|apply fF|apply fz|apply hg|apply ae.ret|apply ae.skip|apply ae.block)|refine c0 C ?_|refine ae.cond C (fun h=>?_) (fun h=>?_))
 all_goals exact Fin.cx I C (aS.of_eq (by first|(simp_all [pA];done)|(simp_all [pA]<;>omega)))
theorem Lq (f g:ak) (a6:f.path.length<bz) (aw:g.path.length<bz):aR Tryz.prog 104 [f.bK,g.bK] (.bool (decide (f.op=g.op)&&(decide (f.arg=g.arg)&&(decide (f.cls=g.cls)&&(decide (f.n=g.n)&&f.path==g.path))))):=by
 have aq:=bA;refine aR.bh ai Tryz.func104 C C fun s I=>?_
 rw [ak.bX,ak.bX];have U:=z1 f.path g.path a6 aw;unfold bf ba at U
 repeat' (first|(with_reducible first|apply ae.seq|apply b5|apply ae.ret)|refine c0 C ?_|refine ae.cH ?_|refine aa.nil ?_|refine cE C ?_|refine aa.skip C C C ?_|refine aa.eg C C C C C cu ?_|(fail_if_success refine aa.same true C ?_);(fail_if_success refine aa.same false C ?_);refine aa.gV C C (fun h=>?_) (fun h=>?_))
 all_goals exact Fin.cx I C (aS.of_eq rF)
theorem TS {m c n:Nat} (h:m<n):m >>> c<n:=by
 rw [Nat.shiftRight_eq_div_pow];exact Nat.lt_of_le_of_lt (Nat.div_le_self _ _) h
theorem TT (m c:Nat):decide ((((m >>> c) &&& 1:Nat):Int)=1)=m.testBit c:=by
 rw [Nat.testBit,Nat.and_comm];have h:1 &&& (m >>> c)=(m >>> c) % 2:=by rw [Nat.and_comm];exact Nat.and_one_is_mod _
 rw [h];rcases Nat.mod_two_eq_zero_or_one (m >>> c) with e|e<;>rw [e]<;>rfl
theorem Lr {c:Nat} (h:c<64):2^c<2^64:=Nat.pow_lt_pow_right ag h
theorem x5 (m c:Nat) (hm:m<2^64) (aC:c<64):aR Tryz.prog 173 [.int .u64 (m:Int),.int .i64 (c:Int)] (.bool (m.testBit c)):=by
 have aq:=bA;refine aR.bh ai Tryz.func173 C C fun s I=>?_
 refine dv ?_;refine aa.shr ((m >>> c:Nat):Int) C C C C C C ag (sV aC) ?_;refine aa.bits (((m >>> c) &&& 1:Nat):Int) C C C C C C (uc (TS hm) dZ) ?_;refine eu ?_;refine Fin.cx I C (aS.of_eq ?_);rw [← TT];rfl
theorem Ap (m c:Nat) (hm:m<2^64) (aC:c<64):aR Tryz.prog 197 [.int .u64 (m:Int),.int .i64 (c:Int)] (.int .u64 ((m|||2^c:Nat):Int)):=by
 have aq:=bA;refine aR.bh ai Tryz.func197 C C fun s I=>?_
 refine dv ?_;refine aa.shl ((2^c:Nat):Int) C C C C C C ag (CR aC) ?_;refine aa.bits ((m|||2^c:Nat):Int) C C C C C C (vW hm (Lr aC)) ?_;refine eu ?_;exact bl I
def pI (w:bx) (up:List Nat):List af:=fr w++up.map fun n => .int .u64 (n:Int)
def e4 (w:bx) (up:List Nat):af := .bw (pI w up) 0
theorem Ls (w:bx) (up:List Nat) (c:Int) (hw:w.ps.length≤60):aR Tryz.prog 199 [e4 w up,.int .i64 c] (.bool (decide (c≥3)&&decide (c<3+(w.ps.length:Int)))):=by
 have aq:=bA;refine aR.bh ai Tryz.func199 C C fun s I=>?_
 unfold e4 pI fr c9 bf;have dG:IntKind.wrap .i64 (3+((w.ps.map bf).length:Int))=3+(w.ps.length:Int):=by rw [length_map,ek ag ag]
 unfold bf at dG
 repeat' (first|(with_reducible first|apply ae.seq|apply b5|apply ae.ret)|refine c0 C ?_|refine ae.cH ?_|refine aa.nil ?_|refine cE C ?_|refine aa.skip C C C ?_|(fail_if_success refine aa.same true C ?_);(fail_if_success refine aa.same false C ?_);refine aa.gV C C (fun h=>?_) (fun h=>?_))
 all_goals exact Fin.cx I C (aS.of_eq rF)
theorem TU (w:bx) (up:List Nat) (c:Int) (hw:w.ps.length≤60):aR Tryz.prog 237 [e4 w up,.int .i64 c] (.bool (decide (c≥0)&&decide (c<3+(w.ps.length:Int)))):=by
 have aq:=bA;refine aR.bh ai Tryz.func237 C C fun s I=>?_
 unfold e4 pI fr c9 bf;have dG:IntKind.wrap .i64 (3+((w.ps.map bf).length:Int))=3+(w.ps.length:Int):=by rw [length_map,ek ag ag]
 unfold bf at dG
 repeat' (first|(with_reducible first|apply ae.seq|apply b5|apply ae.ret)|refine c0 C ?_|refine ae.cH ?_|refine aa.nil ?_|refine cE C ?_|refine aa.skip C C C ?_|(fail_if_success refine aa.same true C ?_);(fail_if_success refine aa.same false C ?_);refine aa.gV C C (fun h=>?_) (fun h=>?_))
 all_goals exact Fin.cx I C (aS.of_eq rF)
theorem TV (w:bx) (up:List Nat) (c:Int):aR Tryz.prog 263 [e4 w up,.int .i64 c] (.bool (decide (c≥0)&&decide (c<(w.owner.length:Int)))):=by
 have aq:=bA;refine aR.bh ai Tryz.func263 C C fun s I=>?_
 unfold e4 pI fr c9 bf
 repeat' (first|(with_reducible first|apply ae.seq|apply b5|apply ae.ret)|refine c0 C ?_|refine ae.cH ?_|refine aa.nil ?_|refine cE C ?_|refine aa.skip C C C ?_|(fail_if_success refine aa.same true C ?_);(fail_if_success refine aa.same false C ?_);refine aa.gV C C (fun h=>?_) (fun h=>?_))
 all_goals exact Fin.cx I C (aS.of_eq rF)
theorem TW (w:bx) (up:List Nat) (c:Int):eA Tryz.prog (.func 263 [e4 w up] []) [ba c] (.bool (decide (c≥0)&&decide (c<(w.owner.length:Int)))):=
 eA.fk (first:=[e4 w up]) (cap:=[]) (TV w up c)
theorem TX (w:bx) (up:List Nat) (c:Int) (hw:w.ps.length≤60):eA Tryz.prog (.func 199 [e4 w up] []) [ba c] (.bool (decide (c≥3)&&decide (c<3+(w.ps.length:Int)))):=
 eA.fk (first:=[e4 w up]) (cap:=[]) (Ls w up c hw)
theorem TY (w:bx) (up:List Nat) (l:List Int) (aB:l.length<bz):aR Tryz.prog 236 [e4 w up,bf l] (.bool (decide (l.length≤2)&&l.all fun c=>decide (c≥0)&&decide (c<(w.owner.length:Int)))):=by
 have aq:=bA;refine aR.bh ai Tryz.func236 C C fun s I=>?_
 have U:=Lo 263 [e4 w up] [] _ l aB (fun x _=>TW w up x);unfold bf;unfold e4 at U ⊢
 repeat' (first|(with_reducible first|apply ae.seq|apply b5|apply ae.ret)|refine c0 C ?_|refine ae.cH ?_|refine aa.nil ?_|refine cE C ?_|refine aa.skip C C C ?_|refine aa.eg C C C C C cu ?_|(fail_if_success refine aa.same true C ?_);(fail_if_success refine aa.same false C ?_);refine aa.gV C C (fun h=>?_) (fun h=>?_))
 all_goals exact Fin.cx I C (aS.of_eq rF)
theorem TZ (b:Bool):aR Tryz.prog 261 [.bool b] (.int .i64 (if b then 0 else 2)):=by
 have aq:=bA;refine aR.bh ai Tryz.func261 C C fun s I=>?_
 repeat' (first|(with_reducible first|apply ae.seq|apply b5|apply fF|apply ae.ret|apply ae.skip)|refine c0 C ?_|refine ae.cond C (fun h=>?_) (fun h=>?_))
 all_goals exact Fin.cx I C (aS.of_eq rF)
def n0 (m:Nat):af := .agg [.int .u64 (m:Int)]
theorem Lt (m c:Nat) (hm:m<2^64) (aC:c<64):aR Tryz.prog 286 [n0 m,.int .i64 (c:Int)] (n0 (m|||2^c)):=by
 have aq:=bA;refine aR.bh ai Tryz.func286 C C fun s I=>?_
 unfold n0
 repeat (first|(refine rr ?_)|refine aa.jR I C C C C C C (fun b I=>?_)|refine aa.dY ai I C C C C C C C (fun cJ I=>?_)|(refine Sc ?_))
 refine aN.arr ai 0 C C C C C C C C C C ag ?_;refine cI I ?_;intro I;refine aN.shl ((2^c:Nat):Int) C C C C C C ag (CR aC) ?_;refine aN.bits ((m|||2^c:Nat):Int) C C C C C C (vW hm (Lr aC)) ?_;refine aN.arr ai 0 C C C C C C C C C C ag ?_;refine cI I ?_;intro I;exact Fin.cx I (nO C C (bp.get aY I) C) aL
theorem T0 (m n:Nat) (hm:m<2^64) (az:n<2^64):aR Tryz.prog 287 [n0 m,n0 n] (n0 (m|||n)):=by
 have aq:=bA;refine aR.bh ai Tryz.func287 C C fun s I=>?_
 unfold n0
 repeat (first|(refine rr ?_)|refine aa.jR I C C C C C C (fun b I=>?_)|refine aa.dY ai I C C C C C C C (fun cJ I=>?_)|(refine Sd ?_))
 refine aa.arr ai 0 C C C C C C C C C C ag ?_;refine cI I ?_;intro I;refine aa.arr ai 0 C C C C C C C C C C ag ?_;refine cI I ?_;intro I;refine aa.bits ((m|||n:Nat):Int) C C C C C C (vW hm az) ?_;refine aa.arr ai 0 C C C C C C C C C C ag ?_;refine cI I ?_;intro I;exact Fin.cx I (nO C C (bp.get aY I) C) aL
theorem T1 (h y:Int):eA Tryz.prog (.func 308 [] [.bw [.int .i64 h] 0]) [.int .i64 y] (.bool (y != h)):=by
 have aq:=bA;refine eA.fk (first:=[]) (cap:=[.bw [.int .i64 h] 0]) ?_;refine aR.bh ai Tryz.func308 C C fun s I=>?_
 refine gv ?_;exact bl I
theorem T2 {all:List (List Int)} {c:Int} {k:Nat} {m:List Int} (h:all[k]? = some m):free (all.drop k) c=(!(m.drop 1).contains c&&free (all.drop (k+1)) c):=by
 rw [drop_cons h];rfl
theorem T3 (n b:Nat) (iY:n<1000∧b<1000) (all:List (List Int)) (hm:qC n b all):aR Tryz.prog 293 [c9 all] (.cp [bf (merged all).1,.bool (merged all).2]):=by
 have aq:=bA;refine aR.bh ai Tryz.func293 C C fun s I=>?_
 unfold c9;have wa:total all≤n*b:=C6 hm;have S':n*b≤1000*1000:=Nat.mul_le_mul ag ag;refine bW ?_;refine ae.h7 I 3 1 0 fun I=>?_
 refine ae.b4 [] C I (σ:=Nat×List (List Int)×List Int×bL) (fun q=>[(0,.aA 1 (q.2.1.map bf) .bb),(4,.aA 1 (q.2.2.1.map ba) q.2.2.2)]) (fun q=>[(q.2.2.2,.row 3 1 q.2.2.1.length)])
  (fun q=>merge q.1 q.2.1 q.2.2.1=merged all∧total q.2.1<q.1∧qC n b q.2.1∧q.2.2.1.length+total q.2.1≤total all) (fun q=>q.1) (total all+1,all,[],.nil) ⟨rfl,Nat.lt_succ_self _,hm,by simp⟩ ⟨⟨_,rfl,aL⟩,⟨_,rfl,aS.nil gW⟩,trivial⟩ (aH.dq _) ?_
 rintro ⟨f,cur,acc,own⟩ ⟨dV,hA,hm,tT⟩ I;simp only at dV hA hm tT I ⊢;have cv:=hm.len;refine bW ?_;refine ae.b4 [0,4,14,15] C I (σ:=Nat×Bool) (fun z=>[(5,.bool z.2),(16,.int .i64 (z.1:Int))]) (fun _=>[(own,.row 3 1 acc.length)])
  (fun z=>z.1≤cur.length∧pick cur cur=pick cur (cur.drop z.1)∧(!z.2)=(cur.take z.1).all isEmpty) (fun z=>cur.length-z.1) (0,false) ⟨zero_le _,rfl,rfl⟩ (cq C) (aH.dq _) ?_
 rintro ⟨j,F8⟩ ⟨aK,an,hD⟩ I;simp only at aK an hD I ⊢;refine b7 ?_;refine ae.cond C (fun au=>?_) (fun aV=>?_);rotate_left
 ·have aV:j=cur.length:=by simp at aV;omega
  subst aV;rw [ep (Nat.le_refl _)] at an;rw [take_length] at hD;cases f with
  | zero=>omega
  | succ f=>
   rw [merge,an] at dV;have dV:(acc,cur.all isEmpty)=merged all:=dV;rw [← dV,← hD];refine bC ?_;exact Fin.cx I C (aS.cp (.cons aS.bb (.one aL)))
 have au:j<cur.length:=by simpa using au
 obtain ⟨l,ay,da⟩:=b1 (f:=bf) au;have KN:=hm.each l (mem_of_getElem? ay);have z7:(cur.take (j+1)).all isEmpty=((cur.take j).all isEmpty&&l.isEmpty):=by rw [iA ay,List.all_append];simp
 unfold bf at da;refine bC ?_;cases l with
 | nil=>
  rw [KL ay] at an;refine ae.ft C ?_;refine dN ?_;exact bn.mk (j+1,F8) I ⟨au,an,by rw [z7,← hD];simp⟩ ca (aH.dq _) (by show cur.length-(j+1)<cur.length-j;omega)
 | cons c r=>
 rw [KM ay] at an;refine ae.cond C (fun h=>absurd h cG) (fun _=>?_);refine jb ?_;refine ae.b4 [0,4,5,7,14,15,16,23,24] C I (σ:=Nat) (fun k=>[(25,.int .i64 (k:Int))]) (fun _=>[(own,.row 3 1 acc.length)]) (fun k=>k≤cur.length∧free cur c=free (cur.drop k) c) (fun k=>cur.length-k) 0 ⟨zero_le _,rfl⟩ (cq C) (aH.dq _) ?_;rintro k ⟨aE,bg⟩ I;refine b7 ?_;refine ae.cond C (fun cz=>?_) (fun dr=>?_)
 ·have cz:k<cur.length:=by simpa using cz
  obtain ⟨m,oS,T4⟩:=b1 (f:=bf) cz;have hs:=hm.each m (mem_of_getElem? oS);rw [T2 oS] at bg;have h8:=xX (m.drop 1) c (by rw [length_drop];omega);unfold bf at h8 T4;rw [List.map_drop] at h8;have KO:((c::r).map ba)[0]? = some (.int .i64 c):=rfl;cases m with
  | nil=>
   have bg:free cur c=free (cur.drop (k+1)) c:=bg;refine bW ?_;exact bn.mk (k+1) I ⟨cz,bg⟩ ca (aH.dq _) (by show cur.length-(k+1)<cur.length-k;omega)
  | cons x q=>
   refine oE ?_;refine aN.gV C C (fun _=>?_) (fun h=>absurd h a');refine ld ?_;refine aN.slice 1 ((x::q).map ba).length C C C C C C C C (.inr C) (.inr ⟨_,_,rfl,rfl⟩) (.inl ⟨rfl,rfl,rfl⟩) (.inl ⟨rfl,rfl⟩) a' (Nat.le_refl _) ?_;rw [take_length];refine c1 ?_;cases bD:((x::q).drop 1).contains c with
   | true=>
    rw [bD,Bool.not_true,Bool.false_and] at bg;rw [bg,if_neg a'] at an;refine bC ?_;exact bn.mk (j+1,true) I ⟨au,an,by rw [z7];simp⟩ ca (aH.dq _) (by show cur.length-(j+1)<cur.length-j;omega)
   | false=>
    rw [bD,Bool.not_false,Bool.true_and] at bg;refine jE ?_;exact bn.mk (k+1) I ⟨cz,bg⟩ ca (aH.dq _) (by show cur.length-(k+1)<cur.length-k;omega)
 have dr:k=cur.length:=by simp at dr;omega
 subst dr;rw [ep (Nat.le_refl _)] at bg;have bg:free cur c=true:=bg;rw [if_pos bg] at an;cases f with
 | zero=>omega
 | succ f=>
 have KP:=CS (ud an);rw [merge,an] at dV;simp only at dV;have KO:((c::r).map ba)[0]? = some (.int .i64 c):=rfl;refine ej ?_;refine aa.gb ai I C C C C C C C en C C C C C C C C aY hi j9 ag (fun bT I=>?_);refine bC ?_;obtain ⟨xs,c5⟩:∃ xs:Nat→List af,∀ j,xs j=((cur.take j).map (fq c)).map bf:=⟨_,fun _=>rfl⟩;have bt:xs 0=[]:=by rw [c5];rfl
 have fc:∀ j,(xs j).length≤cur.length:=fun j=>by
  rw [c5,length_map,length_map];exact length_take_le' _ _
 refine ae.h7 I 23 1 0 fun I=>?_
 refine ae.b4 [4,10,48,49] C I (σ:=Nat×bL) (fun q=>[(50,.int .i64 (q.1:Int)),(11,.aA 1 (xs q.1) q.2)]) (fun q=>[(q.2,.row 23 1 (xs q.1).length),(.own bT,.row 3 1 (acc.length+1))]) (fun q=>q.1≤cur.length) (fun q=>cur.length-q.1) (0,.nil) (zero_le _) ⟨⟨_,rfl,aL⟩,⟨_,rfl,by rw [bt];exact aS.nil gW⟩,trivial⟩ FE ?_;rintro ⟨i,uf⟩ aQ I;simp only at aQ I ⊢;refine b7 ?_;refine ae.cond C (fun jV=>?_) (fun kx=>?_)
 ·have jV:i<cur.length:=by simpa using jV
  obtain ⟨l,ay,da⟩:=b1 (f:=bf) jV;have ar:=c5 (i+1);rw [iA ay,map_append,map_append,← c5] at ar;have ar:xs (i+1)=xs i++[.aA 1 ((fq c l).map ba) .bb]:=ar;have df:(xs (i+1)).length=(xs i).length+1:=by rw [ar];simp
  have lC:=fc i;have hw:=KJ (.func 308 [] [.bw [.int .i64 c] 0]) (fun y=>y != c) (fun y=>T1 c y) l (by have:=(hm.each l (mem_of_getElem? ay)).1;omega);have hw:aR Tryz.prog 307 [.aA 1 (l.map ba) .bb,.func 308 [] [.bw [.int .i64 c] 0]] (.aA 1 ((fq c l).map ba) .bb):=hw;unfold bf at da;refine c1 ?_;refine aa.gb ai I C C C C C C C en C C C C C C C C aY hi px ag (fun ff I=>?_);refine fG ?_;exact bn.mk (i+1,.own ff) I jV kq (by show aH _ [(_,.row _ _ (xs (i+1)).length),_] _;rw [df];exact aH.dq _) FH
 ·have kx:i=cur.length:=by
   have:cur.length≤i:=by simpa using kx
   omega
  subst kx;have he:xs cur.length=(cur.map (fq c)).map bf:=by rw [c5,take_length]
  rw [he] at I ⊢;refine bC ?_;exact bn.mk (f,cur.map (fq c),acc++[c],.own bT) I ⟨dV,by show total (cur.map (fq c))<f;omega,hm.fq c,by show (acc++[c]).length+total (cur.map (fq c))≤total all;rw [length_append,List.length_singleton];omega⟩ ⟨⟨_,rfl,aS.bb⟩,⟨_,rfl,aS.of_eq (by simp [ba])⟩,trivial⟩ (by show aH _ [(_,.row _ _ (acc++[c]).length)] _;rw [length_append,List.length_singleton];exact (aH.dq _).there) (by show f<f+1;omega)
def jv (ps:List (List Int)) (h9:bL) (us:List Nat) (gf:bL) (mb:Nat):List af:=[.aA 1 (ps.map bf) h9,.aA 1 (us.map n0) gf,.map mb]
def gD (cj:Nat) (ps:List (List Int)) (h9:bL) (us:List Nat) (gf:bL) (mb:Nat) (fg:kd):a8:=
 [(.own cj,.box 327 (jv ps h9 us gf mb)),(h9,.row 23 1 ps.length),(gf,.row 346 1 us.length),(.own mb,.map (pF fg))]
def T5 (o:Option af) (l:List Int):Prop:=match l with
 | []=>o=none
 | x::r=>∃ v,o=some v∧aS v (.aA 1 ((x::r).map ba) .bb)
def qF (fg:kd) (os:List (List Int)):Prop:=∀ c:Nat,T5 (nZ fg (c:Int)) (os.getD c [])
def qG (os:List (List Int)) (l:List Int):Option (List (List Int)):=(iO os l).map fun r=>r++[l]
theorem T6 (cj:Nat) (ps:List (List Int)) (h9:bL) (us:List Nat) (gf:bL) (mb:Nat) (fg:kd) (os:List (List Int)) (dE:qF fg os) (z':∀ l∈os,l.length<1000) (c:Nat) (l:List Int) (aB:ps[c]? = some l) (mg:l.length≤3) (lk:∀ p∈l,0≤p) :
  bE Tryz.prog 292 [.ptr cj 0,.int .i64 (c:Int)] (gD cj ps h9 us gf mb fg) (fun o K=>o = .ret (ug (qG os l))∧K=gD cj ps h9 us gf mb fg):=by
 have aq:=bA;have pr:(ps.map bf)[c]? = some (.aA 1 (l.map ba) .bb):=by rw [getElem?_map,aB];rfl
 refine bE.bh ai Tryz.func292 C C fun s I=>?_
 unfold gD jv at I ⊢;refine hh I ?_;intro I;refine ae.h7 I 23 1 0 fun I=>?_
 refine ae.b4 [0,1,15,16] C I (σ:=Nat×List (List Int)×bL) (fun q=>[(17,.int .i64 (q.1:Int)),(6,.aA 1 (q.2.1.map bf) q.2.2)]) (fun q=>(q.2.2,.row 23 1 q.2.1.length)::gD cj ps h9 us gf mb fg) (fun q=>q.1≤l.length∧q.2.1.length=q.1∧iO os l=pre (iO os (l.drop q.1)) q.2.1) (fun q=>l.length-q.1) (0,[],.nil) ⟨zero_le _,rfl,(KT _).symm⟩ ⟨⟨_,rfl,aL⟩,⟨_,rfl,aS.nil gW⟩,trivial⟩ (by simp only [gD,jv];exact aX) ?_;rintro ⟨j,acc,own⟩ ⟨aK,pB,an⟩ I;simp only [gD,jv] at aK pB an I ⊢;refine b7 ?_;refine ae.cond C (fun au=>?_) (fun aV=>?_);rotate_left
 ·have aV:l.length≤j:=by simpa using aV
  rw [ep aV] at an;have an:iO os l=some (acc++[]):=an;have kz:qG os l=some (acc++[l]):=by unfold qG;rw [an];simp
  rw [kz];have F':ug (some (acc++[l])) = .cp [.aA 1 (acc.map bf++[.aA 1 (l.map ba) .bb]) .bb,.bool true]:=by
   show af.cp [.aA 1 ((acc++[l]).map bf) .bb,.bool true]=_;rw [map_append];rfl
  rw [F'];refine cI I ?_;intro I;refine aa.gb ai I C C C C C C C en C C C C C C C C aY hi px ag (fun bT I=>?_);refine eu ?_;exact Fin.bu (K:=gD cj ps h9 us gf mb fg) I C (aS.cp (.cons aS.bb (.one aL))) (by simp only [gD,jv];exact aX) ⟨rfl,rfl⟩
 have au:j<l.length:=by simpa using au
 obtain ⟨p,ay,da⟩:=b1 (f:=ba) au;rw [drop_cons ay,KU] at an;have T7:=lk p (mem_of_getElem? ay);have pJ:=dE p.toNat;rw [Int.toNat_of_nonneg T7] at pJ;have nm:(os.getD p.toNat []).length<1000:=by
  rw [getD_eq_getElem?_getD];cases h:os[p.toNat]? with
  | none=>simp
  | some x=>exact z' x (mem_of_getElem? h)
 generalize os.getD p.toNat []=ol at an pJ nm;have hw:=S6 ol ag;unfold ba at da;unfold bf at hw;refine cI I ?_;intro I;cases ol with
 | nil=>
  have an:iO os l=none:=an;have kz:qG os l=none:=by unfold qG;rw [an];rfl
  rw [kz];have pJ:nZ fg p=none:=pJ;refine aa.jr ai I C C C C C C C C C C aY C (by rw [ur,pJ]) C ?_;refine e1 ?_;exact Fin.bu (K:=gD cj ps h9 us gf mb fg) I C (aS.cp (.cons (aS.nil gW) (.one aL))) (by simp only [gD,jv];exact aX) ⟨rfl,rfl⟩
 | cons x r=>
  obtain ⟨v,pJ,Aq⟩:∃ v,nZ fg p=some v∧aS v (.aA 1 ((x::r).map ba) .bb):=pJ;refine aa.jr ai I C C C C C C C C C C aY C (by rw [ur,pJ]) C ?_;refine aa.nK 26 _ C Aq ?_;refine cI I ?_;intro I;refine aa.jr ai I C C C C C C C C C C aY C (by rw [ur,pJ]) C ?_;refine aa.nK 35 _ C Aq ?_;refine c1 ?_;refine aa.gb ai I C C C C C C C en C C C C C C C C aY hi px ag (fun bT I=>?_);refine fG ?_;exact bn.mk (j+1,acc++[fq 0 (x::r)],.own bT) I ⟨au,by rw [length_append,pB];rfl,an⟩ xO (by show aH _ ((_,.row _ _ (acc++[fq 0 (x::r)]).length)::gD cj ps h9 us gf mb fg) _;rw [length_append,List.length_singleton];exact (by simp only [gD,jv];exact aX)) mO
def Ar (os:List (List Int)) (l:List Int) (c:Nat):List Int:=if c=0 then [0] else match qG os l with
 | none=>[]
 | some all=>if (merged all).2 then (c:Int)::(merged all).1++[0] else []
theorem Lu {os:List (List Int)} {v:List Int} (c:Nat):(os++[v]).getD c []=if c=os.length then v else os.getD c []:=by
 rw [getD_eq_getElem?_getD,getD_eq_getElem?_getD];by_cases e:c=os.length
 ·subst e
  rw [if_pos C,List.getElem?_append_right (Nat.le_refl _)];simp
 ·rw [if_neg e]
  rcases Nat.lt_or_ge c os.length with h|h
  ·rw [List.getElem?_append_left h]
  ·rw [getElem?_eq_none cG,getElem?_eq_none h]
theorem qF.sM {fg:kd} {os:List (List Int)} (h:qF fg os):qF fg (os++[[]]):=fun c=>by
 rw [Lu];by_cases e:c=os.length
 ·have:=h c
  rw [if_pos e];rw [e,getD_eq_getElem?_getD,getElem?_eq_none (Nat.le_refl _)] at this;rw [e];exact this
 ·rw [if_neg e];exact h c
theorem qF.put {fg:kd} {os:List (List Int)} (h:qF fg os) {v:af} (x:Int) (r:List Int) (av:aS v (.aA 1 ((x::r).map ba) .bb)):qF (rJ fg (os.length:Int) v) (os++[x::r]):=fun c=>by
 rw [Lu,Gy];by_cases e:c=os.length
 ·subst e;rw [if_pos C,if_pos C];exact ⟨v,rfl,av⟩
 ·rw [if_neg e,if_neg ag];exact h c
theorem T8 (cj:Nat) (ps:List (List Int)) (h9:bL) (us:List Nat) (gf:bL) (mb:Nat) (fg:kd) (os:List (List Int)) (dE:qF fg os) (z':∀ l∈os,l.length<1000) (l:List Int) (aB:ps[os.length]? = some l) (mg:l.length≤3) (lk:∀ p∈l,0≤p) (Lv:∀ all,qG os l=some all→qC 4 21 all) (aba:os.length<100) :
  bE Tryz.prog 288 [.ptr cj 0,.int .i64 (os.length:Int)] (gD cj ps h9 us gf mb fg) (fun o K=>o = .ret (.cp [])∧∃ Df,K=gD cj ps h9 us gf mb Df∧qF Df (os++[Ar os l os.length])):=by
 have aq:=bA;have x6:=T6 cj ps h9 us gf mb fg os dE z' os.length l aB mg lk;unfold Ar;refine bE.bh ai Tryz.func288 C C fun s I=>?_
 unfold gD jv at I;refine b7 ?_;refine ae.cond C (fun h=>?_) (fun h=>?_)
 ·have bt:os.length=0:=by have:=of_decide_eq_true h;omega
  rw [if_pos bt];refine cI I ?_;intro I;refine aa.mE ai I C C (.inl C) C C C C C C aY C (uu _ _ _) (fun I=>?_);refine eh ?_;have az:=dE.put (v := .aA 1 [.int .i64 0] .clip) 0 [] aS.bb;rw [bt] at az;exact Fin.bu (K:=gD cj ps h9 us gf mb (rJ fg 0 (.aA 1 [.int .i64 0] .clip))) I C aL (by simp only [gD,jv];exact aX) ⟨rfl,_,rfl,az⟩
 have bt:os.length≠0:=by have:=of_decide_eq_false h;omega
 rw [if_neg bt];cases Dg:qG os l with
 | none=>
  rw [Dg] at x6;unfold ug c9 gD jv at x6;refine dF ?_;refine aa.b3 rfl rfl rfl rfl rfl x6 I (aH.all _) ?_ (fun _ _ ⟨h,_⟩ _=>by cases h);rintro _ _ ⟨⟨⟩,rfl⟩ I;rw [append_nil] at I ⊢;refine eh ?_;exact Fin.bu (K:=gD cj ps h9 us gf mb fg) I C aL (by simp only [gD,jv];exact aX) ⟨rfl,_,rfl,dE.sM⟩
 | some all=>
  rw [Dg] at x6;have hm:=T3 4 21 ag all (Lv all Dg);unfold ug c9 gD jv at x6;unfold c9 at hm;simp only;refine dF ?_;refine aa.b3 rfl rfl rfl rfl rfl x6 I (aH.all _) ?_ (fun _ _ ⟨h,_⟩ _=>by cases h);rintro _ _ ⟨⟨⟩,rfl⟩ I;rw [append_nil] at I ⊢;cases wc:(merged all).2 with
  | false=>
   rw [wc] at hm;simp only [Bool.false_eq_true,if_false];refine bW ?_;exact Fin.bu (K:=gD cj ps h9 us gf mb fg) I C aL (by simp only [gD,jv];exact aX) ⟨rfl,_,rfl,dE.sM⟩
  | true=>
   rw [wc] at hm;simp only [if_true];have hs:=F9 (total all+1) all [];have wa:=C6 (Lv all Dg);have Gg:(merged all).1.length≤84:=by
    have:(merged all).1.length≤0+total all:=hs;omega
   generalize (merged all).1=x7 at hm Gg ⊢;unfold bf at hm;refine c1 ?_;refine ae.Ab I 3 1 1 fun I=>?_
   refine ae.qm (dK [(cj,_)]) ai mixed C (bm.run (dK.one (bp.get aY I)) C ?_);refine bm.nN 3 ai (dK.one (bp.get aY I)) C C C C C C C C (fun _ h=>dK.fst h) b6 ?_;refine bm.run (dK.one (bp.get aY I)) C ?_;refine bm.qs 8 ai I rfl rfl rfl rfl rfl rfl rfl rfl rfl en rfl rfl rfl rfl (.inr rfl) rfl (fun y ay=>by obtain ⟨z,-,rfl⟩:=mem_map.1 ay;rfl) C .here C (n':=x7.length+1) cG cG cG (fun s4 I => .inl (dK.one (bp.get aY I))) (fun s4 I=>?_);refine bm.run (dK.one (bp.get aY I)) C ?_;refine bm.gb 10 ai I C C C C C C C C C en C C C C C C C C .here a' j9 ag (fun uf I => .inl (dK.one (bp.get aY I))) (fun uf I=>?_);refine bm.run (dK.one (bp.get aY I)) C ?_;refine bm.mE 11 ai I C C C C (.inl C) C C C C C C aY C (uu _ _ _) (fun _ => .inr C) (fun I=>?_);refine bc.done C ?_;skip;refine Fin.bu (K:=gD cj ps h9 us gf mb (rJ fg (os.length:Int) (.aA 1 ([af.int .i64 (os.length:Int)]++x7.map ba++[af.int .i64 0]) uf))) I C aL (by simp only [gD,jv];exact aX) ⟨rfl,_,rfl,dE.put _ _ ?_⟩;have:((os.length:Int)::(x7++[0])).map ba=[af.int .i64 (os.length:Int)]++x7.map ba++[af.int .i64 0]:=by simp [ba]
   rw [show x7.append [0]=x7++[0] from rfl,this];exact aS.bb
def pK (g:List (List Int)):List (List Int):=[[],[],[]]++g
theorem Lw {g:List (List Int)} {c:Nat} (h:c<3+g.length):(pK g)[c]? = some (parents g c):=by
 unfold pK parents;by_cases aC:c<3
 ·rw [if_pos aC,List.getElem?_append_left (by simpa using aC)]
  rcases c with _|_|_|c
  ·rfl
  ·rfl
  ·rfl
  ·omega
 ·rw [if_neg aC,List.getElem?_append_right cG,getD_eq_getElem?_getD]
  simp only [length_cons,length_nil];rw [getElem?_eq_getElem ag];rfl
theorem T9 (g:List (List Int)) (os:List (List Int)) (c:Nat) (aC:c≠0):Ar os (parents g c) c=order g os c:=by
 unfold Ar order qG lists;rw [if_neg aC];cases iO os (parents g c)<;>rfl
theorem As (g:List (List Int)):∀ (n k:Nat),k≤n→(fB g n).take (k+1)=fB g k
  | 0,k,h=>by
    have:k=0:=by omega
    subst this;rfl
  | n+1,k,h=>by
    by_cases e:k=n+1
    · subst e
      rw [List.take_of_length_le (by rw [sW];exact Nat.le_refl _)]
    · rw [fB,List.take_append_of_le_length (by rw [sW];omega)]
      exact As g n k ag
theorem T' (g:List (List Int)) {j:Nat} (aK:j<3+g.length):(fB g (2+g.length)).take (j+1)=(fB g (2+g.length)).take j++[Ar ((fB g (2+g.length)).take j) (parents g j) j]:=by
 cases j with
 | zero=>rw [As g _ 0 ag,take_zero];rfl
 | succ k=>
  rw [As g _ (k+1) ag,As g _ k ag,T9 g _ _ ag,fB]
theorem Ua {g:List (List Int)} (aw:rD g) {j:Nat} (aK:j<3+g.length):(∀ l∈(fB g (2+g.length)).take j,l.length<1000)∧∀ all,qG ((fB g (2+g.length)).take j) (parents g j)=some all→qC 4 21 all:=by
 have jF:=aw.len;have ah:=Ac aw (2+g.length) ag;refine ⟨fun l aB=>by have:=ah.len l (List.mem_of_mem_take aB);omega,fun all h=>?_⟩;cases j with
 | zero=>
  have:parents g 0=[]:=rfl;rw [this] at h;have:qG ((fB g (2+g.length)).take 0) []=some [[]]:=rfl;rw [this] at h;cases h;exact ⟨by simp,fun l aB=>by rw [mem_singleton] at aB;subst aB;exact ⟨by simp,fun c aC=>by cases aC⟩⟩
 | succ k=>
  rw [As g _ k ag] at h;exact Gf aw (Ac aw k ag) (c:=k+1) h
theorem Ub (g:List (List Int)) (aw:mf g=true) (er:List Int) (cv:er.length<bz) (m5:∀ c∈er,0≤c∧c<3+(g.length:Int)) :
  bE Tryz.prog 275 [c9 g,.aA 1 (er.map ba) .bb] [] (fun o K=>∃ cj h9 us gf mb fg,o = .ret (.cp [.ptr cj 0,.bool true])∧K=gD cj (pK g) h9 us gf mb fg∧qF fg (fB g (2+g.length))):=by
 have aq:=bA;have l7:=z8 aw;have jF:=l7.len;have Uc:=KK g ag;rw [aw] at Uc;refine bE.bh ai Tryz.func275 C C fun s I=>?_
 unfold c9 at *;have dG:IntKind.wrap .i64 (3+((g.map bf).length:Int))=3+(g.length:Int):=by rw [length_map,ek ag ag]
 refine c1 ?_;refine ae.b4 [0,4,5,18,19] C I (σ:=Nat) (fun j=>[(20,.int .i64 (j:Int))]) (fun _=>[]) (fun j=>j≤er.length) (fun j=>er.length-j) 0 (zero_le _) (cq C) aX ?_;rintro j aK I;refine hq ?_;refine ae.cond C (fun au=>?_) (fun aV=>?_)
 ·have au:j<er.length:=by simpa using au
  obtain ⟨c,ay,da⟩:=b1 (f:=ba) au;obtain ⟨c4,dd⟩:=m5 c (mem_of_getElem? ay);unfold ba at da;refine dF ?_;refine aa.cY 26 C (decide_eq_false ag) ?_;refine fH ?_;refine ae.cond C (fun h=>by rw [dG] at h;simp at h;omega) (fun _=>?_);refine c1 ?_;exact bn.mk (j+1) I au ca aX (by show er.length-(j+1)<er.length-j;omega)
 clear aK aV;refine c1 ?_;refine aa.Gq ai I 3 (3+g.length) C C C C C C C C C C C (congrArg (fun z=>some (af.int .i64 z)) (dG.trans ag)) ag (by show _*24≤_;omega) ag (fun ab5 I=>?_);skip;refine aa.rn I C C C C (fun mb I=>?_)
 repeat (first|(refine rr ?_)|refine aa.jR I C C C C C C (fun b I=>?_)|(refine FB I ?_;clear I;intro I))
 refine aa.qs ai I rfl rfl rfl rfl rfl rfl rfl en rfl rfl rfl rfl (.inr rfl) rfl (fun y ay=>by obtain ⟨z,-,rfl⟩:=mem_map.1 ay;rfl) C aY C (n':=3+g.length) a' cG cG (fun h9 I=>?_);refine aa.nK 47 (.aA 1 ((pK g).map bf) h9) C (aS.Ad (.cons aS.empty (.cons aS.empty (.cons aS.empty (cR.refl _))))) ?_;refine cI I ?_;intro I;have h4:(pK g).length=3+g.length:=by unfold pK;simp;omega
 refine ae.vP I b (jv (pK g) h9 [] .nil mb) aY (.cons aL (.cons (aS.nil gW) (cR.refl _))) (fun I=>?_);refine ae.h7 I 346 1 0 fun I=>?_
 refine ae.b4 [8,53,54] C I (σ:=Nat×List Nat×bL) (fun q=>[(55,.int .i64 (q.1:Int))]) (fun q=>gD b (pK g) h9 q.2.1 q.2.2 mb []) (fun q=>q.1≤3+g.length∧q.2.1.length=q.1∧∀ m∈q.2.1,m<2^64) (fun q=>3+g.length-q.1) (0,[],.nil) ⟨zero_le _,rfl,by simp⟩ (cq C) (by rw [← h4] at I ⊢;exact (by simp only [gD,jv];exact aX)) ?_;rintro ⟨j,us,gf⟩ ⟨aK,km,wk⟩ I;simp only [gD,jv] at aK km wk I ⊢;refine hq ?_;refine ae.cond C (fun au=>?_) (fun aV=>?_)
 ·have au:j<3+g.length:=by rw [length_map,h4] at au;simp at au;omega
  have ay:=Lw au;have da:((pK g).map bf)[j]? = some (.aA 1 ((parents g j).map ba) .bb):=by rw [getElem?_map,ay];rfl
  obtain ⟨rE,oR⟩:=l7.parents j;generalize parents g j=l at ay da rE oR;have U:=Lt 0 j dZ ag;have ad:=Lt (0|||2^j) 0 (Nat.or_lt_two_pow dZ (Nat.pow_lt_pow_right ag ag)) ag;unfold n0 at U ad
  repeat (first|(refine vR I ?_;clear I;intro I)|refine aa.dY ai I rfl rfl rfl rfl rfl rfl rfl (fun cJ I=>?_)|(refine pw ?_))
  refine ae.b4 [8,9,11,53,54,55,64,65] C I (σ:=Nat×Nat) (fun q=>[(66,.int .i64 (q.1:Int))]) (fun q=>(.own cJ,.box 346 [.int .u64 (q.2:Int)])::gD b (pK g) h9 us gf mb []) (fun q=>q.1≤l.length∧q.2<2^64) (fun q=>l.length-q.1) (0,0|||2^j|||2^0) ⟨zero_le _,Nat.or_lt_two_pow (Nat.or_lt_two_pow dZ (Nat.pow_lt_pow_right ag ag)) dZ⟩ (cq C) (by simp only [gD,jv];exact aX) ?_;rintro ⟨k,m⟩ ⟨aE,hm⟩ I;simp only [gD,jv] at aE hm I ⊢;refine hq ?_;refine ae.cond C (fun cz=>?_) (fun dr=>?_)
  ·have cz:k<l.length:=by simpa using cz
   obtain ⟨p,aC,mM⟩:=b1 (f:=ba) cz;have abb:=oR p (mem_of_getElem? aC);obtain ⟨q,rfl⟩:∃ q:Nat,p=q:=⟨p.toNat,by omega⟩;obtain ⟨u,hu,Ud⟩:=b1 (f:=n0) (l:=us) (j:=q) ag;have zd:=T0 m u hm (wk u (mem_of_getElem? hu));unfold ba at mM;unfold n0 at zd Ud;refine sN I ?_;intro I;exact bn.mk (k+1,m|||u) I ⟨cz,Nat.or_lt_two_pow hm (wk u (mem_of_getElem? hu))⟩ ca (by simp only [gD,jv];exact aX) (by show l.length-(k+1)<l.length-k;omega)
  ·refine tZ ?_
   refine ae.qm (dK [(b,_),(cJ,_)]) ai mixed C (bm.run (dK.two (bp.get aY I) (bp.get aY I)) C ?_);refine bm.nN 4 ai (dK.two (bp.get aY I) (bp.get aY I)) C C C C C C C C (fun _ h=>dK.fst h) b6 ?_;refine bm.nN 5 ai (dK.two (bp.get aY I) (bp.get aY I)) C C C C C C C C (fun _ h=>dK.snd h) b6 ?_;refine bm.run (dK.two (bp.get aY I) (bp.get aY I)) C ?_;refine bm.gb 7 ai I C C C C C C C C C en C C C C C C C C aY a' j9 ag (fun uf I => .inl (dK.two (bp.get aY I) (bp.get aY I))) (fun Ue I=>?_);refine bm.run (dK.two (bp.get aY I) (bp.get aY I)) C ?_;refine bm.cT 10 ai I C C C C C C C C C C C aY b6 (fun _ => .inr C) (fun I=>?_);refine bc.done C ?_;refine c1 ?_;have xE:∀ x∈us++[m],x<2^64:=fun x ab=>by
    rcases mem_append.1 ab with ab|ab
    ·exact wk x ab
    ·rw [mem_singleton] at ab;subst ab;exact hm
   have hs:(us++[m]).length=us.length+1:=by simp
   have Uf:(us++[m]).map n0=us.map n0++[.agg [.int .u64 (m:Int)]]:=by simp [n0]
   exact bn.mk (j+1,us++[m],Ue) I ⟨au,by rw [hs,km],xE⟩ ca (by simp only [gD,jv,hs,Uf];exact aX) (by show 3+g.length-(j+1)<3+g.length-j;omega)
 have aV:j=3+g.length:=by rw [length_map,h4] at aV;simp at aV;omega
 subst aV;refine cI I ?_;intro I;refine ae.b4 [8,94,95] C I (σ:=Nat×kd) (fun q=>[(96,.int .i64 (q.1:Int))]) (fun q=>gD b (pK g) h9 us gf mb q.2) (fun q=>q.1≤3+g.length∧qF q.2 ((fB g (2+g.length)).take q.1)) (fun q=>3+g.length-q.1) (0,[]) ⟨zero_le _,fun c=>by rw [take_zero];rfl⟩ (cq C) (by simp only [gD,jv];exact aX) ?_;rintro ⟨j,fg⟩ ⟨aK,dE⟩ I;simp only [gD,jv] at aK dE I ⊢;refine hq ?_;refine ae.cond C (fun au=>?_) (fun aV=>?_)
 ·have au:j<3+g.length:=by rw [length_map,h4] at au;simp at au;omega
  obtain ⟨sv,qc⟩:=Ua l7 au;obtain ⟨rE,oR⟩:=l7.parents j;have wa:((fB g (2+g.length)).take j).length=j:=by rw [length_take,sW];omega
  have x8:=T8 b (pK g) h9 us gf mb fg _ dE sv (parents g j) (by rw [wa];exact Lw au) rE (fun p aD=>by have:=oR p aD;omega) qc ag;rw [wa,← T' g au] at x8;refine dF ?_;refine aa.b3 C C C C C x8 I (by simp only [gD,jv];exact aX) ?_ (fun _ _ ⟨h,_⟩ _=>by cases h);rintro _ _ ⟨⟨⟩,Df,rfl,Ug⟩ I;rw [append_nil] at I ⊢;refine c1 ?_;exact bn.mk (j+1,Df) I ⟨au,Ug⟩ ca (aH.dq _) (by show 3+g.length-(j+1)<3+g.length-j;omega)
 have aV:j=3+g.length:=by rw [length_map,h4] at aV;simp at aV;omega
 subst aV;rw [List.take_of_length_le (by rw [sW];omega)] at dE;refine c1 ?_;exact Fin.bu I C aL (aH.dq _) ⟨b,h9,us,gf,mb,fg,rfl,rfl,dE⟩
theorem Uh (g:List (List Int)) (aw:g.length<bz):aR Tryz.prog 254 [c9 g] (.int .i64 (if mf g then 0 else 2)):=by
 have aq:=bA;refine aR.bh ai Tryz.func254 C C fun s I=>?_
 have U:=KK g aw;unfold c9 at *
 repeat' (first|(with_reducible first|apply ae.seq|apply b5|apply fF|apply ae.ret|apply ae.skip)|refine c0 C ?_|refine ae.cH ?_|refine aa.nil ?_|refine cE C ?_|refine aa.eg C C C C C cu ?_|refine ae.cond C (fun h=>?_) (fun h=>?_))
 all_goals exact Fin.cx I C (aS.of_eq rF)
def Lx (l:List Int):af:=if l.isEmpty then .cp [.aA 0 [] .nil,.int .i64 7] else .cp [bf l,.int .i64 0]
theorem Ui (g:List (List Int)) (aw:mf g=true) (c:Nat) (aC:c<3+g.length):aR Tryz.prog 255 [c9 g,.int .i64 (c:Int)] (Lx ((fB g (2+g.length)).getD c [])):=by
 have aq:=bA;refine aR.bh ai Tryz.func255 C C fun s I=>?_
 have U:=Ub g aw [(c:Int)] cG (by intro x ab;rw [mem_singleton] at ab;subst ab;omega);have l7:=z8 aw;have jF:=l7.len;have ah:=Ac l7 (2+g.length) ag;unfold c9 at *;have U:=bE.args (show cR [.aA 1 (g.map bf) .bb,.aA 1 [.int .i64 (c:Int)] .clip] [.aA 1 (g.map bf) .bb,.aA 1 ([(c:Int)].map ba) .bb] from .cons aL (.one aS.bb)) U;refine dv ?_;refine aa.b3 rfl rfl rfl rfl rfl U I .nil ?_ (fun _ _ ⟨_,_,_,_,_,_,h,_⟩ _=>by cases h);rintro _ _ ⟨cj,h9,us,gf,mb,fg,⟨⟩,rfl,dE⟩ I;rw [append_nil] at I ⊢;have Au:=dE c;have gn:((fB g (2+g.length)).getD c []).length<bz:=by
  rw [getD_eq_getElem?_getD];cases h:(fB g (2+g.length))[c]? with
  | none=>simp;omega
  | some x=>have:=ah.len x (mem_of_getElem? h);show x.length<bz;omega
 generalize (fB g (2+g.length)).getD c []=l at Au gn;unfold gD jv at I ⊢;cases l with
 | nil=>
  have Au:nZ fg (c:Int)=none:=Au;refine hh I ?_;intro I;refine aa.jr ai I C C C C C C C C C C aY C (by rw [ur,Au]) C ?_;refine eh ?_;exact bl I
 | cons x r=>
  obtain ⟨v,pJ,Aq⟩:∃ v,nZ fg (c:Int)=some v∧aS v (.aA 1 ((x::r).map ba) .bb):=Au;have cv:=Ao (x::r) .bb gn;unfold bf at cv;refine hh I ?_;intro I;refine aa.jr ai I C C C C C C C C C C aY C (by rw [ur,pJ]) C ?_;refine aa.nK 22 _ C Aq ?_;refine cI I ?_;intro I;refine aa.jr ai I C C C C C C C C C C aY C (by rw [ur,pJ]) C ?_;refine aa.nK 30 _ C Aq ?_;refine c1 ?_;exact bl I
theorem Av {w:bx} {up:List Nat} {c m:Nat} (h:up[c]? = some m):(pI w up)[2+c]? = some (.int .u64 (m:Int)):=by
 unfold pI fr;rw [List.getElem?_append_right a'];simp [h]
theorem Ly (w:bx) (up:List Nat) (c bB m o:Nat) (aC:c<63) (hm:up[c]? = some m) (hs:m<2^64) (ar:w.owner[bB]? = some (o:Int)) (ah:o<64):aR Tryz.prog 209 [e4 w up,.int .i64 (c:Int),.int .i64 (bB:Int)] (.bool (m.testBit o)):=by
 have aq:=bA;refine aR.bh ai Tryz.func209 C C fun s I=>?_
 have U:=x5 m o hs ah;have ad:(w.owner.map ba)[bB]? = some (.int .i64 (o:Int)):=by simp [ar,ba]
 have al:=Av (w:=w) hm;unfold e4;unfold pI fr bf at al ⊢;refine bW ?_;refine aN.lN ai c C C C C C C C C C C aC ?_;refine aN.Ag ai C C C C C C C (by simpa using al) ?_;refine c1 ?_;exact bl I
theorem GC (c:Nat) (aC:c<64):aR Tryz.prog 197 [.int .u64 1,.int .i64 (c:Int)] (.int .u64 ((1|||2^c:Nat):Int)):=Ap 1 c dZ aC
def nq (w:bx) (u:List Nat):List af:=pI w (pad u)
theorem Lz {w:bx} {u:List Nat} (h:u.length<63) (v:Nat):eQ (2+u.length*1) [.int .u64 (v:Int)] (nq w u)=nq w (u++[v]):=by
 rw [pD];unfold nq pI;rw [List.set_append_right _ _ (by simp [fr]),← SV h v,List.map_set];congr 2;simp [fr]
theorem LA {w:bx} {u:List Nat} (h:u.length≤63):(nq w u).length=65:=by
 unfold nq pI;rw [length_append,length_map,SU h];rfl
theorem Uj {w:bx} {u:List Nat} {c m:Nat} (h:u[c]? = some m):(nq w u)[2+c*1]? = some (.int .u64 (m:Int)):=by
 rw [mul_one];exact Av (xS h)
theorem Uk (j:Nat) (aK:j<3):[1,3,5].take (j+1)=[1,3,5].take j++[1|||2^j]:=by
 rcases j with _|_|_|j
 ·rfl
 ·rfl
 ·rfl
 ·omega
theorem Ul (w:bx) (hw:gw w):aR Tryz.prog 165 [fm w] (.cp [e4 w (pad (eN w.ps)),.bool true]):=by
 have aq:=bA;have qH:=hw.kt;have gn:=hw.bo;refine aR.bh ai Tryz.func165 C C fun s I=>?_
 unfold fm fr c9 bf;refine dv ?_;refine aa.cY 15 C cG ?_;refine fH ?_;refine ae.cond C (fun h=>?_) (fun _=>?_)
 ·simp at h;omega
 refine ae.skip ?_
 repeat (first|(refine CF ?_)|refine aa.jR I C C C C C C (fun b I=>?_)|(refine CG ?_))
 refine ae.b4 [1,4] C I (σ:=Nat) (fun j=>[(24,.int .i64 (j:Int))]) (fun j=>[(.own b,.box 234 (nq w ([1,3,5].take j)))]) (fun j=>j≤3) (fun j=>3-j) 0 (zero_le _) (cq C) aX ?_;rintro j aK I;refine b7 ?_;refine ae.cond C (fun au=>?_) (fun aV=>?_)
 ·have au:j<3:=by have:=of_decide_eq_true au;omega
  have U:=GC j ag;have e:eQ (2+j*1) [.int .u64 ((1|||2^j:Nat):Int)] (nq w ([1,3,5].take j))=nq w ([1,3,5].take (j+1)):=by
   have aB:([1,3,5].take j).length=j:=by simp;omega
   have:=Lz (w:=w) (u:=[1,3,5].take j) ag (1|||2^j);rw [aB] at this;rw [this,Uk j au]
  have hlen:(nq w ([1,3,5].take j)).length=65:=LA cG;refine bW ?_;refine aN.arr ai j C C C C C C C C C C ag ?_;refine aN.jX ai I _ C C C C C C C C C C aY (by rw [hlen];show 2+j*1+1≤65;omega) e (fun I=>?_);refine gd ?_;exact bn.mk (j+1) I au ca aX (by show 3-(j+1)<3-j;omega)
 have aV:j=3:=by have:=of_decide_eq_false aV;omega
 subst aV;refine bC ?_;refine ae.b4 [1,4,36,37] C I (σ:=Nat) (fun j=>[(38,.int .i64 (j:Int))]) (fun j=>[(.own b,.box 234 (nq w (eN (w.ps.take j))))]) (fun j=>j≤w.ps.length) (fun j=>w.ps.length-j) 0 (zero_le _) (cq C) aX ?_;rintro j aK I;refine b7 ?_;refine ae.cond C (fun au=>?_) (fun aV=>?_);rotate_left
 ·have aV:j=w.ps.length:=by simp at aV;omega
  subst aV;rw [take_length] at I ⊢;have ke:w.owner.all (fun c=>decide (c≥3)&&decide (c<3+(w.ps.length:Int)))=true:=by
   rw [all_eq_true];intro o ah;have:=hw.own o ah;simp;omega
  have pL:=Lo 199 [e4 w (pad (eN w.ps))] [] _ w.owner ag (fun x _=>TX w (pad (eN w.ps)) x qH);rw [ke] at pL;refine ae.mF I 4 b C aY (fun I=>?_);unfold e4 at pL ⊢;refine c1 ?_;exact bl I
 have au:j<w.ps.length:=by simpa using au
 obtain ⟨l,ay,da⟩:=b1 (f:=bf) au;have jF:=CU hw.nS ay;have U:=GC (3+j) ag;have km:(eN (w.ps.take j)).length=3+j:=by rw [sX,length_take];omega
 have GD:∀ m∈eN (w.ps.take j),m<2^64:=xR tA;have iy:IntKind.wrap .i64 (3+(j:Int))=((3+j:Nat):Int):=by rw [ek ag ag];omega
 have mg:l.length<100:=by have:=hw.short l (mem_of_getElem? ay);omega
 generalize pM:eN (w.ps.take j)=abY at I km GD;unfold bf at da;have U:aR Tryz.prog 197 [.int .u64 1,.int .i64 (IntKind.wrap .i64 (3+(j:Int)))] (.int .u64 ((1|||2^(3+j):Nat):Int)):=by rw [iy];exact U
 refine bW ?_;refine ae.b4 [1,4,36,37,38,6,7,46,47] C I (σ:=Nat) (fun k=>[(48,.int .i64 (k:Int)),(8,.int .u64 (((l.take k).foldl (fun s p=>s|||abY.getD p.toNat 0) (1|||2^(3+j)):Nat):Int))]) (fun k=>[(.own b,.box 234 (nq w abY))]) (fun k=>k≤l.length) (fun k=>l.length-k) 0 (zero_le _) (cq C) aX ?_;rintro k aE I;refine b7 ?_;refine ae.cond C (fun cz=>?_) (fun dr=>?_);rotate_left
 ·have dr:k=l.length:=by simp at dr;omega
  subst dr;rw [take_length] at ⊢;have e:eQ (2+(3+j)*1) [.int .u64 ((rz abY l:Nat):Int)] (nq w abY)=nq w (eN (w.ps.take (j+1))):=by
   rw [iA ay,Kp,pM,← km];exact Lz ag _
  have hlen:(nq w abY).length=65:=LA ag;unfold rz at e;rw [km] at e;refine bC ?_;refine aa.arr ai (3+j) C C C C C C C C C iy ag ?_;refine aa.jX ai I _ C C C C C C C C C aY (by rw [hlen];show 2+(3+j)*1+1≤65;omega) e (fun I=>?_);refine fG ?_;exact bn.mk (j+1) I au ca aX (by show w.ps.length-(j+1)<w.ps.length-j;omega)
 have cz:k<l.length:=by simpa using cz
 obtain ⟨p,aC,mM⟩:=b1 (f:=ba) cz;obtain ⟨g1,g2,g3⟩:=CV jF aC;obtain ⟨q,rfl⟩:∃ q:Nat,p=q:=⟨p.toNat,by omega⟩;have h8:=xX (l.take k) q (by have:=length_take_le' k l;omega);have uv:(l.take k).contains (q:Int)=false:=by simpa using g3
 rw [uv] at h8;unfold bf at h8;rw [List.map_take] at h8;unfold ba at mM h8;obtain ⟨m,hm⟩:∃ m,abY[q]? = some m:=⟨abY[q]' ag,getElem?_eq_getElem _⟩;refine dF ?_;refine aa.cY 55 C (decide_eq_false ag) ?_;refine dy ?_;refine aa.cY 61 C (by rw [iy];exact decide_eq_false ag) ?_;refine dy ?_;refine aa.slice ai 0 k C C C C C C C C (.inr C) (.inl ⟨rfl,rfl⟩) (.inr ⟨_,_,rfl,rfl⟩) (.inl ⟨rfl,rfl⟩) (zero_le _) (by simpa using aE) ?_;rw [drop_zero];refine c1 ?_;refine aa.arr ai q C C C C C C C C C C ag ?_;refine aa.jW ai I C C C C C C aY C (Uj hm) ?_;refine aa.bits (((l.take k).foldl (fun s p=>s|||abY.getD p.toNat 0) (1|||2^(3+j))|||m:Nat):Int) C C C C C C (vW (FU GD _ _ (FT dZ (Nat.pow_lt_pow_right ag ag))) (GD m (mem_of_getElem? hm))) ?_;refine fG ?_;refine bn.mk (k+1) I cz (by repeat (first|exact trivial|refine ⟨⟨_,rfl,aL⟩,?_⟩|refine ⟨⟨_,rfl,aS.of_eq (by (first|rw [jD ag]|(rw [iA aC,List.foldl_append];simp [hm])))⟩,?_⟩)) aX (by show l.length-(k+1)<l.length-k;omega)
theorem Um (fv:af) (K aO:a8) (q:Bool) (x:ak) (h:dp Tryz.prog fv [x.bK] K (fun o K=>o = .ret (.bool q)∧K=aO)):dp Tryz.prog (.func 234 [] [.bw [fv] 0]) [x.bK] K (fun o K=>o = .ret (.bool (!q))∧K=aO):=by
 refine dp.fk (first:=[]) (cap:=[.bw [fv] 0]) ?_;refine bE.bh ai Tryz.func234 C C fun s I=>?_
 rw [ak.bX] at h ⊢;refine dv ?_;refine aa.gH rfl rfl rfl rfl rfl rfl h I (aH.all _) ?_ (fun _ _ ⟨h,_⟩ _=>by cases h);rintro _ _ ⟨⟨⟩,rfl⟩ I;rw [append_nil] at I ⊢;refine eu ?_;exact Fin.bu I C aL (aH.all _) ⟨rfl,rfl⟩
theorem Un (f:FuncId) (ig ho:List af) (xs:List ak) (T:Nat→a8) (cm:Nat→Bool) (aB:xs.length<bz) (h:∀ j x,xs[j]? = some x→(∀ i,i<j→cm i=true)→dp Tryz.prog (.func f ig ho) [x.bK] (T j) (fun o K=>o = .ret (.bool (cm j))∧K=T (j+1))) :
  bE Tryz.prog 200 [.aA 6 (xs.map ak.bK) .bb,.func f ig ho] (T 0)
   (fun o K=>(o = .ret (.bool true)∧K=T xs.length∧∀ i,i<xs.length→cm i=true)∨∃ j,j<xs.length∧cm j=false∧(∀ i,i<j→cm i=true)∧o = .ret (.bool false)∧K=T (j+1)):=by
 refine bE.bh ai Tryz.func200 C C fun s I=>?_
 have aC:=Gi (.func 234 [] [.bw [.func f ig ho] 0]) xs T (fun j => !cm j) aB (fun j x ab aQ=>Um (.func f ig ho) (T j) (T (j+1)) (cm j) x (h j x ab (fun i eK=>by simpa using aQ i eK)));refine dv ?_;refine aa.b3 rfl rfl rfl rfl rfl aC I (aH.all _) ?_ (fun _ _ h _=>by rcases h with ⟨h,_⟩|⟨_,_,_,_,h,_⟩<;>cases h);rintro _ _ (⟨⟨⟩,rfl,U⟩|⟨j,U,ad,al,⟨⟩,rfl⟩) I
 all_goals rw [append_nil] at I ⊢
 ·refine eu ?_
  exact Fin.bu I C aL (aH.all _) (.inl ⟨rfl,rfl,fun i aQ=>by simpa using U i aQ⟩)
 ·refine eu ?_
  exact Fin.bu I C aL (aH.all _) (.inr ⟨j,U,by simpa using ad,fun i aQ=>by simpa using al i aQ,rfl,rfl⟩)
def lQ (kS:Nat) (k:Int):a8:=[(.own kS,.box 3 [.int .i64 k])]
theorem Uo (w:bx) (d:Nat) (k:Int) (f:ak):e3 w d k f=if decide (k-1<0)||decide (d=0) then (false,k-1) else if hX w f then gX w (d-1) (k-1) f.kids else (false,k-1):=by
 cases f;rw [e3];rfl
def kT (w:bx) (d:Nat) (k:Int) (ks:List ak):Nat→Int
  | 0=>k
  | j+1=>match ks[j]? with
    | some x=>(e3 w d (kT w d k ks j) x).2
    | none=>kT w d k ks j
theorem wm (w:bx) (d:Nat) (k:Int) (x:ak) (r:List ak):∀ j,kT w d k (x::r) (j+1)=kT w d (e3 w d k x).2 r j
  | 0=>by simp [kT]
  | j+1=>by
    rw [kT,wm w d k x r j,List.getElem?_cons_succ];rfl
theorem LB (w:bx) (d:Nat):∀ (ks:List ak) (k:Int),
    (∀ j x,ks[j]? = some x→(e3 w d (kT w d k ks j) x).1=true)→gX w d k ks=(true,kT w d k ks ks.length)
  | [],_,_=>by rw [gX];rfl
  | x::r,k,h=>by
    have bt:(e3 w d k x).1=true:=h 0 x C;rw [gX,if_pos bt,LB w d r _ (fun j y aK=>by rw [← wm];exact h (j+1) y (by simpa using aK)),length_cons,wm]
theorem LC (w:bx) (d:Nat):∀ (ks:List ak) (k:Int) (j:Nat) (x:ak),ks[j]? = some x→(∀ (i:Nat) y,i<j→ks[i]? = some y→(e3 w d (kT w d k ks i) y).1=true)→(e3 w d (kT w d k ks j) x).1=false →
    gX w d k ks=(false,kT w d k ks (j+1))
  | [],_,_,_,h,_,_=>by simp at h
  | y::r,k,0,x,h,_,ab=>by
    obtain rfl:y=x:=by simpa using h
    have bJ:(e3 w d k y).1=false:=ab;rw [gX,if_neg (by rw [bJ];simp),wm];rfl
  | y::r,k,j+1,x,h,aQ,ab=>by
    have bt:(e3 w d k y).1=true:=aQ 0 y (Nat.succ_pos _) C;rw [gX,if_pos bt,wm];rw [wm] at ab;exact LC w d r _ j x fD (fun i z eK bO=>by rw [← wm];exact aQ (i+1) z ag (by simpa using bO)) ab
mutual
theorem LD:∀ (x:ak) (w:bx) (d:Nat) (k:Int),(e3 w d k x).1=true→0≤(e3 w d k x).2∧(e3 w d k x).2≤k
  | .mk o a p c n ks,w,d,k,h=>by
    rw [e3] at h ⊢;split at h
    · cases h
    · rename_i aC
      rw [if_neg aC];simp only [Bool.or_eq_true,decide_eq_true_eq,not_or] at aC;split at h
      · rename_i az
        rw [if_pos az];have:=LF ks w (d-1) (k-1) h ag;omega
      · cases h
theorem LF:∀ (ks:List ak) (w:bx) (d:Nat) (k:Int),(gX w d k ks).1=true→0≤k→0≤(gX w d k ks).2∧(gX w d k ks).2≤k
  | [],w,d,k,_,bt=>by rw [gX];exact ⟨bt,Int.le_refl _⟩
  | x::r,w,d,k,h,bt=>by
    rw [gX] at h ⊢;split at h
    · rename_i ab
      rw [if_pos ab];have U:=LD x w d k ab;have ad:=LF r w d _ h U.1;omega
    · cases h
end
theorem LG {w:bx} {d:Nat} {ks:List ak} {k:Int} (bt:0≤k):∀ (j:Nat),(∀ (i:Nat) y,i<j→ks[i]? = some y→(e3 w d (kT w d k ks i) y).1=true)→0≤kT w d k ks j∧kT w d k ks j≤k
  | 0,_=>⟨bt,Int.le_refl _⟩
  | j+1,h=>by
    have U:=LG bt j fun i y aQ ay=>h i y ag ay
    rw [kT];cases ab:ks[j]? with
    | none=>exact U
    | some x=>
      have ad:=LD x w d _ (h j x (Nat.lt_succ_self _) ab);simp only;omega
theorem Up (w:bx) (up:List Nat) (kS:Nat) (y:ak) (d:Nat) (k:Int) (ax:d≤12) (mZ:0<d)
  (h:bE Tryz.prog 202 [e4 w up,y.bK,.ptr kS 0,.int .i64 ((d-1:Nat):Int)] (lQ kS k) (fun o K=>o = .ret (.bool (e3 w (d-1) k y).1)∧K=lQ kS (e3 w (d-1) k y).2)) :
  dp Tryz.prog (.func 238 [] [.bw [e4 w up] 0,.bw [.ptr kS 0] 0,.bw [.int .i64 (d:Int)] 0]) [y.bK] (lQ kS k) (fun o K=>o = .ret (.bool (e3 w (d-1) k y).1)∧K=lQ kS (e3 w (d-1) k y).2):=by
 refine dp.fk (first:=[]) (cap:=[.bw [e4 w up] 0,.bw [.ptr kS 0] 0,.bw [.int .i64 (d:Int)] 0]) ?_;refine bE.bh ai Tryz.func238 C C fun s I=>?_
 have hw:IntKind.wrap .i64 ((d:Int)-1)=((d-1:Nat):Int):=by rw [ek ag ag];omega
 rw [ak.bX] at h ⊢;rw [← hw] at h;unfold e4 at h ⊢;refine dv ?_;refine aa.b3 rfl rfl rfl rfl rfl h I (aH.all _) ?_ (fun _ _ ⟨h,_⟩ _=>by cases h);rintro _ _ ⟨⟨⟩,rfl⟩ I;rw [append_nil] at I ⊢;refine eu ?_;exact Fin.bu I C aL (aH.all _) ⟨rfl,rfl⟩
theorem Uq (w:bx) (up:List Nat) (hw:w.ps.length≤60) (kS:Nat):∀ (n:Nat) (f:ak) (d:Nat) (k:Int),f.size≤n→n<bz→d≤12→0≤k→k≤bz →
    bE Tryz.prog 202 [e4 w up,f.bK,.ptr kS 0,.int .i64 (d:Int)] (lQ kS k) (fun o K=>o = .ret (.bool (e3 w d k f).1)∧K=lQ kS (e3 w d k f).2):=by
  have aq:=bA;intro n
  induction n with
  | zero=>intro x d k h;have:=x.size_eq;omega
  | succ n a1=>
    intro f d k az iY ax l4 ir;have pN:IntKind.wrap .i64 (k-1)=k-1:=ek ag ag;refine bE.bh ai Tryz.func202 C C fun s I=>?_
    have iB:=f.size_eq;have aC:=Uo w d k f;have U:=TR f.op;have ad:=GB f;have al:=TY w up f.path ag;have bd:=TU w up f.cls hw;rw [ak.bX] at ad ⊢;unfold e4 bf at al;unfold e4 at bd ⊢;unfold lQ at I ⊢;refine hh I ?_;intro I;rw [pN] at I ⊢
    repeat' (first|(with_reducible first|apply ae.seq|apply b5|apply fF|apply fz|apply hg|apply ae.ret|apply ae.skip|apply ae.block)|refine c0 C ?_|refine ae.cH ?_|refine aa.nil ?_|refine ae.ft C ?_|refine cE C ?_|refine aa.skip C C C ?_|refine aN.nil ?_|refine aN.step C ?_|refine aa.eg C C C C C cu ?_|refine aN.eg C C C C C cu ?_|(fail_if_success refine aa.same true C ?_);(fail_if_success refine aa.same false C ?_);refine aa.gV C C (fun h=>?_) (fun h=>?_)|(fail_if_success refine aN.same true C ?_);(fail_if_success refine aN.same false C ?_);refine aN.gV C C (fun h=>?_) (fun h=>?_)|refine ae.cond C (fun h=>?_) (fun h=>?_))
    all_goals first
      | (have key:e3 w d k f=(false,k-1):=by
          clear a1 I U ad al bd az iB pN
          rw [aC]
          simp only [hX,kr,ak.cW] at *
          grind
         exact Fin.bu (K:=lQ kS (k-1)) I C aL (by simp only [lQ];exact aX) ⟨by rw [key],by rw [key];rfl⟩)
      | (have Dh:f.kids=[]:=by
          clear a1 I U ad al bd az iB pN aC
          refine List.eq_nil_of_length_eq_zero ?_
          simp only [hX,kr,ak.cW,pA,length_map] at *
          grind
         have key:e3 w d k f=(hX w f,k-1):=by
          clear a1 I U ad al bd az iB pN
          rw [aC,Dh,gX]
          grind
         refine Fin.bu (K:=lQ kS (k-1)) I C (aS.of_eq (congrArg af.bool ?_)) (by simp only [lQ];exact aX) ⟨by rw [key],by rw [key];rfl⟩
         clear a1 I U ad al bd az iB pN aC key
         simp only [hX,kr,ak.cW,pA,length_map] at *
         grind)
      | skip
    have Ur:hX w f=true:=by
      clear a1 I U ad al bd az iB pN aC;simp only [hX,kr,ak.cW,length_map] at *;simp at *;grind
    have mZ:0<d:=by
      rcases Nat.eq_zero_or_pos d with rfl|h
      · simp_all
      · exact h
    have Aw:¬ k-1<0:=by
      clear a1 I U ad al bd;grind
    have key:e3 w d k f=gX w (d-1) (k-1) f.kids:=by
      rw [aC,if_neg cG,if_pos Ur]
    have hlen:=ak.pz f.kids
    have Dh:=Un 238 [] [.bw [e4 w up] 0,.bw [.ptr kS 0] 0,.bw [.int .i64 (d:Int)] 0] f.kids (fun j=>lQ kS (kT w (d-1) (k-1) f.kids j)) (fun j=>match f.kids[j]? with|some x=>(e3 w (d-1) (kT w (d-1) (k-1) f.kids j) x).1|none=>true) ag (fun j x ab aQ=>by
      have pO:=LG (w:=w) (d:=d-1) (ks:=f.kids) (k:=k-1) ag j (fun i y eK ay=>by have:=aQ i eK;simp only [ay] at this;simpa using this)
      have hm:=ak.hV (mem_of_getElem? ab)
      have:=Up w up kS x d (kT w (d-1) (k-1) f.kids j) ax mZ (a1 x (d-1) _ ag ag ag pO.1 ag)
      simp only [kT,ab]
      exact this)
    unfold e4 at Dh;skip;refine aa.b3 C C C C C Dh I (by simp only [lQ,kT];exact aX) ?_ (fun _ _ h _=>by rcases h with ⟨h,_⟩|⟨_,_,_,_,h,_⟩<;>cases h);rintro _ _ (⟨⟨⟩,rfl,g1⟩|⟨j,g1,g2,g3,⟨⟩,rfl⟩) I
    · have:=LB w (d-1) f.kids (k-1) (fun j x ab=>by have:=g1 j (List.getElem?_eq_some_iff.1 ab).1;simp only [ab] at this;simpa using this)
      rw [key,this];refine eu ?_;exact Fin.bu (K:=lQ kS _) I C aL (by simp only [lQ,List.cons_append,nil_append];exact aX) ⟨rfl,rfl⟩
    · obtain ⟨x,ab,-⟩:=b1 (f:=ak.bK) g1
      simp only [ab] at g2;have:=LC w (d-1) f.kids (k-1) j x ab (fun i y eK ay=>by have:=g3 i eK;simp only [ay] at this;simpa using this) (by simpa using g2);rw [key,this];refine eu ?_;exact Fin.bu (K:=lQ kS _) I C aL (by simp only [lQ,List.cons_append,nil_append];exact aX) ⟨rfl,rfl⟩
abbrev Ax (w:bx):List Nat:=pad (eN w.ps)
abbrev gg (w:bx):af:=e4 w (Ax w)
theorem Us (w:bx) (hw:w.ps.length≤60) (f:ak) (a6:f.size<bz):eA Tryz.prog (.func 201 [] [.bw [gg w] 0]) [f.bK] (.bool (iz w f)):=by
 have aq:=bA;refine eA.fk (first:=[]) (cap:=[.bw [gg w] 0]) ?_;refine aR.bh ai Tryz.func201 C C fun s I=>?_
 rw [ak.bX];unfold gg e4
 repeat (first|(refine Se I ?_;clear I;intro I)|refine aa.dY ai I rfl rfl rfl rfl rfl rfl rfl (fun cJ I=>?_))
 have az:=Uq w (Ax w) hw cJ f.size f 12 24 (Nat.le_refl _) a6 ag ag ag;rw [ak.bX] at az;unfold e4 at az;refine aa.b3 C C C C C az I (by simp only [lQ];exact aX) ?_ (fun _ _ ⟨h,_⟩ _=>by cases h);rintro _ _ ⟨⟨⟩,rfl⟩ I;rw [append_nil] at I ⊢;refine aa.l9 I [] aX fun I=>?_
 refine eu ?_;exact bl I
theorem Ut (w:bx) (hw:w.ps.length≤60) (l:List ak) (aB:l.length<bz) (a6:∀ f∈l,f.size<bz):aR Tryz.prog 166 [gg w,.aA 6 (l.map ak.bK) .bb] (.bool (l.all (iz w))):=by
 have aq:=bA;refine aR.bh ai Tryz.func166 C C fun s I=>?_
 have U:=TJ 201 [] [.bw [gg w] 0] (iz w) l aB (fun x ab=>Us w hw x (a6 x ab));unfold gg e4 at *;refine bW ?_;exact bl I
theorem GF (w:bx) (hw:gw w) (l:List ak) (aB:l.length<bz) (a6:∀ f∈l,f.size<bz):aR Tryz.prog 122 [fm w,.aA 6 (l.map ak.bK) .bb] (.cp [gg w,.bool (l.all (iz w))]):=by
 have aq:=bA;refine aR.bh ai Tryz.func122 C C fun s I=>?_
 have U:=Ul w hw;have ad:=Ut w hw.kt l aB a6;unfold fm fr c9 bf at *;unfold gg e4 at *;refine bW ?_;exact bl I
theorem Uu (w:bx) (hw:gw w) (f:ak) (a6:f.size<bz):aR Tryz.prog 229 [fm w,f.bK] (.int .i64 (if iz w f then 0 else 2)):=by
 have aq:=bA;refine aR.bh ai Tryz.func229 C C fun s I=>?_
 have U:=GF w hw [f] cG (by intro g aw;rw [mem_singleton] at aw;subst aw;exact a6);have ad:=TZ (iz w f);rw [map_cons,map_nil,ak.bX] at U;rw [all_cons,all_nil,Bool.and_true] at U;rw [ak.bX];unfold fm fr c9 bf at *;refine bW ?_;exact bl I
theorem LH (v:Int×Int) (n:Int):aR Tryz.prog 170 [fZ v,.int .i64 n] (.bool (hC n v)):=by
 have aq:=bA;refine aR.bh ai Tryz.func170 C C fun s I=>?_
 unfold fZ
 repeat' (first|(with_reducible first|apply ae.seq|apply b5|apply fF|apply fz|apply hg|apply ae.ret|apply ae.skip|apply ae.block)|refine c0 C ?_|refine ae.cH ?_|refine aa.nil ?_|refine cE C ?_|refine aa.skip C C C ?_|(fail_if_success refine aa.same true C ?_);(fail_if_success refine aa.same false C ?_);refine aa.gV C C (fun h=>?_) (fun h=>?_)|refine ae.cond C (fun h=>?_) (fun h=>?_))
 all_goals (refine Fin.cx I C (aS.of_eq (congrArg af.bool ?_));clear I;simp only [hC,kr];grind)
theorem Uv (w:bx) (m:Nat) {j:Nat} (o:Int) (h:w.owner[j]? = some o):((range (j+1)).filter fun s=>m.testBit (w.owner.getD s 0).toNat).map (fun (s:Nat)=>(s:Int))=(((range j).filter fun s=>m.testBit (w.owner.getD s 0).toNat).map fun (s:Nat)=>(s:Int))++(if m.testBit o.toNat then [(j:Int)] else []):=by
 rw [List.range_succ,List.filter_append,map_append];congr 1;have:w.owner.getD j 0=o:=by rw [getD_eq_getElem?_getD,h];rfl
 rw [List.filter_cons,List.filter_nil,this];cases hm:m.testBit o.toNat<;>rfl
theorem LI (w:bx) (hw:gw w) (c:Nat) (aC:c<3+w.ps.length):aR Tryz.prog 205 [gg w,.int .i64 (c:Int)] (bf (nT w ((eN w.ps).getD c 0))):=by
 have aq:=bA;refine aR.bh ai Tryz.func205 C C fun s I=>?_
 have qH:=hw.kt;have gn:=hw.bo;have km:=sX w.ps;obtain ⟨m,hm⟩:∃ m,(eN w.ps)[c]? = some m:=⟨_,getElem?_eq_getElem ag⟩;have oT:(eN w.ps).getD c 0=m:=by rw [getD_eq_getElem?_getD,hm];rfl
 have hs:=xR qH m (mem_of_getElem? hm);rw [oT];obtain ⟨xs,c5⟩:∃ xs:Nat→List af,∀ j,xs j=(((range j).filter fun s=>m.testBit (w.owner.getD s 0).toNat).map fun (s:Nat)=>(s:Int)).map ba:=⟨_,fun _=>rfl⟩;have bt:xs 0=[]:=by rw [c5];rfl
 have fc:∀ j,(xs j).length≤j:=fun j=>by
  rw [c5,length_map,length_map];exact Nat.le_trans (List.length_filter_le _ _) a'
 unfold gg e4;have uw:=fun s o (ar:w.owner[s]? = some ((o:Nat):Int)) ah=>Ly w (Ax w) c s m o ag (xS hm) hs ar ah
 unfold e4 at uw;unfold pI fr bf at *;refine gm ?_;refine ae.h7 I 3 1 0 fun I=>?_
 refine ae.b4 [0,1,12] C I (σ:=Nat×bL) (fun q=>[(13,.int .i64 (q.1:Int)),(5,.aA 1 (xs q.1) q.2)]) (fun q=>[(q.2,.row 3 1 (xs q.1).length)]) (fun q=>q.1≤w.owner.length) (fun q=>w.owner.length-q.1) (0,.nil) (zero_le _) ⟨⟨_,rfl,aL⟩,⟨_,rfl,by rw [bt];exact aS.nil gW⟩,trivial⟩ wh ?_;rintro ⟨j,own⟩ aK I;simp only at aK I ⊢;refine b7 ?_;refine ae.cond C (fun au=>?_) (fun aV=>?_);rotate_left;have aV:j=w.owner.length:=by
  have:w.owner.length≤j:=by simpa using aV
  omega
 ·subst aV
  have he:xs w.owner.length=(nT w m).map ba:=by rw [c5];rfl
  rw [he];refine dN ?_;exact Fin.cx I C aS.bb
 have au:j<w.owner.length:=by simpa using au
 obtain ⟨o,ah⟩:∃ o,w.owner[j]? = some o:=⟨_,getElem?_eq_getElem au⟩;obtain ⟨g1,g2⟩:=hw.own o (mem_of_getElem? ah);obtain ⟨q,rfl⟩:∃ q:Nat,o=q:=⟨o.toNat,by omega⟩;have ar:=c5 (j+1);rw [Uv w m _ ah,map_append,← c5] at ar;have lC:=fc j;have U:=uw j q ah ag;refine bW ?_;refine ae.cond C (fun av=>?_) (fun av=>?_)
 ·have ar:xs (j+1)=xs j++[.int .i64 (j:Int)]:=by rw [ar];simp [av,ba]
  have df:(xs (j+1)).length=(xs j).length+1:=by rw [ar];simp
  refine jS ?_;refine aa.gb ai I C C C C C C C en C C C C C C C C aY hi j9 ag (fun bT I=>?_);refine fG ?_;refine bn.mk (j+1,.own bT) I au kq um Da
 ·have ar:xs (j+1)=xs j:=by rw [ar];simp [av]
  refine gd ?_;refine bn.mk (j+1,own) I au kq Ak Da
abbrev hk (bk:List e2):af := .aA 2 (bk.map iS) .bb
abbrev kU (l:List (Int×Int)):af := .aA 2 (l.map fZ) .bb
theorem Uw (bk:List e2) (v:Int×Int):eA Tryz.prog (.func 206 [] [.bw [hk bk] 0]) [fZ v] (.bool (hC bk.length v)):=by
 have aq:=bA;refine eA.fk (first:=[]) (cap:=[.bw [hk bk] 0]) ?_;refine aR.bh ai Tryz.func206 C C fun s I=>?_
 have h:=LH v (bk.map iS).length;rw [show hC ((bk.map iS).length:Int) v=hC bk.length v by rw [length_map]] at h;unfold fZ at *;refine bW ?_;exact bl I
theorem Ux (bk:List e2) (v:Int×Int):eA Tryz.prog (.func 169 [] [.bw [hk bk] 0]) [fZ v] (.bool (hC bk.length v)):=by
 have aq:=bA;refine eA.fk (first:=[]) (cap:=[.bw [hk bk] 0]) ?_;refine aR.bh ai Tryz.func169 C C fun s I=>?_
 have h:=LH v (bk.map iS).length;rw [show hC ((bk.map iS).length:Int) v=hC bk.length v by rw [length_map]] at h;unfold fZ at *;refine bW ?_;exact bl I
theorem Uy (w:bx) (hw:gw w) (bk:List e2) (o:e2) (ah:o.bo.length<bz):eA Tryz.prog (.func 204 [] [.bw [gg w] 0,.bw [hk bk] 0]) [iS o] (.bool (zV w bk.length o)):=by
 have aq:=bA;refine eA.fk (first:=[]) (cap:=[.bw [gg w] 0,.bw [hk bk] 0]) ?_;refine aR.bh ai Tryz.func204 C C fun s I=>?_
 obtain ⟨cls,bo⟩:=o;have qH:=hw.kt;have U:aR Tryz.prog 199 [gg w,.int .i64 cls] (.bool (xT w cls)):=Ls w (Ax w) cls hw.kt;have al:=Lp 206 [] [.bw [hk bk] 0] (hC bk.length) bo ah (fun v _=>Uw bk v);have hm:zV w bk.length ⟨cls,bo⟩=(xT w cls&&(decide (bo.length=(nT w ((eN w.ps).getD cls.toNat 0)).length)&&bo.all (hC bk.length))):=rfl;rw [hm];unfold iS;cases aC:xT w cls with
 | false=>
  rw [aC] at U;unfold gg e4 at *;refine bW ?_;exact bl I
 | true=>
  rw [aC] at U;unfold xT at aC;simp only [and_eq_true,decide_eq_true_eq] at aC;obtain ⟨c,rfl⟩:∃ c:Nat,cls=c:=⟨cls.toNat,by omega⟩;have ad:=LI w hw c ag;unfold bf at ad;unfold gg e4 at *
  repeat' (first|(with_reducible first|apply ae.seq|apply b5|apply ae.ret)|refine c0 C ?_|refine aN.nil ?_|refine aN.step C ?_|refine ae.lK ai mixed C ?_|refine aN.eg C C C C C cu ?_|(fail_if_success refine aN.same true C ?_);(fail_if_success refine aN.same false C ?_);refine aN.gV C C (fun h=>?_) (fun h=>?_))
  all_goals (refine Fin.cx I C (aS.of_eq (congrArg af.bool ?_));clear I U ad al;rw [show ((c:Nat):Int).toNat=c from toNat_natCast c];simp only [length_map] at *;grind)
theorem Uz (w:bx) (hw:gw w) (bk:List e2) (aB:bk.length<bz) (ah:∀ o∈bk,o.bo.length<bz):aR Tryz.prog 167 [gg w,hk bk] (.bool (zW w bk)):=by
 have aq:=bA;refine aR.bh ai Tryz.func167 C C fun s I=>?_
 have U:=TQ 204 [] [.bw [gg w] 0,.bw [hk bk] 0] (zV w bk.length) bk aB (fun o h=>Uy w hw bk o (ah o h));unfold hk gg e4 at *
 repeat' (first|(with_reducible first|apply ae.seq|apply b5|apply ae.ret)|refine c0 C ?_|refine ae.cH ?_|refine aa.nil ?_|refine cE C ?_|refine aa.skip C C C ?_|refine aa.eg C C C C C cu ?_|(fail_if_success refine aa.same true C ?_);(fail_if_success refine aa.same false C ?_);refine aa.gV C C (fun h=>?_) (fun h=>?_))
 all_goals (refine Fin.cx I C (aS.of_eq (congrArg af.bool ?_));clear I U;simp only [zW,length_map] at *;grind)
theorem UA (w:bx) (hw:gw w) (bk:List e2) (args:List (Int×Int)) (aB:bk.length<bz) (ah:∀ o∈bk,o.bo.length<bz) (a7:args.length<bz):aR Tryz.prog 123 [gg w,hk bk,kU args] (.bool (oK w bk args)):=by
 have aq:=bA;refine aR.bh ai Tryz.func123 C C fun s I=>?_
 have U:=Uz w hw bk aB ah;have ad:=Lp 169 [] [.bw [hk bk] 0] (hC bk.length) args a7 (fun v _=>Ux bk v);unfold hk kU gg e4 at *
 repeat' (first|(with_reducible first|apply ae.seq|apply b5|apply ae.ret)|refine c0 C ?_|refine ae.cH ?_|refine aa.nil ?_|refine cE C ?_|refine aa.skip C C C ?_|refine aa.eg C C C C C cu ?_|(fail_if_success refine aa.same true C ?_);(fail_if_success refine aa.same false C ?_);refine aa.gV C C (fun h=>?_) (fun h=>?_))
 all_goals (refine Fin.cx I C (aS.of_eq (congrArg af.bool ?_));clear I U ad;simp only [oK,length_map] at *;grind)
theorem UB (w:bx):∀ (n:Nat) (f:ak),f.size≤n→n<bz→gx w f=true→aR Tryz.prog 124 [f.bK] (.int .i64 (lg f)):=by
 have aq:=bA;intro n
 induction n with
 | zero=>intro x h;have:=x.size_eq;omega
 | succ n a1=>
  intro f az iY aw;refine aR.bh ai Tryz.func124 C C fun s I=>?_
  have iB:=f.size_eq;have hlen:=ak.pz f.kids;have hD:=GB f;rw [nh,and_eq_true] at aw;rw [ak.bX] at hD ⊢;rw [CW];have a7:f.cW=true→IntKind.wrap .i64 (f.arg+1)=f.arg+1:=fun aB=>by
   have az:=aw.1;simp only [hX,aB,if_true,and_eq_true,decide_eq_true_eq] at az;exact ek ag ag
  cases aB:f.cW with
  | true=>
   rw [aB] at hD;refine bW ?_;refine ae.b4 [12,13] C I (σ:=Nat) (fun j=>[(14,.int .i64 (j:Int)),(3,.int .i64 (iR (if f.cW then f.arg+1 else 0) (f.kids.take j)))]) (fun _=>[]) (fun j=>j≤f.kids.length) (fun j=>f.kids.length-j) 0 (zero_le _) (by repeat (first|exact trivial|refine ⟨⟨_,rfl,aL⟩,?_⟩|refine ⟨⟨_,rfl,aS.of_eq uo⟩,?_⟩)) aX ?_;rintro j aK I;refine b7 ?_;refine ae.cond C (fun au=>?_) (fun aV=>?_);rotate_left
   ·have aV:j=f.kids.length:=by simp at aV;omega
    subst aV;rw [take_length];refine dN ?_;exact Fin.cx I C (aS.of_eq (by rw [aB]))
   have au:j<f.kids.length:=by simpa using au
   obtain ⟨k,aE,eC⟩:=b1 (f:=ak.bK) au;have hm:=ak.hV (mem_of_getElem? aE);have aC:=a1 k ag ag (ka aw.2 (mem_of_getElem? aE));rw [ak.bX] at eC aC
   repeat (first|(refine J5 I ?_;clear I;intro I)|refine aa.dY ai I rfl rfl rfl rfl rfl rfl rfl (fun cJ I=>?_)|(refine pw ?_))
   refine bn.mk (j+1) I au (by repeat (first|exact trivial|refine ⟨⟨_,rfl,aL⟩,?_⟩|refine ⟨⟨_,rfl,aS.of_eq uk⟩,?_⟩)) aX nY
  | false=>
   rw [aB] at hD;refine bW ?_;refine ae.b4 [12,13] C I (σ:=Nat) (fun j=>[(14,.int .i64 (j:Int)),(3,.int .i64 (iR (if f.cW then f.arg+1 else 0) (f.kids.take j)))]) (fun _=>[]) (fun j=>j≤f.kids.length) (fun j=>f.kids.length-j) 0 (zero_le _) (by repeat (first|exact trivial|refine ⟨⟨_,rfl,aL⟩,?_⟩|refine ⟨⟨_,rfl,aS.of_eq uo⟩,?_⟩)) aX ?_;rintro j aK I;refine b7 ?_;refine ae.cond C (fun au=>?_) (fun aV=>?_);rotate_left
   ·have aV:j=f.kids.length:=by simp at aV;omega
    subst aV;rw [take_length];refine dN ?_;exact Fin.cx I C (aS.of_eq (by rw [aB]))
   have au:j<f.kids.length:=by simpa using au
   obtain ⟨k,aE,eC⟩:=b1 (f:=ak.bK) au;have hm:=ak.hV (mem_of_getElem? aE);have aC:=a1 k ag ag (ka aw.2 (mem_of_getElem? aE));rw [ak.bX] at eC aC
   repeat (first|(refine J5 I ?_;clear I;intro I)|refine aa.dY ai I rfl rfl rfl rfl rfl rfl rfl (fun cJ I=>?_)|(refine pw ?_))
   refine bn.mk (j+1) I au (by repeat (first|exact trivial|refine ⟨⟨_,rfl,aL⟩,?_⟩|refine ⟨⟨_,rfl,aS.of_eq uk⟩,?_⟩)) aX nY
def s7:af := .iface 298 (.agg [])
theorem UC (_u:Unit):aR Tryz.prog 223 [.bool true] (.cp []):=by
 have aq:=bA;refine aR.bh ai Tryz.func223 C C fun s I=>?_
 refine bC ?_;exact bl I
theorem UD (_u:Unit):bE Tryz.prog 223 [.bool false] ([]) (fun o K=>o = .panic s7∧K=[]):=by
 have aq:=bA;refine bE.bh ai Tryz.func223 C C fun s I=>?_
 refine bC ?_;refine aa.panic C C C C ?_;exact Fin.e9 I aL .nil ⟨rfl,rfl⟩
theorem LJ (n:Int):aR Tryz.prog 257 [.int .i64 n] (.bool (kr n)):=by
 have aq:=bA;refine aR.bh ai Tryz.func257 C C fun s I=>?_
 repeat' (first|(with_reducible first|apply ae.seq|apply b5|apply ae.ret)|refine c0 C ?_|refine ae.cH ?_|refine aa.nil ?_|refine cE C ?_|refine aa.skip C C C ?_|(fail_if_success refine aa.same true C ?_);(fail_if_success refine aa.same false C ?_);refine aa.gV C C (fun h=>?_) (fun h=>?_))
 all_goals (refine Fin.cx I C (aS.of_eq (congrArg af.bool ?_));clear I;unfold kr;grind)
theorem UE (c:fJ) (aC:c.parents.length<bz):eA Tryz.prog (.func 232 [] []) [jc c] (bf c.parents):=by
 have aq:=bA;refine eA.fk (first:=[]) (cap:=[]) ?_;refine aR.bh ai Tryz.func232 C C fun s I=>?_
 have U:=Ao c.parents .bb aC;unfold jc mN bf at *;refine bW ?_;exact bl I
theorem UF (cs:List fJ) (aB:cs.length<bz) (hy:∀ c∈cs,c.parents.length<bz):aR Tryz.prog 231 [.aA 3 (cs.map jc) .bb,.func 232 [] []] (c9 (cs.map fJ.parents)):=by
 have aq:=bA;refine aR.bh ai Tryz.func231 C C fun s I=>?_
 obtain ⟨xs,c5⟩:∃ xs:Nat→List af,∀ j,xs j=((cs.take j).map fJ.parents).map bf:=⟨_,fun _=>rfl⟩;have bt:xs 0=[]:=by rw [c5];rfl
 have fc:∀ j,(xs j).length≤cs.length:=fun j=>by
  rw [c5,length_map,length_map];exact length_take_le' _ _
 unfold c9;refine gm ?_;refine ae.h7 I 23 1 0 fun I=>?_
 refine ae.b4 [1,8,9] C I (σ:=Nat×bL) (fun q=>[(10,.int .i64 (q.1:Int)),(5,.aA 1 (xs q.1) q.2)]) (fun q=>[(q.2,.row 23 1 (xs q.1).length)]) (fun q=>q.1≤cs.length) (fun q=>cs.length-q.1) (0,.nil) (zero_le _) ⟨⟨_,rfl,aL⟩,⟨_,rfl,by rw [bt];exact aS.nil gW⟩,trivial⟩ wh ?_;rintro ⟨j,own⟩ aK I;simp only at aK I ⊢;refine b7 ?_;refine ae.cond C (fun au=>?_) (fun aV=>?_);rotate_left;have aV:j=cs.length:=by
  have:cs.length≤j:=by simpa using aV
  omega
 ·subst aV
  have he:xs cs.length=(cs.map fJ.parents).map bf:=by rw [c5,take_length]
  rw [he];have LK:=TM ((cs.map fJ.parents).map bf) own;refine c1 ?_;exact Fin.cx I C aS.bb
 have au:j<cs.length:=by simpa using au
 obtain ⟨c,ay,da⟩:=b1 (f:=jc) au;have ar:=c5 (j+1);rw [iA ay,map_append,map_append,← c5] at ar;have ar:xs (j+1)=xs j++[.aA 1 (c.parents.map ba) .bb]:=ar;have df:(xs (j+1)).length=(xs j).length+1:=by rw [ar];simp
 have lC:=fc j;have qI:=UE c (hy c (mem_of_getElem? ay));unfold jc mN bf at *;refine ej ?_;refine aa.gb ai I C C C C C C C en C C C C C C C C aY hi px ag (fun bT I=>?_);refine fG ?_;refine bn.mk (j+1,.own bT) I au kq um (by show cs.length-(j+1)<cs.length-j;omega)
structure fj (p:bP):Prop where
 cls:p.ck.length<bz
 each:∀ c∈p.ck,c.parents.length<bz∧c.bo.length<bz∧c.inits.length<bz
 d':p.d'.length<bz
 Ay:p.methods.length<bz
 facts:∀ m∈p.methods,3*m.fact.size+3<bz
 nodes:p.nodes.length<bz
 kids:∀ x∈p.nodes,x.kids.length<bz
theorem LL (p:bP) (aD:fj p):aR Tryz.prog 188 [cA p] (c9 (gY p)):=by
 have aq:=bA;refine aR.bh ai Tryz.func188 C C fun s I=>?_
 have U:=UF p.ck aD.cls (fun c h=>(aD.each c h).1);unfold cA cL;unfold c9 gY at *;refine bW ?_;exact bl I
theorem LM (f:ak):aR Tryz.prog 134 [f.bK] (.bool f.cW):=by
 have aq:=bA;refine aR.bh ai Tryz.func134 C C fun s I=>?_
 rw [ak.bX]
 repeat' (first|(with_reducible first|apply ae.seq|apply b5|apply ae.ret)|refine c0 C ?_|refine ae.cH ?_|refine aa.nil ?_|refine cE C ?_|refine aa.skip C C C ?_|(fail_if_success refine aa.same true C ?_);(fail_if_success refine aa.same false C ?_);refine aa.gV C C (fun h=>?_) (fun h=>?_))
 all_goals (refine Fin.cx I C (aS.of_eq (congrArg af.bool ?_));clear I;unfold ak.cW;grind)
theorem UG (w:bx) (c:Int) (hw:w.ps.length≤60):aR Tryz.prog 132 [fm w,.int .i64 c] (.bool (decide (c≥0)&&decide (c<3+(w.ps.length:Int)))):=by
 have aq:=bA;refine aR.bh ai Tryz.func132 C C fun s I=>?_
 unfold fm fr c9 bf;have dG:IntKind.wrap .i64 (3+((w.ps.map bf).length:Int))=3+(w.ps.length:Int):=by rw [length_map,ek ag ag]
 unfold bf at dG
 repeat' (first|(with_reducible first|apply ae.seq|apply b5|apply ae.ret)|refine c0 C ?_|refine ae.cH ?_|refine aa.nil ?_|refine cE C ?_|refine aa.skip C C C ?_|(fail_if_success refine aa.same true C ?_);(fail_if_success refine aa.same false C ?_);refine aa.gV C C (fun h=>?_) (fun h=>?_))
 all_goals exact Fin.cx I C (aS.of_eq rF)
theorem UH (w:bx) (l:List Int) (aB:l.length<bz):aR Tryz.prog 133 [fm w,bf l] (.bool (l.all (fun c=>decide (c≥0)&&decide (c<(w.owner.length:Int)))&&decide (l.length≤2))):=by
 have aq:=bA;refine aR.bh ai Tryz.func133 C C fun s I=>?_
 unfold fm fr c9 bf;refine gm ?_;refine ae.b4 [0,1,2,7,8] C I (σ:=Nat) (fun j=>[(9,.int .i64 (j:Int))]) (fun _=>[]) (fun j=>j≤l.length∧l.all (fun c=>decide (c≥0)&&decide (c<(w.owner.length:Int)))=(l.drop j).all (fun c=>decide (c≥0)&&decide (c<(w.owner.length:Int)))) (fun j=>l.length-j) 0 ⟨zero_le _,rfl⟩ (cq C) aX ?_;rintro j ⟨aK,an⟩ I
 try simp only at aK an I ⊢
 refine b7 ?_;refine ae.cond C (fun au=>?_) (fun aV=>?_);rotate_left
 ·have aV:j=l.length:=by simp at aV;omega
  rw [ep ag,all_nil] at an;rw [an,Bool.true_and];refine dN ?_;exact Fin.cx I C (aS.of_eq rF)
 have au:j<l.length:=by simpa using au
 obtain ⟨x,ab,bJ⟩:=b1 (f:=ba) au;rw [drop_cons ab,all_cons] at an;unfold ba at bJ;refine dF ?_;cases U:decide (x≥0) with
 | false=>
  rw [U,Bool.false_and,Bool.false_and] at an;rw [an,Bool.false_and];refine aa.de 15 C (by simp at U ⊢;omega) ?_;refine e1 ?_;exact bl I
 | true=>
 rw [U,Bool.true_and] at an;refine aa.cY 15 C (by simp at U ⊢;omega) ?_;refine fH ?_;refine ae.cond C (fun ad=>?_) (fun ad=>?_)
 ·rw [show decide (x<(w.owner.length:Int))=false by simp at ad ⊢;omega,Bool.false_and] at an
  rw [an,Bool.false_and];refine ja ?_;exact bl I
 rw [show decide (x<(w.owner.length:Int))=true by simp at ad ⊢;omega,Bool.true_and] at an;refine gd ?_;exact bn.mk (j+1) I ⟨au,an⟩ ca aX mO
theorem UI:∀ (n:Nat) (f:ak) (fK:Int),f.size≤n→n<bz → -bz≤fK→fK≤bz→aR Tryz.prog 131 [f.bK,.int .i64 fK] (.int .i64 (mK f fK)):=by
 have aq:=bA;intro n
 induction n with
 | zero=>intro f fK h;have:=f.size_eq;omega
 | succ n a1=>
 intro f fK az iY qf l8;have iB:=f.size_eq;have hlen:=ak.pz f.kids;have LK:=ue f.kids;refine aR.bh ai Tryz.func131 C C fun s I=>?_
 rw [ak.bX];refine gm ?_;refine ae.b4 [1,2] C I (σ:=Nat×Int) (fun q=>[(6,.int .i64 (q.1:Int)),(5,.int .i64 q.2)]) (fun _=>[]) (fun q=>q.1≤f.kids.length∧oQ f.kids fK 1=oQ (f.kids.drop q.1) fK q.2∧1≤q.2∧q.2+ku (f.kids.drop q.1)≤1+ku f.kids) (fun q=>f.kids.length-q.1) (0,1) ⟨zero_le _,rfl,Int.le_refl _,Int.le_refl _⟩ (cq C) aX ?_;rintro ⟨j,m⟩ ⟨aK,an,hm,aC⟩ I
 try simp only at aK an hm aC I ⊢
 have UJ:=ue (f.kids.drop j);refine jS ?_;by_cases au:j<f.kids.length;rotate_left
 ·rw [ep ag,oQ] at an
  refine aa.cY 12 C cG ?_;rw [KA,an];refine bC ?_;exact bl I
 refine aa.de 12 C cG ?_;obtain ⟨x,ab,bJ⟩:=b1 (f:=ak.bK) au;rw [drop_cons ab,oQ] at an;rw [drop_cons ab,ku] at aC;rw [drop_cons ab,ku] at UJ;refine fH ?_;refine ae.cond C (fun ad=>?_) (fun ad=>?_);rotate_left
 ·rw [if_neg p2] at an
  rw [KA,an];refine dN ?_;exact bl I
 have ad:m≤fK:=by simpa using ad
 rw [if_pos ad] at an;have fW:=ak.hV (mem_of_getElem? ab);have GG:=C4 x;have x9:=(F4 x (fK-m)).2.2;have abc:=ue (f.kids.drop (j+1));have jo:=a1 x (fK-m) ag ag ag ag;rw [ak.bX] at jo bJ;rw [show fK-m=IntKind.wrap .i64 (fK-m) by rw [ek ag ag]] at jo;refine bW ?_;exact bn.mk (j+1,m+mK x (fK-m)) I ⟨au,an,by show 1≤m+mK x (fK-m);omega,by show m+mK x (fK-m)+ku (f.kids.drop (j+1))≤_;omega⟩ (by repeat (first|exact trivial|refine ⟨⟨_,rfl,aL⟩,?_⟩|refine ⟨⟨_,rfl,aS.of_eq (by (first|rw [jD ag]|(rw [ek FG FG,ek ag ag])))⟩,?_⟩)) aX nY
theorem UK (f:ak) (a6:f.size<bz):aR Tryz.prog 85 [f.bK] (.int .i64 (mK f 24)):=by
 have aq:=bA;refine aR.bh ai Tryz.func85 C C fun s I=>?_
 have U:=UI f.size f 24 (Nat.le_refl _) a6 ag ag;rw [ak.bX] at *;refine bW ?_;exact bl I
theorem UL:∀ (n:Nat) (f:ak),f.size≤n→n<bz→aR Tryz.prog 86 [f.bK] (.int .i64 (mL f)):=by
 have aq:=bA;intro n
 induction n with
 | zero=>intro f h;have:=f.size_eq;omega
 | succ n a1=>
 intro f az iY;have iB:=f.size_eq;have hlen:=ak.pz f.kids;have LN:=F6 f;refine aR.bh ai Tryz.func86 C C fun s I=>?_
 rw [S2] at LN ⊢;rw [ak.bX];refine gm ?_;refine ae.b4 [1,7,8] C I (σ:=Nat×Int) (fun q=>[(9,.int .i64 (q.1:Int)),(3,.int .i64 q.2)]) (fun _=>[]) (fun q=>q.1≤f.kids.length∧lO 0 f.kids=lO q.2 (f.kids.drop q.1)∧0≤q.2) (fun q=>f.kids.length-q.1) (0,0) ⟨zero_le _,rfl,Int.le_refl _⟩ (cq C) aX ?_;rintro ⟨j,m⟩ ⟨aK,an,hm⟩ I
 try simp only at aK an hm I ⊢
 refine b7 ?_;refine ae.cond C (fun au=>?_) (fun aV=>?_);rotate_left
 ·have aV:j=f.kids.length:=by simp at aV;omega
  rw [ep ag,lO] at an;rw [an] at LN ⊢;refine dN ?_;exact Fin.cx I C (aS.of_eq (by rw [ek ag ag]))
 have au:j<f.kids.length:=by simpa using au
 obtain ⟨x,ab,bJ⟩:=b1 (f:=ak.bK) au;rw [drop_cons ab,lO] at an;have fW:=ak.hV (mem_of_getElem? ab);have GG:=F6 x;have jo:=a1 x ag ag;rw [ak.bX] at jo bJ;refine ej ?_;exact bn.mk (j+1,max m (mL x)) I ⟨au,an,by show 0≤max m (mL x);omega⟩ (by repeat (first|exact trivial|refine ⟨⟨_,rfl,aL⟩,?_⟩|refine ⟨⟨_,rfl,aS.of_eq (by (first|rw [jD ag]|(congr 1;split<;>omega)))⟩,?_⟩)) aX nY
theorem UM (w:bx):∀ (n:Nat) (f:ak),f.size≤n→n<bz→gx w f=true→aR Tryz.prog 137 [f.bK] (.int .i64 (lg f)):=by
 have aq:=bA;intro n
 induction n with
 | zero=>intro x h;have:=x.size_eq;omega
 | succ n a1=>
  intro f az iY aw;refine aR.bh ai Tryz.func137 C C fun s I=>?_
  have iB:=f.size_eq;have hlen:=ak.pz f.kids;have hD:=LM f;rw [nh,and_eq_true] at aw;rw [ak.bX] at hD ⊢;rw [CW];have a7:f.cW=true→IntKind.wrap .i64 (f.arg+1)=f.arg+1:=fun aB=>by
   have az:=aw.1;simp only [hX,aB,if_true,and_eq_true,decide_eq_true_eq] at az;exact ek ag ag
  cases aB:f.cW with
  | true=>
   rw [aB] at hD;refine bW ?_;refine ae.b4 [1,12,13] C I (σ:=Nat) (fun j=>[(14,.int .i64 (j:Int)),(3,.int .i64 (iR (if f.cW then f.arg+1 else 0) (f.kids.take j)))]) (fun _=>[]) (fun j=>j≤f.kids.length) (fun j=>f.kids.length-j) 0 (zero_le _) (by repeat (first|exact trivial|refine ⟨⟨_,rfl,aL⟩,?_⟩|refine ⟨⟨_,rfl,aS.of_eq uo⟩,?_⟩)) aX ?_;rintro j aK I;refine b7 ?_;refine ae.cond C (fun au=>?_) (fun aV=>?_);rotate_left
   ·have aV:j=f.kids.length:=by simp at aV;omega
    subst aV;rw [take_length];refine dN ?_;exact Fin.cx I C (aS.of_eq (by rw [aB]))
   have au:j<f.kids.length:=by simpa using au
   obtain ⟨k,aE,eC⟩:=b1 (f:=ak.bK) au;have hm:=ak.hV (mem_of_getElem? aE);have aC:=a1 k ag ag (ka aw.2 (mem_of_getElem? aE));rw [ak.bX] at eC aC;refine ej ?_;refine bn.mk (j+1) I au (by repeat (first|exact trivial|refine ⟨⟨_,rfl,aL⟩,?_⟩|refine ⟨⟨_,rfl,aS.of_eq uk⟩,?_⟩)) aX nY
  | false=>
   rw [aB] at hD;refine bW ?_;refine ae.b4 [1,12,13] C I (σ:=Nat) (fun j=>[(14,.int .i64 (j:Int)),(3,.int .i64 (iR (if f.cW then f.arg+1 else 0) (f.kids.take j)))]) (fun _=>[]) (fun j=>j≤f.kids.length) (fun j=>f.kids.length-j) 0 (zero_le _) (by repeat (first|exact trivial|refine ⟨⟨_,rfl,aL⟩,?_⟩|refine ⟨⟨_,rfl,aS.of_eq uo⟩,?_⟩)) aX ?_;rintro j aK I;refine b7 ?_;refine ae.cond C (fun au=>?_) (fun aV=>?_);rotate_left
   ·have aV:j=f.kids.length:=by simp at aV;omega
    subst aV;rw [take_length];refine dN ?_;exact Fin.cx I C (aS.of_eq (by rw [aB]))
   have au:j<f.kids.length:=by simpa using au
   obtain ⟨k,aE,eC⟩:=b1 (f:=ak.bK) au;have hm:=ak.hV (mem_of_getElem? aE);have aC:=a1 k ag ag (ka aw.2 (mem_of_getElem? aE));rw [ak.bX] at eC aC;refine ej ?_;refine bn.mk (j+1) I au (by repeat (first|exact trivial|refine ⟨⟨_,rfl,aL⟩,?_⟩|refine ⟨⟨_,rfl,aS.of_eq uk⟩,?_⟩)) aX nY
def wo (w:bx) (f:ak):Bool:=
 if f.op=2 then decide (f.n=0)&&(decide (f.cls≥0)&&decide (f.cls<3+(w.ps.length:Int)))
 else if f.op=3∨f.op=4 then decide (f.cls=0)&&kr f.n
 else decide (f.op=1∨5≤f.op∧f.op≤7)
def ux (w:bx) (f:ak):Bool:=
 decide (f.kids.length=pA f.op)&&(decide (f.arg≥0)&&(decide (f.arg<3)&&(f.path.all (fun c=>decide (c≥0)&&decide (c<(w.owner.length:Int)))&&(decide (f.path.length≤2) &&
  (f.cW||(decide (f.arg=0)&&(decide (f.path.length=0)&&(decide (f.cls=0)&&decide (f.n=0)))))))))
theorem UN (w:bx) (f:ak):hX w f=(wo w f&&ux w f):=by
 rw [Bool.eq_iff_iff];unfold hX wo ux ak.cW kr;simp only [and_eq_true,Bool.or_eq_true,decide_eq_true_eq,all_eq_true];grind
theorem UO (w:bx) (hw:w.ps.length≤60):∀ (n:Nat) (f:ak),f.size≤n→n<bz→aR Tryz.prog 87 [fm w,f.bK] (.bool (gx w f)):=by
  have aq:=bA;intro n
  induction n with
  | zero=>intro x h;have:=x.size_eq;omega
  | succ n a1=>
    intro f az iY;refine aR.bh ai Tryz.func87 C C fun s I=>?_
    have iB:=f.size_eq;have hlen:=ak.pz f.kids;have ad:=LM f;have al:=UH w f.path ag;have bd:=UG w f.cls hw;rw [nh,UN];rw [ak.bX] at ad ⊢;unfold fm fr c9 bf at al bd ⊢;refine ae.seq ?_
    (repeat (first|with_reducible apply b5|refine c0 C ?_|refine ae.cH ?_|refine aa.nil ?_|refine cE C ?_));refine ae.seq ?_
    (repeat (first|with_reducible apply b5|refine c0 C ?_|refine ae.cH ?_|refine aa.nil ?_|refine cE C ?_));refine ae.seq (ae.SJ (σ:=Unit) (fun _=>[(2,.bw [.aA 1 (w.ps.map fun l => .aA 1 (l.map ba) .bb) .bb,.aA 1 (w.owner.map ba) .bb] 0),(3,.bw f.cells 0),(5,.int .i64 (pA f.op))]) (fun _=>[]) (fun _=>wo w f=true) ?_ ?_)
    · repeat' (first|(with_reducible first|apply ae.seq|apply b5|apply fz|apply hg|apply ae.ret|apply ae.skip|apply ae.block)|refine c0 C ?_|refine ae.cH ?_|refine aa.nil ?_|refine ae.ft C ?_|refine cE C ?_|refine aa.skip C C C ?_|refine aa.eg C C C C C cu ?_|(fail_if_success refine aa.same true C ?_);(fail_if_success refine aa.same false C ?_);refine aa.gV C C (fun h=>?_) (fun h=>?_)|refine ae.cond C (fun h=>?_) (fun h=>?_))
      all_goals first
        | (have key:wo w f=false:=by
            clear a1 I ad al bd az iB
            unfold wo kr
            grind
           exact Fin.cx I C (aS.of_eq (by rw [key];rfl)))
        | (have key:wo w f=true:=by
            clear a1 I ad al bd az iB
            unfold wo kr
            grind
           exact CN.mk () I key (by repeat (first|exact trivial|refine ⟨⟨_,rfl,aL⟩,?_⟩|refine ⟨⟨_,rfl,aS.of_eq (by (congr 1;clear a1 I ad al bd az iB;unfold pA;grind))⟩,?_⟩)) .nil)
    rintro _ ah I;unfold ak.cells;rw [ah,Bool.true_and]
    have bg:∀ b,f.cW=b→ux w f=(decide (f.kids.length=pA f.op)&&(decide (f.arg≥0)&&(decide (f.arg<3)&&(f.path.all (fun c=>decide (c≥0)&&decide (c<(w.owner.length:Int)))&&(decide (f.path.length≤2) &&
      (b||(decide (f.arg=0)&&(decide (f.path.length=0)&&(decide (f.cls=0)&&decide (f.n=0)))))))))):=fun b aq=>(by unfold ux;rw [aq])
    cases aB:f.cW with
    | true=>
      rw [aB] at ad;have bg:=bg _ aB
      repeat' (first|(with_reducible first|apply ae.seq|apply b5|apply fF|apply ae.ret|apply ae.skip|apply ae.block)|refine c0 C ?_|refine ae.cH ?_|refine aa.nil ?_|refine ae.ft C ?_|refine ae.gP C ?_|refine cE C ?_|refine aa.skip C C C ?_|refine aa.eg C C C C C cu ?_|(fail_if_success refine aa.same true C ?_);(fail_if_success refine aa.same false C ?_);refine aa.gV C C (fun h=>?_) (fun h=>?_)|refine ae.cond C (fun h=>?_) (fun h=>?_))
      all_goals first
        | (have key:ux w f=false:=by
            clear a1 I ad al bd az iB
            rw [bg]
            simp only [length_map] at *
            grind
           exact Fin.cx I C (aS.of_eq (by rw [key];rfl)))
        | skip
      · have key:ux w f=true:=by
          clear a1 I ad al bd az iB;rw [bg];simp only [length_map] at *;grind
        rw [key,Bool.true_and];clear key;skip;refine ae.b4 [2,3,92,93] C I (σ:=Nat) (fun j=>[(94,.int .i64 (j:Int))]) (fun _=>[]) (fun j=>j≤f.kids.length∧jU w f.kids=jU w (f.kids.drop j)) (fun j=>f.kids.length-j) 0 ⟨zero_le _,rfl⟩ (cq C) aX ?_;rintro j ⟨aK,an⟩ I
        try simp only at aK an I ⊢
        refine b7 ?_;refine ae.cond C (fun au=>?_) (fun aV=>?_);rotate_left
        · have aV:j=f.kids.length:=by simp at aV;omega
          rw [ep ag,jU] at an;rw [an];refine dN ?_;exact bl I
        have au:j<f.kids.length:=by simpa using au
        obtain ⟨x,ab,bJ⟩:=b1 (f:=ak.bK) au;rw [drop_cons ab,jU] at an;have fW:=ak.hV (mem_of_getElem? ab);have jo:=a1 x ag ag;rw [ak.bX] at jo bJ;unfold fm fr c9 bf at jo;cases aw:gx w x with
        | false=>
          rw [aw,Bool.false_and] at an;rw [aw] at jo;rw [an];refine ej ?_;exact bl I
        | true=>
          rw [aw,Bool.true_and] at an;rw [aw] at jo;refine ej ?_;exact bn.mk (j+1) I ⟨au,an⟩ ca aX nY
    | false=>
      rw [aB] at ad;have bg:=bg _ aB
      repeat' (first|(with_reducible first|apply ae.seq|apply b5|apply fF|apply ae.ret|apply ae.skip|apply ae.block)|refine c0 C ?_|refine ae.cH ?_|refine aa.nil ?_|refine ae.ft C ?_|refine cE C ?_|refine aa.skip C C C ?_|refine aa.eg C C C C C cu ?_|(fail_if_success refine aa.same true C ?_);(fail_if_success refine aa.same false C ?_);refine aa.gV C C (fun h=>?_) (fun h=>?_)|refine ae.cond C (fun h=>?_) (fun h=>?_))
      all_goals first
        | (have key:ux w f=false:=by
            clear a1 I ad al bd az iB
            rw [bg]
            simp only [length_map] at *
            grind
           exact Fin.cx I C (aS.of_eq (by rw [key];rfl)))
        | skip
      · have key:ux w f=true:=by
          clear a1 I ad al bd az iB;rw [bg];simp only [length_map] at *;grind
        rw [key,Bool.true_and];clear key;skip;refine ae.b4 [2,3,92,93] C I (σ:=Nat) (fun j=>[(94,.int .i64 (j:Int))]) (fun _=>[]) (fun j=>j≤f.kids.length∧jU w f.kids=jU w (f.kids.drop j)) (fun j=>f.kids.length-j) 0 ⟨zero_le _,rfl⟩ (cq C) aX ?_;rintro j ⟨aK,an⟩ I
        try simp only at aK an I ⊢
        refine b7 ?_;refine ae.cond C (fun au=>?_) (fun aV=>?_);rotate_left
        · have aV:j=f.kids.length:=by simp at aV;omega
          rw [ep ag,jU] at an;rw [an];refine dN ?_;exact bl I
        have au:j<f.kids.length:=by simpa using au
        obtain ⟨x,ab,bJ⟩:=b1 (f:=ak.bK) au;rw [drop_cons ab,jU] at an;have fW:=ak.hV (mem_of_getElem? ab);have jo:=a1 x ag ag;rw [ak.bX] at jo bJ;unfold fm fr c9 bf at jo;cases aw:gx w x with
        | false=>
          rw [aw,Bool.false_and] at an;rw [aw] at jo;rw [an];refine ej ?_;exact bl I
        | true=>
          rw [aw,Bool.true_and] at an;rw [aw] at jo;refine ej ?_;exact bn.mk (j+1) I ⟨au,an⟩ ca aX nY
theorem UP (w:bx) (hw:w.ps.length≤60) (f:ak) (a6:f.size<bz):aR Tryz.prog 35 [fm w,f.bK] (.bool (iz w f)):=by
 have aq:=bA;refine aR.bh ai Tryz.func35 C C fun s I=>?_
 have U:=UK f a6;have ad:=UL f.size f (Nat.le_refl _) a6;have al:=UO w hw f.size f (Nat.le_refl _) a6;rw [← S3];rw [ak.bX] at *;unfold fm fr c9 bf at *
 repeat' (first|(with_reducible first|apply ae.seq|apply b5|apply ae.ret)|refine c0 C ?_|refine ae.cH ?_|refine aa.nil ?_|refine cE C ?_|refine aa.skip C C C ?_|refine aa.eg C C C C C cu ?_|(fail_if_success refine aa.same true C ?_);(fail_if_success refine aa.same false C ?_);refine aa.gV C C (fun h=>?_) (fun h=>?_))
 all_goals (refine Fin.cx I C (aS.of_eq (congrArg af.bool ?_));clear I U ad al;grind)
def hO (n:Nat) (f:Nat→Bool):List af:=(range n).map fun k => .bool (f k)
theorem nr (n:Nat) (f:Nat→Bool):(hO n f).length=n:=by unfold hO;simp
theorem s8 {n:Nat} (f:Nat→Bool) {k:Nat} (h:k<n):(hO n f)[k]? = some (.bool (f k)):=by
 unfold hO;rw [getElem?_map,List.getElem?_range h];rfl
theorem Az {n p:Nat} {b:Bool} {g g':Nat→Bool} (h:∀ k,g' k=if k=p then b else g k):(hO n g).set p (.bool b)=hO n g':=by
 refine List.ext_getElem? fun i=>?_
 rw [List.getElem?_set,nr];by_cases aQ:i<n
 ·rw [s8 _ aQ,s8 _ aQ,h]
  by_cases e:p=i
  ·subst e;rw [if_pos C,if_pos aQ,if_pos C]
  ·rw [if_neg e,if_neg (fun h=>e h.symm)]
 ·rw [getElem?_eq_none (by rw [nr];omega),getElem?_eq_none (by rw [nr];omega)]
  split
  ·split<;>first|omega|rfl
  ·rfl
theorem GH (n:Nat):replicate n (af.bool false)=hO n (fun _=>false):=by
 unfold hO;rw [List.map_const',List.length_range]
theorem UQ (n:Nat) (f:Nat→Bool):(hO n f).all e7=true:=by
 unfold hO;rw [List.all_map];simp [Function.comp_def,e7]
theorem GI {l:List Int} {j:Nat} {p:Int} (h:l[j]? = some p) (k:Int):(l.take (j+1)).contains k=((l.take j).contains k||k==p):=by
 rw [iA h,List.contains_append,List.contains_cons,List.contains_nil,Bool.or_false]
theorem UR (w:bx) (hw:gw w) (c:Nat) (aC:c<3+w.ps.length):aR Tryz.prog 186 [fm w,.int .i64 (c:Int)] (.aA 1 (hO (3+w.ps.length) (v8 w c)) .bb):=by
 have aq:=bA;refine aR.bh ai Tryz.func186 C C fun s I=>?_
 have s9:=hw.kt;unfold fm fr c9 bf;have dG:IntKind.wrap .i64 (3+((w.ps.map fun l=>af.aA 1 (l.map ba) .bb).length:Int))=((3+w.ps.length:Nat):Int):=by rw [length_map,ek ag ag];push_cast;rfl
 refine dv ?_;refine aa.ui ai I (3+w.ps.length) C C C C C C C C C C (congrArg (fun z=>some (af.int .i64 z)) dG) (congrArg (fun z=>some (af.int .i64 z)) dG) (by show _*1≤_;omega) ag (fun b I=>?_);rw [GH] at I ⊢;refine hq ?_;refine aa.fi ai c C C C C C C C C C C aC ?_;refine aa.jX ai I (hO (3+w.ps.length) fun k=>decide (k=c)) C C C C C C C C C aY (by rw [nr];show c*1+1≤_;omega) (by rw [pD,mul_one];exact Az fun k=>by by_cases e:k=c<;>simp [e]) (fun I=>?_);refine bC ?_;refine ae.b4 [2,5] C I (σ:=Nat×(Nat→Bool)) (fun q=>[(6,.int .i64 (q.1:Int))]) (fun q=>[(.own b,.box 4 (hO (3+w.ps.length) q.2))]) (fun q=>q.1≤c∧v8 w c=hj w.ps (q.1-2) q.2) (fun q=>q.1) (c,fun k=>decide (k=c)) ⟨Nat.le_refl _,rfl⟩ (cq C) aX ?_;rintro ⟨q,f⟩ ⟨bq,an⟩ I
 try simp only at bq an I ⊢
 refine b7 ?_;refine ae.cond C (fun aV=>?_) (fun au=>?_);rotate_left
 ·have au:q<3:=by simp at au;omega
  rw [show q-2=0 by omega,hj] at an;refine ae.ub I 5 b (n:=3+w.ps.length) (cap:=3+w.ps.length) C .here (by rw [nr]) ag ag (by rw [List.take_of_length_le (by rw [nr];omega)];exact UQ _ _) (fun I=>?_);rw [List.take_of_length_le (by rw [nr];omega),an];refine dN ?_;exact bl I
 have aV:3≤q:=by simp at aV;omega
 obtain ⟨m,rfl⟩:∃ m,q=3+m:=⟨q-3,by omega⟩;obtain ⟨l,aB,pr⟩:=b1 (f:=bf) (show m<w.ps.length by omega);have GJ:=fun p aD=>v7 hw aB (p:=p) aD
 have abd:=hw.short l (mem_of_getElem? aB);have j':IntKind.wrap .i64 (((3+m:Nat):Int)-3)=(m:Int):=by rw [ek ag ag];omega
 rw [show 3+m-2=m+1 by omega,hj,getD_eq_getElem?_getD,aB,getD_some] at an;unfold bf at pr;refine dF ?_;refine aa.idx ai m C C C C C C C C C C j' pr C ?_;refine dF ?_
 refine ae.b4 [2,5,6,27,28] C I (σ:=Nat) (fun j=>[(29,.int .i64 (j:Int))]) (fun j=>[(.own b,.box 4 (hO (3+w.ps.length) fun k=>f k||(f (3+m)&&(l.take j).contains (k:Int))))]) (fun j=>j≤l.length) (fun j=>l.length-j) 0 (zero_le _) (cq C) (by
  rw [show (fun k=>f k||(f (3+m)&&(l.take 0).contains (k:Int)))=f from funext fun k=>by rw [take_zero];simp]
  exact aH.all _) ?_
 rintro j aK I
 try simp only at aK I ⊢
 refine b7 ?_;refine ae.cond C (fun au=>?_) (fun aV=>?_);rotate_left
 ·have aV:j=l.length:=by simp at aV;omega
  rw [aV,take_length] at I ⊢;refine bC ?_;exact bn.mk (2+m,fun k=>f k||(f (3+m)&&l.contains (k:Int))) I ⟨by show 2+m≤c;omega,by show _=hj w.ps (2+m-2) _;rw [show 2+m-2=m by omega];exact an⟩ (by repeat (first|exact trivial|refine ⟨⟨_,rfl,aL⟩,?_⟩|refine ⟨⟨_,rfl,aS.of_eq (by (rw [ek ag ag];congr 1;simp only;omega))⟩,?_⟩)) aX (by show 2+m<3+m;omega)
 have au:j<l.length:=by simpa using au
 obtain ⟨p,aD,e6⟩:=b1 (f:=ba) au;have US:=GJ p (mem_of_getElem? aD);unfold ba at e6;obtain ⟨g,aw⟩:∃ g,g=fun k=>f k||(f (3+m)&&(l.take j).contains (k:Int)):=⟨_,rfl⟩
 have UT:g (3+m)=f (3+m):=by rw [aw];simp only;cases f (3+m)<;>simp
 have Di:∀ k,(f k||(f (3+m)&&(l.take (j+1)).contains (k:Int)))=if k=p.toNat then (g p.toNat||f (3+m)) else g k:=fun k=>by
  rw [GI aD,aw];simp only;by_cases e:k=p.toNat
  ·subst e
   rw [if_pos C,show ((p.toNat:Nat):Int)==p by simp;omega];cases f p.toNat<;>cases f (3+m)<;>simp
  ·rw [if_neg e,show ((k:Int)==p)=false by rw [beq_eq_false_iff_ne];omega,Bool.or_false]
 rw [← aw] at I ⊢;refine dF ?_;refine aa.fi ai p.toNat C C C C C C C C C ag ag ?_;obtain ⟨v,av⟩:∃ v,v=g p.toNat:=⟨_,rfl⟩;refine aa.jW ai I C C C C C C aY C (v := .bool v) (by rw [av,mul_one];exact s8 g ag) ?_;cases v with
 | true=>
  refine eh ?_;refine aa.fi ai p.toNat C C C C C C C C C ag ag ?_;refine aa.jX ai I (hO (3+w.ps.length) fun k=>f k||(f (3+m)&&(l.take (j+1)).contains (k:Int))) C C C C C C C C C aY (by rw [nr];show p.toNat*1+1≤_;omega) (by rw [pD,mul_one];exact Az fun k=>by rw [Di,← av,Bool.true_or]) (fun I=>?_);refine fG ?_;exact bn.mk (j+1) I au ca aX mO
 | false=>
  refine dy ?_;refine aa.fi ai (3+m) C C C C C C C C C C ag ?_;refine aa.jW ai I C C C C C C aY C (v := .bool (f (3+m))) (by rw [← UT,mul_one];exact s8 g ag) ?_;refine dy ?_;refine aa.fi ai p.toNat C C C C C C C C C ag ag ?_;refine aa.jX ai I (hO (3+w.ps.length) fun k=>f k||(f (3+m)&&(l.take (j+1)).contains (k:Int))) C C C C C C C C C aY (by rw [nr];show p.toNat*1+1≤_;omega) (by rw [pD,mul_one];exact Az fun k=>by rw [Di,← av,Bool.false_or]) (fun I=>?_);refine fG ?_;exact bn.mk (j+1) I au ca aX mO
theorem UU (w:bx) (hw:gw w) (a b:Nat) (a7:a<3+w.ps.length) (k1:b<3+w.ps.length):aR Tryz.prog 144 [fm w,.int .i64 (a:Int),.int .i64 (b:Int)] (.bool (((eN w.ps).getD a 0).testBit b)):=by
 have aq:=bA;refine aR.bh ai Tryz.func144 C C fun s I=>?_
 have s9:=hw.kt;have rB:=UR w hw a a7;unfold fm fr c9 bf at *;by_cases U:a=b
 ·subst U
  rw [C0 hw a7];refine dv ?_;refine aa.de 11 C a' ?_;refine eh ?_;exact bl I
 have g1:((a:Int)==(b:Int))=false:=by rw [beq_eq_false_iff_ne];omega
 refine dv ?_;refine aa.cY 11 C g1 ?_;refine fH ?_;refine ae.cond C (fun ad=>?_) (fun ad=>?_)
 ·have ad:b=0:=by simpa using ad
  subst ad;rw [SZ hw a7];refine gv ?_;exact bl I
 have ad:b≠0:=by simpa using ad
 refine jb ?_;refine ae.cond C (fun al=>?_) (fun al=>?_)
 ·have al:a<3:=by simp at al;omega
  have:((eN w.ps).getD a 0).testBit b=false:=by
   rw [eq_false_iff];intro h;have:=C1 al h;omega
  rw [this];refine gv ?_;exact bl I
 have j4:=s8 (n:=3+w.ps.length) (v8 w a) k1;refine c1 ?_;rw [← FX hw a7 ag];exact bl I
theorem UW (w:bx) (hw:gw w) (c bB o:Nat) (aC:c<3+w.ps.length) (ah:w.owner[bB]? = some (o:Int)):aR Tryz.prog 182 [fm w,.int .i64 (c:Int),.int .i64 (bB:Int)] (.bool (((eN w.ps).getD c 0).testBit o)):=by
 have aq:=bA;refine aR.bh ai Tryz.func182 C C fun s I=>?_
 have s9:=hw.kt;have po:=hw.own _ (mem_of_getElem? ah);have uy:=UU w hw c o aC ag;have ad:(w.owner.map ba)[bB]? = some (.int .i64 (o:Int)):=by simp [ah,ba]
 unfold fm fr c9 bf at *;by_cases al:c<3
 ·have:((eN w.ps).getD c 0).testBit o=false:=by
   rw [eq_false_iff];intro h;have:=C1 al h;omega
  rw [this];have bd:decide ((c:Int)≥3)=false:=by simp;omega
  refine bW ?_;refine aN.split 9 C (fun h=>by rw [bd] at h;cases h) (fun _=>?_);refine hr ?_;exact bl I
 have bd:decide ((c:Int)≥3)=true:=by simp;omega
 refine bW ?_;refine aN.split 9 C (fun h=>?_) (fun h=>by rw [bd] at h;cases h);refine c1 ?_;exact bl I
theorem LO:∀ (l:List fJ) (i:Nat) (c:fJ),fC i (l++[c])=fC i l++replicate c.bo.length (((i+l.length:Nat):Int)+3)
  | [],i,c=>by simp [fC]
  | x::r,i,c=>by
    rw [List.cons_append,fC,LO r (i+1) c,fC,append_assoc];congr 3;rw [length_cons];omega
theorem LP {l:List fJ} {j:Nat} {c:fJ} (h:l[j]? = some c):fC 0 (l.take (j+1))=fC 0 (l.take j)++replicate c.bo.length ((j:Int)+3):=by
 rw [iA h,LO];have:=qB h;rw [length_take,Nat.min_eq_left ag,zero_add]
theorem LQ (l:List fJ) (j:Nat):(fC 0 (l.take j)).length≤(fC 0 l).length:=by
 have key:∀ (l:List fJ) (i j:Nat),(fC i (l.take j)).length≤(fC i l).length:=by
  intro l
  induction l with
  | nil=>intro i j;simp [fC]
  | cons c r a1=>
   intro i j;cases j with
   | zero=>simp [fC]
   | succ j=>
    rw [List.take_succ_cons,fC,fC,length_append,length_append];have:=a1 (i+1) j;omega
 exact key l 0 j
theorem LR (p:bP) (aD:fj p) (ah:(fC 0 p.ck).length<bz):aR Tryz.prog 147 [cA p] (fm (b9 p)):=by
 have aq:=bA;refine aR.bh ai Tryz.func147 C C fun s I=>?_
 have U:=LL p aD;have cv:=aD.cls;unfold fm fr b9;simp only;unfold cA cL at *;unfold c9 at *
 repeat (first|(refine CF ?_)|refine aa.jR I C C C C C C (fun b I=>?_)|refine aa.dY ai I C C C C C C C (fun cJ I=>?_)|(refine Sf I ?_;clear I;intro I))
 rename_i AA _;obtain ⟨wq,rfl⟩:∃ x,x=cJ:=⟨_,rfl⟩;refine ae.vP I wq [.aA 1 ((gY p).map bf) .bb,.aA 1 [] .nil] .here (.cons aL (.one (aS.nil gW))) (fun I=>?_);refine ae.h7 I 3 1 0 fun I=>?_
 refine ae.b4 [2,3,10,11] C I (σ:=Nat×bL) (fun q=>[(12,.int .i64 (q.1:Int))]) (fun q=>[(.own wq,.box 62 [.aA 1 ((gY p).map bf) .bb,.aA 1 ((fC 0 (p.ck.take q.1)).map ba) q.2]),(q.2,.row 3 1 (fC 0 (p.ck.take q.1)).length),(.own AA,.box 62 [.aA 0 [] .nil,.aA 0 [] .nil])])
  (fun q=>q.1≤p.ck.length) (fun q=>p.ck.length-q.1) (0,.nil) (zero_le _) (cq C) aX ?_
 rintro ⟨j,tJ⟩ aK I;simp only at aK I ⊢;refine hq ?_;refine ae.cond C (fun au=>?_) (fun aV=>?_);rotate_left
 ·have aV:j=p.ck.length:=by simp at aV;omega
  subst aV;rw [take_length] at I ⊢;refine cI I ?_;intro I;exact Fin.cx I (nO C C (bp.get aY I) C) (aS.agg (.cons aL (.one aS.bb)))
 have au:j<p.ck.length:=by simpa using au
 obtain ⟨c,ay,da⟩:=b1 (f:=jc) au;have hy:=(aD.each c (mem_of_getElem? ay)).2.1;have aM:=LP ay;have hle:=LQ p.ck (j+1);have iy:IntKind.wrap .i64 ((j:Int)+3)=(j:Int)+3:=ek ag ag;rw [aM,length_append,length_replicate] at hle;generalize fC 0 (p.ck.take j)=os at I aM hle ⊢;unfold jc mN bf at da
 repeat (first|(refine CE I ?_;clear I;intro I)|refine aa.dY ai I rfl rfl rfl rfl rfl rfl rfl (fun cJ I=>?_))
 refine ae.b4 [2,3,4,10,11,12,18,19] C I (σ:=Nat×bL) (fun q=>[(20,.int .i64 (q.1:Int))]) (fun q=>[(.own wq,.box 62 [.aA 1 ((gY p).map bf) .bb,.aA 1 ((os++replicate q.1 ((j:Int)+3)).map ba) q.2]),(q.2,.row 3 1 (os++replicate q.1 ((j:Int)+3)).length),(.own AA,.box 62 [.aA 0 [] .nil,.aA 0 [] .nil])])
  (fun q=>q.1≤c.bo.length) (fun q=>c.bo.length-q.1) (0,tJ) (zero_le _) (cq C) (by simp only [List.replicate_zero,append_nil];exact aX) ?_
 rintro ⟨k,bT⟩ aE I;simp only at aE I ⊢;refine b7 ?_;refine ae.cond C (fun cz=>?_) (fun dr=>?_);rotate_left
 ·have dr:k=c.bo.length:=by simp at dr;omega
  subst dr;rw [← aM] at I ⊢;refine bC ?_;exact bn.mk (j+1,bT) I au ca aX x2
 have cz:k<c.bo.length:=by simpa using cz
 have hc:(os++replicate k ((j:Int)+3)).length=os.length+k:=by simp
 have GK:(os++replicate (k+1) ((j:Int)+3)).map ba=(os++replicate k ((j:Int)+3)).map ba++[.int .i64 (IntKind.wrap .i64 ((j:Int)+3))]:=by rw [iy,replicate_succ',← append_assoc,map_append];rfl
 have GL:(os++replicate (k+1) ((j:Int)+3)).length=(os++replicate k ((j:Int)+3)).length+1:=by simp;omega
 refine cI I ?_;intro I;refine aa.gb ai I C C C C C C C en C C C C C C C C aY a' j9 ag (fun ff I=>?_);refine hh I ?_;intro I;exact bn.mk (k+1,.own ff) I cz (by repeat (first|exact trivial|refine ⟨⟨_,rfl,aL⟩,?_⟩|refine ⟨⟨_,rfl,aS.of_eq (by (first|rw [jD ag]))⟩,?_⟩)) (by simp only [GL,GK];exact aX) Db
theorem LS (n:Int):aR Tryz.prog 183 [.int .i64 n] (.bool (kr n)):=by
 have aq:=bA;refine aR.bh ai Tryz.func183 C C fun s I=>?_
 repeat' (first|(with_reducible first|apply ae.seq|apply b5|apply ae.ret)|refine c0 C ?_|refine ae.cH ?_|refine aa.nil ?_|refine cE C ?_|refine aa.skip C C C ?_|(fail_if_success refine aa.same true C ?_);(fail_if_success refine aa.same false C ?_);refine aa.gV C C (fun h=>?_) (fun h=>?_))
 all_goals (refine Fin.cx I C (aS.of_eq (congrArg af.bool ?_));clear I;unfold kr;grind)
theorem LU (p:bP) (aD:fj p):aR Tryz.prog 88 [cA p] (c9 (gY p)):=by
 have aq:=bA;refine aR.bh ai Tryz.func88 C C fun s I=>?_
 have cv:=aD.cls;obtain ⟨xs,c5⟩:∃ xs:Nat→List af,∀ j,xs j=((p.ck.take j).map fJ.parents).map bf:=⟨_,fun _=>rfl⟩;have bt:xs 0=[]:=by rw [c5];rfl
 have fc:∀ j,(xs j).length≤p.ck.length:=fun j=>by
  rw [c5,length_map,length_map];exact length_take_le' _ _
 unfold c9 cA cL gY;refine gm ?_;refine ae.h7 I 23 1 0 fun I=>?_
 refine ae.b4 [1] C I (σ:=Nat×bL) (fun q=>[(4,.int .i64 (q.1:Int)),(3,.aA 1 (xs q.1) q.2)]) (fun q=>[(q.2,.row 23 1 (xs q.1).length)]) (fun q=>q.1≤p.ck.length) (fun q=>p.ck.length-q.1) (0,.nil) (zero_le _) ⟨⟨_,rfl,aL⟩,⟨_,rfl,by rw [bt];exact aS.nil gW⟩,trivial⟩ wh ?_;rintro ⟨j,own⟩ aK I;simp only at aK I ⊢;refine b7 ?_;refine ae.cond C (fun au=>?_) (fun aV=>?_);rotate_left
 ·have aV:j=p.ck.length:=by simp at aV;omega
  subst aV;have he:xs p.ck.length=(p.ck.map fJ.parents).map bf:=by rw [c5,take_length]
  rw [he];refine dN ?_;exact Fin.cx I C aS.bb
 have au:j<p.ck.length:=by simpa using au
 obtain ⟨c,ay,da⟩:=b1 (f:=jc) au;have ar:=c5 (j+1);rw [iA ay,map_append,map_append,← c5] at ar;have ar:xs (j+1)=xs j++[.aA 1 (c.parents.map ba) .bb]:=ar;have df:(xs (j+1)).length=(xs j).length+1:=by rw [ar];simp
 have lC:=fc j;have h4:=(aD.each c (mem_of_getElem? ay)).1;unfold jc mN bf at *;refine dF ?_;refine aa.rp ai C C C C C C C en C C C (.inl C) (.inr C) C (Gz _) (by simp only [length_nil,zero_add,length_map];show _*8≤_;omega) Gv (.inl C) ?_;rw [nil_append];refine dy ?_;refine aa.gb ai I C C C C C C C en C C C C C C C C aY hi px ag (fun bT I=>?_);refine fG ?_;refine bn.mk (j+1,.own bT) I au kq um x2
theorem GM (p:bP) (aD:fj p) (ah:(fC 0 p.ck).length<bz):aR Tryz.prog 36 [cA p] (fm (b9 p)):=by
 have aq:=bA;refine aR.bh ai Tryz.func36 C C fun s I=>?_
 have U:=LU p aD;have cv:=aD.cls;unfold fm fr b9;simp only;unfold cA cL at *;unfold c9 at *
 repeat (first|(refine Sg I ?_;clear I;intro I)|refine aa.dY ai I rfl rfl rfl rfl rfl rfl rfl (fun cJ I=>?_)|(refine pw ?_))
 rename_i AA _;obtain ⟨wq,rfl⟩:∃ x,x=cJ:=⟨_,rfl⟩;refine ae.vP I wq [.aA 1 ((gY p).map bf) .bb,.aA 1 [] .nil] .here (.cons aL (.one (aS.nil gW))) (fun I=>?_);refine ae.h7 I 3 1 0 fun I=>?_
 refine ae.b4 [1,2,3] C I (σ:=Nat×bL) (fun q=>[(4,.int .i64 (q.1:Int))]) (fun q=>[(.own wq,.box 62 [.aA 1 ((gY p).map bf) .bb,.aA 1 ((fC 0 (p.ck.take q.1)).map ba) q.2]),(q.2,.row 3 1 (fC 0 (p.ck.take q.1)).length),(.own AA,.box 62 [.aA 0 [] .nil,.aA 0 [] .nil])])
  (fun q=>q.1≤p.ck.length) (fun q=>p.ck.length-q.1) (0,.nil) (zero_le _) (cq C) aX ?_
 rintro ⟨j,tJ⟩ aK I;simp only at aK I ⊢;refine b7 ?_;refine ae.cond C (fun au=>?_) (fun aV=>?_);rotate_left
 ·have aV:j=p.ck.length:=by simp at aV;omega
  subst aV;rw [take_length] at I ⊢;refine cI I ?_;intro I;exact Fin.cx I (nO C C (bp.get aY I) C) (aS.agg (.cons aL (.one aS.bb)))
 have au:j<p.ck.length:=by simpa using au
 obtain ⟨c,ay,da⟩:=b1 (f:=jc) au;have hy:=(aD.each c (mem_of_getElem? ay)).2.1;have aM:=LP ay;have hle:=LQ p.ck (j+1);have iy:IntKind.wrap .i64 ((j:Int)+3)=(j:Int)+3:=ek ag ag;rw [aM,length_append,length_replicate] at hle;generalize fC 0 (p.ck.take j)=os at I aM hle ⊢;unfold jc mN bf at da;refine jb ?_;refine ae.b4 [1,2,3,4] C I (σ:=Nat×bL) (fun q=>[(5,.int .i64 (q.1:Int))]) (fun q=>[(.own wq,.box 62 [.aA 1 ((gY p).map bf) .bb,.aA 1 ((os++replicate q.1 ((j:Int)+3)).map ba) q.2]),(q.2,.row 3 1 (os++replicate q.1 ((j:Int)+3)).length),(.own AA,.box 62 [.aA 0 [] .nil,.aA 0 [] .nil])])
  (fun q=>q.1≤c.bo.length) (fun q=>c.bo.length-q.1) (0,tJ) (zero_le _) (cq C) (by simp only [List.replicate_zero,append_nil];exact aX) ?_
 rintro ⟨k,bT⟩ aE I;simp only at aE I ⊢;refine dF ?_;refine ae.cond C (fun cz=>?_) (fun dr=>?_);rotate_left
 ·have dr:k=c.bo.length:=by simp at dr;omega
  subst dr;rw [← aM] at I ⊢;refine bC ?_;exact bn.mk (j+1,bT) I au ca aX x2
 have cz:k<c.bo.length:=by simpa using cz
 have hc:(os++replicate k ((j:Int)+3)).length=os.length+k:=by simp
 have GK:(os++replicate (k+1) ((j:Int)+3)).map ba=(os++replicate k ((j:Int)+3)).map ba++[.int .i64 (IntKind.wrap .i64 ((j:Int)+3))]:=by rw [iy,replicate_succ',← append_assoc,map_append];rfl
 have GL:(os++replicate (k+1) ((j:Int)+3)).length=(os++replicate k ((j:Int)+3)).length+1:=by simp;omega
 refine cI I ?_;intro I;refine aa.gb ai I C C C C C C C en C C C C C C C C aY a' j9 ag (fun ff I=>?_);refine hh I ?_;intro I;exact bn.mk (k+1,.own ff) I cz (by repeat (first|exact trivial|refine ⟨⟨_,rfl,aL⟩,?_⟩|refine ⟨⟨_,rfl,aS.of_eq (by (first|rw [jD ag]))⟩,?_⟩)) (by simp only [GL,GK];exact aX) Db
end Go.Proofs.YtnafpeohfbglmaaGreat
namespace Go.eb
def s' (p:bP) (x:iQ):Int:=
 if x.op=5 then (if 0≤x.n∧x.n<(p.d'.length:Int) then p.d'.getD x.n.toNat 0 else -1) else (rC p x).getD (-1)
theorem UX (p:bP) (next:Bool) (x:iQ) (size:Int):xW p next x size=(decide ((x.kids.length:Int)=s' p x)&&(mJ p x size&&(decide (x.op≠18)||next))):=by
 unfold xW;cases az:mJ p x size with
 | false=>simp
 | true=>
  have aE:(rC p x==some (x.kids.length:Int))=decide ((x.kids.length:Int)=s' p x):=by
   rw [Bool.eq_iff_iff,beq_iff_eq,decide_eq_true_eq];unfold s';split
   ·rename_i bD
    have aF:0≤x.n∧x.n<(p.d'.length:Int):=by
     unfold mJ at az;rw [if_neg ag,if_neg ag,if_neg ag,if_neg ag,if_pos bD] at az;simpa using az
    rw [if_pos aF];unfold rC;rw [if_pos bD,Option.some.injEq];exact eq_comm
   ·cases aE:rC p x with
    | none=>simp
    | some k=>simp;exact eq_comm
  rw [aE,Bool.true_and];cases next<;>cases decide ((x.kids.length:Int)=s' p x)<;>simp
theorem LV {Q:List Int→Prop} {g:Int→Int→List Int→Option (List Int)} (isLet:Bool) (size:Int) (bt:0≤size) (aw:∀ k s out o,0≤s→Q out→g k s out=some o→Q o) :
    ∀ (ks:List Int) (i:Nat) (out o:List Int),Q out→lj g isLet size i ks out=some o→Q o
  | [],i,out,o,bq,h=>by rw [lj] at h;cases h;exact bq
  | k::r,i,out,o,bq,h=>by
    rw [lj] at h;cases aE:g k (if isLet&&i==1 then size+1 else size) out with
    | none=>rw [aE] at h;cases h
    | some pP=>
      rw [aE] at h;exact LV isLet size bt aw r (i+1) pP o (aw k _ out pP (by split<;>omega) bq aE) h
theorem GN {p:bP} {next:Bool} {Q:List Int→Prop} (LW:∀ (n:Nat) (size:Int) out,0≤size→Q out→Q (out.set n size)):∀ (f:Nat) (n size:Int) (out o:List Int),0≤size→Q out→visitM p next f n size out=some o→Q o
  | 0,_,_,_,_,_,_,h=>by rw [visitM] at h;cases h
  | f+1,n,size,out,o,bt,bq,h=>by
    rw [visitM] at h;split at h
    · split at h
      · exact LV _ size bt (fun k s out o ar bq h=>GN LW f k s out o ar bq h) _ 0 _ o (LW _ _ _ bt bq) h
      · cases h
    · cases h
theorem qJ {p:bP} {next:Bool} {f:Nat} {n size:Int} {out o:List Int} (bt:0≤size) (h:visitM p next f n size out=some o):o.length=out.length:=
 GN (Q:=fun l=>l.length=out.length) (fun n s l _ aB=>by rw [List.length_set];exact aB) f n size out o bt C h
theorem LX {p:bP} {next:Bool} {f:Nat} {n size:Int} {out o:List Int} (bt:0≤size) (bq:∀ x∈out,-1≤x) (h:visitM p next f n size out=some o):∀ x∈o,-1≤x:=
 GN (Q:=fun l=>∀ x∈l,(-1:Int)≤x) (fun n s l ar aB x ab=>by
  rcases List.mem_or_eq_of_mem_set ab with h|h
  ·exact aB x h
  ·omega) f n size out o bt bq h
end Go.eb
namespace Go.Proofs.YtnafpeohfbglmaaGreat
open Go.cU Go.eb
theorem UY (k:Int):aR Tryz.prog 139 [.int .i64 k] (.bool (s0 k)):=by
 have aq:=bA;refine aR.bh ai Tryz.func139 C C fun s I=>?_
 repeat' (first|(with_reducible first|apply ae.seq|apply b5|apply ae.ret)|refine c0 C ?_|refine ae.cH ?_|refine aa.nil ?_|refine cE C ?_|refine aa.skip C C C ?_|(fail_if_success refine aa.same true C ?_);(fail_if_success refine aa.same false C ?_);refine aa.gV C C (fun h=>?_) (fun h=>?_))
 all_goals (refine Fin.cx I C (aS.of_eq (congrArg af.bool ?_));clear I;unfold s0;grind)
theorem UZ (p:bP) (aD:fj p) (x:iQ) (size:Int):aR Tryz.prog 185 [cA p,jd x,.int .i64 size] (.bool (mJ p x size)):=by
 have aq:=bA;refine aR.bh ai Tryz.func185 C C fun s I=>?_
 have cv:=aD.cls;have U:=LS x.n;have dG:IntKind.wrap .i64 (3+((p.ck.map jc).length:Int))=3+(p.ck.length:Int):=by rw [length_map,ek ag ag]
 unfold cA cL jd kP bf at *
 repeat' (first|(with_reducible first|apply ae.seq|apply b5|apply fF|apply fz|apply hg|apply ae.ret|apply ae.skip|apply ae.block)|refine c0 C ?_|refine ae.cH ?_|refine aa.nil ?_|refine cE C ?_|refine aa.skip C C C ?_|refine aa.eg C C C C C cu ?_|(fail_if_success refine aa.same true C ?_);(fail_if_success refine aa.same false C ?_);refine aa.gV C C (fun h=>?_) (fun h=>?_)|refine ae.cond C (fun h=>?_) (fun h=>?_))
 all_goals (refine Fin.cx I C (aS.of_eq (congrArg af.bool ?_));clear I U cv;unfold mJ;simp only [length_map] at *;first|grind|(rw [if_neg (by grind),if_neg (by grind),if_neg (by grind),if_neg (by grind),if_neg (by grind)];grind))
theorem U0 (o:Int):(o=1∨o=2∨o=3∨o=6∨o=18∨o=4∨o=8∨o=17∨o=7∨o=9∨o=11∨o=12∨o=13∨o=14∨o=15∨o=16∨o=10)∨o=5∨(∀ k:Int,(k=1∨k=2∨k=3∨k=6∨k=18∨k=4∨k=8∨k=17∨k=7∨k=9∨k=11∨k=12∨k=13∨k=14∨k=15∨k=16∨k=10∨k=5)→(o==k)=false):=by
 by_cases h:o=5
 ·exact .inr (.inl h)
 ·by_cases ad:(o=1∨o=2∨o=3∨o=6∨o=18∨o=4∨o=8∨o=17∨o=7∨o=9∨o=11∨o=12∨o=13∨o=14∨o=15∨o=16∨o=10)
  ·exact .inl ad
  ·refine .inr (.inr fun k aE=>?_)
   rw [beq_eq_false_iff_ne];omega
theorem U1 (p:bP) (x:iQ):aR Tryz.prog 184 [cA p,jd x] (.int .i64 (s' p x)):=by
 have aq:=bA;refine aR.bh ai Tryz.func184 C C fun s I=>?_
 obtain ⟨op,n,kids⟩:=x;unfold jd kP cA cL;simp only;rcases U0 op with h|rfl|h
 ·rcases h with rfl|rfl|rfl|rfl|rfl|rfl|rfl|rfl|rfl|rfl|rfl|rfl|rfl|rfl|rfl|rfl|rfl
  all_goals
   (repeat (first|(with_reducible first|apply ae.seq|apply b5|apply fF|apply fz|apply hg|apply ae.ret|apply ae.skip|apply ae.block)|refine c0 C ?_|refine ae.ft C ?_|refine ae.gP C ?_ ));exact Fin.cx I C (aS.of_eq C)
 ·unfold s'
  simp only [if_true];unfold bf;by_cases bt:0≤n;rotate_left
  ·rw [if_neg (fun h=>bt h.1)]
   (repeat (first|(with_reducible first|apply ae.seq|apply b5|apply fF|apply fz|apply hg|apply ae.ret|apply ae.skip|apply ae.block)|refine c0 C ?_|refine ae.ft C ?_|refine ae.gP C ?_ ));refine jS ?_;refine aa.cY 33 C cG ?_;refine bC ?_;exact bl I
  by_cases U:n<(p.d'.length:Int);rotate_left
  ·rw [if_neg (fun h=>U h.2)]
   (repeat (first|(with_reducible first|apply ae.seq|apply b5|apply fF|apply fz|apply hg|apply ae.ret|apply ae.skip|apply ae.block)|refine c0 C ?_|refine ae.ft C ?_|refine ae.gP C ?_ ));refine jS ?_;refine aa.de 33 C cG ?_;refine fH ?_;refine ae.cond C (fun h=>by simp at h;omega) (fun _=>?_);refine bC ?_;exact bl I
  rw [if_pos ⟨bt,U⟩];obtain ⟨q,rfl⟩:∃ q:Nat,n=q:=⟨n.toNat,by omega⟩;obtain ⟨y,ay,da⟩:=b1 (f:=ba) (l:=p.d') (j:=q) ag;rw [toNat_natCast,getD_eq_getElem?_getD,ay,getD_some];unfold ba at da
  (repeat (first|(with_reducible first|apply ae.seq|apply b5|apply fF|apply fz|apply hg|apply ae.ret|apply ae.skip|apply ae.block)|refine c0 C ?_|refine ae.ft C ?_|refine ae.gP C ?_ ));skip;refine ae.cond C (fun _=>?_) (fun h=>by simp at h;omega);refine bC ?_;exact bl I
 ·have aE:s' p ⟨op,n,kids⟩ = -1:=by
   have bD:op≠5:=by have:=h 5 a';rwa [beq_eq_false_iff_ne] at this
   unfold s' rC;simp only;have ne:=fun k aE=>beq_eq_false_iff_ne.1 (h k aE)
   rw [if_neg bD,if_neg bD];rw [if_neg (by have:=ne 1 a';have:=ne 2 a';have:=ne 3 a';have:=ne 6 a';have:=ne 18 a';omega)];rw [if_neg (by have:=ne 4 a';have:=ne 8 a';have:=ne 17 a';omega)];rw [if_neg (by have:=ne 7 a';have:=ne 9 a';have:=ne 11 a';have:=ne 12 a';have:=ne 13 a';have:=ne 14 a';have:=ne 15 a';have:=ne 16 a';omega)];rw [if_neg (by have:=ne 10 a';omega)];rfl
  rw [aE]
  (repeat (first|(with_reducible first|apply ae.seq|apply b5|apply fF|apply fz|apply hg|apply ae.ret|apply ae.skip|apply ae.block)|refine c0 C ?_|refine ae.ft C ?_|refine ae.gP C ?_|refine ae.cond C (fun cX=>absurd (cX.symm.trans (h _ a')) a') (fun _=>?_)));exact bl I
structure wu (w:bx) (bk:List e2):Prop where
 kt:bk.length≤40
 each:∀ o∈bk,(3≤o.cls∧o.cls<3+(w.ps.length:Int))∧o.bo.length=(nT w (oL w o.cls)).length∧∀ v∈o.bo,hC bk.length v=true
theorem wu.of {w:bx} {bk:List e2} (h:zW w bk=true):wu w bk:=by
 unfold zW at h;rw [and_eq_true,decide_eq_true_eq,all_eq_true] at h;refine ⟨h.1,fun o ah=>?_⟩;have:=h.2 o ah;unfold zV xT at this;simp only [and_eq_true,decide_eq_true_eq,all_eq_true] at this;exact ⟨⟨by omega,by omega⟩,this.2.1,this.2.2⟩
theorem GO {n:Int} {v:Int×Int} (h:hC n v=true) (al:v.1=3):0≤v.2∧v.2<n:=by
 unfold hC at h;rw [al] at h;simp at h;omega
theorem LY {n:Int} {v:Int×Int} (h:hC n v=true):v.1=1∨v.1=2∨v.1=3:=by
 unfold hC at h;grind
theorem LZ (w:bx) (m s:Nat) (ar:s<w.owner.length) (aq:m.testBit (w.owner.getD s 0).toNat=true):∃ k,(nT w m).findIdx? (· == (s:Int))=some k∧k<(nT w m).length:=by
 have fW:(s:Int)∈nT w m:=mem_map.2 ⟨s,List.mem_filter.2 ⟨List.mem_range.2 ar,aq⟩,rfl⟩;cases h:(nT w m).findIdx? (· == (s:Int)) with
 | none=>
  rw [List.findIdx?_eq_none_iff] at h;have:=h _ fW;simp at this
 | some k=>
  rw [List.findIdx?_eq_some_iff_getElem] at h;exact ⟨k,rfl,h.1⟩
def atR (r:Option (Int×Int)):af := .cp [fZ (r.getD (0,0)),.bool r.isSome]
theorem U2 (w:bx) (hw:gw w) (bk:List e2) (ah:wu w bk) (v:Int×Int) (av:hC bk.length v=true) (path:List Int) (aD:∀ s∈path,0≤s∧s<(w.owner.length:Int)) (h4:path.length<bz) :
  aR Tryz.prog 172 [gg w,hk bk,fZ v,bf path] (atR (qx w bk v path)):=by
 have aq:=bA;have qH:=hw.kt;have km:=sX w.ps;refine aR.bh ai Tryz.func172 C C fun s I=>?_
 have df:=fun c aC=>LI w hw c aC
 have ns:=fun c s m o aC hm hs ar ah=>Ly w (Ax w) c s m o aC hm hs ar ah
 unfold fZ bf;unfold gg e4 at *
 repeat (first|(refine CF ?_)|refine aa.jR I C C C C C C (fun b I=>?_)|refine aa.dY ai I C C C C C C C (fun cJ I=>?_)|(refine CG ?_))
 refine ae.b4 [0,1,8,12,13] C I (σ:=Nat×(Int×Int)) (fun j=>[(14,.int .i64 (j.1:Int)),(6,.ptr b 0)]) (fun j=>[(.own b,.box 122 [.int .i64 j.2.1,.int .i64 j.2.2]),(.own cJ,.box 122 [.int .i64 0,.int .i64 0])]) (fun j=>j.1≤path.length∧qx w bk v path=qx w bk j.2 (path.drop j.1)∧hC bk.length j.2=true) (fun j=>path.length-j.1) (0,v) ⟨zero_le _,rfl,av⟩ (cq C) aX ?_;rintro ⟨j,u⟩ ⟨aK,an,hu⟩ I;simp only at aK an hu I ⊢;refine b7 ?_;refine ae.cond C (fun au=>?_) (fun aV=>?_);rotate_left
 ·have aV:path.length≤j:=by simpa using aV
  rw [ep aV,qx] at an;rw [an];refine cI I ?_;intro I;exact Fin.cx I (vV C C (bp.get aY I) C C) aL
 have au:j<path.length:=by simpa using au
 obtain ⟨x,ay,da⟩:=b1 (f:=ba) au;obtain ⟨g1,g2⟩:=aD x (mem_of_getElem? ay);obtain ⟨bB,rfl⟩:∃ bB:Nat,x=bB:=⟨x.toNat,by omega⟩;rw [drop_cons ay,qx] at an;unfold ba at da;obtain ⟨so,sq⟩:=u
 try simp only at an
 refine cI I ?_;intro I;by_cases al:so=3;rotate_left
 ·rw [if_pos al] at an
  refine aa.de 21 C (by simpa using al) ?_;refine cI I ?_;intro I;rw [an];exact Fin.cx I (vV C C (bp.get aY I) C C) aL
 obtain ⟨cD,dh⟩:=GO hu al;subst al;rw [if_neg a'] at an;simp only at cD dh;obtain ⟨q,rfl⟩:∃ q:Nat,sq=q:=⟨sq.toNat,by omega⟩;obtain ⟨o,bq,u3⟩:=b1 (f:=iS) (l:=bk) (j:=q) ag;have zx:bk.getD ((q:Int)).toNat default=o:=by rw [toNat_natCast,getD_eq_getElem?_getD,bq];rfl
 obtain ⟨⟨mP,ht⟩,wv,wx⟩:=ah.each o (mem_of_getElem? bq);rw [zx] at an;obtain ⟨cls,bo⟩:=o;simp only at mP ht wv wx an;obtain ⟨c,rfl⟩:∃ c:Nat,cls=c:=⟨cls.toNat,by omega⟩;obtain ⟨m,hm⟩:∃ m,(eN w.ps)[c]? = some m:=⟨_,getElem?_eq_getElem ag⟩;have oT:oL w (c:Int)=m:=by unfold oL;rw [toNat_natCast,getD_eq_getElem?_getD,hm];rfl
 have hs:=xR qH m (mem_of_getElem? hm);obtain ⟨ln,po⟩:∃ ln,w.owner[bB]? = some ln:=⟨_,getElem?_eq_getElem ag⟩;obtain ⟨pP,bT⟩:=hw.own ln (mem_of_getElem? po);obtain ⟨o,rfl⟩:∃ o:Nat,ln=o:=⟨ln.toNat,by omega⟩;have U:=ns c bB m o ag (xS hm) hs po ag;have kn:(w.owner.getD ((bB:Int)).toNat 0).toNat=o:=by rw [toNat_natCast,getD_eq_getElem?_getD,po];simp
 have U3:(w.owner.getD bB 0).toNat=o:=by rw [getD_eq_getElem?_getD,po];simp
 rw [oT,kn] at an;rw [oT] at wv;unfold iS at u3;refine aa.cY 21 C a' ?_;cases n1:m.testBit o with
 | false=>
  rw [n1,if_neg a'] at an;rw [n1] at U;refine cI I ?_;intro I;rw [an];exact Fin.cx I (vV C C (bp.get aY I) C C) aL
 | true=>
  rw [n1,if_pos C] at an;rw [n1] at U;have ad:=df c ag;have U4:(eN w.ps).getD c 0=m:=by rw [getD_eq_getElem?_getD,hm];rfl
  rw [U4] at ad;obtain ⟨k,l4,ir⟩:=LZ w m bB ag (by rw [U3];exact n1);have hlen:(nT w m).length<bz:=by
   have:(nT w m).length≤w.owner.length:=by
    unfold nT;rw [length_map];exact Nat.le_trans (List.length_filter_le _ _) a'
   have:=hw.bo;omega
  have bd:=KF (nT w m) bB hlen;rw [l4] at bd;simp only at bd;obtain ⟨y,xu,U5⟩:=b1 (f:=fZ) (l:=bo) (j:=k) ag;have AB:bo.getD k (0,0)=y:=by rw [getD_eq_getElem?_getD,xu];rfl
  rw [l4,getD_some,AB] at an;unfold fZ at U5;unfold bf at ad bd;refine hh I ?_;intro I;exact bn.mk (j+1,y) I ⟨au,an,wx y (mem_of_getElem? xu)⟩ ca aX (by show path.length-(j+1)<path.length-j;omega)
theorem L0 {α:Type}:∀ {l:List α},l.length=2→∃ a b,l=[a,b]
 | [a,b],_=>⟨a,b,rfl⟩
structure x' (w:bx) (f:ak):Prop where
 arg:0≤f.arg∧f.arg<3
 path:f.path.length≤2
 bo:∀ s∈f.path,0≤s∧s<(w.owner.length:Int)
 cls:f.op=2→0≤f.cls∧f.cls<3+(w.ps.length:Int)
theorem x'.of {w:bx} {f:ak} (h:hX w f=true) (aB:f.cW=true):x' w f:=by
 simp only [hX,aB,if_true,and_eq_true,decide_eq_true_eq,all_eq_true] at h;obtain ⟨U,ad,al,bd,bD,gj,ib,pL⟩:=h;refine ⟨⟨by omega,bD⟩,gj,fun s ar=>by have:=ib s ar;simpa using this,fun ad=>?_⟩;rw [if_pos ad] at pL;simp only [and_eq_true,decide_eq_true_eq] at pL;omega
theorem AD {w:bx} {f:ak} (h:hX w f=true):(f.op=1∧f.kids=[])∨(f.cW=true∧f.kids=[]∧(f.op=2∨f.op=3∨f.op=4))∨(f.op=5∧∃ x,f.kids=[x])∨((f.op=6∨f.op=7)∧∃ x y,f.kids=[x,y]):=by
 have bt:=h;simp only [hX,and_eq_true,decide_eq_true_eq] at h;obtain ⟨U,ad,al,bd⟩:=h;have aC:f.op=1∨(f.op=2∨f.op=3∨f.op=4)∨f.op=5∨f.op=6∨f.op=7:=by omega
 rcases aC with h|h|h|h|h
 ·left
  refine ⟨h,List.eq_nil_of_length_eq_zero ?_⟩;rw [al,h];rfl
 ·right;left
  refine ⟨?_,List.eq_nil_of_length_eq_zero ?_,h⟩
  ·unfold ak.cW;simp;omega
  ·rw [al];rcases h with h|h|h<;>rw [h]<;>rfl
 ·right;right;left
  refine ⟨h,List.length_eq_one_iff.1 ?_⟩;rw [al,h];rfl
 ·right;right;right
  refine ⟨.inl h,?_⟩;obtain ⟨a,b,iC⟩:=L0 (show f.kids.length=2 by rw [al,h];rfl);exact ⟨a,b,iC⟩
 ·right;right;right
  refine ⟨.inr h,?_⟩;obtain ⟨a,b,iC⟩:=L0 (show f.kids.length=2 by rw [al,h];rfl);exact ⟨a,b,iC⟩
theorem L1 {w:bx} {bk:List e2} (ah:wu w bk):∀ (path:List Int) (v u:Int×Int),(∀ s∈path,0≤s∧s<(w.owner.length:Int))→hC bk.length v=true→qx w bk v path=some u→hC bk.length u=true
  | [],v,u,_,av,h=>by rw [qx] at h;cases h;exact av
  | s::r,v,u,aD,av,h=>by
    rw [qx] at h
    try simp only at h
    split at h
    · cases h
    · rename_i al
      have al:v.1=3:=by omega
      obtain ⟨cD,dh⟩:=GO av al;split at h
      · rename_i aq
        have ar:=aD s mem_cons_self;obtain ⟨bB,rfl⟩:∃ bB:Nat,s=bB:=⟨s.toNat,by omega⟩;have U6:bk[v.2.toNat]? = some (bk.getD v.2.toNat default):=by
          rw [getD_eq_getElem?_getD,getElem?_eq_getElem ag];rfl
        have mu:=ah.each _ (mem_of_getElem? U6);rw [toNat_natCast] at aq;obtain ⟨k,l4,ir⟩:=LZ w _ bB ag aq;rw [l4,getD_some] at h;refine L1 ah r _ u (fun s ar=>aD s (mem_cons_of_mem _ ar)) ?_ h;rw [getD_eq_getElem?_getD,getElem?_eq_getElem (by rw [mu.2.1];exact ir),getD_some];exact mu.2.2 _ (List.getElem_mem _)
      · cases h
theorem U7 (w:bx) (hw:gw w) (bk:List e2) (ah:wu w bk) (args:List (Int×Int)) (a7:∀ v∈args,hC bk.length v=true) (pB:args.length≤3):∀ (n:Nat) (f:ak),f.size≤n→n<bz→gx w f=true→lg f≤args.length →
    aR Tryz.prog 125 [gg w,f.bK,hk bk,kU args] (.bool (sY w bk args f)):=by
  have aq:=bA;intro n
  induction n with
  | zero=>intro x h;have:=x.size_eq;omega
  | succ n a1=>
    intro f az iY aw dA;have qH:=hw.kt;have gn:=ah.kt;have km:=sX w.ps;have iB:=f.size_eq;have AE:=SW w bk args f;rw [CW] at dA;rw [nh,and_eq_true] at aw;obtain ⟨qI,lR⟩:=aw;refine aR.bh ai Tryz.func125 C C fun s I=>?_
    rw [ak.bX];rcases AD qI with ⟨U,ad⟩|⟨aB,ad,U⟩|⟨U,x,ad⟩|⟨U,x,y,ad⟩
    · rw [AE,U]
      unfold ak.cells;rw [U];refine bC ?_;exact bl I
    · have iM:=x'.of qI aB
      have h4:=iM.path;have dg:=fun v av=>U2 w hw bk ah v av f.path iM.bo ag
      rw [aB,ad] at dA;simp only [if_true,iR] at dA;obtain ⟨q,bq⟩:∃ q:Nat,f.arg=q:=⟨f.arg.toNat,by have:=iM.arg;omega⟩;obtain ⟨v,av,ov⟩:=b1 (f:=fZ) (l:=args) (j:=q) ag;have ya:=a7 v (mem_of_getElem? av);have L2:args.getD f.arg.toNat (0,0)=v:=by rw [bq,toNat_natCast,getD_eq_getElem?_getD,av];rfl
      have dg:=dg v ya;have L3:sY w bk args f=vZ w bk args f:=by
        rw [AE,if_neg ag,if_neg ag,if_neg ag,if_neg ag]
      rw [L3];have c4:(f.op==1)=false:=by simp;omega
      have dd:(f.op==5)=false:=by simp;omega
      have eZ:(f.op==6)=false:=by simp;omega
      have ph:(f.op==7)=false:=by simp;omega
      have ns:=fun m o hm aC=>x5 m o hm aC
      unfold ak.cells;rw [bq];unfold fZ at ov;unfold fZ bf at dg;unfold ba at dg;unfold gg e4 at *;cases hu:qx w bk v f.path with
      | none=>
        have hle:vZ w bk args f=false:=by unfold vZ;rw [L2,hu]
        rw [hu] at dg;rw [hle];unfold atR fZ at dg;simp only [getD_some,Option.isSome_some,getD_none,Option.isSome_none] at dg;refine gm ?_;refine ae.cond C (fun h=>by rw [c4] at h;cases h) (fun _=>?_);refine b7 ?_;refine ae.cond C (fun h=>by rw [dd] at h;cases h) (fun _=>?_);refine b7 ?_;refine ae.cond C (fun h=>by rw [eZ] at h;cases h) (fun _=>?_);refine b7 ?_;refine ae.cond C (fun h=>by rw [ph] at h;cases h) (fun _=>?_)
        repeat (first|(refine Sh ?_)|refine aN.K9 ai I C C C C C C C C (fun cJ I=>?_)|(refine J6 I ?_;clear I;intro I))
        exact bl I
      | some u=>
        have ma:=L1 ah f.path v u iM.bo ya hu;obtain ⟨so,sq⟩:=u
        have hle:vZ w bk args f=(if f.op=2 then (if so=3 then (oL w (bk.getD sq.toNat default).cls).testBit f.cls.toNat else (oL w so).testBit f.cls.toNat)
    else decide (so=1)&&((decide (sq=f.n)==decide (f.op=4))&&decide (sq≤f.n))):=by unfold vZ;rw [L2,hu]
        rw [hu] at dg;rw [hle];unfold atR fZ at dg;simp only [getD_some,Option.isSome_some,getD_none,Option.isSome_none] at dg;refine gm ?_;refine ae.cond C (fun h=>by rw [c4] at h;cases h) (fun _=>?_);refine b7 ?_;refine ae.cond C (fun h=>by rw [dd] at h;cases h) (fun _=>?_);refine b7 ?_;refine ae.cond C (fun h=>by rw [eZ] at h;cases h) (fun _=>?_);refine b7 ?_;refine ae.cond C (fun h=>by rw [ph] at h;cases h) (fun _=>?_)
        repeat (first|(refine Si ?_)|refine aN.K9 ai I C C C C C C C C (fun cJ I=>?_)|(refine J6 I ?_;clear I;intro I))
        refine ae.cond C (fun h=>?_) (fun h=>?_)
        · have bD:f.op≠2:=by simpa using h
          rw [if_neg bD]
          repeat' (first|(with_reducible first|apply ae.seq|apply b5|apply fF|apply hg|apply ae.ret)|refine ae.cH ?_|refine aa.nil ?_|refine cE C ?_|refine aa.skip C C C ?_|refine aa.eB ai I C C C C C C zJ b6 ?_|(fail_if_success refine aa.same true C ?_);(fail_if_success refine aa.same false C ?_);refine aa.gV C C (fun h=>?_) (fun h=>?_))
          all_goals (refine Fin.cx I C (aS.of_eq (congrArg af.bool ?_));clear I dg a1 ns hle L3 AE hu ma;grind)
        have bD:f.op=2:=by simpa using h
        rw [if_pos bD];obtain ⟨cD,dh⟩:=iM.cls bD;obtain ⟨er,cv⟩:∃ er:Nat,f.cls=er:=⟨f.cls.toNat,by omega⟩;rw [cv,toNat_natCast];by_cases al:so=3
        · subst al
          obtain ⟨mP,ht⟩:=GO ma rfl;simp only at mP ht;obtain ⟨p,rfl⟩:∃ p:Nat,sq=p:=⟨sq.toNat,by omega⟩;obtain ⟨o,aD,e6⟩:=b1 (f:=iS) (l:=bk) (j:=p) ag;obtain ⟨⟨pP,bT⟩,-,-⟩:=ah.each o (mem_of_getElem? aD);have zx:bk.getD ((p:Int)).toNat default=o:=by rw [toNat_natCast,getD_eq_getElem?_getD,aD];rfl
          obtain ⟨c,wy⟩:∃ c:Nat,o.cls=c:=⟨o.cls.toNat,by omega⟩;obtain ⟨m,hm⟩:∃ m,(eN w.ps)[c]? = some m:=⟨_,getElem?_eq_getElem ag⟩;have oT:oL w (c:Int)=m:=by unfold oL;rw [toNat_natCast,getD_eq_getElem?_getD,hm];rfl
          have hs:=xR qH m (mem_of_getElem? hm);have vh:=ns m er hs ag;rw [if_pos C,zx,wy,oT];unfold iS at e6;rw [wy] at e6;have j4:=Av (w:=w) (xS hm);refine sN I ?_;intro I;refine aN.lN ai c C C C C C C C C C C ag ?_;refine aN.Ag ai C C C C C C C (by simpa using j4) ?_;refine c1 ?_;exact bl I
        · obtain ⟨c,wy⟩:∃ c:Nat,so=c:=⟨so.toNat,by have:=LY ma;simp only at this;omega⟩
          subst wy;have abe:c<3:=by have:=LY ma;simp only at this;omega
          obtain ⟨m,hm⟩:∃ m,(eN w.ps)[c]? = some m:=⟨_,getElem?_eq_getElem ag⟩;have oT:oL w (c:Int)=m:=by unfold oL;rw [toNat_natCast,getD_eq_getElem?_getD,hm];rfl
          have hs:=xR qH m (mem_of_getElem? hm);have vh:=ns m er hs ag;have j4:=Av (w:=w) (xS hm);rw [if_neg al,oT];have rK:((c:Int)==3)=false:=by simpa using al
          refine cI I ?_;intro I;refine ae.cond C (fun h=>by rw [rK] at h;cases h) (fun _=>?_);refine sN I ?_;intro I;refine aN.lN ai c C C C C C C C C C C ag ?_;refine aN.Ag ai C C C C C C C (by simpa using j4) ?_;refine c1 ?_;exact bl I
    · have ab:=ak.hV (l:=f.kids) (x:=x) kR
      have hT:=(CX f.kids (if f.cW then f.arg+1 else 0)).2 x kR;have i1:=a1 x ag ag (ka lR kR) ag;rw [AE,U,ad,CY _ _ _ 0 [x] x C];have cg:([x].map ak.bK)[0]? = some (.agg x.cells):=by rw [← ak.bX];rfl
      rw [ak.bX] at i1;unfold ak.cells;rw [U,ad];unfold gg e4 at *;refine bW ?_;exact bl I
    · have ab:=ak.hV (l:=f.kids) (x:=x) kR
      have hT:=(CX f.kids (if f.cW then f.arg+1 else 0)).2 x kR;have i1:=a1 x ag ag (ka lR kR) ag;have ay:=ak.hV (l:=f.kids) (x:=y) rG;have c8:=(CX f.kids (if f.cW then f.arg+1 else 0)).2 y rG;have i2:=a1 y ag ag (ka lR rG) ag;have cg:([x,y].map ak.bK)[0]? = some (.agg x.cells):=by rw [← ak.bX];rfl
      have bY:([x,y].map ak.bK)[1]? = some (.agg y.cells):=by rw [← ak.bX];rfl
      rw [ak.bX] at i1 i2;unfold gg e4 at *;rcases U with U|U
      all_goals
        rw [AE,U,ad,CY _ _ _ 0 [x,y] x C,CY _ _ _ 1 [x,y] y C];unfold ak.cells;rw [U,ad];refine bW ?_;cases uz:sY w bk args x with
        | true=>
          rw [uz] at i1;refine c1 ?_;exact bl I
        | false=>
          rw [uz] at i1;refine c1 ?_;exact bl I
def nt (w:bx) (f:ak) (bk:List e2) (args:List (Int×Int)):Bool×Int:=
 if iz w f&&(oK w bk args&&decide (lg f≤args.length)) then (sY w bk args f,0) else (false,2)
theorem U8 {w:bx} {bk:List e2} {args:List (Int×Int)} (h:oK w bk args=true):wu w bk∧args.length≤3∧∀ v∈args,hC bk.length v=true:=by
 unfold oK at h;simp only [and_eq_true,decide_eq_true_eq,all_eq_true] at h;exact ⟨wu.of h.1,h.2.2.1,h.2.2.2⟩
theorem GP (w:bx) (hw:gw w) (f:ak) (a6:f.size<bz) (bk:List e2) (args:List (Int×Int)) (aB:bk.length<bz) (ah:∀ o∈bk,o.bo.length<bz) (a7:args.length<bz):aR Tryz.prog 74 [fm w,f.bK,hk bk,kU args] (.cp [.bool (nt w f bk args).1,.int .i64 (nt w f bk args).2]):=by
 have aq:=bA;refine aR.bh ai Tryz.func74 C C fun s I=>?_
 have U:=GF w hw [f] cG (by intro g aw;rw [mem_singleton] at aw;subst aw;exact a6);have ad:=UA w hw bk args aB ah a7;rw [map_cons,map_nil,all_cons,all_nil,Bool.and_true] at U;have dV:nt w f bk args=if iz w f&&(oK w bk args&&decide (lg f≤args.length)) then (sY w bk args f,0) else (false,2):=rfl
 cases al:iz w f with
 | false=>
  rw [al,Bool.false_and,if_neg a'] at dV;rw [dV];rw [al,ak.bX] at U;rw [ak.bX];unfold fm fr c9 bf at *;unfold gg e4 at *;refine bW ?_;exact bl I
 | true=>
  have aw:=rA f w 12 24 al;have bd:=UB w f.size f (Nat.le_refl _) a6 aw;rw [al,Bool.true_and] at dV;rw [al] at U;cases bD:oK w bk args with
  | false=>
   rw [bD,Bool.false_and,if_neg a'] at dV;rw [dV];rw [bD] at ad;rw [ak.bX] at U ⊢;unfold fm fr c9 bf at *;unfold gg e4 at *;refine bW ?_;exact bl I
  | true=>
   obtain ⟨g1,g2,g3⟩:=U8 bD;rw [bD,Bool.true_and] at dV;rw [bD] at ad;by_cases gj:lg f≤args.length
   ·have ib:=U7 w hw bk g1 args g3 g2 f.size f (Nat.le_refl _) a6 aw gj
    rw [if_pos (by simpa using gj)] at dV;rw [dV];rw [ak.bX] at U bd ib ⊢;unfold fm fr c9 bf at *;unfold gg e4 at *;refine bW ?_;refine ae.cond C (fun h=>?_) (fun _=>?_)
    ·exfalso
     simp at h;omega
    refine c1 ?_;exact bl I
   ·rw [if_neg (by simpa using gj)] at dV
    rw [dV];rw [ak.bX] at U bd ⊢;unfold fm fr c9 bf at *;unfold gg e4 at *;refine bW ?_;refine ae.cond C (fun h=>?_) (fun h=>?_)
    ·refine gv ?_
     exact bl I
    ·exfalso
     simp at h;omega
end Go.Proofs.YtnafpeohfbglmaaGreat
namespace Go.eb
abbrev cf:=ak×Bool
def wz (x y:cf):Bool:=(x.2==y.2)&&ak.same x.1 y.1
theorem U9 (x y:cf):wz x y=true↔x=y:=by
 obtain ⟨f,b⟩:=x;obtain ⟨g,c⟩:=y;unfold wz;simp only [and_eq_true,beq_iff_eq,ak.Kk,Prod.mk.injEq];exact And.comm
def qK (out:List cf) (x:cf):List cf:=if out.any (wz x) then out else out++[x]
def jG (a b:List cf):List cf:=b.foldl qK a
theorem GQ:∀ (b a:List cf),(jG a b).length≤a.length+b.length
  | [],a=>Nat.le_refl _
  | x::r,a=>by
    have U:=GQ r (qK a x);have ad:(qK a x).length≤a.length+1:=by
      unfold qK;split
      · omega
      · simp
    have al:jG a (x::r)=jG (qK a x) r:=rfl;rw [al,length_cons];omega
theorem Dj {y:cf}:∀ (b a:List cf),y∈jG a b→y∈a∨y∈b
  | [],a,h => .inl h
  | x::r,a,h=>by
    rcases Dj r (qK a x) h with h|h
    · unfold qK at h
      split at h
      · exact .inl h
      · rcases mem_append.1 h with h|h
        · exact .inl h
        · exact .inr (by rw [mem_singleton] at h;subst h;exact mem_cons_self)
    · exact .inr (mem_cons_of_mem _ h)
mutual
def h0 (qL:Bool):ak→List (List cf)
 | .mk o a p c n ks=>
  if o=1 then (if qL then [] else [[]])
  else if o=5 then h' (!qL) 0 ks
  else if (ak.mk o a p c n ks).cW then [[(.mk o a p c n ks,qL)]]
  else if qL=decide (o=6) then h' qL 0 ks++h' qL 1 ks
  else (h' qL 0 ks).flatMap fun x=>(h' qL 1 ks).map (jG x)
def h' (qL:Bool):Nat→List ak→List (List cf)
 | _,[]=>[]
 | 0,x::_=>h0 qL x
 | n+1,_::r=>h' qL n r
end
theorem ta (c:Bool):∀ (n:Nat) (l:List ak) (x:ak),l[n]? = some x→h' c n l=h0 c x
 | 0,y::r,x,h=>by rw [h'];simp at h;rw [h]
 | n+1,y::r,x,h=>by rw [h'];exact ta c n r x fD
theorem L4 (b:Bool) (f:ak):h0 b f=if f.op=1 then (if b then [] else [[]])
  else if f.op=5 then h' (!b) 0 f.kids
  else if f.cW then [[(f,b)]]
  else if b=decide (f.op=6) then h' b 0 f.kids++h' b 1 f.kids
  else (h' b 0 f.kids).flatMap fun x=>(h' b 1 f.kids).map (jG x):=by cases f;rw [h0];rfl
def L5 (n:Nat) (l:List cf):Prop:=l.length≤n∧∀ x∈l,x.1.size≤n
theorem U' (f:ak):1≤f.size:=by rw [ak.size_eq];omega
mutual
theorem GR:∀ (f:ak) (b:Bool),∀ l∈h0 b f,L5 f.size l
  | .mk o a p c n ks,b,l,h=>by
    rw [h0] at h;have iB:=(ak.mk o a p c n ks).size_eq;have yb:(ak.mk o a p c n ks).kids=ks:=rfl;rw [yb] at iB;split at h
    · split at h
      · cases h
      · rw [mem_singleton] at h;subst h;exact ⟨by simp,by simp⟩
    · split at h
      · have:=uA ks _ 0 l h
        exact ⟨by have:=this.1;omega,fun x ab=>by have:=this.2 x ab;omega⟩
      · split at h
        · rw [mem_singleton] at h;subst h
          exact ⟨U' _,fun x ab=>by rw [mem_singleton] at ab;subst ab;exact Nat.le_refl _⟩
        · split at h
          · rcases mem_append.1 h with h|h
            · have:=uA ks _ 0 l h
              exact ⟨by have:=this.1;omega,fun x ab=>by have:=this.2 x ab;omega⟩
            · have:=uA ks _ 1 l h
              exact ⟨by have:=this.1;omega,fun x ab=>by have:=this.2 x ab;omega⟩
          · obtain ⟨x,ab,h⟩:=List.mem_flatMap.1 h
            obtain ⟨y,ay,rfl⟩:=mem_map.1 h;have U:=L6 ks b x y ab ay;refine ⟨by have:=GQ y x;omega,fun z bO=>?_⟩;rcases Dj y x bO with bO|bO
            · have:=(uA ks _ 0 x ab).2 z bO;omega
            · have:=(uA ks _ 1 y ay).2 z bO;omega
theorem uA:∀ (ks:List ak) (b:Bool) (n:Nat),∀ l∈h' b n ks,L5 (ak.hB ks) l
  | [],b,n,l,h=>by rw [h'] at h;cases h
  | x::r,b,0,l,h=>by
    rw [h'] at h;have:=GR x b l h;rw [ak.hB];exact ⟨by have:=this.1;omega,fun y ay=>by have:=this.2 y ay;omega⟩
  | x::r,b,n+1,l,h=>by
    rw [h'] at h;have:=uA r b n l h;rw [ak.hB];exact ⟨by have:=this.1;omega,fun y ay=>by have:=this.2 y ay;omega⟩
theorem L6:∀ (ks:List ak) (b:Bool) (x y:List cf),x∈h' b 0 ks→y∈h' b 1 ks→x.length+y.length≤ak.hB ks
  | [],b,x,y,h,_=>by rw [h'] at h;cases h
  | k::r,b,x,y,h,eT=>by
    rw [ta b 0 (k::r) k C] at h;rw [show (1:Nat)=0+1 from rfl,h'] at eT;have U:=(GR k b x h).1;have ad:=(uA r b 0 y eT).1;rw [ak.hB];omega
end
end Go.eb
namespace Go.Proofs.YtnafpeohfbglmaaGreat
open Go.cU Go.eb
theorem L7:∀ (a b:List ak),pG ak.same a b=ak.oJ a b
 | [],[]=>by rw [pG,ak.oJ]
 | [],_::_=>by rw [pG,ak.oJ]<;>simp
 | _::_,[]=>by rw [pG,ak.oJ]<;>simp
 | x::r,y::t=>by rw [pG,ak.oJ,L7 r t]
theorem Va (f g:ak):ak.same f g=(decide (f.op=g.op)&&(decide (f.arg=g.arg)&&(decide (f.cls=g.cls)&&(decide (f.n=g.n)&&(f.path==g.path&&ak.oJ f.kids g.kids))))):=by
 cases f;cases g;rw [ak.same];rfl
theorem Vb:∀ (n:Nat) (f g:ak),f.size≤n→n<bz→g.size<bz→aR Tryz.prog 268 [f.bK,g.bK] (.bool (ak.same f g)):=by
  have aq:=bA;intro n
  induction n with
  | zero=>intro x _ h;have:=x.size_eq;omega
  | succ n a1=>
    intro f g az iY aw;have U:=f.size_eq;have ad:=g.size_eq;have lz:=ak.pz f.kids;have eS:=ak.pz g.kids;have al:=z1 f.path g.path ag ag
    have bd:=TH (.func 268 [] []) ak.same f.kids g.kids ag ag (fun x ab y ay=>eA.fk (first:=[]) (cap:=[]) (by
      have:=ak.hV ab
      have:=ak.hV ay
      exact a1 x y ag ag ag))
    rw [L7] at bd;refine aR.bh ai Tryz.func268 C C fun s I=>?_
    rw [ak.bX,ak.bX,Va];unfold bf ba at al
    repeat' (first|(with_reducible first|apply ae.seq|apply b5|apply ae.ret)|refine c0 C ?_|refine ae.cH ?_|refine aa.nil ?_|refine cE C ?_|refine aa.skip C C C ?_|refine aa.eg C C C C C cu ?_|(fail_if_success refine aa.same true C ?_);(fail_if_success refine aa.same false C ?_);refine aa.gV C C (fun h=>?_) (fun h=>?_))
    all_goals (refine Fin.cx I C (aS.of_eq (congrArg af.bool ?_));clear I al bd a1;grind)
theorem Vc (x y:cf) (ab:x.1.size<bz) (ay:y.1.size<bz):eA Tryz.prog (.func 267 [] [.bw (pH x) 0]) [hZ y] (.bool (wz x y)):=by
 have aq:=bA;refine eA.fk (first:=[]) (cap:=[.bw (pH x) 0]) ?_;refine aR.bh ai Tryz.func267 C C fun s I=>?_
 obtain ⟨f,b⟩:=x;obtain ⟨g,c⟩:=y;have U:=Vb f.size f g (Nat.le_refl _) ab ay;rw [ak.bX,ak.bX] at U;unfold hZ pH wz;simp only
 repeat' (first|(with_reducible first|apply ae.seq|apply b5|apply ae.ret)|refine c0 C ?_|refine ae.cH ?_|refine aa.nil ?_|refine cE C ?_|refine aa.skip C C C ?_|refine aa.eg C C C C C cu ?_|(fail_if_success refine aa.same true C ?_);(fail_if_success refine aa.same false C ?_);refine aa.gV C C (fun h=>?_) (fun h=>?_))
 all_goals (refine Fin.cx I C (aS.of_eq (congrArg af.bool ?_));clear I U;grind)
theorem Vd (l:List cf):∀ y∈l.map hZ,j5 7 y=true:=TK l
theorem Ve (l:List cf) (own:bL) (aB:l.length<bz):bE Tryz.prog 265 [.aA 7 (l.map hZ) own] [] (fun o K=>∃ cQ,o = .ret (.aA 7 (l.map hZ) cQ)∧K=[(cQ,.row 289 7 l.length)]):=by
 have aq:=bA;refine bE.bh ai Tryz.func265 C C fun s I=>?_
 refine dv ?_;refine aa.op C C C (aZ.Gm ai C C C C (X:=fun _ _=>False)) ?_ (fun _ _ h=>False.elim h);rintro r aj ⟨rfl,⟨rfl,az⟩|rfl⟩
 ·have tO:l.length=0:=by simpa using congrArg List.length az
  refine aa.h7 I 289 7 0 fun I=>?_
  refine eh ?_;rw [az,tO];exact Fin.bu I C (aS.nil gW) (aH.all _) ⟨.nil,rfl,rfl⟩
 ·refine bC ?_
  refine aa.Ab I 289 7 0 fun I=>?_
  refine aa.qs ai I C C C C C C C en C C C C (.inr C) C (Vd l) C .here C (n':=l.length) a' (by simp only [length_nil,zero_add,length_map];show _*88≤_;omega) Gv (fun s4 I=>?_);refine eu ?_;exact Fin.bu I C aL (aH.all _) ⟨s4,rfl,rfl⟩
theorem Vf (fv:af) (xs:List cf) (T:Nat→a8) (cm:Nat→Bool) (aB:xs.length<bz) (h:∀ j x,xs[j]? = some x→(∀ i,i<j→cm i=false)→dp Tryz.prog fv [hZ x] (T j) (fun o K=>o = .ret (.bool (cm j))∧K=T (j+1))) :
  bE Tryz.prog 279 [.aA 7 (xs.map hZ) .bb,fv] (T 0)
   (fun o K=>(o = .ret (.int .i64 (-1))∧K=T xs.length∧∀ i,i<xs.length→cm i=false)∨∃ j,j<xs.length∧cm j=true∧(∀ i,i<j→cm i=false)∧o = .ret (.int .i64 (j:Int))∧K=T (j+1)):=by
 have aq:=bA;refine bE.bh ai Tryz.func279 C C fun s I=>?_
 refine gm ?_;refine ae.xL I (σ:=Nat) (fun j=>[(0,.aA 7 (xs.map hZ) .bb),(1,fv),(7,.int .i64 xs.length),(8,.int .i64 (j:Int))]) T (fun j=>j≤xs.length∧∀ i,i<j→cm i=false) (fun j=>xs.length-j) 0 ⟨by omega,fun i aQ=>by omega⟩ zK (aH.all _) ?_;rintro j ⟨aK,an⟩ I;refine b7 ?_;refine ae.cond C (fun au=>?_) (fun aV=>?_)
 ·have au:j<xs.length:=by simpa using au
  obtain ⟨x,ab,bJ⟩:=b1 (f:=hZ) au;have av:=h j x ab an
  try rw [hZ] at bJ av
  refine bC ?_;refine aa.gH rfl rfl rfl rfl rfl rfl av I (aH.all _) ?_ (fun _ _ ⟨h,_⟩ _=>by cases h);rintro _ _ ⟨⟨⟩,rfl⟩ I;rw [append_nil] at I ⊢;cases nX:cm j with
  | true=>
   refine e1 ?_;exact Fin.bu I C aL (aH.all _) (.inr ⟨j,au,nX,an,rfl,rfl⟩)
  | false=>
   refine bC ?_
   exact bn.mk (j+1) I ⟨au,fun i aQ=>by
    rcases Nat.lt_succ_iff_lt_or_eq.1 aQ with aQ|rfl
    ·exact an i aQ
    ·exact nX⟩ ca (aH.all _) ru
 ·have aV:j=xs.length:=by
   have:xs.length≤j:=by simpa using aV
   omega
  subst aV;refine dN ?_;exact Fin.bu I C aL (aH.all _) (.inl ⟨rfl,rfl,an⟩)
theorem Vg (fv:af) (xs:List cf) (T:Nat→a8) (cm:Nat→Bool) (aB:xs.length<bz) (h:∀ j x,xs[j]? = some x→(∀ i,i<j→cm i=false)→dp Tryz.prog fv [hZ x] (T j) (fun o K=>o = .ret (.bool (cm j))∧K=T (j+1))) :
  bE Tryz.prog 266 [.aA 7 (xs.map hZ) .bb,fv] (T 0)
   (fun o K=>(o = .ret (.bool false)∧K=T xs.length∧∀ i,i<xs.length→cm i=false)∨∃ j,j<xs.length∧cm j=true∧(∀ i,i<j→cm i=false)∧o = .ret (.bool true)∧K=T (j+1)):=by
 refine bE.bh ai Tryz.func266 C C fun s I=>?_
 refine dv ?_;refine aa.b3 rfl rfl rfl rfl rfl (Vf fv xs T cm aB h) I (aH.all _) ?_ (fun _ _ h _=>by rcases h with ⟨h,_⟩|⟨_,_,_,_,h,_⟩<;>cases h);rintro _ _ (⟨⟨⟩,rfl,U⟩|⟨j,U,ad,al,⟨⟩,rfl⟩) I
 all_goals rw [append_nil] at I ⊢
 ·refine eu ?_
  exact Fin.bu I C aL (aH.all _) (.inl ⟨rfl,rfl,U⟩)
 ·refine eu ?_
  exact Fin.bu I C (by simp;exact aL) (aH.all _) (.inr ⟨j,U,ad,al,rfl,rfl⟩)
theorem Vh (fv:af) (q:cf→Bool) (xs:List cf) (aB:xs.length<bz) (h:∀ x∈xs,eA Tryz.prog fv [hZ x] (.bool (q x))) :
  aR Tryz.prog 266 [.aA 7 (xs.map hZ) .bb,fv] (.bool (xs.any q)):=
 Ae (fun T cm ez=>Vg fv xs T cm aB ez) h
theorem Vi (a b:List cf) (aB:a.length+b.length<bz) (a7:∀ x∈a,x.1.size<bz) (mi:∀ x∈b,x.1.size<bz):aR Tryz.prog 246 [.aA 7 (a.map hZ) .bb,.aA 7 (b.map hZ) .bb] (.aA 7 ((jG a b).map hZ) .bb):=by
 have aq:=bA;refine aR.bh ai Tryz.func246 C C fun s I=>?_
 have U:=Ve a .bb ag;have hlen:∀ j,(jG a (b.take j)).length≤a.length+j:=fun j=>by
  have:=GQ (b.take j) a;have:=List.length_take_le j b;omega
 have fW:∀ j,∀ x∈jG a (b.take j),x.1.size<bz:=fun j x ab=>by
  rcases Dj _ _ ab with h|h
  ·exact a7 x h
  ·exact mi x (List.mem_of_mem_take h)
 refine dv ?_;refine aa.b3 rfl rfl rfl rfl rfl U I (aH.all _) ?_ (fun _ _ ⟨_,h,_⟩ _=>by cases h);rintro _ _ ⟨Vj,⟨⟩,rfl⟩ I;rw [append_nil] at I ⊢;refine bC ?_;refine ae.b4 [10,11] C I (σ:=Nat×bL) (fun q=>[(12,.int .i64 (q.1:Int)),(5,.aA 7 ((jG a (b.take q.1)).map hZ) q.2)]) (fun q=>[(q.2,.row 289 7 (jG a (b.take q.1)).length)]) (fun q=>q.1≤b.length) (fun q=>b.length-q.1) (0,Vj) (zero_le _) (cq C) aX ?_;rintro ⟨j,own⟩ aK I;simp only at aK I ⊢;refine b7 ?_;refine ae.cond C (fun au=>?_) (fun aV=>?_);rotate_left
 ·have aV:j=b.length:=by simp at aV;omega
  subst aV;rw [take_length];refine dN ?_;exact Fin.cx I C aS.bb
 have au:j<b.length:=by simpa using au
 obtain ⟨x,ab,bJ⟩:=b1 (f:=hZ) au;have ar:jG a (b.take (j+1))=qK (jG a (b.take j)) x:=by
  unfold jG;rw [iA ab,List.foldl_append];rfl
 unfold qK at ar;have c5:=mi x (mem_of_getElem? ab);have lz:=hlen j;have qf:=fW j;generalize dE:jG a (b.take j)=out at I ar lz qf ⊢;have aC:=Vh (.func 267 [] [.bw (pH x) 0]) (wz x) out ag (fun y ay=>Vc x y c5 (qf y ay));cases av:out.any (wz x) with
 | true=>
  rw [av] at aC;rw [av,if_pos C] at ar;refine ej ?_;exact bn.mk (j+1,own) I au kq (by show aH _ [(_,.row _ _ (jG a (b.take (j+1))).length)] _;rw [ar];exact aH.dq _) (by show b.length-(j+1)<b.length-j;omega)
 | false=>
  rw [av] at aC;rw [av,if_neg a'] at ar;refine ej ?_;refine aa.gb ai I C C C C C C C en C C C C C C C C aY hi (by show (_+1)*88≤_;omega) ag (fun bT I=>?_);refine fG ?_;exact bn.mk (j+1,.own bT) I au (by repeat (first|exact trivial|refine ⟨⟨_,rfl,aL⟩,?_⟩|refine ⟨⟨_,rfl,aS.of_eq (by (first|rw [jD ag]|(rw [ar,map_append];rfl)))⟩,?_⟩)) (by show aH _ [(_,.row _ _ (jG a (b.take (j+1))).length)] _;rw [ar,length_append,List.length_singleton];exact aH.dq _) (by show b.length-(j+1)<b.length-j;omega)
end Go.Proofs.YtnafpeohfbglmaaGreat
namespace Go.cU
theorem dp.args {P:Program} {fv:af} {xs ys:List af} {K:a8} {acs:ey→a8→Prop} (h:cR xs ys) (k:dp P fv ys K acs):dp P fv xs K acs:=
 fun s I w p v vs cc av aF=>k s I w p v vs cc av (h.rel aF)
end Go.cU
namespace Go.Proofs.YtnafpeohfbglmaaGreat
open Go.cU Go.eb
def Vk (dS:Nat):af := .func 243 [] [.ptr dS 0]
abbrev pQ (l:List cf):af := .aA 7 (l.map hZ) .bb
def rL (dS:Nat):dC := .box 287 [Vk dS]
def AF {α:Type} (Go:List α→a8→Prop) (fA:a8→Prop) (fI:af→a8→Prop) (rem:List α) (o:ey) (aO:a8):Prop:=
 (o = .ret (.bool true)∧Go rem aO)∨(o = .ret (.bool false)∧fA aO)∨∃ v,o = .panic v∧fI v aO
structure AG (dS:Nat) (fv:af) (Go:List (List cf)→a8→Prop) (fA:a8→Prop) (fI:af→a8→Prop):Prop where
 one:cellsOf fv=some [fv]
 call:∀ x rem K,Go (x::rem) K→dp Tryz.prog fv [pQ x] K (AF Go fA fI rem)
 qM:∀ xs K,Go xs K→∃ R,bp K (.own dS) (rL dS) R
 wA:∀ K,fA K→∃ R,bp K (.own dS) (rL dS) R
theorem Vl {dS:Nat} {fv:af} {Go:List (List cf)→a8→Prop} {fA:a8→Prop} {fI:af→a8→Prop} (ez:AG dS fv Go fA fI) (a z:List cf) (aB:a.length+z.length<bz) (a7:∀ x∈a,x.1.size<bz) (bO:∀ x∈z,x.1.size<bz) (rem:List (List cf)) (K:a8) (dz:Go (jG a z::rem) K) :
  dp Tryz.prog (.func 245 [] [.bw [fv] 0,.bw [pQ a] 0]) [pQ z] K (AF Go fA fI rem):=by
 refine dp.fk (first:=[]) (cap:=[.bw [fv] 0,.bw [pQ a] 0]) ?_;refine bE.bh ai Tryz.func245 C C fun s I=>?_
 have U:=Vi a z aB a7 bO;have ad:=ez.call _ _ _ dz;refine oF ?_;refine aN.Tv C C C C C C C ad I (aH.all _) ?_ ?_
 ·rintro x aO (⟨⟨⟩,aw⟩|⟨⟨⟩,ax⟩|⟨_,⟨⟩,_⟩) I
  all_goals rw [append_nil] at I ⊢
  ·refine hr ?_
   exact Fin.bu I C aL (aH.all _) (.inl ⟨rfl,aw⟩)
  ·refine hr ?_
   exact Fin.bu I C aL (aH.all _) (.inr (.inl ⟨rfl,ax⟩))
 ·rintro x aO (⟨h,_⟩|⟨h,_⟩|⟨v,⟨⟩,aD⟩) I
  ·cases h
  ·cases h
  rw [append_nil] at I ⊢;exact Fin.e9 I aL (aH.all _) (.inr (.inr ⟨_,rfl,aD⟩))
theorem Vm (w:bx) (dS:Nat):∀ (n:Nat) (f:ak),f.size≤n→n<bz→gx w f=true→∀ (b:Bool) (fv:af) (Go:List (List cf)→a8→Prop) (fA:a8→Prop) (fI:af→a8→Prop),AG dS fv Go fA fI →
  ∀ (rest:List (List cf)) (K:a8),Go (h0 b f++rest) K→bE Tryz.prog 243 [f.bK,.bool b,fv,.ptr dS 0] K (AF Go fA fI rest):=by
 have aq:=bA;intro n
 induction n with
 | zero=>intro x h;have:=x.size_eq;omega
 | succ n a1=>
  intro f az iY aw b fv Go fA fI ez rest K dz;obtain ⟨R,ar⟩:=ez.qM _ _ dz;have uv:=ez.one;have iB:=f.size_eq;have gh:=L4 b f;rw [nh,and_eq_true] at aw;obtain ⟨qI,lR⟩:=aw;have hD:=GB f;rw [ak.bX] at hD;refine bE.bh ai Tryz.func243 C C fun s I=>?_
  rw [ak.bX];rcases AD qI with ⟨U,ad⟩|⟨aB,ad,U⟩|⟨U,x,ad⟩|⟨U,x,y,ad⟩
  ·rw [gh,U,if_pos C] at dz
   unfold ak.cells;rw [U];cases b with
   | true=>
    refine jS ?_;refine aa.jR I C C C C C uv (fun qN I=>?_);refine aa.mF I 6 qN C .here (fun I=>?_);refine bC ?_;exact Fin.bu I C aL (aH.all _) (.inl ⟨rfl,dz⟩)
   | false=>
    have al:=dp.args (show cR [.aA 0 [] .nil] [pQ []] from .one aS.empty) (ez.call _ _ _ dz);refine jS ?_;refine aa.jR I C C C C C uv (fun qN I=>?_);refine aa.mF I 6 qN C .here (fun I=>?_);refine bC ?_;refine aa.gH C C C C C C al I (aH.all _) ?_ ?_
    ·rintro x aO (⟨⟨⟩,aw⟩|⟨⟨⟩,ax⟩|⟨_,⟨⟩,_⟩) I
     all_goals rw [append_nil] at I ⊢
     ·refine e1 ?_
      exact Fin.bu I C aL (aH.all _) (.inl ⟨rfl,aw⟩)
     ·refine e1 ?_
      exact Fin.bu I C aL (aH.all _) (.inr (.inl ⟨rfl,ax⟩))
    ·rintro x aO (⟨h,_⟩|⟨h,_⟩|⟨v,⟨⟩,aD⟩) I
     ·cases h
     ·cases h
     rw [append_nil] at I ⊢;exact Fin.e9 I aL (aH.all _) (.inr (.inr ⟨_,rfl,aD⟩))
  ·rw [gh,if_neg ag,if_neg ag,if_pos aB] at dz
   rw [aB] at hD;have c4:(f.op==1)=false:=by simp;omega
   have dd:(f.op==5)=false:=by simp;omega
   have al:=dp.args (show cR [.aA 7 [hZ (f,b)] .clip] [pQ [(f,b)]] from .one aS.bb) (ez.call _ _ _ dz);unfold hZ pH ak.cells at al;unfold ak.cells;refine jS ?_;refine aa.jR I C C C C C uv (fun qN I=>?_);refine aa.mF I 6 qN C .here (fun I=>?_);refine bC ?_;refine ae.cond C (fun h=>by rw [c4] at h;cases h) (fun _=>?_);refine b7 ?_;refine ae.cond C (fun h=>by rw [dd] at h;cases h) (fun _=>?_);refine c1 ?_;refine aa.gH C C C C C C al I (aH.all _) ?_ ?_
   ·rintro x aO (⟨⟨⟩,aw⟩|⟨⟨⟩,ax⟩|⟨_,⟨⟩,_⟩) I
    all_goals rw [append_nil] at I ⊢
    ·refine e1 ?_
     exact Fin.bu I C aL (aH.all _) (.inl ⟨rfl,aw⟩)
    ·refine e1 ?_
     exact Fin.bu I C aL (aH.all _) (.inr (.inl ⟨rfl,ax⟩))
   ·rintro x aO (⟨h,_⟩|⟨h,_⟩|⟨v,⟨⟩,aD⟩) I
    ·cases h
    ·cases h
    rw [append_nil] at I ⊢;exact Fin.e9 I aL (aH.all _) (.inr (.inr ⟨_,rfl,aD⟩))
  ·have ab:=ak.hV (l:=f.kids) (x:=x) kR
   have i1:=a1 x ag ag (ka lR kR) (!b) fv Go fA fI ez rest K;have cg:([x].map ak.bK)[0]? = some (.agg x.cells):=by rw [← ak.bX];rfl
   rw [gh,U,if_neg ag,if_pos C,ad,ta _ 0 [x] x C] at dz;have i1:=dp.fk (first:=[]) (args:=[x.bK,.bool (!b),fv]) (cap:=[.ptr dS 0]) (i1 dz);rw [ak.bX] at i1;unfold rL at ar;unfold ak.cells;rw [U,ad];refine jS ?_;refine aa.jR I C C C C C uv (fun qN I=>?_);refine aa.mF I 6 qN C .here (fun I=>?_);refine aa.run ai C (aa.nil ?_)
   repeat (first
    | refine ae.uh I dS ar ai mixed C ?_
    | with_reducible apply ae.seq
    | with_reducible apply b5
    | with_reducible apply fz
    | with_reducible apply ae.block
    | refine ae.ft C ?_
    | refine ae.gP C ?_
    | refine c0 C ?_
    | refine ae.skip ?_)
   refine c1 ?_;refine aN.Ah C C C C C C C i1 I (aH.all _) (fun x aO h=>?_) ?_ ?_
   ·rw [append_nil]
    rcases h with ⟨_,h⟩|⟨_,h⟩|⟨_,h,_⟩
    ·exact ez.qM _ _ h
    ·exact ez.wA _ h
    ·cases h
   ·rintro x aO (⟨⟨⟩,aw⟩|⟨⟨⟩,ax⟩|⟨_,⟨⟩,_⟩) I
    all_goals rw [append_nil] at I ⊢
    ·refine hr ?_
     exact Fin.bu I C aL (aH.all _) (.inl ⟨rfl,aw⟩)
    ·refine hr ?_
     exact Fin.bu I C aL (aH.all _) (.inr (.inl ⟨rfl,ax⟩))
   ·rintro x aO (⟨h,_⟩|⟨h,_⟩|⟨v,⟨⟩,aD⟩) I
    ·cases h
    ·cases h
    rw [append_nil] at I ⊢;exact Fin.e9 I aL (aH.all _) (.inr (.inr ⟨_,rfl,aD⟩))
  ·have ab:=ak.hV (l:=f.kids) (x:=x) kR
   have ay:=ak.hV (l:=f.kids) (x:=y) rG;have i1:=a1 x ag ag (ka lR kR) b;have i2:=a1 y ag ag (ka lR rG) b;have cg:([x,y].map ak.bK)[0]? = some (.agg x.cells):=by rw [← ak.bX];rfl
   have bY:([x,y].map ak.bK)[1]? = some (.agg y.cells):=by rw [← ak.bX];rfl
   have nH:f.cW=false:=by unfold ak.cW;simp;omega
   have GS:=uA f.kids b;have uB:=L6 f.kids b;rw [nH] at hD;have abf:=dz;rw [gh,if_neg ag,if_neg ag,if_neg (by rw [nH];simp),ad,ta _ 0 [x,y] x C,ta _ 1 [x,y] y C] at dz;rw [ad] at GS uB;have L8:=GS 0;have L9:=GS 1;rw [ta _ 0 [x,y] x C] at L8;rw [ta _ 1 [x,y] y C] at L9;rw [ta _ 0 [x,y] x C,ta _ 1 [x,y] y C] at uB;have b':ak.hB [x,y]<bz:=by rw [← ad];omega
   unfold rL at ar;unfold ak.cells at hD ⊢;by_cases GU:b=decide (f.op=6)
   ·rw [if_pos GU,append_assoc] at dz
    have wB:=dp.fk (first:=[]) (args:=[x.bK,.bool b,fv]) (cap:=[.ptr dS 0]) (i1 fv Go fA fI ez _ K dz);have lo:=fun K dz=>dp.fk (first:=[]) (args:=[y.bK,.bool b,fv]) (cap:=[.ptr dS 0]) (i2 fv Go fA fI ez rest K dz)
    rw [ak.bX] at wB lo;have c4:(f.op==1)=false:=by simp;omega
    have dd:(f.op==5)=false:=by simp;omega
    have eZ:(b==(f.op==6))=true:=by rw [GU];by_cases gj:f.op=6<;>simp [gj]
    rw [ad] at hD ⊢;refine jS ?_;refine aa.jR I C C C C C uv (fun qN I=>?_);refine aa.mF I 6 qN C .here (fun I=>?_);refine bC ?_;refine ae.cond C (fun h=>by rw [c4] at h;cases h) (fun _=>?_);refine b7 ?_;refine ae.cond C (fun h=>by rw [dd] at h;cases h) (fun _=>?_);refine bW ?_;refine ae.cond C (fun _=>?_) (fun h=>by rw [eZ] at h;cases h)
    repeat (first
     | refine ae.uh I dS ar ai mixed C ?_
     | with_reducible apply ae.seq
     | with_reducible apply b5
     | with_reducible apply fz
     | with_reducible apply ae.block
     | refine ae.ft C ?_
     | refine ae.gP C ?_
     | refine c0 C ?_
     | refine ae.skip ?_)
    refine c1 ?_;refine aN.Ah C C C C C C C wB I (aH.all _) (fun x aO h=>?_) ?_ ?_
    ·rw [append_nil]
     rcases h with ⟨_,h⟩|⟨_,h⟩|⟨_,h,_⟩
     ·exact ez.qM _ _ h
     ·exact ez.wA _ h
     ·cases h
    rotate_left
    ·rintro x aO (⟨h,_⟩|⟨h,_⟩|⟨v,⟨⟩,aD⟩) I
     ·cases h
     ·cases h
     rw [append_nil] at I ⊢;exact Fin.e9 I aL (aH.all _) (.inr (.inr ⟨_,rfl,aD⟩))
    rintro _ aO (⟨⟨⟩,aw⟩|⟨⟨⟩,ax⟩|⟨_,h,_⟩) I
    ·rw [append_nil] at I ⊢
     refine c1 ?_;refine aN.Ah C C C C C C C (lo _ aw) I (aH.all _) (fun x aO h=>?_) ?_ ?_
     ·rw [append_nil]
      rcases h with ⟨_,h⟩|⟨_,h⟩|⟨_,h,_⟩
      ·exact ez.qM _ _ h
      ·exact ez.wA _ h
      ·cases h
     ·rintro x aO (⟨⟨⟩,aw⟩|⟨⟨⟩,ax⟩|⟨_,⟨⟩,_⟩) I
      all_goals rw [append_nil] at I ⊢
      ·refine hr ?_
       exact Fin.bu I C aL (aH.all _) (.inl ⟨rfl,aw⟩)
      ·refine hr ?_
       exact Fin.bu I C aL (aH.all _) (.inr (.inl ⟨rfl,ax⟩))
     ·rintro x aO (⟨h,_⟩|⟨h,_⟩|⟨v,⟨⟩,aD⟩) I
      ·cases h
      ·cases h
      rw [append_nil] at I ⊢;exact Fin.e9 I aL (aH.all _) (.inr (.inr ⟨_,rfl,aD⟩))
    ·rw [append_nil] at I ⊢
     refine hr ?_;exact Fin.bu I C aL (aH.all _) (.inr (.inl ⟨rfl,ax⟩))
    ·cases h
   ·rw [if_neg GU] at dz
    have c4:(f.op==1)=false:=by simp;omega
    have dd:(f.op==5)=false:=by simp;omega
    have eZ:(b==(f.op==6))=false:=by
     cases b<;>simp_all
    have Vn:∀ (a:List cf) (rest:List (List cf)),a∈h0 b x→AG dS (.func 245 [] [.bw [fv] 0,.bw [pQ a] 0]) (fun aY K=>(∀ z∈aY,z∈h0 b y)∧Go (aY.map (jG a)++rest) K) fA fI:=fun a rest a7=>by
     refine ⟨rfl,fun z rem K ⟨bO,aw⟩=>?_,fun xs K h=>ez.qM _ _ h.2,ez.wA⟩;have GV:=bO z mem_cons_self;refine dp.mono (Vl ez a z (by have:=uB a z a7 GV;omega) (fun u hu=>by have:=(L8 a a7).2 u hu;omega) (fun u hu=>by have:=(L9 z GV).2 u hu;omega) (rem.map (jG a)++rest) K aw) ?_;rintro o aO (⟨U,h⟩|h|h)
     ·exact .inl ⟨U,fun z s6=>bO z (mem_cons_of_mem _ s6),h⟩
     ·exact .inr (.inl h)
     ·exact .inr (.inr h)
    have Vo:AG dS (.func 244 [] [.ptr dS 0,.bw f.cells 0,.bw [.bool b] 0,.bw [fv] 0]) (fun xs K=>(∀ a∈xs,a∈h0 b x)∧Go ((xs.flatMap fun a=>(h0 b y).map (jG a))++rest) K) fA fI:=by
     refine ⟨rfl,fun a rem K ⟨a7,aw⟩=>?_,fun xs K h=>ez.qM _ _ h.2,ez.wA⟩;obtain ⟨R,ar⟩:=ez.qM _ _ aw;unfold rL at ar;refine dp.fk (first:=[]) (cap:=[.ptr dS 0,.bw f.cells 0,.bw [.bool b] 0,.bw [fv] 0]) ?_;refine bE.bh ai Tryz.func244 C C fun s I=>?_
     rw [List.flatMap_cons,append_assoc] at aw;have lo:=dp.fk (first:=[]) (args:=[y.bK,.bool b,.func 245 [] [.bw [fv] 0,.bw [pQ a] 0]]) (cap:=[.ptr dS 0]) (i2 _ _ fA fI (Vn a ((rem.flatMap fun a=>(h0 b y).map (jG a))++rest) (a7 a mem_cons_self)) [] K ⟨fun z bO=>by rw [append_nil] at bO;exact bO,by rw [append_nil];exact aw⟩);rw [ak.bX] at lo;unfold ak.cells;rw [ad];unfold ak.cells at lo
     repeat (first
      | refine ae.uh I dS ar ai mixed C ?_
      | with_reducible apply ae.seq
      | with_reducible apply b5
      | with_reducible apply fz
      | with_reducible apply ae.block
      | refine ae.ft C ?_
      | refine ae.gP C ?_
      | refine c0 C ?_
      | refine ae.skip ?_)
     refine c1 ?_;refine aN.Ah C C C C C C C lo I (aH.all _) (fun x aO h=>?_) ?_ ?_
     ·rw [append_nil]
      rcases h with ⟨_,h⟩|⟨_,h⟩|⟨_,h,_⟩
      ·exact ez.qM _ _ h.2
      ·exact ez.wA _ h
      ·cases h
     ·rintro x aO (⟨⟨⟩,aw⟩|⟨⟨⟩,ax⟩|⟨_,⟨⟩,_⟩) I
      all_goals rw [append_nil] at I ⊢
      ·refine hr ?_
       exact Fin.bu I C aL (aH.all _) (.inl ⟨rfl,fun z bO=>a7 z (mem_cons_of_mem _ bO),aw.2⟩)
      ·refine hr ?_
       exact Fin.bu I C aL (aH.all _) (.inr (.inl ⟨rfl,ax⟩))
     ·rintro x aO (⟨h,_⟩|⟨h,_⟩|⟨v,⟨⟩,aD⟩) I
      ·cases h
      ·cases h
      rw [append_nil] at I ⊢;exact Fin.e9 I aL (aH.all _) (.inr (.inr ⟨_,rfl,aD⟩))
    have wB:=dp.fk (first:=[]) (args:=[x.bK,.bool b,.func 244 [] [.ptr dS 0,.bw f.cells 0,.bw [.bool b] 0,.bw [fv] 0]]) (cap:=[.ptr dS 0]) (i1 _ _ fA fI Vo [] K ⟨fun z bO=>by rw [append_nil] at bO;exact bO,by rw [append_nil];exact dz⟩);rw [ak.bX] at wB;unfold ak.cells at wB;rw [ad] at wB hD ⊢;refine jS ?_;refine aa.jR I C C C C C uv (fun qN I=>?_);refine aa.mF I 6 qN C .here (fun I=>?_);refine bC ?_;refine ae.cond C (fun h=>by rw [c4] at h;cases h) (fun _=>?_);refine b7 ?_;refine ae.cond C (fun h=>by rw [dd] at h;cases h) (fun _=>?_);refine bW ?_;refine ae.cond C (fun h=>by rw [eZ] at h;cases h) (fun _=>?_)
    repeat (first
     | refine ae.uh I dS ar ai mixed C ?_
     | with_reducible apply ae.seq
     | with_reducible apply b5
     | with_reducible apply fz
     | with_reducible apply ae.block
     | refine ae.ft C ?_
     | refine ae.gP C ?_
     | refine c0 C ?_
     | refine ae.skip ?_)
    refine c1 ?_;refine aN.Ah C C C C C C C wB I (aH.all _) (fun x aO h=>?_) ?_ ?_
    ·rw [append_nil]
     rcases h with ⟨_,h⟩|⟨_,h⟩|⟨_,h,_⟩
     ·exact ez.qM _ _ h.2
     ·exact ez.wA _ h
     ·cases h
    ·rintro x aO (⟨⟨⟩,aw⟩|⟨⟨⟩,ax⟩|⟨_,⟨⟩,_⟩) I
     all_goals rw [append_nil] at I ⊢
     ·refine hr ?_
      exact Fin.bu I C aL (aH.all _) (.inl ⟨rfl,aw.2⟩)
     ·refine hr ?_
      exact Fin.bu I C aL (aH.all _) (.inr (.inl ⟨rfl,ax⟩))
    ·rintro x aO (⟨h,_⟩|⟨h,_⟩|⟨v,⟨⟩,aD⟩) I
     ·cases h
     ·cases h
     rw [append_nil] at I ⊢;exact Fin.e9 I aL (aH.all _) (.inr (.inr ⟨_,rfl,aD⟩))
end Go.Proofs.YtnafpeohfbglmaaGreat
namespace Go.cU
def oU (k:IntKind) (xs:List Int):Value := .agg (xs.map (Value.int k)).toArray
def kf (k:IntKind) (xs:List Int):af := .agg (xs.map (af.int k))
structure rM (P:Program) (dQ:TypeId) (k:IntKind) (n:Nat):Prop where
 wide:(match P.underlying dQ with|some (.array _ _)|some (.struct _)=>true|_=>false)=true
 check:∀ e xs,xs.length=n→∀ w,(Instr.checkKey e 10000 dQ (oU k xs)).run P w = .ok () w
 eq:∀ xs ys,xs.length=n→ys.length=n→∀ w,(Op.equal dQ (oU k xs) (oU k ys)).run P w = .ok (xs==ys) w
theorem AH {w:World} {p:bR} {k:IntKind} {v:Value}:∀ {xs:List Int},Rel w p v (kf k xs)→v=oU k xs:=by
 intro xs h;cases h with
 | agg cs _ aF=>
 have:∀ {l:List Value} {xs:List Int},bG w p l (xs.map (af.int k))→l=xs.map (Value.int k):=by
  intro l
  induction l with
  | nil=>intro xs h;cases xs with|nil=>rfl|cons x r=>cases h
  | cons v l a1=>
   intro xs h;cases xs with
   | nil=>cases h
   | cons x r=>
    cases h with
    | cons _ _ _ _ U ad=>
    cases U;rw [a1 ad];rfl
 unfold oU;rw [← this aF]
def mj (k:IntKind) (l:List (List Int×af)):List (af×af):=l.map fun e=>(kf k e.1,e.2)
theorem L' {P:Program} {dQ:TypeId} {k:IntKind} {n:Nat} (gJ:rM P dQ k n) {w:World} {p:bR} {xs:List Int} (ab:xs.length=n):∀ (cN:List MapEntry) (l:List (List Int×af)) (i:Nat),
  lx w p cN (mj k l)→(∀ e∈l,e.1.length=n) →
  match l.find? (fun e=>e.1==xs) with
  | none=>(Instr.findAsking dQ (oU k xs) cN i).run P w = .ok none w
  | some e=>∃ j val,(Instr.findAsking dQ (oU k xs) cN i).run P w = .ok (some (j,val)) w∧Rel w p val e.2:=by
 intro cN
 induction cN with
 | nil=>
  intro l i aF aB;cases l with
  | nil=>rfl
  | cons e r=>exact absurd aF.1.length (by simp only [mj,map_cons,map_nil,length_cons,length_nil];omega)
 | cons m cN a1=>
  intro l i aF aB;cases l with
  | nil=>exact absurd aF.1.length (by simp only [mj,map_cons,map_nil,length_cons,length_nil];omega)
  | cons e r=>
   obtain ⟨xx,su⟩:=aF;simp only [mj,map_cons] at xx su;cases xx with|cons _ _ _ _ aE sv=>cases su with|cons _ _ _ _ av qc=>
   have he:=AH aE;have bq:=gJ.eq xs e.1 ab (aB e mem_cons_self) w;rw [← he] at bq;have aC:(xs==e.1)=(e.1==xs):=by rw [Bool.eq_iff_iff,beq_iff_eq,beq_iff_eq];exact ⟨fun h=>h.symm,fun h=>h.symm⟩
   rw [aC] at bq;rw [find?_cons];cases aq:e.1==xs with
   | true=>
    rw [aq] at bq;simp only;refine ⟨i,m.val,?_,av⟩;unfold Instr.findAsking;simp only [Sem.run_bind,bq,Result.andThen_ok];rfl
   | false=>
    rw [aq] at bq;simp only;have:=a1 r (i+1) ⟨sv,qc⟩ (fun e he=>aB e (mem_cons_of_mem _ he));have vL:(Instr.findAsking dQ (oU k xs) (m::cN) i).run P w=(Instr.findAsking dQ (oU k xs) cN (i+1)).run P w:=by
     conv=>lhs;unfold Instr.findAsking
     simp only [Sem.run_bind,bq,Result.andThen_ok];rfl
    rw [vL];exact this
section
variable {P:Program} {Γ:cw} {N:Nat} {env:Env} {s:ao} {o:Oper} {d:Nat} {ops:Array Oper} {rest:List Oper} {Q:b8→Env→ao→Prop} {L R:a8} {l:List Oper} {i:Nat} {J:ao→Prop}
theorem aZ.yc (aP:bQ P Γ) {t dQ eV:TypeId} {x y:Operand} {ok:Bool} {it aG:bM} {b n:Nat} {k:IntKind} {es:List (List Int×af)} {xs:List Int} {z:af} (gJ:rM P dQ k n) (ah:o.op = .lookup t x y ok)
  (aM:Γ.get? t=some it) (br:it.bF = .map dQ eV) (bI:Γ.get? eV=some aG) (ab:aJ env x=some (.map b)) (ay:aJ env y=some (kf k xs)) (az:xs.length=n) (pR:∀ e∈es,e.1.length=n)
  (ar:s b=some (.map (mj k es))) (bO:hx aG.zero=some z) {X:af→ao→Prop} :
  aZ P N o env s (fun x aj=>x=lB ok z ((es.find? fun e=>e.1==xs).map (·.2))∧aj=s) X:=by
 refine aZ.ki i' fun ro B a w p aI=>?_
 obtain ⟨info,vX,U,ad,al,-⟩:=aP.parts aM;obtain ⟨jL,kj,EX,zj,QH,-,-,EY⟩:=aP.parts bI;have ax:vX = .map dQ eV:=by rw [br] at al;cases vX<;>simp [ev] at al;rw [al.1,al.2]
 subst ax;have aF:=aI.aJ ab;have kk:=AH (aI.aJ ay);generalize ew:a.eval x=dP at aF;cases aF;have EZ:(zeroValue eV).run P w = .ok aG.zero w:=by simp [zeroValue,typeInfo,EX,EY]
 obtain ⟨cN,clock,g1,g2,-⟩:=aI.wf.obj _ _ ar;have a6:=L' gJ az cN.toList es 0 g2 pR;have E0:∃ val,(Instr.lookup t (.map (some b)) (a.eval y) ok).run P w = .ok val w∧Rel w p val (lB ok z ((es.find? fun e=>e.1==xs).map (·.2))):=by
  unfold Instr.lookup;rw [kk];simp only [Sem.run_bind,run_underlying ad,Result.andThen_ok,xy g1 C,Sem.run_pure,gJ.check _ xs az,run_findKey_eq w gJ.wide];cases gh:es.find? fun e=>e.1==xs with
  | none=>
   rw [gh] at a6;simp only at a6;simp only [a6,Result.andThen_ok,Sem.run_bind,EZ,Sem.run_pure,lB,map_none];cases ok
   ·exact ⟨_,rfl,p' bO⟩
   ·exact ⟨_,rfl,.cp _ _ (.cons _ _ _ _ (p' bO) (.cons _ _ _ _ (.bool _) .nil))⟩
  | some e=>
   rw [gh] at a6;obtain ⟨j,val,ef,di⟩:=a6;simp only [ef,Result.andThen_ok,Sem.run_pure,lB,map_some];cases ok
   ·exact ⟨_,rfl,di⟩
   ·exact ⟨_,rfl,.cp _ _ (.cons _ _ _ _ di (.cons _ _ _ _ (.bool _) .nil))⟩
 obtain ⟨val,cO,eM⟩:=E0;refine ⟨val,w,s,p,_,?_,.refl w p,.refl s w p,aI.wf,⟨rfl,rfl⟩,eM⟩;unfold execOp;rw [ah];simp only [ew];exact gR cO
theorem aZ.AI (aP:bQ P Γ) {t dQ eV:TypeId} {x y z:Operand} {it:bM} {b n:Nat} {k:IntKind} {es:List (List Int×af)} {xs:List Int} {v:af} (gJ:rM P dQ k n) (ah:o.op = .mapUpdate t x y z∨o.op = .insert t x y z)
  (aM:Γ.get? t=some it) (br:it.bF = .map dQ eV) (ab:aJ env x=some (.map b)) (ay:aJ env y=some (kf k xs)) (bO:aJ env z=some v) (az:xs.length=n) (pR:∀ e∈es,e.1.length=n)
  (ar:s b=some (.map (mj k es))) (zl:es.find? (fun e=>e.1==xs)=none) {X:af→ao→Prop} :
  aZ P N o env s (fun _ aj=>aj=s.set b (.map (mj k (es++[(xs,v)])))) X:=by
 refine aZ.EV (by rcases ah with ah|ah<;>simp [gE,ah]) fun ro B a w p aI=>?_
 obtain ⟨info,vX,U,ad,al,-⟩:=aP.parts aM;have ax:vX = .map dQ eV:=by rw [br] at al;cases vX<;>simp [ev] at al;rw [al.1,al.2]
 subst ax;have aF:=aI.aJ ab;have Ma:=aI.aJ ay;have kk:=AH Ma;have E2:=aI.aJ bO;obtain ⟨cN,clock,g1,g2,g3,g4⟩:=aI.wf.obj _ _ ar;generalize ew:a.eval x=dP at aF;cases aF;have a6:=L' gJ az cN.toList es 0 g2 pR;rw [zl] at a6;simp only at a6;have cO:(Instr.mapUpdate t (.map (some b)) (a.eval y) (a.eval z)).run P w = .ok () { w with heap:=w.heap.setIfInBounds b (.map (cN.push { key:=a.eval y,val:=a.eval z,born:=clock }) (clock+1)) }:=by
  unfold Instr.mapUpdate;rw [kk];simp only [Sem.run_bind,run_underlying ad,Result.andThen_ok,xy g1 C,gJ.check _ xs az,run_findKey_eq w gJ.wide,a6];simp [setObj,Sem.run,g1]
 have Vp:∀ w',(Instr.mapUpdate t (.map (some b)) (a.eval y) (a.eval z)).run P w = .ok () w'→(execOp a.eval o).run P w = .ok .skip w':=by
  intro w' hw;unfold execOp;rcases ah with ah|ah<;>rw [ah]<;>simp only [ew]<;>simp only [Sem.run_bind,hw,Result.andThen_ok,Sem.run_pure]
 have eM:lx w p (cN.push { key:=a.eval y,val:=a.eval z,born:=clock }).toList (mj k (es++[(xs,v)])):=by
  unfold mj;rw [toList_push,map_append];exact ⟨by rw [map_append,map_append];exact g2.1.append (.cons _ _ _ _ Ma .nil),by rw [map_append,map_append];exact g2.2.append (.cons _ _ _ _ E2 .nil)⟩
 obtain ⟨cD,dh,fa⟩:=E1 aI.wf ar (mes':=cN.push { key:=a.eval y,val:=a.eval z,born:=clock }) (clock':=clock+1) eM
  (by intro e he;simp only [toList_push,mem_append,mem_singleton] at he;rcases he with he|rfl;have:=g3 e he;omega;simp)
  (by
   simp only [toList_push,map_append,map_cons,map_nil]
   rw [List.nodup_append]
   refine ⟨g4,by simp,?_⟩
   intro x ab y ay e
   simp only [mem_singleton] at ay
   obtain ⟨m,hm,rfl⟩:=mem_map.1 ab
   have:=g3 m hm
   omega) _ C
 exact ⟨_,_,p,Vp _ cO,cD,dh,fa,rfl⟩
theorem aN.yc (aP:bQ P Γ) (I:Ok s L) {t dQ eV:TypeId} {x y:Operand} {AJ:Bool} {it aG:bM} {b n:Nat} {k:IntKind} {es:List (List Int×af)} {xs:List Int} {z:af} (gJ:rM P dQ k n) (aw:c7 l env o) (ax:o.dst=some d) (aU:Nat.blt d N=true) (ah:o.op = .lookup t x y AJ)
  (aM:Γ.get? t=some it) (br:it.bF = .map dQ eV) (bI:Γ.get? eV=some aG) (ab:aJ (bZ l env o) x=some (.map b)) (ay:aJ (bZ l env o) y=some (kf k xs)) (az:xs.length=n) (pR:∀ e∈es,e.1.length=n)
  (ar:bp L (.own b) (.map (mj k es)) R) (bO:hx aG.zero=some z)
  (h:aN (fun aj=>aj=aT s L) P Γ N l (i+1) rest Q ((d,lB AJ z ((es.find? fun e=>e.1==xs).map (·.2)))::env) (aT s L)):aN (fun aj=>aj=aT s L) P Γ N l i (o::rest) Q env (aT s L):=
 aN.calm aw ax aU (fun _ e=>by subst e;exact aZ.yc aP gJ ah aM br bI ab ay az pR (ar.get I) bO) h
theorem aa.yc (aP:bQ P Γ) (I:Ok s L) {t dQ eV:TypeId} {x y:Operand} {AJ:Bool} {it aG:bM} {b n:Nat} {k:IntKind} {es:List (List Int×af)} {xs:List Int} {z:af} (gJ:rM P dQ k n) (aw:guardOf ops env o=some true) (ax:o.dst=some d) (aU:Nat.blt d N=true) (ah:o.op = .lookup t x y AJ)
  (aM:Γ.get? t=some it) (br:it.bF = .map dQ eV) (bI:Γ.get? eV=some aG) (ab:aJ env x=some (.map b)) (ay:aJ env y=some (kf k xs)) (az:xs.length=n) (pR:∀ e∈es,e.1.length=n)
  (ar:bp L (.own b) (.map (mj k es)) R) (bO:hx aG.zero=some z)
  (h:aa P N ops rest Q ((d,lB AJ z ((es.find? fun e=>e.1==xs).map (·.2)))::env) (aT s L)):aa P N ops (o::rest) Q env (aT s L):=
 aa.op aw ax aU (aZ.yc aP gJ ah aM br bI ab ay az pR (ar.get I) bO (X:=fun _ _=>False)) (fun x aj ⟨U,ad⟩=>by subst U;subst ad;exact h) (fun _ _ h=>h.elim)
theorem aN.AI (aP:bQ P Γ) (I:Ok s L) {t dQ eV:TypeId} {x y z:Operand} {it:bM} {b n:Nat} {k:IntKind} {es:List (List Int×af)} {xs:List Int} {v:af} (gJ:rM P dQ k n) (aw:c7 l env o) (ax:o.dst=none) (lP:ko l.toArray i=true) (ah:o.op = .mapUpdate t x y z∨o.op = .insert t x y z)
  (aM:Γ.get? t=some it) (br:it.bF = .map dQ eV) (ab:aJ (bZ l env o) x=some (.map b)) (ay:aJ (bZ l env o) y=some (kf k xs)) (bO:aJ (bZ l env o) z=some v) (az:xs.length=n) (pR:∀ e∈es,e.1.length=n)
  (ar:bp L (.own b) (.map (mj k es)) R) (zl:es.find? (fun e=>e.1==xs)=none)
  (h:Ok s ((.own b,.map (mj k (es++[(xs,v)])))::R)→Q .normal env (aT s ((.own b,.map (mj k (es++[(xs,v)])))::R))):aN J P Γ N l i [o] Q env (aT s L):=
 aN.Gp aw ax lP (aZ.AI aP gJ ah aM br ab ay bO az pR (ar.get I) zl (X:=fun _ _=>False)) (fun x aj U=>by
  obtain ⟨cg,bY⟩:=ar.put (.map (mj k (es++[(xs,v)]))) I
  rw [U,cg];exact h bY) (fun _ _ h=>h.elim)
end
end Go.cU
namespace Go.Proofs.YtnafpeohfbglmaaGreat
open Go.cU Go.eb
theorem four {xs:List Int} (h:xs.length=4):∃ a b c d,xs=[a,b,c,d]:=by
 match xs,h with
 | [a,b,c,d],_=>exact ⟨a,b,c,d,rfl⟩
theorem two {xs:List Int} (h:xs.length=2):∃ a b,xs=[a,b]:=by
 match xs,h with
 | [a,b],_=>exact ⟨a,b,rfl⟩
theorem Mb {T e:TypeId} {k:IntKind} {info:TypeInfo} (hu:(Tryz.prog).underlying T=some (.array 2 e)) (aQ:(Tryz.prog).info? e=some info) (aC:(Tryz.prog).cellsOf e=1) (he:(Tryz.prog).underlying e=some (.int k))
  (aD:∀ (a b:Int) (w:World),(part e #[.int k a,.int k b] 0).run Tryz.prog w = .ok (.int k a) w∧(part e #[.int k a,.int k b] 1).run Tryz.prog w = .ok (.int k b) w) (d:Nat) (a b c' aW:Int) (w:World) :
  (Op.equalIn (d+2) T (.agg #[.int k a,.int k b]) (.agg #[.int k c',.int k aW])).run Tryz.prog w = .ok ([a,b]==[c',aW]) w:=by
 rw [show d+2=(d+1)+1 from rfl,run_equalIn_array w _ _ _ hu aQ,aC];have bq:∀ a b:Int,(Op.equalIn (d+1) e (.int k a) (.int k b)).run Tryz.prog w = .ok (a==b) w:=fun a b=>run_equalIn_int w d e k k a b he
 simp only [show range 2=[0,1] from rfl,Op.eqItems,Sem.run_bind,Nat.zero_mul,Nat.one_mul,(aD a b w).1,(aD a b w).2,(aD c' aW w).1,(aD c' aW w).2,Result.andThen_ok,bq];cases U:a==c'<;>cases ad:b==aW<;>simp_all
theorem Mc:rM Tryz.prog 319 .i64 4:=by
 refine ⟨by kernel_rfl,fun e xs ab w=>?_,fun xs ys ab ay w=>?_⟩
 ·obtain ⟨a,b,c,d,rfl⟩:=four ab
  kernel_rfl
 ·obtain ⟨a,b,c,d,rfl⟩:=four ab
  obtain ⟨c',aW,oI,c3,rfl⟩:=four ay;have ar:(Tryz.prog).underlying 319 = some (.struct ((Tryz.prog).fieldsOf 319)):=by kernel_rfl
  have aD:(Tryz.prog).stoodInHeld 319 = false:=by kernel_rfl
  have a6:((Tryz.prog).fieldsOf 319).toList=[{ name := "arg", type := 3, offset:=0,embedded:=false,tag := "", pkgPath := "consort/fact", byteOffset:=0 },{ name := "many", type := 3, offset:=1,embedded:=false,tag := "", pkgPath := "consort/fact", byteOffset:=8 },{ name := "path", type := 317, offset:=2,embedded:=false,tag := "", pkgPath := "consort/fact", byteOffset:=16 }]:=by kernel_rfl
  have hint:(Tryz.prog).underlying 3 = some (.int .i64):=by kernel_rfl
  obtain ⟨info,aQ⟩:=info_of_underlying hint;have kQ:∀ a b c d:Int,(part 3 #[.int .i64 a,.int .i64 b,.int .i64 c,.int .i64 d] 0).run Tryz.prog w = .ok (.int .i64 a) w:=fun a b c d=>by kernel_rfl
  have Dk:∀ a b c d:Int,(part 3 #[.int .i64 a,.int .i64 b,.int .i64 c,.int .i64 d] 1).run Tryz.prog w = .ok (.int .i64 b) w:=fun a b c d=>by kernel_rfl
  have Vq:∀ a b c d:Int,(part 317 #[.int .i64 a,.int .i64 b,.int .i64 c,.int .i64 d] 2).run Tryz.prog w = .ok (.agg #[.int .i64 c,.int .i64 d]) w:=fun a b c d=>by kernel_rfl
  have AK:=Mb (T := 317) (e := 3) (k := .i64) fY aQ fY hint (fun a b w=>⟨by kernel_rfl,by kernel_rfl⟩) 9997 c d oI c3 w;have av:∀ a b c d:Int,oU .i64 [a,b,c,d] = .agg #[.int .i64 a,.int .i64 b,.int .i64 c,.int .i64 d]:=fun _ _ _ _=>rfl
  have bq:∀ a b:Int,(Op.equalIn 9999 3 (.int .i64 a) (.int .i64 b)).run Tryz.prog w = .ok (a==b) w:=fun a b=>run_equalIn_int w 9998 3 .i64 .i64 a b hint
  have AK:(Op.equalIn 9999 317 (.agg #[.int .i64 c,.int .i64 d]) (.agg #[.int .i64 oI,.int .i64 c3])).run Tryz.prog w = .ok ([c,d]==[oI,c3]) w:=AK;rw [av,av];unfold Op.equal;rw [show Op.maxDepth=9999+1 from rfl,run_equalIn_struct w _ _ _ _ ar aD,a6];simp only [Op.eqFields,Sem.run_bind,ne_eq,reduceCtorEq,not_false_eq_true,if_true,kQ,Dk,Vq,Result.andThen_ok,bq,AK];cases U:a==c'<;>cases ad:b==aW<;>cases al:c==oI<;>cases bd:d==c3<;>simp_all
end Go.Proofs.YtnafpeohfbglmaaGreat
namespace Go.eb
structure dk where
 low:Int
 high:Int
 eX:List Int
 fP:Nat
 no:Nat
 whole:Bool
 gz:Bool
 bo:List Int
def iT:dk:=⟨-1000000000,1000000000,[],0,0,false,false,[]⟩
def bs (arg:Int) (path:List Int):List Int:=[arg,(path.length:Int),path.getD 0 0,path.getD 1 0]
def mQ (s:Int) (l:List Int):List Int:=if l.contains s then l else (l++[s]).mergeSort (fun a b=>decide (a≤b))
def dk.need (k:dk) (neg:Bool):dk:={ k with gz:=k.gz || !neg }
def dk.slot (k:dk) (s:Int):dk:={ k with bo:=mQ s k.bo }
def dk.ask (k:dk) (x:cf):dk:=
 if x.1.op=2 then (if x.2 then { k with no:=k.no|||2^x.1.cls.toNat } else { k with fP:=k.fP|||2^x.1.cls.toNat })
 else if x.1.op=3 then (if x.2 then { k with low:=max k.low x.1.n } else { k with high:=min k.high (x.1.n-1),whole:=true })
 else if x.2 then { k with eX:=k.eX++[x.1.n] }
 else { k with low:=max k.low x.1.n,high:=min k.high x.1.n,whole:=true }
abbrev dT:=List Int→dk
def dT.hP (σ:dT) (sp:List Int) (k:dk):dT:=fun q=>if q=sp then k else σ q
def gS (neg:Bool) (arg:Int) (path:List Int):Nat→dT→dT
 | 0,σ=>σ.hP (bs arg []) ((σ (bs arg [])).need neg)
 | j+1,σ=>
  let AL:=gS neg arg path j σ
  let here:=bs arg (path.take j)
  let Md:=AL.hP here ((AL here).slot (path.getD j 0))
  let there:=bs arg (path.take (j+1))
  Md.hP there ((Md there).need neg)
def addLit (σ:dT) (x:cf):dT:=
 let AL:=gS x.2 x.1.arg x.1.path x.1.path.length σ
 let here:=bs x.1.arg x.1.path
 AL.hP here ((AL here).ask x)
def wC:dT:=fun _=>iT
def et (l:List cf):dT:=l.foldl addLit wC
end Go.eb
namespace Go.Proofs.YtnafpeohfbglmaaGreat
open Go.cU Go.eb
def iD (sp:List Int):af:=kf .i64 sp
def h1 (w:bx) (mb:Nat):af := .bw [gg w,.map mb] 0
def kA (k:dk) (eX bo:af):List af:=[.int .i64 k.low,.int .i64 k.high,eX,.int .u64 (k.fP:Int),.int .u64 (k.no:Int),.bool k.whole,.bool k.gz,bo]
def Me:List af:=kA iT (.aA 1 [] .nil) (.aA 0 [] .nil)
abbrev SMap:=List (List Int×af)
def qO (mb:Nat) (es:SMap):bL×dC:=(.own mb,.map (mj .i64 es))
theorem Mf (GW n2:af) (Vr:aS (.aA 0 [] .nil) GW) (vq:aS (.aA 0 [] .nil) n2) (w:bx) (mb:Nat) (es:SMap) (pR:∀ e∈es,e.1.length=4) (hE ef di dL:Int):bE Tryz.prog 280 [h1 w mb,iD [hE,ef,di,dL]] ([qO mb es]) (fun o K=>(∃ e,es.find? (fun e=>e.1==[hE,ef,di,dL])=some e∧o = .ret e.2∧K=[qO mb es])∨(es.find? (fun e=>e.1==[hE,ef,di,dL])=none∧∃ GX,o = .ret (.ptr GX 0)∧K=[qO mb (es++[([hE,ef,di,dL],.ptr GX 0)]),(.own GX,.box 340 (kA iT GW n2))])):=by
 have aq:=bA;refine bE.bh ai Tryz.func280 C C fun s I=>?_
 unfold qO at I ⊢;unfold h1;unfold gg e4
 repeat (first|(refine rr ?_)|refine aa.jR I C C C C C C (fun b I=>?_)|(refine Sj I ?_;clear I;intro I))
 refine aN.yc (xs:=[hE,ef,di,dL]) ai I Mc C C C C C C C C C C pR aY C ?_;cases a6:es.find? (fun e=>e.1==[hE,ef,di,dL]) with
 | some e=>
  simp only [map_some];refine bW ?_;exact Fin.bu I C aL aX (.inl ⟨e,rfl,rfl,rfl⟩)
 | none=>
  simp only [map_none]
  repeat (first
   | refine aN.step C ?_
   | refine aN.nil ?_)
  repeat (first|(refine rr ?_)|refine aa.jR I C C C C C C (fun b I=>?_)|(refine Sk ?_))
  refine ae.vP I b (kA iT GW n2) .here (.cons aL (.cons aL (.cons Vr (.cons aL (.cons aL (.cons aL (.cons aL (.one vq)))))))) (fun I=>?_);refine sN I ?_;intro I;refine aN.AI (xs:=[hE,ef,di,dL]) ai I Mc C C C (.inl C) C C C C C C pR aY a6 (fun I=>?_);refine gv ?_;exact Fin.bu I C aL aX (.inr ⟨by first|rfl|trivial,_,rfl,rfl⟩)
theorem Mg (a Dl kQ bB:Int):aR Tryz.prog 281 [iD [a,0,Dl,kQ],.int .i64 bB] (iD [a,1,bB,kQ]):=by
 have aq:=bA;refine aR.bh ai Tryz.func281 C C fun s I=>?_
 unfold iD kf
 repeat (first|(refine rr ?_)|refine aa.jR I C C C C C C (fun b I=>?_)|refine aa.dY ai I C C C C C C C (fun cJ I=>?_)|(refine FB I ?_;clear I;intro I))
 refine aa.arr ai 0 C C C C C C C C C C ag ?_;refine cI I ?_;intro I;exact Fin.cx I (nO C C (bp.get aY I) C) aL
theorem Mh (a Dl kQ bB:Int):aR Tryz.prog 281 [iD [a,1,Dl,kQ],.int .i64 bB] (iD [a,2,Dl,bB]):=by
 have aq:=bA;refine aR.bh ai Tryz.func281 C C fun s I=>?_
 unfold iD kf
 repeat (first|(refine rr ?_)|refine aa.jR I C C C C C C (fun b I=>?_)|refine aa.dY ai I C C C C C C C (fun cJ I=>?_)|(refine FB I ?_;clear I;intro I))
 refine aa.arr ai 1 C C C C C C C C C C ag ?_;refine cI I ?_;intro I;exact Fin.cx I (nO C C (bp.get aY I) C) aL
def oV (kb:Nat) (k:dk) (on:bL) (n2:af):a8:=[(.own kb,.box 340 (kA k (.aA 1 (k.eX.map ba) on) n2)),(on,.row 3 1 k.eX.length)]
structure Vs (k:dk):Prop where
 fP:k.fP<2^64
 no:k.no<2^64
 eX:k.eX.length<bz
structure tb (w:bx) (x:cf):Prop where
 nS:gx w x.1=true
 leaf:x.1.cW=true
theorem tb.node {w:bx} {x:cf} (h:tb w x):hX w x.1=true:=by
 have:=h.nS;rw [nh,and_eq_true] at this;exact this.1
theorem tb.num {w:bx} {x:cf} (h:tb w x) : -1000000000≤x.1.n∧x.1.n≤1000000000:=by
 have U:=h.node;simp only [hX,h.leaf,if_true,and_eq_true,decide_eq_true_eq] at U;have pL:=U.2.2.2.2.2.2.2;split at pL
 ·simp at pL;omega
 ·simp [kr] at pL;omega
theorem hM.n {P:Program} {Γ:cw} {N:Nat} {l:List Oper} {Q:b8→Env→ao→Prop} {m:Nat} {env:Env} {s:ao}:hM P Γ N l Q m env s []:=trivial
theorem hM.c {P:Program} {Γ:cw} {N:Nat} {l:List Oper} {Q:b8→Env→ao→Prop} {m:Nat} {env:Env} {s:ao} {i:Nat} {is:List Nat} (h:j8 P Γ N l Q m env s i) (t:hM P Γ N l Q m env s is):hM P Γ N l Q m env s (i::is):=⟨h,t⟩
theorem Vt (w:bx) (hw:w.ps.length≤60) (kb:Nat) (k:dk) (aE:Vs k) (eS : -1000000000≤k.low∧k.low≤1000000000 ∧ -1000000001≤k.high∧k.high≤1000000000) (on:bL) (n2:af) (vq:e7 n2=true) (x:cf) (ab:tb w x):bE Tryz.prog 282 [.ptr kb 0,hZ x] (oV kb k on n2) (fun o K=>o = .ret (.cp [])∧∃ wD,K=oV kb (k.ask x) wD n2):=by
 have aq:=bA;refine bE.bh ai Tryz.func282 C C fun s I=>?_
 obtain ⟨cD,dh,fa⟩:=aE;have iM:=x'.of ab.node ab.leaf;have n3:=ab.num;have hD:=ab.leaf;obtain ⟨f,neg⟩:=x;simp only at iM n3 hD;unfold oV at I ⊢;have b2:f.op=2∨f.op=3∨f.op=4:=by
  unfold ak.cW at hD;simp at hD;omega
 unfold kA at I ⊢;unfold hZ pH ak.cells;rcases b2 with ad|ad|ad
 ·obtain ⟨c4,dd⟩:=iM.cls ad
  obtain ⟨c,aC⟩:∃ c:Nat,f.cls=c:=⟨f.cls.toNat,by omega⟩;have Mi:c<64:=by omega
  have kN:=Ap k.no c dh Mi;have kK:=Ap k.fP c cD Mi;have a7:k.ask (f,neg)=if neg then { k with no:=k.no|||2^c } else { k with fP:=k.fP|||2^c }:=by
   unfold dk.ask;rw [if_pos ad,aC,toNat_natCast]
  rw [ad,aC];cases neg with
  | true=>
   rw [if_pos C] at a7;rw [a7];refine hh I ?_;intro I;exact Fin.bu I C aL aX ⟨rfl,on,rfl⟩
  | false=>
   rw [if_neg a'] at a7;rw [a7];refine hh I ?_;intro I;exact Fin.bu I C aL aX ⟨rfl,on,rfl⟩
 ·have a7:k.ask (f,neg)=if neg then { k with low:=max k.low f.n } else { k with high:=min k.high (f.n-1),whole:=true }:=by
   unfold dk.ask;rw [if_neg (by simp [ad]),if_pos ad]
  rw [ad];cases neg with
  | true=>
   rw [if_pos C] at a7;rw [a7];have e:(if f.n>k.low then f.n else k.low)=max k.low f.n:=by omega
   refine hh I ?_;intro I;exact Fin.bu I C aL (by rw [← e];exact aX) ⟨rfl,on,rfl⟩
  | false=>
   rw [if_neg a'] at a7;rw [a7];have dG:IntKind.wrap .i64 (f.n-1)=f.n-1:=ek ag ag;have e:(if f.n-1<k.high then f.n-1 else k.high)=min k.high (f.n-1):=by omega
   refine bC ?_;refine ae.qn ai mixed C (bc.run C ?_);refine bc.eB 6 ai I C C C C C C C C aY b6 ?_;refine bc.run C ?_;refine bc.pure 11 C C C C C (.x C) ?_;refine bc.run C ?_;refine bc.cT 15 ai I C C C C C C C C C C C aY b6 (fun I=>?_);refine bc.run C ?_;refine bc.cT 18 ai I C C C C C C C C C C C aY b6 (fun I=>?_);refine bc.run C ?_;refine bc.done C ?_;refine gd ?_;have uB:Ok s (oV kb { k with high:=(if IntKind.wrap .i64 (f.n-1)<k.high then IntKind.wrap .i64 (f.n-1) else k.high),whole:=true } on n2):=I;rw [dG,e] at uB;exact Fin.bu (L:=oV kb { k with high:=(if IntKind.wrap .i64 (f.n-1)<k.high then IntKind.wrap .i64 (f.n-1) else k.high),whole:=true } on n2) I C aL (by rw [dG,e];exact aH.all _) ⟨rfl,on,rfl⟩
 ·rw [ad]
  cases neg with
  | true=>
   have a7:k.ask (f,true)={ k with eX:=k.eX++[f.n] }:=by
    unfold dk.ask;rw [if_neg (by simp [ad]),if_neg (by simp [ad]),if_pos C]
   rw [a7];refine bC ?_;refine ae.qn ai mixed C (bc.run C ?_);refine bc.eB 5 ai I C C C C C C C C aY b6 ?_;refine bc.run C ?_;refine bc.gb 10 ai I C C C C C C C C C en C C C C C C C C aY hi j9 ag (fun AM I=>?_);refine bc.run C ?_;refine bc.cT 14 ai I C C C C C C C C C C C aY b6 (fun I=>?_);refine bc.run C ?_;refine bc.done C ?_;refine gd ?_;have eR:oV kb { k with eX:=k.eX++[f.n] } (.own AM) n2=[(.own kb,.box 340 [.int .i64 k.low,.int .i64 k.high,.aA 1 (k.eX.map ba++[.int .i64 f.n]) (.own AM),.int .u64 (k.fP:Int),.int .u64 (k.no:Int),.bool k.whole,.bool k.gz,n2]),(.own AM,.row 3 1 (k.eX.length+1))]:=by
    unfold oV kA;simp [ba]
   exact Fin.bu I C aL (K:=oV kb { k with eX:=k.eX++[f.n] } (.own AM) n2) (by rw [eR];exact aX) ⟨rfl,.own AM,rfl⟩
  | false=>
   have a7:k.ask (f,false)={ k with low:=max k.low f.n,high:=min k.high f.n,whole:=true }:=by
    unfold dk.ask;rw [if_neg (by simp [ad]),if_neg (by simp [ad]),if_neg a']
   rw [a7];have cg:(if f.n>k.low then f.n else k.low)=max k.low f.n:=by omega
   have bY:(if f.n<k.high then f.n else k.high)=min k.high f.n:=by omega
   refine bC ?_;refine ae.qn ai mixed C (bc.run C ?_);refine bc.many C (hM.c (j8.mk (i:=7) C C C C (aZ.eB ai I C C C aY C (X:=fun _ _=>False)) ?_ (fun _ _ h=>False.elim h)) (hM.c (j8.mk (i:=16) C C C C (aZ.eB ai I C C C aY C (X:=fun _ _=>False)) ?_ (fun _ _ h=>False.elim h)) hM.n))
   ·rintro _ _ ⟨rfl,rfl⟩
    refine bc.pure 11 C C C C C (.x C) ?_;refine bc.run C ?_;refine bc.many C (hM.c (j8.mk (i:=16) C C C C (aZ.eB ai I C C C aY C (X:=fun _ _=>False)) ?_ (fun _ _ h=>False.elim h)) hM.n)
    ·rintro _ _ ⟨rfl,rfl⟩
     refine bc.pure 20 C C C C C (.x C) ?_;refine bc.run C ?_;refine bc.cT 24 ai I C C C C C C C C C C C aY b6 (fun I=>?_);refine bc.run C ?_;refine bc.cT 28 ai I C C C C C C C C C C C aY b6 (fun I=>?_);refine bc.run C ?_;refine bc.cT 31 ai I C C C C C C C C C C C aY b6 (fun I=>?_);refine bc.run C ?_;refine bc.done C ?_;refine gd ?_;exact Fin.bu I C aL (by rw [← cg,← bY];exact aX) ⟨rfl,on,rfl⟩
   ·rintro _ _ ⟨rfl,rfl⟩
    refine bc.pure 20 C C C C C (.x C) ?_;refine bc.run C ?_;refine bc.many C (hM.c (j8.mk (i:=7) C C C C (aZ.eB ai I C C C aY C (X:=fun _ _=>False)) ?_ (fun _ _ h=>False.elim h)) hM.n)
    ·rintro _ _ ⟨rfl,rfl⟩
     refine bc.pure 11 C C C C C (.x C) ?_;refine bc.run C ?_;refine bc.cT 24 ai I C C C C C C C C C C C aY b6 (fun I=>?_);refine bc.run C ?_;refine bc.cT 28 ai I C C C C C C C C C C C aY b6 (fun I=>?_);refine bc.run C ?_;refine bc.cT 31 ai I C C C C C C C C C C C aY b6 (fun I=>?_);refine bc.run C ?_;refine bc.done C ?_;refine gd ?_;exact Fin.bu I C aL (by rw [← cg,← bY];exact aX) ⟨rfl,on,rfl⟩
end Go.Proofs.YtnafpeohfbglmaaGreat
