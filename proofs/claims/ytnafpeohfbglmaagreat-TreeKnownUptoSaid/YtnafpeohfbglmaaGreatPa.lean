import Derived.AtR
import Derived.Defers
import Derived.Laws.Sem
import Derived.Laws.World
import Derived.Laws.NewBlocks
import Derived.Laws.Cells
import Derived.Laws.Strings
import Derived.Laws.Tables
import Derived.Laws.Small
import Derived.LaidEql
import Derived.Laws.Append
import Derived.Laws.CopyRow
import Derived.Laws.Slices
import Derived.Laws.IdiomStrings
import Derived.Orders
set_option linter.unusedVariables false
set_option linter.unusedSimpArgs false
universe u
theorem C {α:Sort u} {a:α}:a=a:=Eq.refl a
theorem vh {p:Prop} (h:p:=by rw [List.length_take,cE];omega):p:=h
theorem w9 {p:Prop} (h:p:=by rw [List.length_take];omega):p:=h
theorem gn {p:Prop} (h:p:=by simpa using h):p:=h
theorem dq {p:Prop} (h:p:=by simp;omega):p:=h
theorem ai {p:Prop} (h:p:=by omega):p:=h
theorem bn {p:Prop} (h:p:=by simp):p:=h
namespace Go.bj
inductive fY where
 | normal
 | exit (id:Nat)
 | ret
 | panic (chain:List PanicEntry)
def oK (P:Program) (m:Machine) (b:Frame) (k:List Item) (cs:List Frame):fY→Act→World→Prop
  | .normal,a,w=>Steps P m (lone (b.atR a k) cs w)
  | .exit id,a,w=>(∀ k',exitTo id k=some k'→Steps P m (lone (b.atR a k') cs w)) ∧
      (exitTo id k=none→∃ k₁,exitTo id k₁=none∧Steps P m (lone (b.atR a (.code (.exit id)::k₁)) cs w))
  | .ret,a,w=>∃ k₁,Steps P m (lone (b.atR a (.code .ret::k₁)) cs w)
  | .panic da,a,w=>∃ k₁,Steps P m (lone { b.atR a k₁ with mode := .panicking da } cs w)
theorem oK.of_steps {P:Program} {m m₁:Machine} {b:Frame} {k:List Item} {cs:List Frame} {e:fY} {a:Act} {w:World}
  (h:Steps P m m₁) (fs:oK P m₁ b k cs e a w):oK P m b k cs e a w:=by
 cases e with
 | normal=>exact h.trans fs
 | exit id=>exact ⟨fun k' aD=>h.trans (fs.1 k' aD),fun aD=>let ⟨k₁,U,ae⟩:=fs.2 aD;⟨k₁,U,h.trans ae⟩⟩
 | ret=>obtain ⟨k₁,aw⟩:=fs;exact ⟨k₁,h.trans aw⟩
 | panic da=>obtain ⟨k₁,aw⟩:=fs;exact ⟨k₁,h.trans aw⟩
def iG (P:Program) (b:Frame) (c:Code) (Q:fY→Act→World→Prop) (a:Act) (w:World):Prop:=
 ∀ (k:List Item) (cs:List Frame),∃ e cR w',Q e cR w'∧oK P (lone (b.atR a (.code c::k)) cs w) b k cs e cR w'
section rules
variable {P:Program} {b:Frame} {Q:fY→Act→World→Prop} {a:Act} {w:World}
theorem kR {c:Code} {pM:fY→Act→World→Prop} (h:iG P b c Q a w) (bs:∀ e a w,Q e a w→pM e a w):iG P b c pM a w:=
 fun k cs=>let ⟨e,cR,w',q,r⟩:=h k cs;⟨e,cR,w',bs _ _ _ q,r⟩
theorem Me (h:Q .normal a w):iG P b .skip Q a w:=fun _ _=>⟨.normal,a,w,h,.one stepR_skip⟩
theorem Mf (h:Q .ret a w):iG P b .ret Q a w:=fun k _=>⟨.ret,a,w,h,k,.refl P _⟩
theorem Mg {id:Nat} (h:Q (.exit id) a w):iG P b (.exit id) Q a w:=
 fun k _=>⟨.exit id,a,w,h,fun _ aD => .one (stepR_exit aD),fun aD=>⟨k,aD,.refl P _⟩⟩
def fY.andThen (next:Act→World→Prop) (Q:fY→Act→World→Prop):fY→Act→World→Prop
 | .normal,a,w=>next a w
 | e,a,w=>Q e a w
theorem oK.Gh {m:Machine} {c:Code} {k:List Item} {cs:List Frame} {e:fY} {a:Act} {w:World} (x:Item) (ab:x.plain=true)
  (he:e ≠ .normal) (h:oK P m b (x::k) cs e a w):oK P m b k cs e a w:=by
 cases e with
 | normal=>exact absurd C he
 | exit id=>exact ⟨fun k' aD=>h.1 k' (by cases x<;>simp_all [exitTo,Item.plain]),fun aD=>h.2 (by cases x<;>simp_all [exitTo,Item.plain])⟩
 | ret=>exact h
 | panic da=>exact h
theorem Mh {x y:Code} (h:iG P b x (fY.andThen (iG P b y Q) Q) a w):iG P b (.seq x y) Q a w:=by
 intro k cs;obtain ⟨e,hP,w₁,bs,fo⟩:=h (.code y::k) cs;by_cases he:e = .normal
 ·subst he
  obtain ⟨xa,zD,gG,rY,rZ⟩:=bs k cs;exact ⟨xa,zD,gG,rY,.of_steps (.head stepR_seq fo) rZ⟩
 ·have tb:Q e hP w₁:=by cases e<;>first|exact absurd C he|exact bs
  exact ⟨e,hP,w₁,tb,.of_steps (.one stepR_seq) (oK.Gh (c:=y) (.code y) C he fo)⟩
theorem Mi {c:Operand} {x y:Code} {t:Bool} (aE:a.eval c = .bool t) (h:iG P b (if t then x else y) Q a w):iG P b (.cond c x y) Q a w:=
 fun k cs=>let ⟨e,cR,w',q,r⟩:=h k cs;⟨e,cR,w',q,.of_steps (.one (stepR_cond aE)) r⟩
def fY.inBlock (id:Nat) (Q:fY→Act→World→Prop):fY→Act→World→Prop
 | .exit jD,a,w=>if jD=id then Q .normal a w else Q (.exit jD) a w
 | e,a,w=>Q e a w
theorem Mj {id:Nat} {c:Code} (h:iG P b c (fY.inBlock id Q) a w):iG P b (.block id c) Q a w:=by
 intro k cs;obtain ⟨e,hP,w₁,bs,fo⟩:=h (.inBlock id::k) cs;cases e with
 | normal=>exact ⟨.normal,hP,w₁,bs,.head stepR_block (Steps.trans fo (.one stepR_inBlock))⟩
 | exit jD=>
  by_cases qI:jD=id
  ·simp only [fY.inBlock,qI,if_true] at bs
   exact ⟨.normal,hP,w₁,bs,.head stepR_block (fo.1 k (by simp [exitTo,qI]))⟩
  ·simp only [fY.inBlock,qI,if_false] at bs
   have cB:(id==jD)=false:=by simp;exact fun h=>qI h.symm
   refine ⟨.exit jD,hP,w₁,bs,fun k' aD => .head stepR_block (fo.1 k' (by simp [exitTo,cB,aD])),fun aD=>?_⟩;obtain ⟨k₁,U,ae⟩:=fo.2 (by simp [exitTo,cB,aD]);exact ⟨k₁,U,.head stepR_block ae⟩
 | ret=>obtain ⟨k₁,aw⟩:=fo;exact ⟨.ret,hP,w₁,bs,k₁,.head stepR_block aw⟩
 | panic da=>obtain ⟨k₁,aw⟩:=fo;exact ⟨.panic da,hP,w₁,bs,k₁,.head stepR_block aw⟩
end rules
def Round (P:Program) (l:Nat) (f:FuncId) (tmps:Array Value) (gd body:Code) (w:World) (R:Ending→World→Prop):Prop:=
 ∀ (c:Frame) (cs:List Frame),∃ e w',R e w' ∧
  match e with
  | .returned v=>Steps P (lone (Frame.round l f tmps gd body .normal) (c::cs) w) (lone (c.finish v) cs w')
  | .panicked da=>Steps P (lone (Frame.round l f tmps gd body .normal) (c::cs) w) (lone (c.raise da) cs w')
  | .outgrown=>False
def qJ (P:Program) (f:FuncId) (args:Array Value) (w:World) (R:Ending→World→Prop):Prop:=
 Calls P f args w fun e w'=>e ≠ .outgrown∧R e w'
theorem qJ.mono {P:Program} {f:FuncId} {args:Array Value} {w:World} {R c4:Ending→World→Prop} (h:qJ P f args w R)
  (az:∀ e w',R e w'→c4 e w'):qJ P f args w c4:=Calls.mono h fun e w' ⟨U,ae⟩=>⟨U,az e w' ae⟩
def xb (P:Program) (qK:Next) (w:World) (R:Ending→World→Prop):Prop:=
 match qK with
 | .value v=>R (.returned v) w
 | .skip=>R (.returned undef) w
 | .enter f args=>qJ P f args w R
 | .round l f tmps gd body=>Round P l f tmps gd body w R
 | _=>False
def nQ (P:Program) (r:Result Next) (R:Ending→World→Prop):Prop:=
 match r with
 | .ok qK w'=>xb P qK w' R
 | .halt (.panic v) w'=>R (.panicked [{ v,recovered:=false }]) w'
 | _=>False
theorem Round.mono {P:Program} {l:Nat} {f:FuncId} {tmps:Array Value} {gd body:Code} {w:World} {R c4:Ending→World→Prop}
  (h:Round P l f tmps gd body w R) (az:∀ e w',R e w'→c4 e w'):Round P l f tmps gd body w c4 :=
 fun c cs=>let ⟨e,w',r,s⟩:=h c cs;⟨e,w',az _ _ r,s⟩
theorem xb.mono {P:Program} {qK:Next} {w:World} {R c4:Ending→World→Prop} (h:xb P qK w R)
  (az:∀ e w',R e w'→c4 e w'):xb P qK w c4:=by
 cases qK<;>first|exact az _ _ h|exact qJ.mono h az|exact Round.mono h az|exact h.elim
theorem nQ.mono {P:Program} {r:Result Next} {R c4:Ending→World→Prop} (h:nQ P r R) (az:∀ e w',R e w'→c4 e w'):nQ P r c4:=by
 unfold nQ at h ⊢;split at h
 ·exact xb.mono h az
 ·exact az _ _ h
 ·exact h.elim
def fM (o:Oper):Bool:=match o.op with | .defer _=>false|_=>true
section ops
variable {P:Program} {b:Frame} {a:Act} {k:List Item} {cs:List Frame} {w:World} {ops:Array Oper}
theorem Mk {i:Nat} {rest:List Nat} {o:Oper} {R:Ending→World→Prop} (ag:ops[i]? = some o) (hw:Region.wanted o (yielded ops a.tmps)=true)
  (ar:fM o=true) (h:nQ P ((execOp a.eval o).run P w) R) :
  ∃ e w',R e w' ∧
   match e with
   | .returned v=>Steps P (lone (b.atR a (.inRegion ops (i::rest)::k)) cs w) (lone (b.atR (a.put o.dst v) (.inRegion ops rest::k)) cs w')
   | .panicked da=>∃ k₁,Steps P (lone (b.atR a (.inRegion ops (i::rest)::k)) cs w) (lone { b.atR a k₁ with mode := .panicking da } cs w')
   | .outgrown=>False:=by
 have ao:=stepGR_op (P:=P) (b:=b) (k:=k) (cs:=cs) (w:=w) (rest:=rest) ag hw;have Ml:o.semAt b.roundOf a.eval=execOp a.eval o:=Oper.semAt_eq _ _ _ (fun c aE=>by simp [fM,aE] at ar);rw [Ml] at ao;have oL:∀ v,(b.atR a (.inRegion ops (i::rest)::k)).finish v=b.atR (a.put o.dst v) (.inRegion ops rest::k):=by
  intro v;rw [Frame.finish_atR,ag];rfl
 unfold nQ at h;split at h
 ·rename_i qK w' az
  cases qK with
  | value v=>
   refine ⟨.returned v,w',h,.one (step_lone_go ?_)⟩;rw [ao,← oL];simp [stepG.apply,az]
  | skip=>
   refine ⟨.returned undef,w',h,.one (step_lone_go ?_)⟩;rw [ao,← oL];simp [stepG.apply,az]
  | enter f args=>
   obtain ⟨e,kS,gf,⟨jZ,dV⟩,qL,_,xc⟩:=h (b.atR a (.inRegion ops (i::rest)::k)::cs);have qM:step P (lone (b.atR a (.inRegion ops (i::rest)::k)) cs w) =
     .next (lone (Frame.enter P f args .normal) (b.atR a (.inRegion ops (i::rest)::k)::cs) w'):=
    step_lone_go (by rw [ao];simp [stepG.apply,az,Frame.atR])
   cases e with
   | returned v=>
    refine ⟨.returned v,kS,dV,.head qM (qL.trans (.one ?_))⟩;rw [← oL];exact step_leave_returned xc
   | panicked da=>
    refine ⟨.panicked da,kS,dV,.inRegion ops (i::rest)::k,.head qM (qL.trans (.one ?_))⟩;rw [← Frame.raise_atR];exact step_leave_panicked xc
   | outgrown=>exact absurd C jZ
  | round l f tmps gd body=>
   obtain ⟨e,kS,dV,qL⟩:=h (b.atR a (.inRegion ops (i::rest)::k)) cs;have qM:step P (lone (b.atR a (.inRegion ops (i::rest)::k)) cs w) =
     .next (lone (Frame.round l f tmps gd body .normal) (b.atR a (.inRegion ops (i::rest)::k)::cs) w'):=
    step_lone_go (by rw [ao];simp [stepG.apply,az,Frame.atR])
   cases e with
   | returned v=>exact ⟨.returned v,kS,dV,.head qM (by rw [← oL];exact qL)⟩
   | panicked da=>exact ⟨.panicked da,kS,dV,.inRegion ops (i::rest)::k,.head qM (by rw [← Frame.raise_atR];exact qL)⟩
   | outgrown=>exact qL.elim
  | _=>exact h.elim
 ·rename_i v w' az
  refine ⟨.panicked [{ v,recovered:=false }],w',h,.inRegion ops (i::rest)::k,.one (step_lone_go ?_)⟩;rw [ao,← Frame.raise_atR];simp [stepG.apply,az]
 ·exact h.elim
end ops
def hZ (P:Program) (ops:Array Oper) (Q:fY→Act→World→Prop):List Nat→Act→World→Prop
 | [],a,w=>Q .normal a w
 | i::rest,a,w=>
  match ops[i]? with
  | none=>hZ P ops Q rest a w
  | some o=>
   if Region.wanted o (yielded ops a.tmps) then
    fM o=true∧nQ P ((execOp a.eval o).run P w) fun
     | .returned v,w'=>hZ P ops Q rest (a.put o.dst v) w'
     | .panicked da,w'=>Q (.panic da) a w'
     | .outgrown,_=>False
   else hZ P ops Q rest (a.put o.dst undef) w
theorem Gi {P:Program} {ops:Array Oper} {Q:fY→Act→World→Prop} (b:Frame) (k:List Item) (cs:List Frame) (l:List Nat) :
  ∀ (a:Act) (w:World),hZ P ops Q l a w→∃ e cR w',Q e cR w'∧oK P (lone (b.atR a (.inRegion ops l::k)) cs w) b k cs e cR w':=by
 induction l with
 | nil=>exact fun a w h=>⟨.normal,a,w,h,.one stepR_region_end⟩
 | cons i rest a'=>
  intro a w h;simp only [hZ] at h;cases ag:ops[i]? with
  | none=>
   simp only [ag] at h;obtain ⟨e,cR,w',bs,fo⟩:=a' a w h;have aw:=stepR_op_skip (P:=P) (b:=b) (a:=a) (k:=k) (cs:=cs) (w:=w) (ops:=ops) (i:=i) (rest:=rest) (by simp [ag]);simp only [ag,Option.bind_none,Act.put] at aw;exact ⟨e,cR,w',bs,.of_steps (.one aw) fo⟩
  | some o=>
   simp only [ag] at h;by_cases hw:Region.wanted o (yielded ops a.tmps)=true
   ·simp only [hw,if_true] at h
    obtain ⟨e,w',dV,aF⟩:=Mk (b:=b) (k:=k) (cs:=cs) (rest:=rest) ag hw h.1 h.2;cases e with
    | returned v=>
     obtain ⟨e,cR,kS,bs,fo⟩:=a' _ _ dV;exact ⟨e,cR,kS,bs,.of_steps aF fo⟩
    | panicked da=>exact ⟨.panic da,a,w',dV,aF⟩
    | outgrown=>exact aF.elim
   ·simp only [hw,if_false,Bool.false_eq_true] at h
    obtain ⟨e,cR,w',bs,fo⟩:=a' _ _ h;have aw:=stepR_op_skip (P:=P) (b:=b) (a:=a) (k:=k) (cs:=cs) (w:=w) (ops:=ops) (i:=i) (rest:=rest)
     (by simp [ag];simpa using hw)
    simp only [ag,Option.bind_some] at aw;exact ⟨e,cR,w',bs,.of_steps (.one aw) fo⟩
theorem Mm {P:Program} {b:Frame} {id:Nat} {ops:Array Oper} {Q:fY→Act→World→Prop} {a:Act} {w:World}
  (h:hZ P ops Q (List.range ops.size) a w):iG P b (.region id ops false) Q a w:=
 fun k cs=>let ⟨e,cR,w',q,r⟩:=Gi b k cs _ a w h;⟨e,cR,w',q,.of_steps (.one stepR_region) r⟩
theorem Mn {P:Program} {b:Frame} {id:Nat} {ops:Array Oper} {Q:fY→Act→World→Prop} {a:Act} {w:World}
  (h:∀ t,hZ P ops Q (Region.schedule (P.follows .mixedOrders) ops t) a { w with drawn:=w.drawn+1 }):iG P b (.region id ops true) Q a w:=
 fun k cs=>let ⟨e,cR,w',q,r⟩:=Gi b k cs _ a _ (h _);⟨e,cR,w',q,.of_steps (.one stepR_region_draw) r⟩
def gp (w:World):List Nat→World
 | []=>w
 | d::b5=>gp { w with heap:=w.heap.setIfInBounds d (.deferred none) } b5
def marksOf (b5:List Nat):List Deferred:=b5.map fun d=>{ target := .collected d,args := #[] }
theorem Cl {P:Program} {cs:List Frame}:∀ (b5:List Nat) (gf:Frame) (w:World),gf.mode ≠ .run→gf.defers=marksOf b5 →
  (∀ d∈b5,w.heap[d]? = some (.deferred (some [])))→b5.Nodup→Steps P (lone gf cs w) (lone { gf with defers:=[] } cs (gp w b5)):=by
 intro b5
 induction b5 with
 | nil=>
  intro gf w _ ar _ _;have:({ gf with defers:=[] }:Frame)=gf:=by cases gf;simp_all [marksOf]
  rw [this];exact .refl P _
 | cons d b5 a'=>
  intro gf w hm ar an aC;have lY:w.heap[d]? = some (.deferred (some [])):=an d (List.mem_cons_self ..);have aK:(Instr.takeDeferred d).run P w = .ok [] { w with heap:=w.heap.setIfInBounds d (.deferred none) }:=by
   unfold Instr.takeDeferred;simp only [Sem.run_bind,getObj,setObj,Sem.run,lY,Result.andThen];rfl
  have U:step P (lone gf cs w) = .next (lone { gf with defers:=marksOf b5 } cs { w with heap:=w.heap.setIfInBounds d (.deferred none) }):=by
   refine step_lone_go ?_;cases tc:gf.mode with
   | run=>exact absurd tc hm
   | returning=>simp [stepG,unwind,tc,ar,marksOf,Sem.runT_eq,aK]
   | panicking chain=>simp [stepG,unwind,tc,ar,marksOf,Sem.runT_eq,aK]
  have eT:=List.nodup_cons.1 aC;refine .head U (a' { gf with defers:=marksOf b5 } _ hm C ?_ eT.2);intro cM cb;have cB:d≠cM:=fun e=>eT.1 (e ▸ cb)
  simp only [Array.getElem?_setIfInBounds,cB,if_false];exact an cM (List.mem_cons_of_mem _ cb)
def Mo (P:Program) (fn:Func) (R:Ending→World→Prop):fY→Act→World→Prop
  | .normal,a,w | .ret,a,w=>∃ b5,a.defers=marksOf b5∧b5.Nodup∧(∀ d∈b5,w.heap[d]? = some (.deferred (some []))) ∧
      ∃ v,(results fn a.tmps).run P (gp w b5) = .ok v (gp w b5)∧R (.returned v) (gp w b5)
  | .panic da,a,w=>∃ b5,a.defers=marksOf b5∧b5.Nodup∧(∀ d∈b5,w.heap[d]? = some (.deferred (some [])))∧R (.panicked da) (gp w b5)
  | .exit _,_,_=>False
theorem Mp {P:Program} {f:FuncId} {fn:Func} {c:Code} {args:Array Value} {w:World} {R:Ending→World→Prop}
    (ba:P.funcs[f]? = some fn) (an:fn.body=some c)
    (h:∀ b:Frame,b.roundOf=none→(P.funcs[b.fn]?).isSome=true→iG P b c (Mo P fn R) { tmps:=args++Array.replicate (fn.ntmps-args.size) undef,defers:=[] } w) :
    qJ P f args w R:=by
  intro cs
  let b:Frame:={ (default:Frame) with fn:=f,kind := .normal,roundOf:=none }
  have qM:Frame.enter P f args .normal =
      b.atR { tmps:=args++Array.replicate (fn.ntmps-args.size) undef,defers:=[] } [.code c]:=by
    simp [Frame.enter,Frame.atR,ba,an,b]
  obtain ⟨e,cR,w',bs,fo⟩:=h b rfl (by simp [b,ba]) [] cs;rw [← qM] at fo;cases e with
  | normal=>
    obtain ⟨b5,ar,aC,jE,v,az,dV⟩:=bs
    exact ⟨.returned v,_,_,⟨by simp,dV⟩,Steps.trans (Steps.trans fo (.one (stepR_end C)))
      (Cl b5 { b.atR cR [] with mode := .returning } w' bn ar jE aC),rfl,rfl,rfl,rfl,fn,ba,az⟩
  | ret=>
    obtain ⟨b5,ar,aC,jE,v,az,dV⟩:=bs;obtain ⟨k₁,aw⟩:=fo
    exact ⟨.returned v,_,_,⟨by simp,dV⟩,Steps.trans (Steps.trans aw (.one (stepR_ret C)))
      (Cl b5 { b.atR cR (.code .ret::k₁) with mode := .returning } w' bn ar jE aC),rfl,rfl,rfl,rfl,fn,ba,az⟩
  | panic da=>
    obtain ⟨b5,ar,aC,jE,dV⟩:=bs;obtain ⟨k₁,aw⟩:=fo;exact ⟨.panicked da,_,_,⟨by simp,dV⟩,Steps.trans aw (Cl b5 { b.atR cR k₁ with mode := .panicking da } w' bn ar jE aC),rfl,rfl,rfl,fn,ba⟩
  | exit id=>exact bs.elim
def Mq (P:Program) (l:Nat) (R:Ending→World→Prop):fY→Act→World→Prop
 | .normal,_,w=>∃ v w',(Instr.endRound l none).run P w = .ok v w'∧R (.returned v) w'
 | .ret,_,w=>∃ v w',(Instr.endRound l (some .ret)).run P w = .ok v w'∧R (.returned v) w'
 | .exit id,_,w=>∃ v w',(Instr.endRound l (some (.exit id))).run P w = .ok v w'∧R (.returned v) w'
 | .panic da,a,w=>a.defers=[]∧R (.panicked da) w
theorem Mr {P:Program} {l:Nat} {f:FuncId} {fn:Func} {tmps:Array Value} {gd body:Code} {w:World} {R:Ending→World→Prop}
  (ba:P.funcs[f]? = some fn)
  (h:∀ b:Frame,b.roundOf=some l→b.fn=f→iG P b gd (fY.andThen (fun hP w₁=>∃ gG,(Instr.beginRound l).run P w₁ = .ok () gG∧iG P b body (Mq P l R) hP gG) (fun _ _ _=>False))
   { tmps:=tmps,defers:=[] } w):Round P l f tmps gd body w R:=by
 intro c cs
 let b:Frame:={ (default:Frame) with fn:=f,kind := .normal,roundOf:=some l }
 have pN:Frame.round l f tmps gd body .normal=b.atR { tmps:=tmps,defers:=[] } [.code gd,.beginRound,.code body]:=by
  simp [Frame.round,Frame.atR,b]
 obtain ⟨e,hP,w₁,bs,fo⟩:=h b rfl rfl [.beginRound,.code body] (c::cs);rw [← pN] at fo;by_cases he:e = .normal
 ·subst he
  obtain ⟨gG,j0,qN⟩:=bs;have s1:=Steps.one (stepR_beginRound (P:=P) (b:=b) (a:=hP) (k:=[.code body]) (cs:=c::cs) C j0);obtain ⟨xa,zD,hQ,rY,rZ⟩:=qN [] (c::cs);cases xa with
  | normal=>
   obtain ⟨v,kk,r0,dV⟩:=rY;exact ⟨.returned v,kk,dV,(Steps.trans fo s1).trans (Steps.trans rZ (.one (stepR_round_end C C r0)))⟩
  | ret=>
   obtain ⟨v,kk,r0,dV⟩:=rY;obtain ⟨k₁,aw⟩:=rZ;exact ⟨.returned v,kk,dV,(Steps.trans fo s1).trans (Steps.trans aw (.one (stepR_round_ret C C r0)))⟩
  | exit id=>
   obtain ⟨v,kk,r0,dV⟩:=rY;obtain ⟨k₁,aD,aw⟩:=rZ.2 rfl;exact ⟨.returned v,kk,dV,(Steps.trans fo s1).trans (Steps.trans aw (.one (stepR_round_exit C C aD r0)))⟩
  | panic da=>
   obtain ⟨ar,dV⟩:=rY;obtain ⟨k₁,aw⟩:=rZ;refine ⟨.panicked da,hQ,dV,(Steps.trans fo s1).trans (Steps.trans aw (.one ?_))⟩;exact step_lone_go (by simp [stepG,unwind,Frame.catches,Frame.atR,ar,b,ba])
 ·cases e<;>first|exact absurd C he|exact bs.elim
end Go.bj
namespace Go.bj
inductive bU where
 | nil
 | clip
 | bd
 | own (b:Nat)
 deriving DecidableEq
inductive ad where
 | any
 | bool (b:Bool)
 | int (k:IntKind) (n:Int)
 | str (s:List UInt8)
 | oM
 | ptr (b o:Nat)
 | bq (cells:List ad) (off:Nat)
 | kT (b:Nat) (cells:List ad)
 | aA (sz:Nat) (xs:List ad) (own:bU)
 | zE (b n:Nat)
 | qO
 | map (b:Nat)
 | func (f:FuncId) (first cap:List ad)
 | gx (v:Value)
 | r1
 | iface (t:TypeId) (v:ad)
 | mz
 | agg (cells:List ad)
 | cl (vs:List ad)
abbrev bN:=Nat→Nat→Prop
def flat (vs:List Value):List Value:=vs.flatMap fun v=>v.cells.toList
def td (w:World) (p:bN) (b o:Nat) (vs:List Value):Prop:=∀ i v,vs[i]? = some v→p b (o+i)∧w.cell? ⟨b,o+i,none⟩=some v
def _root_.Go.World.jF (w:World) (r:Nat):Option (TypeId×Nat):=
 match w.heap[r]? with
 | some (.cells c elem (0,0))=>some (elem,c.size)
 | _=>none
mutual
inductive Rel (w:World) (p:bN):Value→ad→Prop
 | any (v:Value):Rel w p v .any
 | bool (b:Bool):Rel w p (.bool b) (.bool b)
 | int (k:IntKind) (n:Int):Rel w p (.int k n) (.int k n)
 | str (b:ByteArray) (s:List UInt8) (h:b.data.toList=s):Rel w p (.string b) (.str s)
 | oM:Rel w p (.pointer none) .oM
 | ptr (b o:Nat):Rel w p (.pointer (some ⟨b,o,none⟩)) (.ptr b o)
 | bq (b base o off:Nat) (vs:List Value) (cells:List ad) (ag:o=base+off) (aE:td w p b base vs) (az:bO w p vs cells) :
   Rel w p (.pointer (some ⟨b,o,none⟩)) (.bq cells off)
 | kT (b:Nat) (vs:List Value) (cells:List ad) (aC:vs≠[]) (aw:∃ x,w.jF b=some x) (aE:td w p b 0 vs) (az:bO w p vs cells):Rel w p (.pointer (some ⟨b,0,none⟩)) (.kT b cells)
 | gU (sz:Nat) (own:bU) (h:∀ b,own ≠ .own b):Rel w p (.slice none 0 0) (.aA sz [] own)
 | hE (a:Addr) (sz:Nat) (own:bU) (h:own = .bd∨own = .clip):Rel w p (.slice (some a) 0 0) (.aA sz [] own)
 | aA (g off n cap sz:Nat) (vs:List Value) (xs:List ad) (own:bU) (aC:own ≠ .nil) (aI:n=xs.length) (aE:td w p g off (flat vs)) (az:bO w p vs xs)
   (aw:∀ v∈vs,v.cells.size=sz) (hm:n≤9223372036854775807) (aD:n≤cap) (cE:own = .clip→cap=n)
   (ag:∀ b,own = .own b→b=g∧off=0∧∃ e,w.jF g=some (e,cap*sz)):Rel w p (.slice (some ⟨g,off,none⟩) n cap) (.aA sz xs own)
 | zE (b n cap:Nat) (hm:n≤9223372036854775807) (aD:n≤cap):Rel w p (.slice (some ⟨b,0,none⟩) n cap) (.zE b n)
 | qO:Rel w p (.map none) .qO
 | map (b:Nat):Rel w p (.map (some b)) (.map b)
 | func (f:FuncId) (as cs:Array Value) (first cap:List ad) (aV:bO w p as.toList first) (aE:bO w p cs.toList cap):Rel w p (.func (.func f) as cs) (.func f first cap)
 | gx (v:Value):Rel w p v (.gx v)
 | r1:Rel w p .nilFunc .r1
 | iface (t:TypeId) (v:Value) (x:ad) (h:Rel w p v x):Rel w p (.iface t v) (.iface t x)
 | mz:Rel w p .nilIface .mz
 | agg (cs:Array Value) (xs:List ad) (h:bO w p cs.toList xs):Rel w p (.agg cs) (.agg xs)
 | cl (vs:Array Value) (xs:List ad) (h:bO w p vs.toList xs):Rel w p (.tuple vs) (.cl xs)
inductive bO (w:World) (p:bN):List Value→List ad→Prop
 | nil:bO w p [] []
 | cons (v:Value) (x:ad) (vs:List Value) (xs:List ad) (h:Rel w p v x) (t:bO w p vs xs):bO w p (v::vs) (x::xs)
end
structure cV (w:World) (p:bN) (w':World) (bb:bN):Prop where
 os:w'.os=w.os
 tape:w'.tape=w.tape
 output:w'.output=w.output
 size:w.heap.size≤w'.heap.size
 j1:∀ b o,p b o→bb b o
 same:∀ b o,p b o→w'.cell? ⟨b,o,none⟩=w.cell? ⟨b,o,none⟩
 shape:∀ b x,w.jF b=some x→w'.jF b=some x
theorem cV.refl (w:World) (p:bN):cV w p w p:=⟨rfl,rfl,rfl,Nat.le_refl _,fun _ _ h=>h,fun _ _ _=>rfl,fun _ _ h=>h⟩
theorem cV.trans {w w₁ gG:World} {p p₁ ib:bN} (h:cV w p w₁ p₁) (k:cV w₁ p₁ gG ib):cV w p gG ib:=
 ⟨k.os.trans h.os,k.tape.trans h.tape,k.output.trans h.output,Nat.le_trans h.size k.size,fun b o aN=>k.j1 b o (h.j1 b o aN),
  fun b o aN=>(k.same b o (h.j1 b o aN)).trans (h.same b o aN),fun b x ab=>k.shape b x (h.shape b x ab)⟩
theorem td.mono {w w':World} {p bb:bN} (hle:cV w p w' bb) {b o:Nat} {vs:List Value} (h:td w p b o vs):td w' bb b o vs:=
 fun i v av=>let ⟨U,ae⟩:=h i v av;⟨hle.j1 _ _ U,(hle.same _ _ U).trans ae⟩
mutual
theorem Rel.mono {w w':World} {p bb:bN} (hle:cV w p w' bb) {v:Value} {x:ad} (h:Rel w p v x):Rel w' bb v x:=by
 cases h with
 | any v=>exact .any v
 | bool b=>exact .bool b
 | int k n=>exact .int k n
 | str b s h=>exact .str b s h
 | oM=>exact .oM
 | ptr b o=>exact .ptr b o
 | bq b base o off vs cells ag aE az=>exact .bq b base o off vs cells ag (aE.mono hle) (az.mono hle)
 | kT b vs cells aC aw aE az=>exact .kT b vs cells aC (aw.imp fun x h=>hle.shape _ _ h) (aE.mono hle) (az.mono hle)
 | gU sz own h=>exact .gU sz own h
 | hE a sz own h=>exact .hE a sz own h
 | aA g off n cap sz vs xs own aC aI aE az aw hm aD cE ag=>
  exact .aA g off n cap sz vs xs own aC aI (aE.mono hle) (az.mono hle) aw hm aD cE (fun b an=>let ⟨U,ae,e,al⟩:=ag b an;⟨U,ae,e,hle.shape _ _ al⟩)
 | zE b n cap hm aD=>exact .zE b n cap hm aD
 | qO=>exact .qO
 | map b=>exact .map b
 | func f as cs first cap aV aE=>exact .func f as cs first cap (aV.mono hle) (aE.mono hle)
 | gx v=>exact .gx v
 | r1=>exact .r1
 | iface t v x h=>exact .iface t v x (h.mono hle)
 | mz=>exact .mz
 | agg cs xs h=>exact .agg cs xs (h.mono hle)
 | cl vs xs h=>exact .cl vs xs (h.mono hle)
theorem bO.mono {w w':World} {p bb:bN} (hle:cV w p w' bb) {vs:List Value} {xs:List ad} (h:bO w p vs xs):bO w' bb vs xs:=by
 cases h with
 | nil=>exact .nil
 | cons v x vs xs h t=>exact .cons v x vs xs (h.mono hle) (t.mono hle)
end
section Ms
variable {w:World} {p:bN}
theorem bO.length {vs:List Value} {xs:List ad} (h:bO w p vs xs):vs.length=xs.length:=by
 induction vs generalizing xs with
 | nil=>cases h;rfl
 | cons v vs a'=>cases h with|cons _ x _ xs h t=>simp [a' t]
theorem bO.get {vs:List Value} {xs:List ad} (h:bO w p vs xs) {i:Nat} {x:ad} (ab:xs[i]? = some x):∃ v,vs[i]? = some v∧Rel w p v x:=by
 induction vs generalizing xs i with
 | nil=>cases h;simp at ab
 | cons v vs a'=>
  cases h with
  | cons _ y _ ys h t=>
   cases i with
   | zero=>simp at ab;subst ab;exact ⟨v,rfl,h⟩
   | succ i=>simp at ab;obtain ⟨u,U,ae⟩:=a' t ab;exact ⟨u,by simpa using U,ae⟩
theorem bO.append {vs us:List Value} {xs ys:List ad} (h:bO w p vs xs) (k:bO w p us ys):bO w p (vs++us) (xs++ys):=by
 induction vs generalizing xs with
 | nil=>cases h;exact k
 | cons v vs a'=>cases h with|cons _ x _ xs h t=>exact .cons _ _ _ _ h (a' t)
theorem bO.take {vs:List Value} {xs:List ad} (h:bO w p vs xs) (n:Nat):bO w p (vs.take n) (xs.take n):=by
  induction vs generalizing xs n with
  | nil=>cases h;simp;exact .nil
  | cons v vs a'=>
    cases h with
    | cons _ x _ xs h t=>cases n with
      | zero=>exact .nil
      | succ n=>exact .cons _ _ _ _ h (a' t n)
theorem bO.drop {vs:List Value} {xs:List ad} (h:bO w p vs xs) (n:Nat):bO w p (vs.drop n) (xs.drop n):=by
  induction vs generalizing xs n with
  | nil=>cases h;simp;exact .nil
  | cons v vs a'=>
    cases h with
    | cons _ x _ xs h t=>cases n with
      | zero=>exact .cons _ _ _ _ h t
      | succ n=>exact a' t n
theorem bO.set {vs:List Value} {xs:List ad} (h:bO w p vs xs) (i:Nat) {v:Value} {x:ad} (av:Rel w p v x):bO w p (vs.set i v) (xs.set i x):=by
  induction vs generalizing xs i with
  | nil=>cases h;exact .nil
  | cons u vs a'=>
    cases h with
    | cons _ y _ ys h t=>cases i with
      | zero=>exact .cons _ _ _ _ av t
      | succ i=>exact .cons _ _ _ _ h (a' t i)
theorem bO.replicate {v:Value} {x:ad} (h:Rel w p v x) (n:Nat):bO w p (List.replicate n v) (List.replicate n x):=by
 induction n with
 | zero=>exact .nil
 | succ n a'=>exact .cons _ _ _ _ h a'
end Ms
abbrev Env:=List (Nat×ad)
def Env.get? : Env→Nat→Option ad
 | [],_=>none
 | (t,v)::e,n=>if Nat.beq t n then some v else Env.get? e n
inductive db where
 | box (t:TypeId) (cells:List ad)
 | row (t:TypeId) (sz n:Nat)
 | map (es:List (ad×ad))
 | j2 (es:List (ad×ad)) (it:Nat) (left:List (ad×ad)) (cur:Option (ad×ad))
 | tick (m:Nat)
 | loop (r:Loop) (env:Env)
abbrev aj:=Nat→Option db
def kl (w:World) (p:bN) (cw:List MapEntry) (es:List (ad×ad)):Prop:=
 bO w p (cw.map (·.key)) (es.map (·.1))∧bO w p (cw.map (·.val)) (es.map (·.2))
def oN (w:World) (p:bN) (b:Nat):db→Prop
  | .box t cs=>∃ vs:Array Value,w.heap[b]? = some (.cells vs t (0,0))∧bO w p vs.toList cs∧∀ o,¬ p b o
  | .row t sz n=>∃ cur:Array Value,w.heap[b]? = some (.cells cur t (0,0))∧n*sz≤cur.size∧(∃ cap,cur.size=cap*sz)∧∀ o,p b o↔o<n*sz
  | .map es=>∃ cw clock,w.heap[b]? = some (.map cw clock)∧kl w p cw.toList es∧(∀ e∈cw.toList,e.born<clock)∧(cw.toList.map (·.born)).Nodup
  | .j2 es it left cur=>∃ (cw:Array MapEntry) (clock:Nat) (seen:Array Nat),w.heap[b]? = some (.map cw clock)∧w.heap[it]? = some (.mapIter (some b) clock seen clock)∧kl w p cw.toList es ∧
      (∀ e∈cw.toList,e.born<clock)∧(cw.toList.map (·.born)).Nodup∧kl w p (cw.toList.filter fun e => !seen.contains e.born) left ∧
      ∀ k v,cur=some (k,v)→∃ Gj e,seen.back? = some Gj∧cw.find? (·.born==Gj)=some e∧Rel w p e.key k∧Rel w p e.val v
  | .tick m=>∃ since seen last,w.heap[b]? = some (.mapIter (some m) since seen last)
  | .loop r env=>w.heap[b]? = some (.loop r)∧∀ t v,env.get? t=some v→Rel w p (r.tmps.getD t undef) v
structure c0 (w:World) (p:bN) (s:aj):Prop where
 obj:∀ b o,s b=some o→oN w p b o
 lt:∀ b o,p b o→b<w.heap.size
theorem oN.oO {w w':World} {p bb:bN} {b it:Nat} {es left:List (ad×ad)} {cur:Option (ad×ad)} (h:oN w p b (.j2 es it left cur)) (hle:cV w p w' bb) (an:w'.heap[b]? = w.heap[b]?) (aY:w'.heap[it]? = w.heap[it]?) :
  oN w' bb b (.j2 es it left cur):=by
 obtain ⟨cw,clock,seen,U,ae,al,bl,bD,fG,hF⟩:=h;exact ⟨cw,clock,seen,an.trans U,aY.trans ae,⟨al.1.mono hle,al.2.mono hle⟩,bl,bD,⟨fG.1.mono hle,fG.2.mono hle⟩,fun k v aE=>let ⟨st,e,eJ,a2,a3,a4⟩:=hF k v aE;⟨st,e,eJ,a2,a3.mono hle,a4.mono hle⟩⟩
theorem oN.xd {w:World} {p:bN} {b it d:Nat} {es left:List (ad×ad)} {cur:Option (ad×ad)} (h:oN w p b (.j2 es it left cur)) {o:Obj} (ar:w.heap[d]? = some o) (ag:∀ m a s l,o ≠ .mapIter m a s l):it≠d:=by
 obtain ⟨cw,clock,seen,U,ae,al⟩:=h;intro e;subst e;rw [ar] at ae;cases ae;exact ag _ _ _ _ C
structure Kept (s ah:aj) (w:World) (p:bN) (w':World) (bb:bN):Prop where
 heap:∀ b,b<w.heap.size→s b=none→w'.heap[b]? = w.heap[b]?
 jG:∀ b,b<w.heap.size→s b=none→ah b=none
 j1:∀ b o,b<w.heap.size→s b=none→bb b o→p b o
theorem Kept.refl (s:aj) (w:World) (p:bN):Kept s s w p w p:=⟨fun _ _ _=>rfl,fun _ _ h=>h,fun _ _ _ _ h=>h⟩
theorem Kept.trans {s s₁ dg:aj} {w w₁ gG:World} {p p₁ ib:bN} (aw:w.heap.size≤w₁.heap.size) (h:Kept s s₁ w p w₁ p₁) (k:Kept s₁ dg w₁ p₁ gG ib):Kept s dg w p gG ib:=
  ⟨fun b an aC=>(k.heap b (Nat.lt_of_lt_of_le an aw) (h.jG b an aC)).trans (h.heap b an aC),
   fun b an aC=>k.jG b (Nat.lt_of_lt_of_le an aw) (h.jG b an aC),
   fun b o an aC aN=>h.j1 b o an aC (k.j1 b o (Nat.lt_of_lt_of_le an aw) (h.jG b an aC) aN)⟩
def vi:Value→Option ad
 | .bool b=>some (.bool b)
 | .int k n=>some (.int k n)
 | .string s=>some (.str s.data.toList)
 | .pointer none=>some .oM
 | .slice none 0 0=>some (.aA 0 [] .nil)
 | .map none=>some .qO
 | .nilFunc=>some .r1
 | .nilIface=>some .mz
 | .tuple vs=>if vs.isEmpty then some (.cl []) else none
 | _=>none
def aJ (env:Env):Operand→Option ad
 | .tmp t=>env.get? t
 | .const v=>vi v
 | .func f=>some (.func f [] [])
 | .global _=>none
theorem Cm {w:World} {p:bN} {v:Value} {x:ad} (h:vi v=some x):Rel w p v x:=by
 unfold vi at h;split at h<;>first|(cases h;done)|(cases h;first|exact .bool _|exact .int _ _|exact .str _ _ C|exact .oM|exact .gU _ _ (fun _=>by simp)|exact .qO|exact .r1|exact .mz)|skip
 rename_i vs;split at h
 ·rename_i he
  cases h;have:vs = #[]:=by simpa using he
  subst this;exact .cl _ _ .nil
 ·cases h
abbrev ff:=Nat×List Deferred
structure c9 (N:Nat) (B:ff) (ro:Option Nat) (env:Env) (s:aj) (a:Act) (w:World) (p:bN):Prop where
 size:a.tmps.size=N
 env:∀ t v,env.get? t=some v→Rel w p (a.tmps.getD t undef) v
 wf:c0 w p s
 defs:∃ b5,a.defers=marksOf b5++B.2∧b5.Nodup∧∀ d∈b5,B.1≤d∧w.heap[d]? = some (.deferred (some []))∧s d=none
 round:∀ l,ro=some l→a.defers=[]∧(∃ r,w.heap[l]? = some (.loop r))∧s l=none
 base:B.1≤w.heap.size
theorem c9.aJ {N:Nat} {B:ff} {ro:Option Nat} {env:Env} {s:aj} {a:Act} {w:World} {p:bN} (h:c9 N B ro env s a w p) {o:Operand} {x:ad} (ab:aJ env o=some x) :
  Rel w p (a.eval o) x:=by
 cases o with
 | tmp t=>exact h.env t x ab
 | const v=>exact Cm ab
 | func f=>simp [bj.aJ] at ab;subst ab;exact .func f #[] #[] [] [] .nil .nil
 | global g=>simp [bj.aJ] at ab
theorem c9.step {N:Nat} {B:ff} {ro:Option Nat} {env:Env} {s ah:aj} {a:Act} {w w':World} {p bb:bN} (h:c9 N B ro env s a w p)
  (hle:cV w p w' bb) (aD:Kept s ah w p w' bb) (b6:c0 w' bb ah):c9 N B ro env ah a w' bb:=by
 obtain ⟨b5,U,ae,al⟩:=h.defs;refine ⟨h.size,fun t v av=>(h.env t v av).mono hle,b6,⟨b5,U,ae,fun d ar=>?_⟩,fun l aI=>?_,Nat.le_trans h.base hle.size⟩
 ·obtain ⟨cW,lY,aw⟩:=al d ar
  have aG:d<w.heap.size:=(Array.getElem?_eq_some_iff.1 lY).1;exact ⟨cW,(aD.heap d aG aw).trans lY,aD.jG d aG aw⟩
 ·obtain ⟨ar,⟨r,az⟩,aw⟩:=h.round l aI
  have aG:l<w.heap.size:=(Array.getElem?_eq_some_iff.1 az).1;exact ⟨ar,⟨r,(aD.heap l aG aw).trans az⟩,aD.jG l aG aw⟩
theorem c9.put {N:Nat} {B:ff} {ro:Option Nat} {env:Env} {s:aj} {a:Act} {w:World} {p:bN} (h:c9 N B ro env s a w p) {d:Nat} (ar:d<N) {v:Value} {x:ad}
  (av:Rel w p v x):c9 N B ro ((d,x)::env) s (a.put (some d) v) w p:=by
 refine ⟨by simp [Act.put,h.size],fun t y ay=>?_,h.wf,h.defs,h.round,h.base⟩;simp only [Env.get?] at ay;split at ay
 ·rename_i he
  have te:d=t:=Nat.eq_of_beq_eq_true he;cases ay;subst te;have cb:d<a.tmps.size:=h.size.symm ▸ ar;simpa [Act.put,Array.getD_eq_getD_getElem?,Array.getElem?_setIfInBounds,cb] using av
 ·rename_i he
  have te:d≠t:=fun e=>he (by subst e;simp)
  have:=h.env t y ay;simpa [Act.put,Array.getD_eq_getD_getElem?,Array.getElem?_setIfInBounds,te] using this
inductive b2 where
 | normal
 | exit (id:Nat)
 | ret
 | panic (v:ad)
def vj (v:Value) (da:List PanicEntry):Prop:=∃ rest,da={ v,recovered:=false }::rest∧∀ e∈rest,e.goexit=false
theorem vj.one (v:Value):vj v [{ v,recovered:=false }]:=⟨[],rfl,fun _ h=>by cases h⟩
inductive vk (w:World) (p:bN):fY→b2→Prop
 | normal:vk w p .normal .normal
 | exit (id:Nat):vk w p (.exit id) (.exit id)
 | ret:vk w p .ret .ret
 | panic (v:Value) (x:ad) (da:List PanicEntry) (aE:vj v da) (h:Rel w p v x):vk w p (.panic da) (.panic x)
def jl (N:Nat) (B:ff) (ro:Option Nat) (s:aj) (w:World) (p:bN) (Q:b2→Env→aj→Prop) (e:fY) (cR:Act) (w':World):Prop:=
 ∃ x er ah bb,vk w' bb e x∧Q x er ah∧c9 N B ro er ah cR w' bb∧cV w p w' bb∧Kept s ah w p w' bb
theorem jl.after {N:Nat} {B:ff} {ro:Option Nat} {s s₁:aj} {w w₁ w':World} {p p₁:bN} {Q:b2→Env→aj→Prop} {e:fY} {cR:Act}
  (hle:cV w p w₁ p₁) (aD:Kept s s₁ w p w₁ p₁) (h:jl N B ro s₁ w₁ p₁ Q e cR w'):jl N B ro s w p Q e cR w' :=
 let ⟨x,er,ah,bb,U,ae,al,bl,bD⟩:=h
 ⟨x,er,ah,bb,U,ae,al,hle.trans bl,aD.trans hle.size bD⟩
def af (P:Program) (N:Nat) (c:Code) (Q:b2→Env→aj→Prop) (env:Env) (s:aj):Prop:=
 ∀ (b:Frame) (B:ff) (a:Act) (w:World) (p:bN),(P.funcs[b.fn]?).isSome=true→c9 N B b.roundOf env s a w p→iG P b c (jl N B b.roundOf s w p Q) a w
section Mt
variable {P:Program} {N:Nat} {Q:b2→Env→aj→Prop} {env:Env} {s:aj}
theorem af.mono {c:Code} {pM:b2→Env→aj→Prop} (h:af P N c Q env s) (bs:∀ e env s,Q e env s→pM e env s):af P N c pM env s:=
 fun b B a w p et aF=>kR (h b B a w p et aF) fun _ _ _ ⟨x,er,ah,bb,U,ae,al⟩=>⟨x,er,ah,bb,U,bs _ _ _ ae,al⟩
theorem jl.here {B:ff} {ro:Option Nat} {a:Act} {w:World} {p:bN} {e:fY} {x:b2} (ab:vk w p e x) (bs:Q x env s) (h:c9 N B ro env s a w p) :
  jl N B ro s w p Q e a w:=⟨x,env,s,p,ab,bs,h,.refl w p,.refl s w p⟩
theorem af.skip (h:Q .normal env s):af P N .skip Q env s:=fun _ _ _ _ _ _ aF=>Me (.here .normal h aF)
theorem af.ret (h:Q .ret env s):af P N .ret Q env s:=fun _ _ _ _ _ _ aF=>Mf (.here .ret h aF)
theorem af.exit {id:Nat} (h:Q (.exit id) env s):af P N (.exit id) Q env s:=fun _ _ _ _ _ _ aF=>Mg (.here (.exit id) h aF)
def b2.andThen (next:Env→aj→Prop) (Q:b2→Env→aj→Prop):b2→Env→aj→Prop
 | .normal,e,s=>next e s
 | x,e,s=>Q x e s
theorem af.seq {x y:Code} (h:af P N x (b2.andThen (af P N y Q) Q) env s):af P N (.seq x y) Q env s:=by
 intro b B a w p et aF;refine Mh (kR (h b B a w p et aF) ?_);rintro e hP w₁ ⟨zF,na,s₁,p₁,ab,bs,j3,hle,aD⟩;cases ab with
 | normal=>exact kR (bs b B hP w₁ p₁ et j3) fun _ _ _ h=>h.after hle aD
 | exit id=>exact ⟨_,na,s₁,p₁,.exit id,bs,j3,hle,aD⟩
 | ret=>exact ⟨_,na,s₁,p₁,.ret,bs,j3,hle,aD⟩
 | panic v x da aE av=>exact ⟨_,na,s₁,p₁,.panic v x da aE av,bs,j3,hle,aD⟩
theorem zG {w:World} {p:bN} {v:Value} {t:Bool} (h:Rel w p v (.bool t)):v = .bool t:=by cases h;rfl
theorem af.cond {c:Operand} {x y:Code} {t:Bool} (aE:aJ env c=some (.bool t)) (aK:t=true→af P N x Q env s) (ba:t=false→af P N y Q env s) :
  af P N (.cond c x y) Q env s:=by
 intro b B a w p et aF;refine Mi (zG (aF.aJ aE)) ?_;cases t
 ·exact ba C b B a w p et aF
 ·exact aK C b B a w p et aF
theorem af.gV {c:Operand} {x y:Code} (aE:aJ env c=some (.bool true)) (h:af P N x Q env s):af P N (.cond c x y) Q env s:=af.cond aE (fun _=>h) bn
theorem af.hR {c:Operand} {x y:Code} (aE:aJ env c=some (.bool false)) (h:af P N y Q env s):af P N (.cond c x y) Q env s:=af.cond aE bn (fun _=>h)
def b2.inBlock (id:Nat) (Q:b2→Env→aj→Prop):b2→Env→aj→Prop
 | .exit jD,a,w=>if Nat.beq jD id then Q .normal a w else Q (.exit jD) a w
 | e,a,w=>Q e a w
theorem af.block {id:Nat} {c:Code} (h:af P N c (b2.inBlock id Q) env s):af P N (.block id c) Q env s:=by
 intro b B a w p et aF;refine Mj (kR (h b B a w p et aF) ?_);rintro e hP w₁ ⟨zF,na,s₁,p₁,ab,bs,j3,hle,aD⟩;cases ab with
 | normal=>exact ⟨_,na,s₁,p₁,.normal,bs,j3,hle,aD⟩
 | exit jD=>
  by_cases qI:jD=id
  ·simp only [b2.inBlock,qI,Nat.beq_refl,if_true] at bs
   simp only [fY.inBlock,qI,if_true];exact ⟨_,na,s₁,p₁,.normal,bs,j3,hle,aD⟩
  ·have an:Nat.beq jD id=false:=by
    cases Mu:Nat.beq jD id with
    | false=>rfl
    | true=>exact absurd (Nat.eq_of_beq_eq_true Mu) qI
   simp only [b2.inBlock,an,if_false,Bool.false_eq_true] at bs;simp only [fY.inBlock,qI,if_false];exact ⟨_,na,s₁,p₁,.exit jD,bs,j3,hle,aD⟩
 | ret=>exact ⟨_,na,s₁,p₁,.ret,bs,j3,hle,aD⟩
 | panic v x da aE av=>exact ⟨_,na,s₁,p₁,.panic v x da aE av,bs,j3,hle,aD⟩
def a8 (x y:ad):Prop:=∀ w p v,Rel w p v x→Rel w p v y
theorem a8.refl (x:ad):a8 x x:=fun _ _ _ h=>h
def Env.Sub:Env→Env→Prop
 | [],_=>True
 | (t,v)::e,env=>(∃ eK,env.get? t=some eK∧a8 eK v)∧Env.Sub e env
theorem Env.Sub.get {e env:Env} (h:Env.Sub e env) {t:Nat} {v:ad} (av:e.get? t=some v):∃ eK,env.get? t=some eK∧a8 eK v:=by
 induction e with
 | nil=>simp [Env.get?] at av
 | cons x e a'=>
  obtain ⟨bG,eK⟩:=x;simp only [Env.get?] at av;split at av
  ·rename_i he
   have te:bG=t:=Nat.eq_of_beq_eq_true he;cases av;subst te;exact h.1
  ·exact a' h.2 av
theorem c9.sub {B:ff} {ro:Option Nat} {e:Env} {a:Act} {w:World} {p:bN} (aw:Env.Sub e env) (h:c9 N B ro env s a w p):c9 N B ro e s a w p:=
 ⟨h.size,fun t v av=>let ⟨eK,U,ae⟩:=aw.get av;ae _ _ _ (h.env t eK U),h.wf,h.defs,h.round,h.base⟩
theorem af.sub {c:Code} (e:Env) (aw:Env.Sub e env) (h:af P N c Q e s):af P N c Q env s:=
 fun b B a w p et aF=>h b B a w p et (aF.sub aw)
def aj.Sub (ah s:aj):Prop:=∀ b,ah b=s b∨ah b=none
theorem c0.sub {ah:aj} {w:World} {p:bN} (aw:aj.Sub ah s) (h:c0 w p s):c0 w p ah :=
 ⟨fun b o an=>h.obj b o (by rcases aw b with e|e<;>simp_all),h.lt⟩
theorem aj.Sub.none {ah:aj} (aw:aj.Sub ah s) {b:Nat} (h:s b=none):ah b=none:=by rcases aw b with e|e<;>simp_all
theorem Kept.vl {ah ef:aj} (aw:aj.Sub ah s) {w w':World} {p bb:bN} (h:Kept ah ef w p w' bb):Kept s ef w p w' bb :=
 ⟨fun b an aC=>h.heap b an (aw.none aC),fun b an aC=>h.jG b an (aw.none aC),fun b o an aC=>h.j1 b o an (aw.none aC)⟩
theorem c9.Cn {B:ff} {ro:Option Nat} {ah:aj} {a:Act} {w:World} {p:bN} (aw:aj.Sub ah s) (h:c9 N B ro env s a w p):c9 N B ro env ah a w p:=by
 obtain ⟨b5,U,ae,al⟩:=h.defs;exact ⟨h.size,h.env,h.wf.sub aw,⟨b5,U,ae,fun d ar=>let ⟨a,b,c⟩:=al d ar;⟨a,b,aw.none c⟩⟩,fun l aI=>let ⟨a,b,c⟩:=h.round l aI;⟨a,b,aw.none c⟩,h.base⟩
theorem af.drop {c:Code} (ah:aj) (aw:aj.Sub ah s) (h:af P N c Q env ah):af P N c Q env s:=
 fun b B a w p et aF=>kR (h b B a w p et (aF.Cn aw)) fun _ _ _ ⟨x,er,ef,bb,U,ae,al,bl,bD⟩=>⟨x,er,ef,bb,U,ae,al,bl,bD.vl aw⟩
theorem af.loop {σ:Type} {c:Code} (E:σ→Env) (S:σ→aj) (X4:σ→Prop) (μ:σ→Nat) (mA:σ) (aH:X4 mA) (eu:Env.Sub (E mA) env) (cX:aj.Sub (S mA) s)
  (round:∀ x,X4 x→af P N c (b2.andThen (fun er ah=>∃ y,X4 y∧Env.Sub (E y) er∧aj.Sub (S y) ah∧μ y<μ x) Q) (E x) (S x)):af P N (.loop c) Q env s:=by
 refine af.sub _ eu (af.drop _ cX ?_);intro b B a w p et aF;have key:∀ n x a w p,μ x=n→X4 x→c9 N B b.roundOf (E x) (S x) a w p→∀ k cs,∃ e cR w',jl N B b.roundOf (S x) w p Q e cR w' ∧
   oK P (lone (b.atR a (.code c :: .inLoop c::k)) cs w) b k cs e cR w':=by
  intro n
  induction n using Nat.strongRecOn with
  | _ n a'=>
   intro x a w p aC ab aF k cs;obtain ⟨e,hP,w₁,⟨zF,na,s₁,p₁,Co,bs,j3,hle,aD⟩,fo⟩:=round x ab b B a w p et aF (.inLoop c::k) cs;by_cases he:e = .normal
   ·subst he
    cases Co;obtain ⟨y,ay,gH,Gk,aG⟩:=bs;obtain ⟨xa,zD,gG,rY,rZ⟩:=a' (μ y) (aC ▸ aG) y hP w₁ p₁ rfl ay ((j3.sub gH).Cn Gk) k cs;refine ⟨xa,zD,gG,jl.after hle aD ?_,.of_steps (Steps.trans fo (.one stepR_inLoop)) rZ⟩;obtain ⟨mB,er,ef,bb,U,ae,al,bl,bD⟩:=rY;exact ⟨mB,er,ef,bb,U,ae,al,bl,bD.vl Gk⟩
   ·have tb:jl N B b.roundOf (S x) w p Q e hP w₁:=by
     refine ⟨zF,na,s₁,p₁,Co,?_,j3,hle,aD⟩;cases Co<;>first|exact absurd C he|exact bs
    exact ⟨e,hP,w₁,tb,oK.Gh (c:=c) (.inLoop c) C he fo⟩
 intro k cs;obtain ⟨e,cR,w',bs,fo⟩:=key _ mA a w p rfl aH aF k cs;exact ⟨e,cR,w',bs,.of_steps (.one stepR_loop) fo⟩
end Mt
end Go.bj
namespace Go.bj
def aU (P:Program) (N:Nat) (o:Oper) (env:Env) (s:aj) (K X:ad→aj→Prop):Prop:=
 fM o=true∧∀ ro B a w p,c9 N B ro env s a w p→nQ P ((execOp a.eval o).run P w) fun e w'=>∃ ah bb,cV w p w' bb∧Kept s ah w p w' bb∧c0 w' bb ah ∧
  match e with
  | .returned v=>∃ x,K x ah∧Rel w' bb v x
  | .panicked da=>∃ v x,vj v da∧X x ah∧Rel w' bb v x
  | .outgrown=>False
theorem aU.mono {P:Program} {N:Nat} {o:Oper} {env:Env} {s:aj} {K X aL lZ:ad→aj→Prop} (h:aU P N o env s K X)
  (aD:∀ x s,K x s→aL x s) (ab:∀ x s,X x s→lZ x s):aU P N o env s aL lZ :=
 ⟨h.1,fun ro B a w p aF=>(h.2 ro B a w p aF).mono fun e w' ⟨ah,bb,U,ae,al,bl⟩=>⟨ah,bb,U,ae,al,by
  cases e with
  | returned v=>obtain ⟨x,ab,az⟩:=bl;exact ⟨x,aD _ _ ab,az⟩
  | panicked da=>obtain ⟨v,x,aE,fZ,az⟩:=bl;exact ⟨v,x,aE,ab _ _ fZ,az⟩
  | outgrown=>exact bl⟩⟩
def guardOf (ops:Array Oper) (env:Env) (o:Oper):Option Bool:=
  match o.guard with
  | none=>some true
  | some (j,want)=>
    match (ops[j]?).bind (·.dst) with
    | none=>some false
    | some d=>match env.get? d with
      | some (.bool b)=>some (match want with|true=>b|false => !b)
      | some (.cl [])=>some false
      | _=>none
theorem Mv {w:World} {p:bN} {v:Value} (h:Rel w p v (.cl [])):v = .tuple #[]:=by
 cases h with
 | cl vs _ h=>have:=h.length;simp at this;rw [this]
theorem tf {N:Nat} {B:ff} {ro:Option Nat} {env:Env} {s:aj} {a:Act} {w:World} {p:bN} (aF:c9 N B ro env s a w p) {ops:Array Oper} {o:Oper} {g:Bool}
  (h:guardOf ops env o=some g):Region.wanted o (yielded ops a.tmps)=g:=by
 unfold guardOf at h;unfold Region.wanted;split at h
 ·rename_i ao;simp only [ao];cases h;rfl
 ·rename_i j want ao
  simp only [ao];split at h
  ·rename_i ar
   cases h;simp [yielded,ar]
  ·rename_i d ar
   split at h
   ·rename_i b an
    have az:=aF.env d _ an;have av:=zG az;cases h;have ay:yielded ops a.tmps j=some b:=by
     unfold yielded;have:a.tmps[d]? = some (.bool b):=by
      rw [Array.getD_eq_getD_getElem?] at av;cases ab:a.tmps[d]? with
      | none=>rw [ab] at av;simp [undef] at av
      | some v=>rw [ab] at av;simpa using av
     simp [ar,this]
    rw [ay];cases want<;>cases b<;>rfl
   ·rename_i an
    cases h;have az:=aF.env d _ an;have av:a.tmps.getD d undef = .tuple #[]:=by
     generalize Gl:a.tmps.getD d undef=v at az;exact Mv az
    have ay:yielded ops a.tmps j=none:=by
     unfold yielded;rw [Array.getD_eq_getD_getElem?] at av;simp only [ar,Option.bind_some];cases ab:a.tmps[d]? with
     | none=>rfl
     | some v=>rw [ab] at av;simp at av;subst av;rfl
    rw [ay];rfl
   ·cases h
def e8 (P:Program) (N:Nat) (ops:Array Oper) (l:List Nat) (Q:b2→Env→aj→Prop) (env:Env) (s:aj):Prop:=
 ∀ ro B a w p,c9 N B ro env s a w p→hZ P ops (jl N B ro s w p Q) l a w
section rw
variable {P:Program} {N:Nat} {ops:Array Oper} {Q:b2→Env→aj→Prop} {env:Env} {s:aj}
theorem af.region {id:Nat} (h:e8 P N ops (List.range ops.size) Q env s):af P N (.region id ops false) Q env s:=
 fun b B a w p _ aF=>Mm (h b.roundOf B a w p aF)
theorem e8.nil (h:Q .normal env s):e8 P N ops [] Q env s:=fun _ _ _ _ _ aF => .here .normal h aF
theorem tg {Q pM:fY→Act→World→Prop} (bs:∀ e a w,Q e a w→pM e a w):∀ (l:List Nat) (a:Act) (w:World),hZ P ops Q l a w→hZ P ops pM l a w:=by
 intro l
 induction l with
 | nil=>exact fun a w h=>bs _ _ _ h
 | cons i rest a'=>
  intro a w h;simp only [hZ] at h ⊢;split at h
  ·rename_i ag;exact a' _ _ h
  ·rename_i o ag
   split at h
   ·rename_i hw
    rw [if_pos hw];exact ⟨h.1,h.2.mono fun e w' he=>by cases e<;>first|exact a' _ _ he|exact bs _ _ _ he|exact he⟩
   ·rename_i hw
    rw [if_neg hw];exact a' _ _ h
theorem e8.after {l:List Nat} {s₁:aj} {ro:Option Nat} {B:ff} {a:Act} {w w₁:World} {p p₁:bN} {Cp:Env}
  (hle:cV w p w₁ p₁) (aD:Kept s s₁ w p w₁ p₁) (h:e8 P N ops l Q Cp s₁) (aF:c9 N B ro Cp s₁ a w₁ p₁):hZ P ops (jl N B ro s w p Q) l a w₁:=
 tg (fun _ _ _ q=>q.after hle aD) l a w₁ (h ro B a w₁ p₁ aF)
theorem e8.op {i:Nat} {l:List Nat} {o:Oper} {d:Nat} {K X:ad→aj→Prop} (ag:ops[i]? = some o) (ao:guardOf ops env o=some true) (ar:o.dst=some d)
  (aX:Nat.blt d N=true) (h:aU P N o env s K X) (aD:∀ x ah,K x ah→e8 P N ops l Q ((d,x)::env) ah) (ab:∀ x ah,X x ah→Q (.panic x) env ah) :
  e8 P N ops (i::l) Q env s:=by
 intro ro B a w p aF;have l0:d<N:=by simpa [Nat.blt_eq] using aX
 simp only [hZ,ag,tf aF ao,if_true];refine ⟨h.1,(h.2 ro B a w p aF).mono ?_⟩;rintro e w' ⟨ah,bb,hle,km,b6,he⟩;cases e with
 | returned v=>
  obtain ⟨x,br,az⟩:=he;rw [ar];exact e8.after hle km (aD x ah br) ((aF.step hle km b6).put l0 az)
 | panicked da=>
  obtain ⟨v,x,iX,fZ,az⟩:=he;exact ⟨.panic x,env,ah,bb,.panic v x da iX az,ab x ah fZ,aF.step hle km b6,hle,km⟩
 | outgrown=>exact he
theorem e8.th {i:Nat} {l:List Nat} {o:Oper} {K X:ad→aj→Prop} (ag:ops[i]? = some o) (ao:guardOf ops env o=some true) (ar:o.dst=none)
  (h:aU P N o env s K X) (aD:∀ x ah,K x ah→e8 P N ops l Q env ah) (ab:∀ x ah,X x ah→Q (.panic x) env ah) :
  e8 P N ops (i::l) Q env s:=by
 intro ro B a w p aF;simp only [hZ,ag,tf aF ao,if_true];refine ⟨h.1,(h.2 ro B a w p aF).mono ?_⟩;rintro e w' ⟨ah,bb,hle,km,b6,he⟩;cases e with
 | returned v=>
  obtain ⟨x,br,az⟩:=he;rw [ar];exact e8.after hle km (aD x ah br) (aF.step hle km b6)
 | panicked da=>
  obtain ⟨v,x,iX,fZ,az⟩:=he;exact ⟨.panic x,env,ah,bb,.panic v x da iX az,ab x ah fZ,aF.step hle km b6,hle,km⟩
 | outgrown=>exact he
theorem Cq {w:World} {p:bN}:Rel w p undef (.cl []) := .cl #[] [] .nil
theorem e8.skip {i:Nat} {l:List Nat} {o:Oper} {d:Nat} (ag:ops[i]? = some o) (ao:guardOf ops env o=some false) (ar:o.dst=some d) (aX:Nat.blt d N=true)
  (h:e8 P N ops l Q ((d,.cl [])::env) s):e8 P N ops (i::l) Q env s:=by
 intro ro B a w p aF;have l0:d<N:=by simpa [Nat.blt_eq] using aX
 simp only [hZ,ag,tf aF ao,if_false,Bool.false_eq_true,ar];exact h ro B _ w p (aF.put l0 Cq)
end rw
theorem c0.grow {w w':World} {p bb:bN} {s:aj} (hle:cV w p w' bb) (c':∀ b,b<w.heap.size→w'.heap[b]? = w.heap[b]?)
  (aN:∀ b o,b<w.heap.size→bb b o→p b o) (aG:∀ b o,bb b o→b<w'.heap.size) (h:c0 w p s):c0 w' bb s:=by
 refine ⟨fun b o an=>?_,aG⟩;have ag:=h.obj b o an;cases o with
 | box t cs=>
  obtain ⟨vs,U,ae,al⟩:=ag;have qP:b<w.heap.size:=(Array.getElem?_eq_some_iff.1 U).1;exact ⟨vs,(c' b qP).trans U,ae.mono hle,fun o eZ=>al o (aN b o qP eZ)⟩
 | row t sz n=>
  obtain ⟨cur,U,ae,al,bl⟩:=ag;have qP:b<w.heap.size:=(Array.getElem?_eq_some_iff.1 U).1;exact ⟨cur,(c' b qP).trans U,ae,al,fun o=>⟨fun eZ=>(bl o).1 (aN b o qP eZ),fun aC=>hle.j1 _ _ ((bl o).2 aC)⟩⟩
 | map es=>
  obtain ⟨cw,clock,U,ae,al,bl⟩:=ag;have qP:b<w.heap.size:=(Array.getElem?_eq_some_iff.1 U).1;exact ⟨cw,clock,(c' b qP).trans U,⟨ae.1.mono hle,ae.2.mono hle⟩,al,bl⟩
 | j2 es it left cur=>
  obtain ⟨cw,clock,seen,U,ae,-⟩:=id ag;exact ag.oO hle (c' b (Array.getElem?_eq_some_iff.1 U).1) (c' it (Array.getElem?_eq_some_iff.1 ae).1)
 | tick m=>obtain ⟨eJ,a2,a3,U⟩:=ag;exact ⟨eJ,a2,a3,(c' b (Array.getElem?_eq_some_iff.1 U).1).trans U⟩
 | loop r env=>exact ⟨(c' b (Array.getElem?_eq_some_iff.1 ag.1).1).trans ag.1,fun t v h=>(ag.2 t v h).mono hle⟩
theorem kU (w:World) (o:Obj) (b:Nat) (h:b<w.heap.size):(w.alloc o).heap[b]? = w.heap[b]?:=by
 show (w.heap.push o)[b]? = _;rw [Array.getElem?_push,if_neg ai]
theorem r2 (w:World) (o:Obj):(w.alloc o).heap[w.heap.size]? = some o:=by
 show (w.heap.push o)[w.heap.size]? = _;rw [Array.getElem?_push,if_pos C]
theorem vm {w w':World} {b:Nat} (h:w'.heap[b]? = w.heap[b]?):w'.jF b=w.jF b:=by simp [World.jF,h]
theorem vn {w w':World} {b o:Nat} (h:w'.heap[b]? = w.heap[b]?):w'.cell? ⟨b,o,none⟩=w.cell? ⟨b,o,none⟩:=by simp [World.cell?,h]
theorem Mw {w:World} {b:Nat} {x:TypeId×Nat} (h:w.jF b=some x):b<w.heap.size:=by
 unfold World.jF at h;split at h
 ·rename_i c';exact (Array.getElem?_eq_some_iff.1 c').1
 ·cases h
theorem cV.of_heap {w w':World} {p bb:bN} (ag:w'.os=w.os) (aK:w'.tape=w.tape) (hu:w'.output=w.output) (aw:w.heap.size≤w'.heap.size)
  (aN:∀ b o,p b o→bb b o) (aG:∀ b o,p b o→b<w.heap.size) (c':∀ b,b<w.heap.size→w'.heap[b]? = w.heap[b]?):cV w p w' bb :=
 ⟨ag,aK,hu,aw,aN,fun b o an=>vn (c' b (aG b o an)),fun b x ab=>by rw [vm (c' b (Mw ab))];exact ab⟩
def bN.dA (p:bN) (b:Nat) (c:Prop):bN:=fun aT o=>p aT o∨(aT=b∧c)
section alloc
variable {w:World} {p:bN} {s:aj}
theorem r3 (aG:∀ b o,p b o→b<w.heap.size) (o:Obj) (c:Prop):cV w p (w.alloc o) (p.dA w.heap.size c):=
 cV.of_heap C C C bn (fun _ _ h => .inl h) aG (fun b an=>kU w o b an)
theorem xe (h:c0 w p s) (o:Obj) (c:Prop):c0 (w.alloc o) (p.dA w.heap.size c) s:=
  h.grow (r3 h.lt o c) (fun b an=>kU w o b an) (fun b o an aN=>by rcases aN with aN|⟨rfl,_⟩;exact aN;omega)
    (fun b o aN=>by rcases aN with aN|⟨rfl,_⟩;have:=h.lt b o aN;simp;omega;simp)
theorem zH (o:Obj) (c:Prop):Kept s s w p (w.alloc o) (p.dA w.heap.size c):=
 ⟨fun b an _=>kU w o b an,fun _ _ h=>h,fun b o an _ aN=>by rcases aN with aN|⟨rfl,_⟩;exact aN;omega⟩
theorem Cr (vs:List Value) (t:TypeId):td (w.alloc (.cells vs.toArray t)) (p.dA w.heap.size True) w.heap.size 0 vs:=by
 intro i v av;refine ⟨.inr ⟨rfl,trivial⟩,?_⟩;rw [Nat.zero_add];simp only [World.cell?,r2,Option.isSome_none,Bool.false_eq_true,if_false];simpa using av
theorem jH:cV w p w.drew p:=⟨rfl,rfl,rfl,Nat.le_refl _,fun _ _ h=>h,fun _ _ _=>rfl,fun _ _ h=>h⟩
theorem vo (h:c0 w p s):c0 w.drew p s:=h.grow jH (fun _ _=>rfl) (fun _ _ _ h=>h) h.lt
theorem ti:Kept s s w p w.drew p:=⟨fun _ _ _=>rfl,fun _ _ h=>h,fun _ _ _ _ h=>h⟩
end alloc
end Go.bj
namespace Go.bj
inductive qQ where
 | bool
 | int (k:IntKind)
 | str
 | ptr (e:TypeId)
 | aA (e:TypeId)
 | map (k e:TypeId)
 | struct (f':List (Nat×TypeId))
 | iface (bare:Bool)
 | func
 | arr (n:Nat) (e:TypeId)
 | other
structure bJ where
 bz:qQ
 size:Nat
 bytes:Nat
 zero:Value
def dP:TypeDesc→qQ
 | .bool => .bool
 | .int k => .int k
 | .string => .str
 | .pointer e => .ptr e
 | .slice e => .aA e
 | .map k e => .map k e
 | .struct f' => .struct (f'.toList.map fun f=>(f.offset,f.type))
 | .interface ms => .iface ms.isEmpty
 | .func .. => .func
 | .array n e => .arr n e
 | _ => .other
abbrev cg:=List (Nat×bJ)
def cg.get? : cg→Nat→Option bJ
 | [],_=>none
 | (t,v)::e,n=>if Nat.beq t n then some v else cg.get? e n
def Cs (P:Program) (t:TypeId):Option bJ:=
  match P.info? t,P.underlying t with
  | some i,some d=>match i.zero with
    | some z=>some { bz:=dP d,size:=i.size,bytes:=i.bytes,zero:=z }
    | none=>none
  | _,_=>none
def bL (P:Program) (Γ:cg):Prop:=∀ t i,Γ.get? t=some i→Cs P t=some i
theorem Mx (P:Program) (Γ:cg) (h:Γ.map (fun x=>Cs P x.1)=Γ.map (fun x=>some x.2)):bL P Γ:=by
 induction Γ with
 | nil=>intro t i h;simp [cg.get?] at h
 | cons x Γ a'=>
  obtain ⟨bG,zI⟩:=x;simp only [List.map_cons,List.cons.injEq] at h;intro t i ao;simp only [cg.get?] at ao;split at ao
  ·rename_i he
   have:=Nat.eq_of_beq_eq_true he;subst this;cases ao;exact h.1
  ·exact a' h.2 t i ao
theorem bL.parts {P:Program} {Γ:cg} (h:bL P Γ) {t:TypeId} {i:bJ} (aY:Γ.get? t=some i) :
  ∃ info d,P.info? t=some info∧P.underlying t=some d∧dP d=i.bz∧info.size=i.size∧info.bytes=i.bytes∧info.zero=some i.zero:=by
 have:=h t i aY;unfold Cs at this;split at this
 ·rename_i info d U ae
  split at this
  ·rename_i z bE
   cases this;exact ⟨info,d,U,ae,rfl,rfl,rfl,bE⟩
  ·cases this
 ·cases this
def cellsOf:ad→Option (List ad)
 | .agg cs=>some cs
 | .any=>none
 | .gx (.func f a c)=>some [.gx (.func f a c)]
 | .gx (.slice a n c)=>some [.gx (.slice a n c)]
 | .gx _=>none
 | .cl _=>none
 | v=>some [v]
theorem oP {w:World} {p:bN} {v:Value} {x:ad} {cs:List ad} (az:Rel w p v x) (h:cellsOf x=some cs):bO w p v.cells.toList cs:=by
 cases az with
 | gx v=>
  cases v<;>simp [cellsOf] at h
  all_goals
   subst h;exact .cons _ _ _ _ (.gx _) .nil
 | any=>cases h
 | cl=>cases h
 | agg cs xs fs=>cases h;exact fs
 | _=>simp only [cellsOf] at h;cases h;simp only [Value.cells];refine .cons _ _ _ _ ?_ .nil;constructor<;>assumption
def r4:Nat→List ad→Option (List ad)
  | 0,_=>some []
  | n+1,v::r=>match r4 n r with
    | some s=>some (v::s)
    | none=>none
  | _+1,[]=>none
def oQ:Nat→List ad→Option (List ad)
 | 0,r=>some r
 | n+1,_::r=>oQ n r
 | _+1,[]=>none
def nth {α:Type}:List α→Nat→Option α
 | [],_=>none
 | x::_,0=>some x
 | _::r,n+1=>nth r n
theorem vp {α:Type} (l:List α) (n:Nat):nth l n=l[n]?:=by
  induction l generalizing n with
  | nil=>rfl
  | cons x l a'=>cases n with
    | zero=>rfl
    | succ n=>simp only [nth,List.getElem?_cons_succ];exact a' n
theorem zJ {n:Nat} {l r:List ad} (h:r4 n l=some r):r=l.take n∧n≤l.length:=by
 induction n generalizing l r with
 | zero=>cases h;simp
 | succ n a'=>
  cases l with
  | nil=>simp [r4] at h
  | cons v l=>
   simp only [r4] at h;split at h
   ·rename_i s aw;cases h;obtain ⟨U,ae⟩:=a' aw;subst U;simp;omega
   ·cases h
theorem My {n:Nat} {l r:List ad} (h:oQ n l=some r):r=l.drop n:=by
  induction n generalizing l with
  | zero=>cases h;rfl
  | succ n a'=>cases l with
    | nil=>simp [oQ] at h
    | cons v l=>simpa [oQ] using a' (by simpa [oQ] using h)
def gI (i:bJ) (cells:List ad) (off:Nat):Option ad:=
  match oQ off cells with
  | none=>none
  | some r=>match i.bz with
    | .struct _=>match r4 i.size r with
      | some cs=>some (.agg cs)
      | none=>none
    | .arr _ _=>match r4 i.size r with
      | some cs=>some (.agg cs)
      | none=>none
    | .other=>none
    | _=>match r with
      | v::_=>some v
      | []=>none
def gy:Value→Option ad
  | .agg cs=>match cs.toList.mapM vi with
    | some xs=>some (.agg xs)
    | none=>none
  | v=>vi v
theorem Mz {w:World} {p:bN} {vs:List Value} {xs:List ad} (h:vs.mapM vi=some xs):bO w p vs xs:=by
 induction vs generalizing xs with
 | nil=>simp at h;subst h;exact .nil
 | cons v vs a'=>
  simp only [List.mapM_cons,Option.bind_eq_bind,Option.pure_def,Option.bind_eq_some_iff,Option.some.injEq] at h;obtain ⟨x,ab,ys,vq,rfl⟩:=h;exact .cons _ _ _ _ (Cm ab) (a' vq)
theorem oR {w:World} {p:bN} {v:Value} {x:ad} (h:gy v=some x):Rel w p v x:=by
 unfold gy at h;split at h
 ·split at h
  ·rename_i cs xs ab;cases h;exact .agg _ _ (Mz ab)
  ·cases h
 ·exact Cm h
def tj (d:TypeDesc):Bool:=match d with | .struct _ | .array _ _=>true|_=>false
theorem vr {P:Program} {t:TypeId} {d:TypeDesc} (h:P.underlying t=some d) (w:World):(isAgg t).run P w = .ok (tj d) w:=by
 unfold isAgg;rw [Sem.run_bind,run_underlying h,Result.andThen_ok];cases d<;>rfl
theorem xf {d:TypeDesc} {f':List (Nat×TypeId)} (h:dP d = .struct f'):∃ f:Array Field,d = .struct f∧f'=f.toList.map fun x=>(x.offset,x.type):=by
 cases d<;>simp [dP] at h;rename_i f;exact ⟨f,rfl,h.symm⟩
theorem xg {d:TypeDesc} {n:Nat} {e:TypeId} (h:dP d = .arr n e):d = .array n e:=by
 cases d<;>simp [dP] at h
 rw [h.1,h.2]
theorem Gm {d:TypeDesc} (U:∀ f',dP d ≠ .struct f') (al:∀ n e,dP d ≠ .arr n e) (ae:dP d ≠ .other):tj d=false:=by
 cases d<;>simp_all [dP,tj]
def Ct (op:BinOp) (k:IntKind) (a b:Int):Option ad:=
 match op with
 | .add=>some (.int k (k.wrap (a+b)))
 | .sub=>some (.int k (k.wrap (a-b)))
 | .mul=>some (.int k (k.wrap (a*b)))
 | .eql=>some (.bool (a==b))
 | .neq=>some (.bool (a != b))
 | .lss=>some (.bool (decide (a<b)))
 | .leq=>some (.bool (decide (a≤b)))
 | .gtr=>some (.bool (decide (a>b)))
 | .geq=>some (.bool (decide (a≥b)))
 | _=>none
def Cu (op:BinOp) (a b:List UInt8):Option ad:=
 match op with
 | .eql=>some (.bool (a==b))
 | .neq=>some (.bool (!(a==b)))
 | .lss=>some (.bool (Op.bytesLess a b))
 | .gtr=>some (.bool (!(Op.bytesLess a b||a==b)))
 | .leq=>some (.bool (Op.bytesLess a b||a==b))
 | .geq=>some (.bool (!(Op.bytesLess a b)))
 | _=>none
def tk:ad→Option Bool
 | .oM | .qO | .r1 | .mz=>some true
 | .ptr _ _ | .bq _ _ | .kT _ _ | .map _ | .func _ _ _ | .iface _ _=>some false
 | .aA _ _ .nil=>some true
 | .aA _ (_::_) _=>some false
 | .aA _ _ (.own _)=>some false
 | _=>none
inductive Cv where|ptr|aA|map|func|iface
def Gn:Operand→Option Cv
 | .const (.pointer none)=>some .ptr
 | .const (.slice none 0 0)=>some .aA
 | .const (.map none)=>some .map
 | .const .nilFunc=>some .func
 | .const .nilIface=>some .iface
 | _=>none
def qQ.zK:qQ→Cv→Bool
 | .ptr _,.ptr=>true
 | .aA _,.aA=>true
 | .map _ _,.map=>true
 | .func,.func=>true
 | .iface _,.iface=>true
 | _,_=>false
def ad.zL:ad→Cv→Bool
 | .oM,.ptr | .ptr _ _,.ptr | .bq _ _,.ptr | .kT _ _,.ptr=>true
 | .aA _ _ _,.aA=>true
 | .qO,.map | .map _,.map=>true
 | .r1,.func | .func _ _ _,.func=>true
 | .mz,.iface | .iface _ _,.iface=>true
 | _,_=>false
def zM (Γ:cg) (op:BinOp) (t:TypeId) (y:Operand) (a b:ad):Option ad:=
  match Gn y with
  | some k=>match Γ.get? t with
    | some i=>match i.bz.zK k,a.zL k,tk a,op with
      | true,true,some q,.eql=>some (.bool q)
      | true,true,some q,.neq=>some (.bool (!q))
      | _,_,_,_=>none
    | none=>none
  | none=>match a,b with
    | .int k x,.int k' z=>if k=k' then Ct op k x z else none
    | .str x,.str z=>Cu op x z
    | .bool x,.bool z=>match Γ.get? t,op with
      | some ⟨.bool,_,_,_⟩,.eql=>some (.bool (x==z))
      | some ⟨.bool,_,_,_⟩,.neq=>some (.bool (!(x==z)))
      | _,_=>none
    | .kT x _,.kT z _=>match Γ.get? t,op with
      | some ⟨.ptr e,_,_,_⟩,.eql=>match Γ.get? e with
        | some ⟨_,_+1,_,_⟩=>some (.bool (x==z))
        | _=>none
      | some ⟨.ptr e,_,_,_⟩,.neq=>match Γ.get? e with
        | some ⟨_,_+1,_,_⟩=>some (.bool (!(x==z)))
        | _=>none
      | _,_=>none
    | _,_=>none
theorem MA {P:Program} {op:BinOp} {t:TypeId} {k:IntKind} {a b:Int} {x:ad} (h:Ct op k a b=some x) (w:World) (p:bN) :
  ∃ v,(binOp op t (.int k a) (.int k b)).run P w = .ok v w∧Rel w p v x:=by
 cases op<;>simp only [Ct] at h<;>cases h<;>simp only [binOp,ne_eq,not_true_eq_false,if_false,Op.intArith,Op.intCmp,Sem.run_pure] <;>
  first|exact ⟨_,rfl,.int _ _⟩|exact ⟨_,rfl,.bool _⟩
theorem MB {P:Program} {op:BinOp} {t:TypeId} {a b:ByteArray} {x:ad} (h:Cu op a.data.toList b.data.toList=some x) (w:World) (p:bN) :
  ∃ v,(binOp op t (.string a) (.string b)).run P w = .ok v w∧Rel w p v x:=by
 cases op<;>simp only [Cu] at h<;>cases h<;>simp only [binOp,Op.stringOp,Sem.run_pure,ByteArray.toList_eq]<;>exact ⟨_,rfl,.bool _⟩
theorem Gp {w:World} {b:Nat} {x:TypeId×Nat} (h:w.jF b=some x):∃ c T,w.heap[b]? = some (.cells c T (0,0)):=by
 unfold World.jF at h;split at h
 ·rename_i c T c';exact ⟨c,T,c'⟩
 ·cases h
theorem qR {P:Program} {op:BinOp} {t:TypeId} {x y:Operand} {a b:Value} (w:World) (h:(a = .nilIface∧b = .nilIface→∃ c,y = .const c)∧(∀ c,a ≠ .agg c)) :
  (eqGuard op t x y a b).run P w = .ok () w:=by
 cases a with
 | nilIface=>
  cases b with
  | nilIface=>
   obtain ⟨c,rfl⟩:=h.1 ⟨rfl,rfl⟩;cases x<;>cases op<;>rfl
  | _=>cases op<;>rfl
 | agg c=>exact absurd C (h.2 c)
 | _=>cases op<;>rfl
theorem tl {P:Program} {t:TypeId} {x y:Value} {q:Bool} {w:World} (an:binOp .eql t x y=(do pure (.bool (← Op.equal t x y)))) (aC:binOp .neq t x y=(do pure (.bool (!(← Op.equal t x y)))))
  (h:∀ d,(Op.equalIn (d+1) t x y).run P w = .ok q w):(binOp .eql t x y).run P w = .ok (.bool q) w∧(binOp .neq t x y).run P w = .ok (.bool (!q)) w:=by
 have he:(Op.equal t x y).run P w = .ok q w:=h 9999;rw [an,aC];simp only [Sem.run_bind,he,Result.andThen_ok,Sem.run_pure,and_self]
theorem MC {w:World} {p:bN} {v:Value} {sz:Nat} {xs:List ad} {own:bU} {q:Bool} (h:Rel w p v (.aA sz xs own)) (bs:tk (.aA sz xs own)=some q) :
  (v = .slice none 0 0∧q=true)∨(∃ a n c,v = .slice (some a) n c∧q=false):=by
 cases h with
 | gU _ _ ag=>
  cases own<;>simp [tk] at bs
  ·exact .inl ⟨rfl,by simp [bs]⟩
  ·exact absurd C (ag _)
 | hE a _ _ ag=>rcases ag with rfl|rfl<;>simp [tk] at bs
 | aA g off n cap _ vs _ _ aC aI aE az aw hm aD cE ag=>
  refine .inr ⟨_,_,_,rfl,?_⟩;cases own<;>cases xs<;>simp [tk] at bs aC<;>simp [bs]
theorem MD {P:Program} {Γ:cg} (aO:bL P Γ) {N:Nat} {B:ff} {ro:Option Nat} {env:Env} {s:aj} {a:Act} {w:World} {p:bN} (aF:c9 N B ro env s a w p)
  {op:BinOp} {t yt:TypeId} {x y:Operand} {u v r:ad} (ab:aJ env x=some u) (ay:aJ env y=some v) (h:zM Γ op t y u v=some r) :
  ∃ val,(do eqGuard op t x y (a.eval x) (a.eval y);binOp op t (a.eval x) (a.eval y):Sem Value).run P w = .ok val w∧Rel w p val r:=by
 have hu:=aF.aJ ab;have av:=aF.aJ ay;unfold zM at h;split at h
 ·rename_i k aD
  have ME:∃ c,y = .const c∧a.eval y=c∧((k = .ptr∧c = .pointer none)∨(k = .aA∧c = .slice none 0 0)∨(k = .map∧c = .map none)∨(k = .func∧c = .nilFunc)∨(k = .iface∧c = .nilIface)):=by
   unfold Gn at aD;split at aD<;>cases aD<;>exact ⟨_,rfl,rfl,by simp⟩
  obtain ⟨c,rfl,aE,zN⟩:=ME;rw [aE];split at h
  ·rename_i i aY
   obtain ⟨info,d,U,ae,al,-⟩:=aO.parts aY;have key:∀ q,tk u=some q→u.zL k=true→i.bz.zK k=true→(∀ cs,a.eval x ≠ .agg cs)∧(binOp .eql t (a.eval x) c).run P w = .ok (.bool q) w∧(binOp .neq t (a.eval x) c).run P w = .ok (.bool (!q)) w:=by
    intro q bs ba ag;generalize a.eval x=dr at hu;rw [← al] at ag;have aw:∀ (g n cap:Nat) (o:Nat),True:=fun _ _ _ _=>trivial
    have dy:∀ e sz xs own,d = .slice e→u = .aA sz xs own→(∀ cs,dr ≠ .agg cs)∧(binOp .eql t dr (.slice none 0 0)).run P w = .ok (.bool q) w∧(binOp .neq t dr (.slice none 0 0)).run P w = .ok (.bool (!q)) w:=by
     rintro e sz xs own rfl rfl;rcases MC hu bs with ⟨rfl,rfl⟩|⟨a,n,c,rfl,rfl⟩<;>(refine ⟨by simp,tl C C (fun d=>?_)⟩<;>simp [Op.equalIn,run_underlying ae])
    rcases zN with ⟨rfl,rfl⟩|⟨rfl,rfl⟩|⟨rfl,rfl⟩|⟨rfl,rfl⟩|⟨rfl,rfl⟩ <;>
    (try (cases d<;>simp only [dP,qQ.zK] at ag<;>(try (simp at ag;done))<;>cases u<;>simp only [ad.zL] at ba<;>(try (simp at ba;done))<;>exact dy _ _ _ _ C C)) <;>
    cases d<;>simp only [dP,qQ.zK] at ag<;>(try (simp at ag;done)) <;>
    cases hu<;>simp only [ad.zL,tk] at ba bs<;>(try (simp at ba;done)) <;>
    (try (cases bs)) <;>
    (refine ⟨by simp,tl C C (fun d=>?_)⟩<;>simp [Op.equalIn,run_underlying ae]<;>done)
   split at h
   ·rename_i q ag ba bs
    cases h;obtain ⟨cz,dj,ft⟩:=key q bs ba ag;exact ⟨_,by rw [Sem.run_bind,qR w ⟨fun _=>⟨_,rfl⟩,cz⟩,Result.andThen_ok,dj],.bool _⟩
   ·rename_i q ag ba bs
    cases h;obtain ⟨cz,dj,ft⟩:=key q bs ba ag;exact ⟨_,by rw [Sem.run_bind,qR w ⟨fun _=>⟨_,rfl⟩,cz⟩,Result.andThen_ok,ft],.bool _⟩
   ·cases h
  ·cases h
 ·split at h
  ·rename_i k z k' Cw
   split at h
   ·rename_i km
    subst km;generalize a.eval x=dr at hu;generalize a.eval y=fp at av;cases hu;cases av;obtain ⟨val,U,ae⟩:=MA (P:=P) (t:=t) h w p;exact ⟨val,by rw [Sem.run_bind,qR w ⟨by simp,by simp⟩,Result.andThen_ok,U],ae⟩
   ·cases h
  ·generalize a.eval x=dr at hu;generalize a.eval y=fp at av
   cases hu with|str ix _ b8=>cases av with|str dk _ bZ=>
   subst b8;subst bZ;obtain ⟨val,U,ae⟩:=MB (P:=P) (t:=t) h w p;exact ⟨val,by rw [Sem.run_bind,qR w ⟨by simp,by simp⟩,Result.andThen_ok,U],ae⟩
  ·generalize a.eval x=dr at hu;generalize a.eval y=fp at av
   cases hu;cases av;split at h
   ·rename_i aY
    obtain ⟨info,d,U,ae,al,-⟩:=aO.parts aY;have ar:d = .bool:=by cases d<;>simp [dP] at al;rfl
    subst ar;cases h;exact ⟨_,by rw [Sem.run_bind,qR w ⟨by simp,by simp⟩,Result.andThen_ok];exact run_eql_bool w t _ _ ae,.bool _⟩
   ·rename_i aY
    obtain ⟨info,d,U,ae,al,-⟩:=aO.parts aY;have ar:d = .bool:=by cases d<;>simp [dP] at al;rfl
    subst ar;cases h;exact ⟨_,by rw [Sem.run_bind,qR w ⟨by simp,by simp⟩,Result.andThen_ok];exact run_neq_bool w t _ _ ae,.bool _⟩
   ·cases h
  ·rename_i ix WK dk eA
   generalize a.eval x=dr at hu;generalize a.eval y=fp at av;cases hu;cases av;rename_i v1 vt s1 cr eE v2 tm s2 cJ e9;have key:∀ e d i,P.underlying t=some (.pointer e)→Γ.get? e=some i→i.size≠0→(Op.equalIn (d+1) t (.pointer (some ⟨ix,0,none⟩)) (.pointer (some ⟨dk,0,none⟩))).run P w = .ok (ix==dk) w:=by
    intro e d i he aY bB;obtain ⟨ln,cM,nb,nc,tn,l1,-⟩:=aO.parts aY;have b7:ln.size≠0:=by rw [l1];exact bB
    have aw:(sameAddr ⟨ix,0,none⟩ ⟨dk,0,none⟩).run P w = .ok (ix==dk) w:=by
     by_cases an:ix=dk
     ·subst an;rw [beq_self_eq_true];exact run_sameAddr_same w _
     ·rw [beq_eq_false_iff_ne.2 an]
      obtain ⟨nR,WL,cz⟩:=Gp s1.choose_spec;obtain ⟨pO,WM,dj⟩:=Gp s2.choose_spec;exact run_sameAddr_other w (fun e=>an (congrArg Addr.block e)) cz dj
    simp only [Op.equalIn,Sem.run_bind,run_underlying he,Result.andThen_ok,sizeOf,typeInfo,run_program,nb,Sem.run_pure];rw [if_pos (by simpa using b7)];exact aw
   split at h
   ·rename_i aY
    obtain ⟨info,d,U,ae,al,-⟩:=aO.parts aY;obtain ⟨e,rfl⟩:∃ e,d = .pointer e:=by cases d<;>simp [dP] at al;exact ⟨_,rfl⟩
    simp only [dP,qQ.ptr.injEq] at al;subst al;split at h
    ·rename_i he
     cases h;exact ⟨_,by rw [Sem.run_bind,qR w ⟨by simp,by simp⟩,Result.andThen_ok];exact (tl C C fun d=>key e d _ ae he bn).1,.bool _⟩
    ·cases h
   ·rename_i aY
    obtain ⟨info,d,U,ae,al,-⟩:=aO.parts aY;obtain ⟨e,rfl⟩:∃ e,d = .pointer e:=by cases d<;>simp [dP] at al;exact ⟨_,rfl⟩
    simp only [dP,qQ.ptr.injEq] at al;subst al;split at h
    ·rename_i he
     cases h;exact ⟨_,by rw [Sem.run_bind,qR w ⟨by simp,by simp⟩,Result.andThen_ok];exact (tl C C fun d=>key e d _ ae he bn).2,.bool _⟩
    ·cases h
   ·cases h
  ·cases h
end Go.bj
namespace Go.bj
def fg (env:Env):List Operand→Option (List ad)
  | []=>some []
  | o::r=>match aJ env o with
    | some v=>match fg env r with
      | some vs=>some (v::vs)
      | none=>none
    | none=>none
theorem zO {N:Nat} {B:ff} {ro:Option Nat} {env:Env} {s:aj} {a:Act} {w:World} {p:bN} (aF:c9 N B ro env s a w p) {l:List Operand} {vs:List ad}
  (h:fg env l=some vs):bO w p (l.map a.eval) vs:=by
 induction l generalizing vs with
 | nil=>cases h;exact .nil
 | cons o r a'=>
  simp only [fg] at h;split at h
  ·rename_i v av
   split at h
   ·rename_i us hu;cases h;exact .cons _ _ _ _ (aF.aJ av) (a' hu)
   ·cases h
  ·cases h
def eg:Nat→List ad→List ad→List ad
 | _,[],cells=>cells
 | off,c::cs,cells=>eg (off+1) cs (cells.set off c)
def tp (place:Nat→Option (Nat×Nat)):List ad→List (Nat×ad)→Option (List ad)
  | cells,[]=>some cells
  | cells,(i,v)::rest=>match place i,cellsOf v with
    | some (off,size),some cs=>match Nat.beq cs.length size&&Nat.ble (off+size) cells.length with
      | true=>tp place (eg off cs cells) rest
      | false=>none
    | _,_=>none
def placesOf (Γ:cg):List (Nat×TypeId)→Option (List (Nat×Nat))
  | []=>some []
  | (off,t)::r=>match Γ.get? t with
    | some i=>match placesOf Γ r with
      | some l=>some ((off,i.size)::l)
      | none=>none
    | none=>none
def tq (env:Env):List (Nat×Operand)→Option (List (Nat×ad))
  | []=>some []
  | (i,o)::r=>match aJ env o with
    | some v=>match tq env r with
      | some l=>some ((i,v)::l)
      | none=>none
    | none=>none
def xh (env:Env) (sz:Nat):Nat→List (Nat×Operand)→Option (List ad)
  | _,[]=>some []
  | k,(i,o)::r=>match Nat.beq i k with
    | true=>match aJ env o with
      | some v=>match cellsOf v with
        | some cs=>match Nat.beq cs.length sz with
          | true=>match xh env sz (k+1) r with
            | some l=>some (v::l)
            | none=>none
          | false=>none
        | none=>none
      | none=>none
    | false=>none
def nS (Γ:cg) (o:Oper) (env:Env):Option ad:=
  match o.op with
  | .move x=>aJ env x
  | .assign x=>aJ env x
  | .pick c a b=>match aJ env c with
    | some (.bool true)=>aJ env a
    | some (.bool false)=>aJ env b
    | _=>none
  | .binOp op t x y _=>match aJ env x,aJ env y with
    | some a,some b=>zM Γ op t y a b
    | _,_=>none
  | .unOp .not _ x=>match aJ env x with
    | some (.bool b)=>some (.bool (!b))
    | _=>none
  | .extract x i=>match aJ env x with
    | some (.cl vs)=>nth vs i
    | _=>none
  | .fieldAddr s x f=>match Γ.get? s with
    | some ⟨.struct f',_,_,_⟩=>match nth f' f with
      | some (off,t)=>match Γ.get? t with
        | some ⟨_,_+1,_,_⟩=>match aJ env x with
          | some (.ptr b o)=>some (.ptr b (o+off))
          | some (.bq cs o)=>some (.bq cs (o+off))
          | some (.kT _ cs)=>some (.bq cs off)
          | _=>none
        | _=>none
      | none=>none
    | _=>none
  | .field s x f=>match Γ.get? s with
    | some ⟨.struct f',_,_,_⟩=>match nth f' f with
      | some (off,t)=>match Γ.get? t with
        | some i=>match aJ env x with
          | some (.agg cs)=>gI i cs off
          | _=>none
        | none=>none
      | none=>none
    | _=>none
  | .load t x=>match Γ.get? t with
    | some i=>match aJ env x with
      | some (.bq cs o)=>gI i cs o
      | some (.kT _ cs)=>gI i cs 0
      | _=>none
    | none=>none
  | .makeInterface t x=>match Γ.get? t with
    | some ⟨.iface _,_,_,_⟩=>none
    | some _=>match aJ env x with
      | some v=>some (.iface t v)
      | none=>none
    | none=>none
  | .makeFunc (.func f) first cap=>match fg env first.toList,fg env cap.toList with
    | some a,some c=>some (.func f a c)
    | _,_=>none
  | .nilCheck x=>match aJ env x with
    | some (.ptr b o)=>some (.ptr b o)
    | some (.bq cs o)=>some (.bq cs o)
    | some (.kT b cs)=>some (.kT b cs)
    | some (.func f a c)=>some (.func f a c)
    | _=>none
  | .typeAssert x _ t ok=>match Γ.get? t with
    | some ⟨.iface _,_,_,_⟩=>none
    | some i=>match aJ env x with
      | some (.iface bG v)=>match Nat.beq bG t,ok with
        | true,true=>some (.cl [v,.bool true])
        | true,false=>some v
        | false,true=>match gy i.zero with
          | some z=>some (.cl [z,.bool false])
          | none=>none
        | false,false=>none
      | some .mz=>match ok with
        | true=>match gy i.zero with
          | some z=>some (.cl [z,.bool false])
          | none=>none
        | false=>none
      | _=>none
    | none=>none
  | .call { callee := .builtin .len,args,argTypes }=>match args.toList,argTypes.toList with
    | [x],[t]=>match Γ.get? t with
      | some ⟨.aA _,_,_,_⟩=>match aJ env x with
        | some (.aA _ xs _)=>some (.int .i64 xs.length)
        | _=>none
      | some ⟨.str,_,_,_⟩=>match aJ env x with
        | some (.str l)=>some (.int .i64 l.length)
        | _=>none
      | _=>none
    | _,_=>none
  | .box _ x=>match aJ env x with
    | some v=>match cellsOf v with
      | some cs=>some (.bq cs 0)
      | none=>none
    | none=>none
  | .build t parts=>match Γ.get? t with
    | some ⟨.struct f',_,_,z⟩=>match placesOf Γ f',gy z,tq env parts.toList with
      | some pl,some (.agg a1),some bK=>match tp (nth pl) a1 bK with
        | some cs=>some (.agg cs)
        | none=>none
      | _,_,_=>none
    | some ⟨.arr _ e,_,_,z⟩=>match Γ.get? e,gy z,tq env parts.toList with
      | some aB,some (.agg a1),some bK=>match tp (fun i=>some (i*aB.size,aB.size)) a1 bK with
        | some cs=>some (.agg cs)
        | none=>none
      | _,_,_=>none
    | _=>none
  | .buildSlice t len parts=>match Γ.get? t with
    | some ⟨.aA e,_,_,_⟩=>match Γ.get? e with
      | some aB=>match Nat.beq parts.size len&&(Nat.ble (len*aB.size) 16777216&&Nat.ble len 16777216) with
        | true=>match xh env aB.size 0 parts.toList with
          | some xs=>some (.aA aB.size xs .clip)
          | none=>none
        | false=>none
      | none=>none
    | _=>none
  | _=>none
def fT (P:Program) (o:Oper) (a:Act) (w:World) (p:bN) (v:ad):Prop:=
 ∃ val w' bb,(execOp a.eval o).run P w = .ok (.value val) w'∧Rel w' bb val v∧cV w p w' bb∧(∀ s,c0 w p s→Kept s s w p w' bb∧c0 w' bb s)
theorem fT.same {P:Program} {o:Oper} {a:Act} {w:World} {p:bN} {v:ad} {val:Value} (h:(execOp a.eval o).run P w = .ok (.value val) w) (az:Rel w p val v) :
  fT P o a w p v:=⟨val,w,p,h,az,.refl w p,fun s aw=>⟨.refl s w p,aw⟩⟩
theorem fT.alloc {P:Program} {o:Oper} {a:Act} {w:World} {p:bN} {v:ad} {val:Value} (vs:Array Value) (t:TypeId) (aG:∀ b o,p b o→b<w.heap.size)
  (h:(execOp a.eval o).run P w = .ok (.value val) (w.alloc (.cells vs t))) (az:Rel (w.alloc (.cells vs t)) (p.dA w.heap.size True) val v) :
  fT P o a w p v:=
 ⟨val,_,_,h,az,r3 aG _ _,fun _ aw=>⟨zH _ _,xe aw _ _⟩⟩
theorem aU.l2 {P:Program} {N:Nat} {o:Oper} {env:Env} {s:aj} {v:ad} (ar:fM o=true)
  (h:∀ ro B a w p,c9 N B ro env s a w p→fT P o a w p v):aU P N o env s (fun x ah=>x=v∧ah=s) (fun _ _=>False):=by
 refine ⟨ar,fun ro B a w p aF=>?_⟩;obtain ⟨val,w',bb,cx,az,hle,aD⟩:=h ro B a w p aF;rw [cx];obtain ⟨kV,hG⟩:=aD s aF.wf;exact ⟨s,bb,hle,kV,hG,v,⟨rfl,rfl⟩,az⟩
theorem fU {P:Program} {x:Sem Value} {v:Value} {w w':World} (h:x.run P w = .ok v w'):(do pure (.value (← x)):Sem Next).run P w = .ok (.value v) w':=by
 simp only [Sem.run_bind,h,Result.andThen_ok,Sem.run_pure]
theorem j4 (b o n:Nat):(⟨b,o,none⟩:Addr).add n=⟨b,o+n,none⟩:=by
 unfold Addr.add;split<;>simp_all
theorem Gq {w:World} {p:bN} {vs:List Value} {cells r:List ad} {off:Nat} (az:bO w p vs cells) (h:oQ off cells=some r):bO w p (vs.drop off) r:=by
 rw [My h];exact az.drop off
theorem xi {P:Program} {Γ:cg} (aO:bL P Γ) {t:TypeId} {i:bJ} (aY:Γ.get? t=some i) {w:World} {p:bN} {b base off:Nat} {vs:List Value} {cells:List ad} {v:ad}
  (aE:∀ j u,vs[j]? = some u→w.cell? ⟨b,base+j,none⟩=some u) (az:bO w p vs cells) (h:gI i cells off=some v) :
  ∃ val,(loadVar t ⟨b,base+off,none⟩).run P w = .ok val w∧Rel w p val v:=by
 obtain ⟨info,d,U,ae,al,bl,-⟩:=aO.parts aY;unfold gI at h;split at h
 ·cases h
 ·rename_i r ar
  have ic:=Gq az ar;have iy:∀ j u,(vs.drop off)[j]? = some u→w.cell? ((⟨b,base+off,none⟩:Addr).add j)=some u:=by
   intro j u hu;rw [j4,Nat.add_assoc];exact aE _ _ (by simpa using hu)
  split at h
  ·rename_i f' bo
   split at h
   ·rename_i cs gJ
    cases h;obtain ⟨rfl,hlen⟩:=zJ gJ;obtain ⟨f,rfl,-⟩:=xf (al.trans bo);have aI:((vs.drop off).take i.size).length=info.size:=by rw [List.length_take,ic.length,bl];omega
    have xj:=run_loadCells_list (P:=P) w ⟨b,base+off,none⟩ ((vs.drop off).take i.size) (fun j u hu=>iy j u (by
     rw [List.getElem?_take] at hu;split at hu;exact hu;cases hu))
    rw [aI] at xj;refine ⟨_,?_,.agg _ _ (by simpa using ic.take i.size)⟩;simp only [loadVar,Sem.run_bind,vr ae,Result.andThen_ok,tj,if_true,sizeOf,typeInfo,run_program,U,Sem.run_pure,xj]
   ·cases h
  ·rename_i Gr h0 bo
   split at h
   ·rename_i cs gJ
    cases h;obtain ⟨rfl,hlen⟩:=zJ gJ;obtain rfl:=xg (al.trans bo);have aI:((vs.drop off).take i.size).length=info.size:=by rw [List.length_take,ic.length,bl];omega
    have xj:=run_loadCells_list (P:=P) w ⟨b,base+off,none⟩ ((vs.drop off).take i.size) (fun j u hu=>iy j u (by
     rw [List.getElem?_take] at hu;split at hu;exact hu;cases hu))
    rw [aI] at xj;refine ⟨_,?_,.agg _ _ (by simpa using ic.take i.size)⟩;simp only [loadVar,Sem.run_bind,vr ae,Result.andThen_ok,tj,if_true,sizeOf,typeInfo,run_program,U,Sem.run_pure,xj]
   ·cases h
  ·cases h
  ·rename_i aw aV ag
   split at h
   ·rename_i x xs
    cases h;generalize Gs:vs.drop off=MF at ic iy;cases ic with
    | cons u _ us _ ab aK=>
    have Gt:=iy 0 u C;rw [j4,Nat.add_zero] at Gt;refine ⟨u,?_,ab⟩;have Cx:=Gm (d:=d) (fun f'=>by rw [al];exact aw f') (fun n e=>by rw [al];exact aV n e) (by rw [al];exact ag);simp [loadVar,vr ae,Cx,Gt]
   ·cases h
theorem MG {P:Program} {Γ:cg} (aO:bL P Γ) {t:TypeId} {i:bJ} (aY:Γ.get? t=some i) {w:World} {p:bN} {off:Nat} {vs:Array Value} {cells:List ad} {v:ad}
  (az:bO w p vs.toList cells) (h:gI i cells off=some v):∃ val,(part t vs off).run P w = .ok val w∧Rel w p val v:=by
 obtain ⟨info,d,U,ae,al,bl,-⟩:=aO.parts aY;unfold gI at h;split at h
 ·cases h
 ·rename_i r ar
  have ic:=Gq az ar;split at h
  ·rename_i f' bo
   split at h
   ·rename_i cs gJ
    cases h;obtain ⟨rfl,hlen⟩:=zJ gJ;obtain ⟨f,rfl,-⟩:=xf (al.trans bo);refine ⟨.agg (vs.extract off (off+info.size)),?_,.agg _ _ ?_⟩
    ·simp only [part,Sem.run_bind,vr ae,Result.andThen_ok,tj,if_true,sizeOf,typeInfo,run_program,U,Sem.run_pure]
    ·have:(vs.extract off (off+info.size)).toList=(vs.toList.drop off).take i.size:=by simp [Array.toList_extract,bl]
     rw [this];exact ic.take i.size
   ·cases h
  ·rename_i Gr h0 bo
   split at h
   ·rename_i cs gJ
    cases h;obtain ⟨rfl,hlen⟩:=zJ gJ;obtain rfl:=xg (al.trans bo);refine ⟨.agg (vs.extract off (off+info.size)),?_,.agg _ _ ?_⟩
    ·simp only [part,Sem.run_bind,vr ae,Result.andThen_ok,tj,if_true,sizeOf,typeInfo,run_program,U,Sem.run_pure]
    ·have:(vs.extract off (off+info.size)).toList=(vs.toList.drop off).take i.size:=by simp [Array.toList_extract,bl]
     rw [this];exact ic.take i.size
   ·cases h
  ·cases h
  ·rename_i aw aV ag
   split at h
   ·rename_i x xs
    cases h;generalize Gs:vs.toList.drop off=MF at ic;cases ic with
    | cons u _ us _ ab aK=>
    have bB:vs[off]? = some u:=by
     have:=congrArg (fun l=>l[0]?) Gs;simpa using this
    refine ⟨u,?_,ab⟩;have Cx:=Gm (d:=d) (fun f'=>by rw [al];exact aw f') (fun n e=>by rw [al];exact aV n e) (by rw [al];exact ag);simp [part,vr ae,Cx,bB]
   ·cases h
theorem MH {w:World} {p:bN}:∀ (us:List Value) (cs:List ad) (off:Nat) (vs:List Value) (xs:List ad),bO w p us cs→bO w p vs xs →
  bO w p ((us.zipIdx).foldl (fun l (c,j)=>l.set (off+j) c) vs) (eg off cs xs):=by
 have key:∀ (us:List Value) (cs:List ad) (off k:Nat) (vs:List Value) (xs:List ad),bO w p us cs→bO w p vs xs →
   bO w p ((us.zipIdx k).foldl (fun l (c,j)=>l.set (off+j) c) vs) (eg (off+k) cs xs):=by
  intro us
  induction us with
  | nil=>intro cs off k vs xs h av;cases h;exact av
  | cons u us a'=>
   intro cs off k vs xs h av;cases h with
   | cons _ c _ cs aE aK=>
    simp only [List.zipIdx_cons,List.foldl_cons,eg];have:=a' cs off (k+1) _ _ aK (av.set (off+k) aE);rwa [← Nat.add_assoc] at this
 intro us cs off vs xs h av;simpa using key us cs off 0 vs xs h av
theorem Gu (l:List (Value×Nat)) (off:Nat):∀ (vs:Array Value),(l.foldl (fun cs (c,j)=>cs.setIfInBounds (off+j) c) vs).toList=l.foldl (fun cs (c,j)=>cs.set (off+j) c) vs.toList:=by
 induction l with
 | nil=>intro vs;rfl
 | cons x l a'=>intro vs;simp only [List.foldl_cons,a',Array.toList_setIfInBounds]
theorem Gv {w:World} {p:bN} {place:Nat→Option (Nat×Nat)}:∀ (bK:List (Nat×Value)) (l3:List (Nat×ad)) (vs:Array Value) (xs r:List ad),
  bK.map (·.1)=l3.map (·.1)→bO w p (bK.map (·.2)) (l3.map (·.2))→bO w p vs.toList xs→tp place xs l3=some r →
  ∃ cs,Instr.fill place vs bK=some cs∧bO w p cs.toList r:=by
 intro bK
 induction bK with
 | nil=>
  intro l3 vs xs r U ae al h;cases l3 with
  | nil=>cases h;exact ⟨vs,rfl,al⟩
  | cons q l3=>simp at U
 | cons x bK a'=>
  intro l3 vs xs r U ae al h;cases l3 with
  | nil=>simp at U
  | cons q l3=>
   obtain ⟨i,v⟩:=x;obtain ⟨zI,u⟩:=q;simp only [List.map_cons,List.cons.injEq] at U;obtain ⟨rfl,U⟩:=U;simp only [List.map_cons] at ae;cases ae with
   | cons _ _ _ _ av aK=>
   simp only [tp] at h;split at h
   ·rename_i off size cs aN gJ
    split at h
    ·rename_i r5
     simp only [Bool.and_eq_true] at r5;have b7:=Nat.eq_of_beq_eq_true r5.1;have hle:=Nat.le_of_ble_eq_true r5.2;have l4:=oP av gJ;have eh:v.cells.size=size:=by rw [← b7,← l4.length,Array.length_toList]
     have gW:vs.size=xs.length:=by rw [← al.length,Array.length_toList]
     have Gw:=MH _ _ off _ _ l4 al;have bE:v.cells.toList.zipIdx=(v.cells.zipIdx).toList:=by simp
     rw [bE,← Gu] at Gw;obtain ⟨out,ag,xk⟩:=a' l3 _ _ r U aK Gw h;refine ⟨out,?_,xk⟩;simp only [Instr.fill,aN];rw [if_neg (by simp [eh];omega),← ag,← Array.foldl_toList]
    ·cases h
   ·cases h
theorem Gx {N:Nat} {B:ff} {ro:Option Nat} {env:Env} {s:aj} {a:Act} {w:World} {p:bN} (aF:c9 N B ro env s a w p) {l:List (Nat×Operand)} {l3:List (Nat×ad)}
  (h:tq env l=some l3):(l.map fun x=>(x.1,a.eval x.2)).map (·.1)=l3.map (·.1)∧bO w p ((l.map fun x=>(x.1,a.eval x.2)).map (·.2)) (l3.map (·.2)):=by
 induction l generalizing l3 with
 | nil=>cases h;exact ⟨rfl,.nil⟩
 | cons x l a'=>
  obtain ⟨i,o⟩:=x;simp only [tq] at h;split at h
  ·rename_i v av
   split at h
   ·rename_i r az
    cases h;obtain ⟨U,ae⟩:=a' az;exact ⟨by simp only [List.map_cons,U],.cons _ _ _ _ (aF.aJ av) ae⟩
   ·cases h
  ·cases h
theorem MI {P:Program} {Γ:cg} (aO:bL P Γ) (f':List Field):∀ {pl:List (Nat×Nat)},placesOf Γ (f'.map fun x=>(x.offset,x.type))=some pl →
  f'.mapM (fun f=>(P.info? f.type).map fun i=>(f.offset,i.size))=some pl:=by
 induction f' with
 | nil=>intro pl h;cases h;rfl
 | cons f f' a'=>
  intro pl h;simp only [List.map_cons,placesOf] at h;split at h
  ·rename_i i aY
   split at h
   ·rename_i l aI
    cases h;obtain ⟨info,d,U,-,-,bl,-⟩:=aO.parts aY;simp [List.mapM_cons,U,a' aI,bl]
   ·cases h
  ·cases h
theorem Gy (sz:Nat):∀ (vs:List Value) (k:Nat) (pre post:List Value),pre.length=k*sz→post.length=vs.length*sz→(∀ v∈vs,v.cells.size=sz) →
  Instr.fill (fun i=>some (i*sz,sz)) (pre++post).toArray ((vs.zipIdx k).map fun x=>(x.2,x.1))=some (pre++flat vs).toArray:=by
 intro vs
 induction vs with
 | nil=>intro k pre post U ae al;have:post=[]:=List.eq_nil_of_length_eq_zero (by simpa using ae);subst this;simp [Instr.fill,flat]
 | cons v vs a'=>
  intro k pre post U ae al;have av:=al v (List.mem_cons_self ..);simp only [List.zipIdx_cons,List.map_cons,Instr.fill];have hlen:post.length=sz+vs.length*sz:=by rw [ae,List.length_cons,Nat.add_mul];omega
  rw [if_neg (by simp [av];omega)];have qS:(Array.foldl (fun cs x=>cs.setIfInBounds (k*sz+x.2) x.1) (pre++post).toArray v.cells.zipIdx)=((pre++v.cells.toList)++post.drop sz).toArray:=by
   apply Array.ext';rw [← Array.foldl_toList];have:=Gu v.cells.zipIdx.toList (k*sz) (pre++post).toArray;simp only at this ⊢;rw [this];have bE:v.cells.zipIdx.toList=v.cells.toList.zipIdx:=by simp
   rw [bE];have gen:∀ (us:List Value) (j:Nat) (a b:List Value),a.length=k*sz+j→us.length≤b.length →
     (us.zipIdx j).foldl (fun cs (x:Value×Nat)=>cs.set (k*sz+x.2) x.1) (a++b)=a++us++b.drop us.length:=by
    intro us
    induction us with
    | nil=>intro j a b _ _;simp
    | cons u us MJ=>
     intro j a b aV an;cases b with
     | nil=>simp at an
     | cons c b=>
      simp only [List.zipIdx_cons,List.foldl_cons,List.length_cons,List.drop_succ_cons];have:(a++c::b).set (k*sz+j) u=(a++[u])++b:=by
       rw [List.set_append_right _ _ ai];have:k*sz+j-a.length=0:=by omega
       rw [this];simp
      rw [this,MJ (j+1) (a++[u]) b dq (by simpa using an)];simp
   have fa:v.cells.toList.length=sz:=by rw [Array.length_toList,av]
   have:=gen v.cells.toList 0 pre post ai (by rw [fa];omega);rw [fa] at this;simpa using this
  rw [qS];have:=a' (k+1) (pre++v.cells.toList) (post.drop sz) (by simp [U,av,Nat.add_mul]) (by rw [List.length_drop,hlen];omega) (fun u hu=>al u (List.mem_cons_of_mem _ hu));rw [this];simp [flat,List.flatMap_cons]
theorem MK {N:Nat} {B:ff} {ro:Option Nat} {env:Env} {s:aj} {a:Act} {w:World} {p:bN} (aF:c9 N B ro env s a w p) {sz:Nat}:∀ {l:List (Nat×Operand)} {k:Nat} {xs:List ad},
    xh env sz k l=some xs→∃ vs:List Value,(l.map fun x=>(x.1,a.eval x.2))=(vs.zipIdx k).map (fun x=>(x.2,x.1))∧bO w p vs xs∧(∀ v∈vs,v.cells.size=sz)∧vs.length=l.length:=by
  intro l
  induction l with
  | nil=>intro k xs h;cases h;exact ⟨[],rfl,.nil,by simp,rfl⟩
  | cons x l a'=>
    intro k xs h;obtain ⟨i,o⟩:=x;simp only [xh] at h;split at h
    · rename_i an
      split at h
      · rename_i v av
        split at h
        · rename_i cs gJ
          split at h
          · rename_i aI
            split at h
            · rename_i r az
              cases h;have:=Nat.eq_of_beq_eq_true an;subst this;obtain ⟨vs,U,ae,al,bl⟩:=a' az;have en:=aF.aJ av;have b7:(a.eval o).cells.size=sz:=by
                rw [← Nat.eq_of_beq_eq_true aI,← (oP en gJ).length,Array.length_toList]
              exact ⟨a.eval o::vs,by simp [U],.cons _ _ _ _ en ae,by
                intro u hu;rcases List.mem_cons.1 hu with rfl|hu;exact b7;exact al u hu,by simp [bl]⟩
            · cases h
          · cases h
        · cases h
      · cases h
    · cases h
end Go.bj
namespace Go.bj
section
variable {P:Program} {Γ:cg} (aO:bL P Γ) {N:Nat} {B:ff} {ro:Option Nat} {env:Env} {s:aj} {a:Act} {w:World} {p:bN} (aF:c9 N B ro env s a w p)
include aF
theorem Gz {o:Oper} {x:Operand} {v:ad} (ag:o.op = .move x∨o.op = .assign x) (h:aJ env x=some v):fT P o a w p v:=by
 refine .same (val:=a.eval x) ?_ (aF.aJ h);unfold execOp;rcases ag with ag|ag<;>rw [ag]<;>rfl
theorem GA {o:Oper} {c x y:Operand} {v:ad} {t:Bool} (ag:o.op = .pick c x y) (aE:aJ env c=some (.bool t)) (h:aJ env (if t then x else y)=some v):fT P o a w p v:=by
 refine .same (val:=a.eval (if t then x else y)) ?_ (aF.aJ h);unfold execOp;rw [ag];simp only [zG (aF.aJ aE),asBool,Sem.run_bind,Sem.run_pure,Result.andThen_ok];cases t<;>rfl
include aO
theorem ML {o:Oper} {op:BinOp} {t yt:TypeId} {x y:Operand} {u v r:ad} (ag:o.op = .binOp op t x y yt) (ab:aJ env x=some u) (ay:aJ env y=some v)
  (h:zM Γ op t y u v=some r):fT P o a w p r:=by
 obtain ⟨val,U,ae⟩:=MD aO aF (yt:=yt) ab ay h;refine .same (val:=val) ?_ ae;unfold execOp;rw [ag];exact fU U
omit aO in
theorem MM {o:Oper} {t:TypeId} {x:Operand} {b:Bool} (ag:o.op = .unOp .not t x) (ab:aJ env x=some (.bool b)):fT P o a w p (.bool (!b)):=by
 refine .same (val := .bool (!b)) ?_ (.bool _);unfold execOp;rw [ag];simp only [zG (aF.aJ ab)];exact fU (by simp [Op.unary])
omit aO in
theorem MN {o:Oper} {x:Operand} {i:Nat} {vs:List ad} {v:ad} (ag:o.op = .extract x i) (ab:aJ env x=some (.cl vs)) (h:nth vs i=some v):fT P o a w p v:=by
 have az:=aF.aJ ab;generalize av:a.eval x=dr at az;cases az with
 | cl us _ aI=>
 rw [vp] at h;obtain ⟨u,hu,xl⟩:=aI.get h;refine .same (val:=u) ?_ xl;unfold execOp;rw [ag];simp only [av]
 exact fU (by
  have:us[i]? = some u:=by simpa using hu
  simp [Instr.extract,this])
theorem Cy {o:Oper} {S:TypeId} {x:Operand} {f sz lo:Nat} {f':List (Nat×TypeId)} {z:Value} {off:Nat} {t:TypeId} {dm:bJ} {v:ad} (ag:o.op = .fieldAddr S x f)
  (cX:Γ.get? S=some ⟨.struct f',sz,lo,z⟩) (ba:nth f' f=some (off,t)) (aK:Γ.get? t=some dm) (bB:dm.size≠0)
  (h:(∃ b o,aJ env x=some (.ptr b o)∧v = .ptr b (o+off))∨(∃ cs o,aJ env x=some (.bq cs o)∧v = .bq cs (o+off))∨(∃ b cs,aJ env x=some (.kT b cs)∧v = .bq cs off)):fT P o a w p v:=by
 obtain ⟨info,d,U,ae,al,-⟩:=aO.parts cX;obtain ⟨ln,cM,nb,nc,tn,l1,-⟩:=aO.parts aK;obtain ⟨xm,rfl,jm⟩:=xf al;rw [vp,jm,List.getElem?_map] at ba;obtain ⟨fd,Cz,CA⟩:=Option.map_eq_some_iff.1 ba;cases CA;have CB:xm[f]? = some fd:=by simpa using Cz
 have b7:ln.size≠0:=by rw [l1];exact bB
 have key:∀ b o',a.eval x = .pointer (some ⟨b,o',none⟩)→(execOp a.eval o).run P w = .ok (.value (.pointer (some ⟨b,o'+fd.offset,none⟩))) w:=by
  intro b o' ab;unfold execOp;rw [ag];simp only [ab];refine fU ?_;simp [Instr.fieldAt,run_underlying ae,CB,Instr.sureAddr,fieldPlace,sizeOf,typeInfo,nb,b7,j4]
 rcases h with ⟨b,o',ab,rfl⟩|⟨cs,o',ab,rfl⟩|⟨b,cs,ab,rfl⟩
 ·have az:=aF.aJ ab
  generalize av:a.eval x=dr at az;cases az;exact .same (key _ _ av) (.ptr _ _)
 ·have az:=aF.aJ ab
  generalize av:a.eval x=dr at az;cases az with
  | bq b base vu off vs _ nT aE gq=>
  exact .same (key _ _ av) (.bq b base _ _ vs _ ai aE gq)
 ·have az:=aF.aJ ab
  generalize av:a.eval x=dr at az;cases az with
  | kT b vs _ _ _ aE gq=>
  exact .same (key _ _ av) (.bq b 0 _ _ vs _ C aE gq)
theorem MO {o:Oper} {S:TypeId} {x:Operand} {f sz lo:Nat} {f':List (Nat×TypeId)} {z:Value} {off:Nat} {t:TypeId} {dm:bJ} {cs:List ad} {v:ad} (ag:o.op = .field S x f)
  (cX:Γ.get? S=some ⟨.struct f',sz,lo,z⟩) (ba:nth f' f=some (off,t)) (aK:Γ.get? t=some dm) (ab:aJ env x=some (.agg cs)) (h:gI dm cs off=some v):fT P o a w p v:=by
 obtain ⟨info,d,U,ae,al,-⟩:=aO.parts cX;obtain ⟨xm,rfl,jm⟩:=xf al;rw [vp,jm,List.getElem?_map] at ba;obtain ⟨fd,Cz,CA⟩:=Option.map_eq_some_iff.1 ba;cases CA;have CB:xm[f]? = some fd:=by simpa using Cz
 have az:=aF.aJ ab;generalize av:a.eval x=dr at az;cases az with
 | agg us _ aI=>
 obtain ⟨val,cx,en⟩:=MG aO aK aI h;refine .same (val:=val) ?_ en;unfold execOp;rw [ag];simp only [av];refine fU ?_;simp [Instr.field,run_underlying ae,CB,asAgg,cx]
theorem GB {o:Oper} {t:TypeId} {x:Operand} {i:bJ} {cs:List ad} {off:Nat} {v:ad} (ag:o.op = .load t x) (aK:Γ.get? t=some i) (ab:aJ env x=some (.bq cs off))
  (h:gI i cs off=some v):fT P o a w p v:=by
 have az:=aF.aJ ab;generalize av:a.eval x=dr at az;cases az with
 | bq b base vu _ vs _ nT aE gq=>
 subst nT;obtain ⟨val,cx,en⟩:=xi aO aK (b:=b) (base:=base) (fun j u hu=>(aE j u hu).2) gq h;refine .same (val:=val) ?_ en;unfold execOp;rw [ag];simp only [av];refine fU ?_;simp only [Instr.loadAt,Instr.sureAddr,Sem.run_bind,Sem.run_pure,Result.andThen_ok,cx]
theorem MP {o:Oper} {t:TypeId} {x:Operand} {i:bJ} {cs:List ad} {b:Nat} {v:ad} (ag:o.op = .load t x) (aK:Γ.get? t=some i) (ab:aJ env x=some (.kT b cs))
  (h:gI i cs 0=some v):fT P o a w p v:=by
 have az:=aF.aJ ab;generalize av:a.eval x=dr at az;cases az with
 | kT b vs _ _ _ aE gq=>
 obtain ⟨val,cx,en⟩:=xi aO aK (b:=b) (base:=0) (fun j u hu=>(aE j u hu).2) gq h;refine .same (val:=val) ?_ en;unfold execOp;rw [ag];simp only [av];refine fU ?_;simp only [Instr.loadAt,Instr.sureAddr,Sem.run_bind,Sem.run_pure,Result.andThen_ok];simpa using cx
theorem MQ {o:Oper} {t:TypeId} {x:Operand} {i:bJ} {v:ad} (ag:o.op = .makeInterface t x) (aK:Γ.get? t=some i) (aY:∀ b,i.bz ≠ .iface b) (ab:aJ env x=some v) :
  fT P o a w p (.iface t v):=by
 obtain ⟨info,d,U,ae,al,-⟩:=aO.parts aK;refine .same (val := .iface t (a.eval x)) ?_ (.iface _ _ _ (aF.aJ ab));unfold execOp;rw [ag];refine fU ?_;have ar:∀ ms,d ≠ .interface ms:=fun ms e=>by subst e;exact aY _ al.symm
 simp only [Instr.makeInterface,Sem.run_bind,run_underlying ae,Result.andThen_ok];cases d<;>first|rfl|exact absurd C (ar _)
omit aO in
theorem MR {o:Oper} {f:FuncId} {first cap:Array Operand} {xn gr:List ad} (ag:o.op = .makeFunc (.func f) first cap) (ba:fg env first.toList=some xn) (aE:fg env cap.toList=some gr) :
  fT P o a w p (.func f xn gr):=by
 refine .same (val := .func (.func f) (first.map a.eval) (cap.map a.eval)) ?_ (.func _ _ _ _ _ (by simpa using zO aF ba) (by simpa using zO aF aE));unfold execOp;rw [ag];exact fU C
omit aO in
theorem zP {o:Oper} {x:Operand} {v:ad} (ag:o.op = .nilCheck x) (ab:aJ env x=some v) (h:(∃ b o,v = .ptr b o)∨(∃ cs o,v = .bq cs o)∨(∃ b cs,v = .kT b cs)∨(∃ f a c,v = .func f a c)):fT P o a w p v:=by
 have az:=aF.aJ ab;refine .same (val:=a.eval x) ?_ az;unfold execOp;rw [ag];simp only [];rcases h with ⟨b,o',rfl⟩|⟨cs,o',rfl⟩|⟨b,cs,rfl⟩|⟨f,as,cs,rfl⟩<;>generalize av:a.eval x=dr at az<;>cases az<;>rfl
theorem zQ {o:Oper} {x:Operand} {zR t:TypeId} {i:bJ} {ok:Bool} {u v:ad} (ag:o.op = .typeAssert x zR t ok) (aK:Γ.get? t=some i) (aY:∀ b,i.bz ≠ .iface b) (ab:aJ env x=some u)
  (h:(∃ y,u = .iface t y∧v=if ok then .cl [y,.bool true] else y) ∨
   (ok=true∧(u = .mz∨∃ bG y,bG≠t∧u = .iface bG y)∧∃ z,gy i.zero=some z∧v = .cl [z,.bool false])):fT P o a w p v:=by
 obtain ⟨info,d,U,ae,al,bl,bD,fG⟩:=aO.parts aK;have ar:∀ ms,d ≠ .interface ms:=fun ms e=>by subst e;exact aY _ al.symm
 have az:=aF.aJ ab;generalize av:a.eval x=dr at az;have bE:(zeroValue t).run P w = .ok i.zero w:=by simp [zeroValue,typeInfo,U,fG]
 rcases h with ⟨y,rfl,rfl⟩|⟨rfl,hu,z,zS,rfl⟩
 ·cases az with
  | iface _ val _ ay=>
  have cx:(Instr.typeAssert (.iface t val) zR t ok).run P w = .ok (if ok then .tuple #[val,.bool true] else val) w:=by
   cases d<;>first|exact absurd C (ar _)|(simp only [Instr.typeAssert,Sem.run_bind,run_underlying ae,Result.andThen_ok,if_true,Sem.run_pure])
  refine .same (val:=if ok then .tuple #[val,.bool true] else val) ?_ (by cases ok;exact ay;exact .cl _ _ (.cons _ _ _ _ ay (.cons _ _ _ _ (.bool _) .nil)));unfold execOp;rw [ag];simp only [av];exact fU cx
 ·have cx:(Instr.typeAssert dr zR t true).run P w = .ok (.tuple #[i.zero,.bool false]) w:=by
   rcases hu with rfl|⟨bG,y,cB,rfl⟩
   ·cases az
    cases d<;>first|exact absurd C (ar _)|(simp only [Instr.typeAssert,Sem.run_bind,run_underlying ae,Result.andThen_ok,if_true,bE,Sem.run_pure])
   ·cases az
    cases d<;>first|exact absurd C (ar _)|(simp only [Instr.typeAssert,Sem.run_bind,run_underlying ae,Result.andThen_ok,if_true,if_neg cB,bE,Sem.run_pure])
  refine .same (val := .tuple #[i.zero,.bool false]) ?_ (.cl _ _ (.cons _ _ _ _ (oR zS) (.cons _ _ _ _ (.bool _) .nil)));unfold execOp;rw [ag];simp only [av];exact fU cx
theorem GC {o:Oper} {x:Operand} {t:TypeId} {i:bJ} {u:ad} {n:Nat} (ag:o.op = .call { callee := .builtin .len,args := #[x],argTypes := #[t] }) (aK:Γ.get? t=some i) (ab:aJ env x=some u)
  (h:(∃ e sz xs own,i.bz = .aA e∧u = .aA sz xs own∧n=xs.length)∨(∃ l,i.bz = .str∧u = .str l∧n=l.length)):fT P o a w p (.int .i64 n):=by
 obtain ⟨info,d,U,ae,al,-⟩:=aO.parts aK;have az:=aF.aJ ab;generalize av:a.eval x=dr at az;refine .same (val := .int .i64 n) ?_ (.int _ _);unfold execOp;rw [ag];simp only [resolve,invoke,builtin,Sem.run_bind,Sem.run_pure,Result.andThen_ok,List.map_toArray,List.map_cons,List.map_nil,av];rcases h with ⟨e,sz,xs,own,bo,rfl,rfl⟩|⟨l,bo,rfl,rfl⟩
 ·have ar:d = .slice e:=by rw [bo] at al;cases d<;>simp [dP] at al;rw [al]
  subst ar;cases az with
  | gU=>simp [Builtin.len_,run_underlying ae,goInt]
  | hE=>simp [Builtin.len_,run_underlying ae,goInt]
  | aA g off n cap sz vs _ _ aC aI aE az aw hm aD cE ag=>simp [Builtin.len_,run_underlying ae,goInt,aI]
 ·have ar:d = .string:=by rw [bo] at al;cases d<;>simp [dP] at al;rfl
  subst ar;cases az with
  | str b _ e=>subst e;simp [Builtin.len_,run_underlying ae,goInt]
omit aO in
theorem MS {o:Oper} {t:TypeId} {x:Operand} {v:ad} {cs:List ad} (ag:o.op = .box t x) (ab:aJ env x=some v) (aE:cellsOf v=some cs):fT P o a w p (.bq cs 0):=by
 have az:=aF.aJ ab;have l4:=oP az aE;refine fT.alloc (a.eval x).cells t aF.wf.lt (val := .pointer (some ⟨w.heap.size,0,none⟩)) ?_ ?_
 ·unfold execOp
  rw [ag];exact fU C
 ·refine .bq _ 0 0 0 (a.eval x).cells.toList _ C ?_ (l4.mono (r3 aF.wf.lt _ _))
  have:=Cr (w:=w) (p:=p) (a.eval x).cells.toList t;simpa using this
theorem MT {o:Oper} {t:TypeId} {parts:Array (Nat×Operand)} {f':List (Nat×TypeId)} {sz lo:Nat} {z:Value} {pl:List (Nat×Nat)} {a1 cs:List ad} {bK:List (Nat×ad)}
  (ag:o.op = .build t parts) (aK:Γ.get? t=some ⟨.struct f',sz,lo,z⟩) (jn:placesOf Γ f'=some pl) (bE:gy z=some (.agg a1)) (tr:tq env parts.toList=some bK)
  (h:tp (nth pl) a1 bK=some cs):fT P o a w p (.agg cs):=by
 obtain ⟨info,d,U,ae,al,bl,bD,fG⟩:=aO.parts aK;obtain ⟨xm,rfl,jm⟩:=xf al;rw [jm] at jn;have MU:=MI aO xm.toList jn;have CC:=oR (w:=w) (p:=p) bE;obtain ⟨b8,bZ⟩:=Gx aF tr;have r6:bO w p z.cells.toList a1:=oP CC C;have MV:(fun x=>pl.toArray[x]?)=nth pl:=by funext x;rw [vp];simp
 obtain ⟨out,qT,oS⟩:=Gv _ _ z.cells a1 cs b8 bZ r6 h;refine .same (val := .agg out) ?_ (.agg _ _ oS);unfold execOp;rw [ag];refine fU (run_build w t _ out ?_);unfold Program.built;simp only [U,ae,fG,MU];rw [MV];simpa using qT
theorem MW {o:Oper} {t e:TypeId} {n:Nat} {parts:Array (Nat×Operand)} {sz lo:Nat} {z:Value} {aB:bJ} {a1 cs:List ad} {bK:List (Nat×ad)}
  (ag:o.op = .build t parts) (aK:Γ.get? t=some ⟨.arr n e,sz,lo,z⟩) (he:Γ.get? e=some aB) (bE:gy z=some (.agg a1)) (tr:tq env parts.toList=some bK)
  (h:tp (fun i=>some (i*aB.size,aB.size)) a1 bK=some cs):fT P o a w p (.agg cs):=by
 obtain ⟨info,d,U,ae,al,bl,bD,fG⟩:=aO.parts aK;obtain ⟨ln,cM,nb,nc,tn,l1,GD,zT⟩:=aO.parts he;obtain rfl:=xg al;have CC:=oR (w:=w) (p:=p) bE;obtain ⟨b8,bZ⟩:=Gx aF tr;have r6:bO w p z.cells.toList a1:=oP CC C;obtain ⟨out,qT,oS⟩:=Gv _ _ z.cells a1 cs b8 bZ r6 h;refine .same (val := .agg out) ?_ (.agg _ _ oS);unfold execOp;rw [ag];refine fU (run_build w t _ out ?_);unfold Program.built;simp only [U,ae,fG,nb,l1];simpa using qT
theorem MX {o:Oper} {t e:TypeId} {len:Nat} {parts:Array (Nat×Operand)} {sz lo:Nat} {z:Value} {aB:bJ} {xs:List ad}
  (ag:o.op = .buildSlice t len parts) (aK:Γ.get? t=some ⟨.aA e,sz,lo,z⟩) (he:Γ.get? e=some aB) (hlen:parts.size=len) (zU:len*aB.size≤16777216) (WN:len≤16777216)
  (h:xh env aB.size 0 parts.toList=some xs):fT P o a w p (.aA aB.size xs .clip):=by
 obtain ⟨info,d,U,ae,al,-⟩:=aO.parts aK;obtain ⟨ln,cM,nb,nc,tn,l1,GD,zT⟩:=aO.parts he;have ar:d = .slice e:=by cases d<;>simp [dP] at al;rw [al]
 subst ar;obtain ⟨vs,b8,bZ,eF,mC⟩:=MK aF h;have fa:vs.length=len:=by rw [mC,Array.length_toList,hlen]
 have jm:(flat vs).length=len*aB.size:=by
  rw [← fa];clear b8 bZ mC fa h
  induction vs with
  | nil=>simp [flat]
  | cons v vs a'=>
   have:=a' (fun u hu=>eF u (List.mem_cons_of_mem _ hu));simp only [flat,List.flatMap_cons,List.length_append,Array.length_toList,List.length_cons] at this ⊢;rw [eF v (List.mem_cons_self ..)];have fs:(List.flatMap (fun v=>v.cells.toList) vs).length=vs.length*aB.size:=this;rw [fs,Nat.add_mul];omega
 have qT:∀ qU:Array Value,qU.size=len*aB.size→Instr.fill (fun i=>some (i*aB.size,aB.size)) qU (parts.map fun x=>(x.1,a.eval x.2)).toList=some (flat vs).toArray:=by
  intro qU nd;have:=Gy aB.size vs 0 [] qU.toList bn (by rw [Array.length_toList,nd,fa]) eF;simp only [List.nil_append] at this;rw [Array.toList_map,b8];simpa using this
 refine fT.alloc (flat vs).toArray e aF.wf.lt (val := .slice (some ⟨w.heap.size,0,none⟩) len len) ?_ ?_
 ·unfold execOp
  rw [ag];refine fU ?_;have WO:¬ (16777216<len*aB.size):=by omega
  have qV:¬ (len*aB.size>2^24):=by omega
  unfold Instr.buildSlice;simp only [Sem.run_bind,run_underlying ae,Result.andThen_ok,sizeOf,typeInfo,run_program,nb,Sem.run_pure,l1,if_neg qV];by_cases bB:len*aB.size=0
  ·rw [if_pos bB,Sem.run_bind,Sem.run_pure,Result.andThen_ok,qT _ bn]
   rfl
  ·rw [if_neg bB]
   simp only [zeroValue,typeInfo,Sem.run_bind,run_program,nb,zT,Sem.run_pure,Result.andThen_ok];rw [qT _ bn];rfl
 ·refine .aA _ 0 _ _ _ vs _ _ bn (by rw [← bZ.length,fa]) ?_ (bZ.mono (r3 aF.wf.lt _ _)) eF ?_ (Nat.le_refl _) (fun _=>rfl) (fun b an=>by cases an)
  ·exact Cr (w:=w) (p:=p) (flat vs) e
  ·omega
theorem GF {o:Oper} {v:ad} (h:nS Γ o env=some v):fT P o a w p v:=by
 unfold nS at h;split at h
 ·rename_i x ag;exact Gz aF (.inl ag) h
 ·rename_i x ag;exact Gz aF (.inr ag) h
 ·rename_i c x y ag
  split at h
  ·rename_i aE;exact GA aF (t:=true) ag aE h
  ·rename_i aE;exact GA aF (t:=false) ag aE h
  ·cases h
 ·rename_i op t x y yt ag
  split at h
  ·rename_i u eK ab ay;exact ML aO aF ag ab ay h
  ·cases h
 ·rename_i t x ag
  split at h
  ·rename_i b an;cases h;exact MM aF ag an
  ·cases h
 ·rename_i x i ag
  split at h
  ·rename_i vs ab;exact MN aF ag ab h
  ·cases h
 ·rename_i S x f ag
  split at h
  ·rename_i f' sz lo z cX
   split at h
   ·rename_i off t ba
    split at h
    ·rename_i bz n MY WQ aK
     split at h
     ·rename_i b o' ab;cases h;exact Cy aO aF ag cX ba aK bn (.inl ⟨_,_,ab,rfl⟩)
     ·rename_i cs o' ab;cases h;exact Cy aO aF ag cX ba aK bn (.inr (.inl ⟨_,_,ab,rfl⟩))
     ·rename_i b cs ab;cases h;exact Cy aO aF ag cX ba aK bn (.inr (.inr ⟨_,_,ab,rfl⟩))
     ·cases h
    ·cases h
   ·cases h
  ·cases h
 ·rename_i S x f ag
  split at h
  ·rename_i f' sz lo z cX
   split at h
   ·rename_i off t ba
    split at h
    ·rename_i i aK
     split at h
     ·rename_i cs ab;exact MO aO aF ag cX ba aK ab h
     ·cases h
    ·cases h
   ·cases h
  ·cases h
 ·rename_i t x ag
  split at h
  ·rename_i i aK
   split at h
   ·rename_i cs o' ab;exact GB aO aF ag aK ab h
   ·rename_i b cs ab;exact MP aO aF ag aK ab h
   ·cases h
  ·cases h
 ·rename_i t x ag
  split at h
  ·cases h
  ·rename_i i CD aK
   split at h
   ·rename_i u ab;cases h;exact MQ aO aF ag aK (fun b e=>by obtain ⟨eJ,a2,a3,a4⟩:=i;simp only at e;subst e;exact CD _ _ _ _ C) ab
   ·cases h
  ·cases h
 ·rename_i f first cap ag
  split at h
  ·rename_i xn gr U ae;cases h;exact MR aF ag U ae
  ·cases h
 ·rename_i x ag
  split at h
  ·rename_i b o' ab;cases h;exact zP aF ag ab (.inl ⟨_,_,rfl⟩)
  ·rename_i cs o' ab;cases h;exact zP aF ag ab (.inr (.inl ⟨_,_,rfl⟩))
  ·rename_i b cs ab;cases h;exact zP aF ag ab (.inr (.inr (.inl ⟨_,_,rfl⟩)))
  ·rename_i f xn gr ab;cases h;exact zP aF ag ab (.inr (.inr (.inr ⟨_,_,_,rfl⟩)))
  ·cases h
 ·rename_i x zR t ok ag
  split at h
  ·cases h
  ·rename_i i CD aK
   have zV:∀ b,i.bz ≠ .iface b:=fun b e=>by obtain ⟨eJ,a2,a3,a4⟩:=i;simp only at e;subst e;exact CD _ _ _ _ C
   split at h
   ·rename_i bG u ab
    split at h
    ·rename_i an;cases h;have:=Nat.eq_of_beq_eq_true an;subst this;exact zQ aO aF ag aK zV ab (.inl ⟨u,rfl,rfl⟩)
    ·rename_i an;cases h;have:=Nat.eq_of_beq_eq_true an;subst this;exact zQ aO aF ag aK zV ab (.inl ⟨_,rfl,rfl⟩)
    ·rename_i an
     split at h
     ·rename_i z bE;cases h
      exact zQ aO aF ag aK zV ab (.inr ⟨rfl,.inr ⟨bG,u,(fun e=>by subst e;simp at an),rfl⟩,z,bE,rfl⟩)
     ·cases h
    ·cases h
   ·rename_i ab
    split at h
    ·split at h
     ·rename_i z bE;cases h
      exact zQ aO aF ag aK zV ab (.inr ⟨rfl,.inl C,z,bE,rfl⟩)
     ·cases h
    ·cases h
   ·cases h
  ·cases h
 ·rename_i args argTypes ag
  split at h
  ·rename_i x t U ae
   have b8:args = #[x]:=by apply Array.ext';simpa using U
   have bZ:argTypes = #[t]:=by apply Array.ext';simpa using ae
   subst b8;subst bZ;split at h
   ·rename_i e sz lo z aK
    split at h
    ·rename_i sz' xs own ab;cases h;exact GC aO aF ag aK ab (.inl ⟨_,_,_,_,rfl,rfl,rfl⟩)
    ·cases h
   ·rename_i sz lo z aK
    split at h
    ·rename_i l ab;cases h;exact GC aO aF ag aK ab (.inr ⟨_,rfl,rfl,rfl⟩)
    ·cases h
   ·cases h
  ·cases h
 ·rename_i t x ag
  split at h
  ·rename_i u ab
   split at h
   ·rename_i cs aE;cases h;exact MS aF ag ab aE
   ·cases h
  ·cases h
 ·rename_i t parts ag
  split at h
  ·rename_i f' sz lo z aK
   split at h
   ·rename_i pl a1 bK jn bE tr
    split at h
    ·rename_i cs gJ;cases h;exact MT aO aF ag aK jn bE tr gJ
    ·cases h
   ·cases h
  ·rename_i Gr h0 sz lo z aK
   split at h
   ·rename_i aB a1 bK he bE tr
    split at h
    ·rename_i cs gJ;cases h;exact MW aO aF ag aK he bE tr gJ
    ·cases h
   ·cases h
  ·cases h
 ·rename_i t len parts ag
  split at h
  ·rename_i e sz lo z aK
   split at h
   ·rename_i aB he
    split at h
    ·rename_i r5
     simp only [Bool.and_eq_true] at r5;split at h
     ·rename_i xs gW;cases h
      exact MX aO aF ag aK he (Nat.eq_of_beq_eq_true r5.1) (Nat.le_of_ble_eq_true r5.2.1) (Nat.le_of_ble_eq_true r5.2.2) gW
     ·cases h
    ·cases h
   ·cases h
  ·cases h
 ·cases h
omit aF aO in
theorem GG {o:Oper} {v:ad} (h:nS Γ o env=some v):fM o=true:=by
 unfold fM;cases ag:o.op<;>first|rfl|(unfold nS at h;rw [ag] at h;cases h)
omit aF in
theorem aU.nS {o:Oper} {v:ad} (h:bj.nS Γ o env=some v):aU P N o env s (fun x ah=>x=v∧ah=s) (fun _ _=>False):=
 aU.l2 (GG h) fun _ _ _ _ _ aF=>GF aO aF h
omit aF in
theorem e8.step {ops:Array Oper} {Q:b2→Env→aj→Prop} {i:Nat} {l:List Nat} {o:Oper} {d:Nat} {v:ad} (ag:ops[i]? = some o) (ao:guardOf ops env o=some true)
  (ar:o.dst=some d) (aX:Nat.blt d N=true) (av:bj.nS Γ o env=some v) (h:e8 P N ops l Q ((d,v)::env) s):e8 P N ops (i::l) Q env s:=
 e8.op ag ao ar aX (aU.nS aO av) (fun x ah ⟨U,ae⟩=>by subst U;subst ae;exact h) (fun _ _ h=>h.elim)
end
end Go.bj
namespace Go.bj
def aj.set (s:aj) (b:Nat) (o:db):aj:=fun aT=>if aT=b then some o else s aT
def aj.del (s:aj) (b:Nat):aj:=fun aT=>if aT=b then none else s aT
theorem aj.fu (s:aj) (b:Nat) (o:db):s.set b o b=some o:=by simp [aj.set]
theorem aj.e5 (s:aj) {b aT:Nat} (o:db) (h:aT≠b):s.set b o aT=s aT:=by simp [aj.set,h]
theorem aj.l5 (s:aj) (b:Nat):s.del b b=none:=by simp [aj.del]
theorem aj.lp (s:aj) {b aT:Nat} (h:aT≠b):s.del b aT=s aT:=by simp [aj.del,h]
theorem aj.r7 {s:aj} {b aT:Nat} {o:db} (h:s.set b o aT=none):aT≠b∧s aT=none:=by
 unfold aj.set at h;split at h
 ·cases h
 ·exact ⟨‹_›,h⟩
theorem aj.ts (s:aj) (b:Nat) (o:db) (h:s b=none):aj.Sub s (s.set b o):=fun aT=>by
 by_cases e:aT=b
 ·subst e;exact .inr h
 ·exact .inl (by rw [aj.e5 _ _ e])
theorem aj.nf (s:aj):aj.Sub s s:=fun _ => .inl rfl
theorem aj.Sub.trans {a b c:aj} (h:aj.Sub a b) (k:aj.Sub b c):aj.Sub a c:=fun x=>by
 rcases h x with e|e
 ·rcases k x with e'|e'
  ·exact .inl (e.trans e')
  ·exact .inr (e.trans e')
 ·exact .inr e
theorem aj.xo (s:aj) (b:Nat) (o:db) (h:s b=none):(s.set b o).del b=s:=by
 funext aT;by_cases e:aT=b
 ·subst e;simp [aj.del,h]
 ·simp [aj.del,aj.set,e]
theorem aj.set_set (s:aj) (b:Nat) (o o':db):(s.set b o).set b o'=s.set b o':=by
 funext aT;by_cases e:aT=b<;>simp [aj.set,e]
theorem oN.lt {w:World} {p:bN} {b:Nat} {o:db} (h:oN w p b o):b<w.heap.size:=by
 cases o with
 | box t cs=>obtain ⟨vs,U,-⟩:=h;exact (Array.getElem?_eq_some_iff.1 U).1
 | row t sz n=>obtain ⟨vs,U,-⟩:=h;exact (Array.getElem?_eq_some_iff.1 U).1
 | map es=>obtain ⟨vs,c,U,-⟩:=h;exact (Array.getElem?_eq_some_iff.1 U).1
 | j2 es it l c=>obtain ⟨_,_,_,U,-⟩:=h;exact (Array.getElem?_eq_some_iff.1 U).1
 | tick m=>obtain ⟨_,_,_,U⟩:=h;exact (Array.getElem?_eq_some_iff.1 U).1
 | loop r env=>exact (Array.getElem?_eq_some_iff.1 h.1).1
theorem pP {w:World} {p:bN} {s:aj} (b6:c0 w p s) (o:Obj) (x:db) (ab:∀ w':World,w'.heap[w.heap.size]? = some o→(∀ v y,Rel w p v y→Rel w' p v y)→(∀ vs ys,bO w p vs ys→bO w' p vs ys)→oN w' p w.heap.size x) :
  s w.heap.size=none∧cV w p (w.alloc o) p∧Kept s (s.set w.heap.size x) w p (w.alloc o) p∧c0 (w.alloc o) p (s.set w.heap.size x):=by
 have aC:s w.heap.size=none:=by
  cases h:s w.heap.size with
  | none=>rfl
  | some o'=>exact absurd (b6.obj _ _ h).lt ai
 have hle:cV w p (w.alloc o) p:=cV.of_heap C C C bn (fun _ _ h=>h) b6.lt (fun b an=>kU w o b an);refine ⟨aC,hle,⟨fun b an _=>kU w o b an,fun b an aw=>by rw [aj.e5 _ _ ai];exact aw,fun _ _ _ _ h=>h⟩,?_⟩;have ao:=b6.grow hle (fun b an=>kU w o b an) (fun _ _ _ h=>h) (fun b o aN=>by have:=b6.lt b o aN;simp;omega);refine ⟨fun b o' an=>?_,ao.lt⟩;by_cases e:b=w.heap.size
 ·subst e
  rw [aj.fu] at an;cases an;exact ab _ (r2 w o) (fun _ _ h=>h.mono hle) (fun _ _ h=>h.mono hle)
 ·rw [aj.e5 _ _ e] at an
  exact ao.obj b o' an
section
variable {P:Program} {Γ:cg} {N:Nat} {env:Env} {s:aj}
theorem aU.jo {o:Oper} {K X:ad→aj→Prop} (ar:fM o=true)
  (h:∀ ro B a w p,c9 N B ro env s a w p→∃ val w' ah bb x,(execOp a.eval o).run P w = .ok (.value val) w'∧cV w p w' bb∧Kept s ah w p w' bb∧c0 w' bb ah∧K x ah∧Rel w' bb val x) :
  aU P N o env s K X:=by
 refine ⟨ar,fun ro B a w p aF=>?_⟩;obtain ⟨val,w',ah,bb,x,az,U,ae,al,bl,bD⟩:=h ro B a w p aF;rw [az];exact ⟨ah,bb,U,ae,al,x,bl,bD⟩
theorem aU.CE {o:Oper} {K X:ad→aj→Prop} (ar:fM o=true)
  (h:∀ ro B a w p,c9 N B ro env s a w p→∃ w' ah bb,(execOp a.eval o).run P w = .ok .skip w'∧cV w p w' bb∧Kept s ah w p w' bb∧c0 w' bb ah∧K (.cl []) ah) :
  aU P N o env s K X:=by
 refine ⟨ar,fun ro B a w p aF=>?_⟩;obtain ⟨w',ah,bb,az,U,ae,al,bl⟩:=h ro B a w p aF;rw [az];exact ⟨ah,bb,U,ae,al,_,bl,Cq⟩
theorem aU.alloc (aO:bL P Γ) {o:Oper} {t:TypeId} {i:bJ} {z:ad} {cs:List ad} (ag:o.op = .alloc t) (aK:Γ.get? t=some i) (bE:gy i.zero=some z) (aE:cellsOf z=some cs) {X:ad→aj→Prop} :
  aU P N o env s (fun x ah=>∃ b,s b=none∧x = .ptr b 0∧ah=s.set b (.box t cs)) X:=by
 refine aU.jo (by simp [fM,ag]) fun ro B a w p aF=>?_
 obtain ⟨info,d,U,ae,al,bl,bD,fG⟩:=aO.parts aK
 obtain ⟨aC,hle,aD,b6⟩:=pP aF.wf (.cells i.zero.cells t (0,0)) (.box t cs) (fun w' hS az gq=>
  ⟨i.zero.cells,hS,gq _ _ (oP (oR bE) aE),fun o' aN=>absurd (aF.wf.lt _ _ aN) ai⟩)
 refine ⟨.pointer (some ⟨w.heap.size,0,none⟩),_,_,p,_,?_,hle,aD,b6,⟨w.heap.size,aC,rfl,rfl⟩,.ptr _ _⟩;unfold execOp;rw [ag];refine fU ?_;simp [Instr.alloc,zeroValue,typeInfo,U,fG,newVar,newRow]
theorem iz {w:World} {b:Nat} {vs:Array Value} {t:TypeId} {gf:Nat×Nat} (h:w.heap[b]? = some (.cells vs t gf)) (j:Nat):w.cell? ⟨b,j,none⟩=vs[j]?:=by
 simp [World.cell?,h]
theorem aU.r8 (aO:bL P Γ) {o:Oper} {t T:TypeId} {x:Operand} {i:bJ} {b off:Nat} {cs:List ad} {v:ad} (ag:o.op = .load t x) (aK:Γ.get? t=some i) (ab:aJ env x=some (.ptr b off))
  (aw:s b=some (.box T cs)) (h:gI i cs off=some v) {X:ad→aj→Prop}:aU P N o env s (fun x ah=>x=v∧ah=s) X:=by
 refine aU.jo (by simp [fM,ag]) fun ro B a w p aF=>?_
 have az:=aF.aJ ab;generalize av:a.eval x=dr at az;cases az;obtain ⟨vs,U,ae,al⟩:=aF.wf.obj _ _ aw;obtain ⟨val,cx,en⟩:=xi aO aK (b:=b) (base:=0) (vs:=vs.toList) (fun j u hu=>by rw [Nat.zero_add,iz U];simpa using hu) ae h;refine ⟨val,w,s,p,v,?_,.refl w p,.refl s w p,aF.wf,⟨rfl,rfl⟩,en⟩;unfold execOp;rw [ag];simp only [av];refine fU ?_;rw [Nat.zero_add] at cx;simp only [Instr.loadAt,Instr.sureAddr,Sem.run_bind,Sem.run_pure,Result.andThen_ok,cx]
theorem tt {w:World} {p:bN} (b6:c0 w p s) {b:Nat} {T:TypeId} {cs:List ad} (aw:s b=some (.box T cs)) {vs':Array Value} {cs':List ad}
    (b7:∀ vs,w.heap[b]? = some (.cells vs T (0,0))→vs'.size=vs.size) (az:bO w p vs'.toList cs') (w':World) (hS:w'=w.setRow b vs') :
    cV w p w' p∧Kept s (s.set b (.box T cs')) w p w' p∧c0 w' p (s.set b (.box T cs')):=by
  subst hS;obtain ⟨vs,U,ae,al⟩:=b6.obj _ _ aw;have aG:b<w.heap.size:=(Array.getElem?_eq_some_iff.1 U).1;have dz:=setRow_heap w b vs vs' T (0,0) U;have gX:∀ k,k≠b→(w.setRow b vs').heap[k]? = w.heap[k]? := fun k aD=>setRow_other w b k vs' aD
  have hle:cV w p (w.setRow b vs') p:=by
    refine ⟨rfl,rfl,rfl,by simp,fun _ _ h=>h,fun aT o aN=>vn (gX aT (fun e=>al o (e ▸ aN))),fun aT x ab=>?_⟩;by_cases e:aT=b
    · subst e
      have MZ:=b7 vs U;simp only [World.jF,U,dz] at ab ⊢;rw [MZ];exact ab
    · rw [vm (gX aT e)];exact ab
  refine ⟨hle,⟨fun aT an aC=>gX aT (fun e=>by rw [e,aw] at aC;simp at aC),fun aT an aC=>by
    rw [aj.e5]
    · exact aC
    · intro e;rw [e,aw] at aC;simp at aC,fun _ _ _ _ h=>h⟩,?_,fun aT o aN=>by simpa using b6.lt aT o aN⟩
  intro aT o' mD;by_cases e:aT=b
  · subst e
    rw [aj.fu] at mD;cases mD;exact ⟨vs',dz,az.mono hle,al⟩
  · rw [aj.e5 _ _ e] at mD
    have ag:=b6.obj aT o' mD;have c':=gX aT e;cases o' with
    | box t c=>obtain ⟨us,g1,g2,g3⟩:=ag;exact ⟨us,c'.trans g1,g2.mono hle,g3⟩
    | row t sz n=>obtain ⟨cur,g1,g2,g3,g4⟩:=ag;exact ⟨cur,c'.trans g1,g2,g3,g4⟩
    | map es=>obtain ⟨cw,c,g1,g2,g3⟩:=ag;exact ⟨cw,c,c'.trans g1,⟨g2.1.mono hle,g2.2.mono hle⟩,g3⟩
    | j2 es it l c=>exact ag.oO hle c' (gX it (ag.xd U bn))
    | tick m=>obtain ⟨eJ,a2,a3,g1⟩:=ag;exact ⟨eJ,a2,a3,c'.trans g1⟩
    | loop r env=>exact ⟨c'.trans ag.1,fun t v h=>(ag.2 t v h).mono hle⟩
def eN:ad→Bool
 | .gx (.func _ _ _)=>true
 | .gx (.slice _ _ _)=>true
 | .any | .gx _ | .agg _ | .cl _=>false
 | _=>true
theorem CF {w:World} {p:bN} {v:Value} {x:ad} (az:Rel w p v x) (h:eN x=true):v.oneCell'=true:=by
 cases az with
 | gx v=>cases v<;>first|rfl|(simp [eN] at h;done)
 | _=>first|rfl|(simp [eN] at h;done)
theorem oT {w:World} {p:bN}:∀ {vs:List Value} {xs:List ad},bO w p vs xs→xs.all eN=true→∀ v∈vs,v.oneCell'=true:=by
 intro vs
 induction vs with
 | nil=>intro xs _ _ v av;cases av
 | cons u vs a'=>
  intro xs h aV v av;cases h with
  | cons _ x _ xs ab aK=>
  simp only [List.all_cons,Bool.and_eq_true] at aV;rcases List.mem_cons.1 av with rfl|av
  ·exact CF ab aV.1
  ·exact a' aK aV.2 v av
theorem GH (off:Nat):∀ (cs xs:List ad),off+cs.length≤xs.length→eg off cs xs=xs.take off++cs++xs.drop (off+cs.length):=by
 intro cs
 induction cs generalizing off with
 | nil=>intro xs h;simp [eg]
 | cons c cs a'=>
  intro xs h;simp only [eg,List.length_cons] at h ⊢;rw [a' (off+1) _ dq];have U:(xs.set off c).take (off+1)=xs.take off++[c]:=by
   rw [List.take_succ_eq_append_getElem dq];simp [List.take_set_of_le]
  have ae:(xs.set off c).drop (off+1+cs.length)=xs.drop (off+1+cs.length):=by
   rw [List.drop_set_of_lt ai]
  rw [U,ae];simp [Nat.add_assoc,Nat.add_comm 1]
theorem aU.zW (aO:bL P Γ) {o:Oper} {t T:TypeId} {x y:Operand} {i:bJ} {b off:Nat} {cs us:List ad} {v:ad} (ag:o.op = .store t x y) (aK:Γ.get? t=some i) (ab:aJ env x=some (.ptr b off))
  (ay:aJ env y=some v) (av:cellsOf v=some us) (hu:Nat.beq us.length i.size=true) (M0:us.all eN=true) (aw:s b=some (.box T cs)) (eU:Nat.ble (off+us.length) cs.length=true) {X:ad→aj→Prop} :
  aU P N o env s (fun _ ah=>ah=s.set b (.box T (eg off us cs))) X:=by
 refine aU.CE (by simp [fM,ag]) fun ro B a w p aF=>?_
 have az:=aF.aJ ab;generalize dQ:a.eval x=dr at az;cases az;have eV:=aF.aJ ay;have l4:=oP eV av;obtain ⟨info,d,g1,g2,g3,g4,-⟩:=aO.parts aK;obtain ⟨vs,U,ae,al⟩:=aF.wf.obj _ _ aw;have b7:(a.eval y).cells.size=info.size:=by rw [g4,← Nat.eq_of_beq_eq_true hu,← l4.length,Array.length_toList]
 have M1:=Nat.le_of_ble_eq_true eU;have l6:vs.size=cs.length:=by rw [← ae.length,Array.length_toList]
 have ev:(a.eval y).cells.toList.length=us.length:=l4.length;have gK:=run_storeCells_at P b off T (a.eval y).cells.toList 0 vs w U (by rw [ev];omega) (oT l4 M0);simp only [Nat.add_zero] at gK;have en:bO w p (vs.toList.take off++(a.eval y).cells.toList++vs.toList.drop (off+(a.eval y).cells.toList.length)) (eg off us cs):=by
  rw [GH _ _ _ M1,ev];exact ((ae.take off).append l4).append (ae.drop _)
 obtain ⟨cz,dj,ft⟩:=tt aF.wf aw (vs':=(vs.toList.take off++(a.eval y).cells.toList++vs.toList.drop (off+(a.eval y).cells.toList.length)).toArray) (fun tu zX=>by
  rw [U] at zX;cases zX
  simp only [List.size_toArray,List.length_append,List.length_take,List.length_drop,ev,Array.length_toList];omega) (by simpa using en) _ C
 refine ⟨_,_,p,?_,cz,dj,ft,rfl⟩;unfold execOp;rw [ag];simp only [dQ];simp only [Instr.storeAt,Instr.sureAddr,storeVar,sizeOf,typeInfo,Sem.run_bind,Sem.run_pure,Result.andThen_ok,run_program,g1,b7,ne_eq,not_true_eq_false,if_false];rw [gK];rfl
theorem c9.freeze {B:ff} {ro:Option Nat} {a:Act} {w:World} {p:bN} (h:c9 N B ro env s a w p) {t b:Nat} {T:TypeId} {cs:List ad} (aK:env.get? t=some (.ptr b 0)) (aw:s b=some (.box T cs)) :
  ∃ bb,c9 N B ro ((t,.bq cs 0)::env) (s.del b) a w bb∧cV w p w bb∧Kept s (s.del b) w p w bb:=by
 obtain ⟨vs,U,ae,al⟩:=h.wf.obj _ _ aw;have aG:b<w.heap.size:=(Array.getElem?_eq_some_iff.1 U).1;have hle:cV w p w (p.dA b True):=⟨rfl,rfl,rfl,Nat.le_refl _,fun _ _ h => .inl h,fun _ _ _=>rfl,fun _ _ h=>h⟩
 have aD:Kept s (s.del b) w p w (p.dA b True):=⟨fun _ _ _=>rfl,fun aT an aC=>by
  by_cases e:aT=b
  ·subst e;exact aj.l5 _ _
  ·rw [aj.lp _ e];exact aC,fun aT o an aC aN=>by
   rcases aN with aN|⟨rfl,_⟩
   ·exact aN
   ·rw [aw] at aC;cases aC⟩
 have b6:c0 w (p.dA b True) (s.del b):=by
  refine ⟨fun aT o an=>?_,fun aT o aN=>by rcases aN with aN|⟨rfl,_⟩;exact h.wf.lt _ _ aN;exact aG⟩;by_cases e:aT=b
  ·subst e;rw [aj.l5] at an;cases an
  ·rw [aj.lp _ e] at an
   have ag:=h.wf.obj aT o an;have eZ:∀ o,p.dA b True aT o↔p aT o:=fun o=>⟨fun aN=>by rcases aN with aN|⟨e',_⟩;exact aN;exact absurd e' e,.inl⟩
   cases o with
   | box t c=>obtain ⟨us,g1,g2,g3⟩:=ag;exact ⟨us,g1,g2.mono hle,fun o aN=>g3 o ((eZ o).1 aN)⟩
   | row t sz n=>obtain ⟨cur,g1,g2,g3,g4⟩:=ag;exact ⟨cur,g1,g2,g3,fun o=>(eZ o).trans (g4 o)⟩
   | map es=>obtain ⟨cw,c,g1,g2,g3⟩:=ag;exact ⟨cw,c,g1,⟨g2.1.mono hle,g2.2.mono hle⟩,g3⟩
   | j2 es it l c=>exact ag.oO hle C C
   | tick m=>exact ag
   | loop r env=>exact ⟨ag.1,fun t v h=>(ag.2 t v h).mono hle⟩
 have aF:=h.step hle aD b6;refine ⟨_,⟨aF.size,fun bG v av=>?_,aF.wf,aF.defs,aF.round,aF.base⟩,hle,aD⟩;simp only [Env.get?] at av;split at av
 ·rename_i he
  have:=Nat.eq_of_beq_eq_true he;subst this;cases av;have az:=h.env t _ aK;generalize a.tmps.getD t undef=dr at az;cases az;refine .bq b 0 0 0 vs.toList cs C ?_ (ae.mono hle);intro i v aY;refine ⟨.inr ⟨rfl,trivial⟩,?_⟩;rw [Nat.zero_add,iz U];simpa using aY
 ·exact aF.env bG v av
theorem e8.freeze {ops:Array Oper} {Q:b2→Env→aj→Prop} {l:List Nat} (t b:Nat) {T:TypeId} {cs:List ad} (aK:env.get? t=some (.ptr b 0)) (aw:s b=some (.box T cs))
  (h:e8 P N ops l Q ((t,.bq cs 0)::env) (s.del b)):e8 P N ops l Q env s:=by
 intro ro B a w p aF;obtain ⟨bb,gK,hle,aD⟩:=aF.freeze aK aw;exact e8.after hle aD h gK
theorem af.freeze {Q:b2→Env→aj→Prop} {c:Code} (t b:Nat) {T:TypeId} {cs:List ad} (aK:env.get? t=some (.ptr b 0)) (aw:s b=some (.box T cs))
  (h:af P N c Q ((t,.bq cs 0)::env) (s.del b)):af P N c Q env s:=by
 intro gf B a w p et aF;obtain ⟨bb,gK,hle,aD⟩:=aF.freeze aK aw;exact kR (h gf B a w bb et gK) fun _ _ _ q=>q.after hle aD
end
end Go.bj
namespace Go.bj
def iY:ad→ad→Option Bool
 | .str a,.str b=>some (a==b)
 | .int k a,.int k' b=>if k=k' then some (a==b) else none
 | .bool a,.bool b=>some (a==b)
 | _,_=>none
def iZ:qQ→ad→Bool
 | .str,.str _=>true
 | .int _,.int _ _=>true
 | .bool,.bool _=>true
 | _,_=>false
def h1:List (ad×ad)→ad→Option (Option ad)
  | [],_=>some none
  | (k',v)::r,k=>match iY k k' with
    | some true=>some (some v)
    | some false=>h1 r k
    | none=>none
def kn:List (ad×ad)→ad→ad→Option (List (ad×ad))
  | [],k,v=>some [(k,v)]
  | (k',eK)::r,k,v=>match iY k k' with
    | some true=>some ((k,v)::r)
    | some false=>match kn r k v with
      | some r'=>some ((k',eK)::r')
      | none=>none
    | none=>none
theorem GI (a b:ByteArray):(a==b)=(a.data.toList==b.data.toList):=by
 cases a with|mk x=>cases b with|mk y=>
 show (ByteArray.beq ⟨x⟩ ⟨y⟩)=_;unfold ByteArray.beq;simp
theorem zY {w:World} {p:bN} {d:TypeDesc} {gL xp:Value} {k k':ad} {b:Bool} (U:Rel w p gL k) (ae:Rel w p xp k') (ba:iZ (dP d) k=true) (h:iY k k'=some b) :
  Instr.sameNow d gL xp=some b:=by
 unfold iY at h;split at h
 ·cases U with|str a _ e=>cases ae with|str cR _ e'=>
  cases d<;>simp [dP,iZ] at ba
  cases h;simp [Instr.sameNow,GI,e,e']
 ·cases U;cases ae
  cases d<;>simp [dP,iZ] at ba
  split at h
  ·cases h;rename_i aD;subst aD;simp [Instr.sameNow]
  ·cases h
 ·cases U;cases ae
  cases d<;>simp [dP,iZ] at ba
  cases h;simp [Instr.sameNow]
 ·cases h
theorem M3 {w:World} {p:bN} {gL xp:Value} {k k':ad} (U:Rel w p gL k) (ae:Rel w p xp k') (h:iY k k'=some true):Instr.sameBits 10000 xp gL=true:=by
 unfold iY at h;split at h
 ·cases U with|str a _ e=>cases ae with|str cR _ e'=>
  have h:=beq_iff_eq.1 (Option.some.inj h);show (cR==a)=true;rw [GI,e,e',h];simp
 ·rename_i k a k' b
  cases U;cases ae;split at h
  ·rename_i aD
   subst aD;have h:=beq_iff_eq.1 (Option.some.inj h);show (k==k&&b==a)=true;rw [h];simp
  ·cases h
 ·rename_i a b
  cases U;cases ae;have h:=beq_iff_eq.1 (Option.some.inj h);show (b==a)=true;rw [h];simp
 ·cases h
theorem M4 {w:World} {p:bN} {d:TypeDesc} {gL:Value} {k:ad} (aD:Rel w p gL k) (ba:iZ (dP d) k=true):∀ (cw:List MapEntry) (es:List (ad×ad)) (i:Nat) (r:Option ad),
  kl w p cw es→h1 es k=some r →
  match r with
  | none=>Instr.findNow d gL cw i=some none
  | some v=>∃ j val,Instr.findNow d gL cw i=some (some (j,val))∧Rel w p val v:=by
 intro cw
 induction cw with
 | nil=>
  intro es i r az h;cases es with
  | nil=>cases h;rfl
  | cons e es=>exact absurd az.1.length bn
 | cons m cw a'=>
  intro es i r az h;cases es with
  | nil=>exact absurd az.1.length bn
  | cons e es=>
   obtain ⟨k',eK⟩:=e;obtain ⟨vw,qW⟩:=az;cases vw with|cons _ _ _ _ eL qX=>cases qW with|cons _ _ _ _ nU oU=>
   simp only [h1] at h;split at h
   ·rename_i he
    cases h;exact ⟨i,m.val,by simp only [Instr.findNow,zY aD eL ba he],nU⟩
   ·rename_i he
    have:=a' es (i+1) r ⟨qX,oU⟩ h;have aw:=zY aD eL ba he;cases r with
    | none=>simp only [Instr.findNow,aw];exact this
    | some v=>obtain ⟨j,val,U,ae⟩:=this;exact ⟨j,val,by simp only [Instr.findNow,aw];exact U,ae⟩
   ·cases h
theorem M5 {w:World} {p:bN} {d:TypeDesc} {gL vv:Value} {k v:ad} (aD:Rel w p gL k) (av:Rel w p vv v) (ba:iZ (dP d) k=true):∀ (cw:List MapEntry) (es c5:List (ad×ad)) (i:Nat),
  kl w p cw es→kn es k v=some c5 →
  (Instr.findNow d gL cw i=some none∧∀ n,kl w p (cw++[{ key:=gL,val:=vv,born:=n }]) c5) ∨
  (∃ j val e,Instr.findNow d gL cw i=some (some (i+j,val))∧cw[j]? = some e∧Instr.sameBits 10000 e.key gL=true∧kl w p (cw.modify j fun e=>{ e with key:=gL,val:=vv }) c5):=by
 intro cw
 induction cw with
 | nil=>
  intro es c5 i az h;cases es with
  | nil=>cases h;exact .inl ⟨rfl,fun n=>⟨.cons _ _ _ _ aD .nil,.cons _ _ _ _ av .nil⟩⟩
  | cons e es=>exact absurd az.1.length bn
 | cons m cw a'=>
  intro es c5 i az h;cases es with
  | nil=>exact absurd az.1.length bn
  | cons e es=>
   obtain ⟨k',eK⟩:=e;obtain ⟨vw,qW⟩:=az;cases vw with|cons _ _ _ _ eL qX=>cases qW with|cons _ _ _ _ nU oU=>
   simp only [kn] at h;split at h
   ·rename_i he
    cases h;refine .inr ⟨0,m.val,m,by simp only [Instr.findNow,zY aD eL ba he,Nat.add_zero],rfl,M3 aD eL he,?_⟩;exact ⟨.cons _ _ _ _ aD qX,.cons _ _ _ _ av oU⟩
   ·rename_i he
    split at h
    ·rename_i r' ic
     cases h;have aw:=zY aD eL ba he;rcases a' es r' (i+1) ⟨qX,oU⟩ ic with ⟨U,ae⟩|⟨j,val,e',U,ae,al,bl⟩
     ·exact .inl ⟨by simp only [Instr.findNow,aw];exact U,fun n=>⟨.cons _ _ _ _ eL (ae n).1,.cons _ _ _ _ nU (ae n).2⟩⟩
     ·refine .inr ⟨j+1,val,e',by simp only [Instr.findNow,aw];rw [U];congr 3;omega,by simpa using ae,al,?_⟩
      simp only [List.modify_succ_cons];exact ⟨.cons _ _ _ _ eL bl.1,.cons _ _ _ _ nU bl.2⟩
    ·cases h
   ·cases h
section
variable {P:Program} {Γ:cg} {N:Nat} {env:Env} {s:aj}
theorem run_checkKey {d:TypeDesc} {t:TypeId} {gL:Value} {k:ad} {w:World} {p:bN} (hu:P.underlying t=some d) (aD:Rel w p gL k) (ba:iZ (dP d) k=true) (e:Bool) :
  (Instr.checkKey e 10000 t gL).run P w = .ok () w:=by
 have:∀ n,(Instr.checkKey e (n+1) t gL).run P w = .ok () w:=by
  intro n;unfold Instr.checkKey;simp only [Sem.run_bind,run_underlying hu,Result.andThen_ok];cases aD<;>simp [iZ] at ba<;>cases d<;>simp [dP] at ba<;>rfl
 exact this 9999
theorem run_findKey {d:TypeDesc} {t:TypeId} {gL:Value} {es:List MapEntry} {r:Option (Nat×Value)} {w:World} (hu:P.underlying t=some d) (h:Instr.findNow d gL es 0=some r) :
  (Instr.findKey t gL es).run P w = .ok r w:=by
 unfold Instr.findKey;simp only [Sem.run_bind,run_underlying hu,Result.andThen_ok,h,Sem.run_pure]
def zZ:Obj→Bool
 | .cells .. => false
 | _=>true
theorem vx {w:World} {r:Nat} {o:Obj} (h:w.heap[r]? = some o) (aE:zZ o=true):(getObj r).run P w = .ok o w:=by
 cases o<;>first|(simp [zZ] at aE;done)|simp [getObj,Sem.run,h]
def ko (ok:Bool) (zero:ad):Option ad→ad
 | some v=>if ok then .cl [v,.bool true] else v
 | none=>if ok then .cl [zero,.bool false] else zero
theorem aU.lookup (aO:bL P Γ) {o:Oper} {t ds ew:TypeId} {x y:Operand} {ok:Bool} {it fN aB:bJ} {m:ad} {es:List (ad×ad)} {k z:ad} {r:Option ad} (ag:o.op = .lookup t x y ok)
  (aK:Γ.get? t=some it) (bo:it.bz = .map ds ew) (ie:Γ.get? ds=some fN) (bF:Γ.get? ew=some aB) (ab:aJ env x=some m) (ay:aJ env y=some k)
  (hm:(∃ b,m = .map b∧s b=some (.map es))∨(m = .qO∧es=[])) (ba:iZ fN.bz k=true) (ao:h1 es k=some r) (bE:gy aB.zero=some z) {X:ad→aj→Prop} :
  aU P N o env s (fun x ah=>x=ko ok z r∧ah=s) X:=by
 refine aU.jo (by simp [fM,ag]) fun ro B a w p aF=>?_
 obtain ⟨info,d,U,ae,al,-⟩:=aO.parts aK;obtain ⟨M6,vy,kV,hG,tv,-⟩:=aO.parts ie;obtain ⟨iH,jq,CG,M7,M8,-,-,CH⟩:=aO.parts bF;have ar:d = .map ds ew:=by rw [bo] at al;cases d<;>simp [dP] at al;rw [al.1,al.2]
 subst ar;have az:=aF.aJ ab;have jr:=aF.aJ ay;generalize dQ:a.eval x=dr at az;generalize eO:a.eval y=fp at jr;rw [← tv] at ba;have CI:(zeroValue ew).run P w = .ok aB.zero w:=by simp [zeroValue,typeInfo,CG,CH]
 have tail:∀ cw:Array MapEntry,kl w p cw.toList es→∃ val,(do
   Instr.checkKey cw.isEmpty 10000 ds fp
   let (v,M9) ← match ← Instr.findKey ds fp cw.toList with
    | some (_,v)=>pure (v,true)
    | none=>do pure (← zeroValue ew,false)
   pure (if ok then .tuple #[v,.bool M9] else v):Sem Value).run P w = .ok val w∧Rel w p val (ko ok z r):=by
  intro cw CJ;have js:=M4 jr ba cw.toList es 0 r CJ ao;simp only [Sem.run_bind,run_checkKey hG jr ba,Result.andThen_ok];cases r with
  | none=>
   simp only at js;simp only [run_findKey hG js,Result.andThen_ok,Sem.run_bind,CI,Sem.run_pure,ko];cases ok
   ·exact ⟨_,rfl,oR bE⟩
   ·exact ⟨_,rfl,.cl _ _ (.cons _ _ _ _ (oR bE) (.cons _ _ _ _ (.bool _) .nil))⟩
  | some v=>
   obtain ⟨j,val,g1,g2⟩:=js;simp only [run_findKey hG g1,Result.andThen_ok,Sem.run_pure,ko];cases ok
   ·exact ⟨_,rfl,g2⟩
   ·exact ⟨_,rfl,.cl _ _ (.cons _ _ _ _ g2 (.cons _ _ _ _ (.bool _) .nil))⟩
 have CK:∃ val,(Instr.lookup t dr fp ok).run P w = .ok val w∧Rel w p val (ko ok z r):=by
  unfold Instr.lookup;rcases hm with ⟨b,rfl,aw⟩|⟨rfl,rfl⟩
  ·cases az
   obtain ⟨cw,clock,g1,g2,-⟩:=aF.wf.obj _ _ aw;obtain ⟨val,cx,en⟩:=tail cw g2;refine ⟨val,?_,en⟩;simp only [Sem.run_bind,run_underlying ae,Result.andThen_ok,vx g1 C,Sem.run_pure] at cx ⊢;exact cx
  ·cases az
   obtain ⟨val,cx,en⟩:=tail #[] ⟨.nil,.nil⟩;refine ⟨val,?_,en⟩;simp only [Sem.run_bind,run_underlying ae,Result.andThen_ok,Sem.run_pure] at cx ⊢;exact cx
 obtain ⟨val,cx,en⟩:=CK;refine ⟨val,w,s,p,_,?_,.refl w p,.refl s w p,aF.wf,⟨rfl,rfl⟩,en⟩;unfold execOp;rw [ag];simp only [dQ,eO];exact fU cx
theorem CL {w:World} {p:bN} (b6:c0 w p s) {b:Nat} {es:List (ad×ad)} (aw:s b=some (.map es)) {mes':Array MapEntry} {clock':Nat} {c5:List (ad×ad)}
    (az:kl w p mes'.toList c5) (an:∀ e∈mes'.toList,e.born<clock') (eT:(mes'.toList.map (·.born)).Nodup)
    (w':World) (hS:w'={ w with heap:=w.heap.setIfInBounds b (.map mes' clock') }) :
    cV w p w' p∧Kept s (s.set b (.map c5)) w p w' p∧c0 w' p (s.set b (.map c5)):=by
  subst hS;obtain ⟨cw,clock,U,ae,al,bl⟩:=b6.obj _ _ aw;have aG:b<w.heap.size:=(Array.getElem?_eq_some_iff.1 U).1;have dz:(w.heap.setIfInBounds b (.map mes' clock'))[b]? = some (.map mes' clock'):=by simp [Array.getElem?_setIfInBounds,aG]
  have gX:∀ k,k≠b→(w.heap.setIfInBounds b (.map mes' clock'))[k]? = w.heap[k]? := fun k aD=>by
    rw [Array.getElem?_setIfInBounds,if_neg (fun e=>aD e.symm)]
  have hle:cV w p { w with heap:=w.heap.setIfInBounds b (.map mes' clock') } p:=by
    refine ⟨rfl,rfl,rfl,by simp,fun _ _ h=>h,fun aT o aN=>?_,fun aT x ab=>?_⟩
    · by_cases e:aT=b
      · subst e;simp only [World.cell?,U,dz]
      · exact vn (gX aT e)
    · by_cases e:aT=b
      · subst e;simp [World.jF,U] at ab
      · rw [vm (gX aT e)];exact ab
  refine ⟨hle,⟨fun aT an aC=>gX aT (fun e=>by rw [e,aw] at aC;simp at aC),fun aT an aC=>by
    rw [aj.e5]
    · exact aC
    · intro e;rw [e,aw] at aC;simp at aC,fun _ _ _ _ h=>h⟩,?_,fun aT o aN=>by simpa using b6.lt aT o aN⟩
  intro aT o' mD;by_cases e:aT=b
  · subst e
    rw [aj.fu] at mD;cases mD;exact ⟨mes',clock',dz,⟨az.1.mono hle,az.2.mono hle⟩,an,eT⟩
  · rw [aj.e5 _ _ e] at mD
    have ag:=b6.obj aT o' mD;have c':=gX aT e;cases o' with
    | box t c=>obtain ⟨us,g1,g2,g3⟩:=ag;exact ⟨us,c'.trans g1,g2.mono hle,g3⟩
    | row t sz n=>obtain ⟨cur,g1,g2,g3,g4⟩:=ag;exact ⟨cur,c'.trans g1,g2,g3,g4⟩
    | map es=>obtain ⟨cw,c,g1,g2,g3⟩:=ag;exact ⟨cw,c,c'.trans g1,⟨g2.1.mono hle,g2.2.mono hle⟩,g3⟩
    | j2 es it l c=>exact ag.oO hle c' (gX it (ag.xd U bn))
    | tick m=>obtain ⟨eJ,a2,a3,g1⟩:=ag;exact ⟨eJ,a2,a3,c'.trans g1⟩
    | loop r env=>exact ⟨c'.trans ag.1,fun t v h=>(ag.2 t v h).mono hle⟩
theorem M' {t ds ew:TypeId} {vy:TypeDesc} {b:Nat} {cw:Array MapEntry} {clock:Nat} {gL vv:Value} {k:ad} {w:World} {p:bN}
  (ae:P.underlying t=some (.map ds ew)) (hG:P.underlying ds=some vy) (jr:Rel w p gL k) (ba:iZ (dP vy) k=true) (g1:w.heap[b]? = some (.map cw clock)) :
  (∀ (h:Instr.findNow vy gL cw.toList 0=some none),(Instr.mapUpdate t (.map (some b)) gL vv).run P w = .ok () { w with heap:=w.heap.setIfInBounds b (.map (cw.push { key:=gL,val:=vv,born:=clock }) (clock+1)) }) ∧
  (∀ j val e,Instr.findNow vy gL cw.toList 0=some (some (j,val))→cw[j]? = some e→Instr.sameBits 10000 e.key gL=true →
   (Instr.mapUpdate t (.map (some b)) gL vv).run P w = .ok () { w with heap:=w.heap.setIfInBounds b (.map (cw.modify j fun e=>{ e with key:=gL,val:=vv }) clock) }):=by
 constructor
 ·intro h
  unfold Instr.mapUpdate;simp only [Sem.run_bind,run_underlying ae,Result.andThen_ok,vx g1 C,run_checkKey hG jr ba,run_findKey hG h];simp [setObj,Sem.run,g1]
 ·intro j val e h he an
  unfold Instr.mapUpdate;simp only [Sem.run_bind,run_underlying ae,Result.andThen_ok,vx g1 C,run_checkKey hG jr ba,run_findKey hG h];simp [Instr.keyThatStays,he,an,setObj,Sem.run,g1]
theorem aU.mapUpdate (aO:bL P Γ) {o:Oper} {t ds ew:TypeId} {x y z:Operand} {it fN:bJ} {b:Nat} {es c5:List (ad×ad)} {k v:ad} (ag:o.op = .mapUpdate t x y z∨o.op = .insert t x y z)
    (aK:Γ.get? t=some it) (bo:it.bz = .map ds ew) (ie:Γ.get? ds=some fN) (ab:aJ env x=some (.map b)) (ay:aJ env y=some k) (bE:aJ env z=some v)
    (aw:s b=some (.map es)) (ba:iZ fN.bz k=true) (aN:kn es k v=some c5) {X:ad→aj→Prop} :
    aU P N o env s (fun _ ah=>ah=s.set b (.map c5)) X:=by
  refine aU.CE (by rcases ag with ag|ag<;>simp [fM,ag]) fun ro B a w p aF=>?_
  obtain ⟨info,d,U,ae,al,-⟩:=aO.parts aK;obtain ⟨M6,vy,kV,hG,tv,-⟩:=aO.parts ie;have ar:d = .map ds ew:=by rw [bo] at al;cases d<;>simp [dP] at al;rw [al.1,al.2]
  subst ar;rw [← tv] at ba;have az:=aF.aJ ab;have jr:=aF.aJ ay;have CM:=aF.aJ bE;obtain ⟨cw,clock,g1,g2,g3,g4⟩:=aF.wf.obj _ _ aw;generalize dQ:a.eval x=dr at az;cases az;obtain ⟨eE,e9⟩:=M' (vv:=a.eval z) ae hG jr ba g1;have cx:∀ w',(Instr.mapUpdate t (.map (some b)) (a.eval y) (a.eval z)).run P w = .ok () w'→(execOp a.eval o).run P w = .ok .skip w':=by
    intro w' hw;unfold execOp;rcases ag with ag|ag<;>rw [ag]<;>simp only [dQ]<;>simp only [Sem.run_bind,hw,Result.andThen_ok,Sem.run_pure]
  rcases M5 jr CM ba cw.toList es c5 0 g2 aN with ⟨dD,c1⟩|⟨j,val,e,dD,c1,dn,lq⟩
  · obtain ⟨cz,dj,ft⟩:=CL aF.wf aw (mes':=cw.push { key:=a.eval y,val:=a.eval z,born:=clock }) (clock':=clock+1) (by simpa using c1 clock)
      (by intro e he;simp only [Array.toList_push,List.mem_append,List.mem_singleton] at he;rcases he with he|rfl;have:=g3 e he;omega;simp)
      (by
        simp only [Array.toList_push,List.map_append,List.map_cons,List.map_nil]
        rw [List.nodup_append]
        refine ⟨g4,by simp,?_⟩
        intro x ab y ay e
        simp only [List.mem_singleton] at ay
        obtain ⟨m,hm,rfl⟩:=List.mem_map.1 ab
        have:=g3 m hm
        omega) _ C
    exact ⟨_,_,p,cx _ (eE dD),cz,dj,ft,rfl⟩
  · rw [Nat.zero_add] at dD
    have tw:((cw.modify j fun e=>{ e with key:=a.eval y,val:=a.eval z }).toList.map (·.born))=cw.toList.map (·.born):=by
      rw [Array.toList_modify];apply List.ext_getElem?;intro n;simp only [List.getElem?_map,List.getElem?_modify];split
      · cases cw.toList[n]? <;> rfl
      · cases cw.toList[n]? <;> rfl
    obtain ⟨cz,dj,ft⟩:=CL aF.wf aw (mes':=cw.modify j fun e=>{ e with key:=a.eval y,val:=a.eval z }) (clock':=clock) (by simpa using lq)
      (by
        intro e he
        have:e.born∈((cw.modify j fun e=>{ e with key:=a.eval y,val:=a.eval z }).toList.map (·.born)):=List.mem_map.2 ⟨e,he,rfl⟩
        rw [tw] at this
        obtain ⟨e',te,an⟩:=List.mem_map.1 this
        rw [← an];exact g3 e' te)
      (by rw [tw];exact g4) _ C
    exact ⟨_,_,p,cx _ (e9 j val e dD (by simpa using c1) dn),cz,dj,ft,rfl⟩
theorem aU.makeMap {o:Oper} {t:TypeId} (ag:o.op = .makeMap t none) {X:ad→aj→Prop}:aU P N o env s (fun x ah=>∃ b,s b=none∧x = .map b∧ah=s.set b (.map [])) X:=by
 refine aU.jo (by simp [fM,ag]) fun ro B a w p aF=>?_
 obtain ⟨aC,hle,aD,b6⟩:=pP aF.wf (.map #[] 0) (.map []) (fun w' hS az gq=>⟨#[],0,hS,⟨.nil,.nil⟩,by simp,by simp⟩);refine ⟨.map (some w.heap.size),_,_,p,_,?_,hle,aD,b6,⟨w.heap.size,aC,rfl,rfl⟩,.map _⟩;unfold execOp;rw [ag];exact fU C
end
end Go.bj
namespace Go.bj
theorem tx {vs:List Value} {sz:Nat} (h:∀ v∈vs,v.cells.size=sz):(flat vs).length=vs.length*sz:=by
 induction vs with
 | nil=>simp [flat]
 | cons v vs a'=>
  have fs:=a' (fun u hu=>h u (List.mem_cons_of_mem _ hu));simp only [flat,List.flatMap_cons,List.length_append,Array.length_toList,List.length_cons] at fs ⊢;rw [h v (List.mem_cons_self ..)];have Na:(List.flatMap (fun v=>v.cells.toList) vs).length=vs.length*sz:=fs;rw [Na,Nat.add_mul];omega
theorem CN (vs us:List Value):flat (vs++us)=flat vs++flat us:=by simp [flat,List.flatMap_append]
theorem Nb {w:World} {p:bN} {s:aj} (b6:c0 w p s) {vs:List Value} {xs:List ad} {sz cap:Nat} {e:TypeId} {cur:Array Value} (az:bO w p vs xs)
    (aw:∀ v∈vs,v.cells.size=sz) (ng:cur.size=cap*sz) (tz:cur.toList.take (xs.length*sz)=flat vs) (jt:xs.length≤cap) (hm:xs.length≤9223372036854775807) :
    ∃ bb,s w.heap.size=none∧cV w p (w.drew.alloc (.cells cur e)) bb∧Kept s (s.set w.heap.size (.row e sz xs.length)) w p (w.drew.alloc (.cells cur e)) bb ∧
      c0 (w.drew.alloc (.cells cur e)) bb (s.set w.heap.size (.row e sz xs.length))∧Rel (w.drew.alloc (.cells cur e)) bb (.slice (some ⟨w.heap.size,0,none⟩) xs.length cap) (.aA sz xs (.own w.heap.size)):=by
  have aC:s w.heap.size=none:=by
    cases h:s w.heap.size with
    | none=>rfl
    | some o'=>exact absurd (b6.obj _ _ h).lt ai
  let bb:bN:=fun b o=>p b o∨(b=w.heap.size∧o<xs.length*sz)
  have nh:(w.drew.alloc (.cells cur e)).heap[w.heap.size]? = some (.cells cur e):=r2 w.drew _;have hold:∀ b,b<w.heap.size→(w.drew.alloc (.cells cur e)).heap[b]? = w.heap[b]? := fun b an=>kU w.drew _ b an
  have hle:cV w p (w.drew.alloc (.cells cur e)) bb:=cV.of_heap C C C bn (fun _ _ h => .inl h) b6.lt hold;have hlen:=tx aw;have hmul:xs.length*sz≤cap*sz:=Nat.mul_le_mul_right _ jt;refine ⟨bb,aC,hle,⟨fun b an _=>hold b an,fun b an aw=>by rw [aj.e5 _ _ ai];exact aw,fun b o an _ aN=>by rcases aN with aN|⟨rfl,_⟩;exact aN;omega⟩,?_,?_⟩
  · have ao:c0 (w.drew.alloc (.cells cur e)) bb s:=b6.grow hle hold (fun b o an aN=>by rcases aN with aN|⟨rfl,_⟩;exact aN;omega) (fun b o aN=>by
      rcases aN with aN|⟨rfl,_⟩
      · have:=b6.lt b o aN;simp;omega
      · simp)
    refine ⟨fun b o an=>?_,ao.lt⟩;by_cases e':b=w.heap.size
    · subst e'
      rw [aj.fu] at an;cases an;refine ⟨cur,nh,by omega,⟨cap,ng⟩,fun o=>⟨fun aN=>?_,fun ag => .inr ⟨rfl,ag⟩⟩⟩;rcases aN with aN|⟨_,ag⟩
      · exact absurd (b6.lt _ _ aN) ai
      · exact ag
    · rw [aj.e5 _ _ e'] at an;exact ao.obj b o an
  · refine .aA _ 0 _ _ _ vs _ _ bn rfl ?_ (az.mono hle) aw hm jt (fun h=>by cases h) (fun b an=>?_)
    · intro i v av
      have aY:i<xs.length*sz:=by
        have:=(List.getElem?_eq_some_iff.1 av).1;rw [hlen,az.length] at this;exact this
      refine ⟨.inr ⟨rfl,by omega⟩,?_⟩;rw [Nat.zero_add,iz nh];rw [← tz,List.getElem?_take,if_pos aY] at av;simpa using av
    · cases an
      exact ⟨rfl,rfl,e,by simp only [World.jF,nh,ng]⟩
theorem Nc {w:World} {p:bN} {s:aj} (b6:c0 w p s) {b:Nat} {e:TypeId} {sz n cap:Nat} (tA:s b=some (.row e sz n)) {cur:Array Value} (iy:w.heap[b]? = some (.cells cur e (0,0)))
  (ng:cur.size=cap*sz) {vs us:List Value} {xs ys:List ad} (aC:n=xs.length) (az:bO w p vs xs) (hu:bO w p us ys) (aw:∀ v∈vs,v.cells.size=sz) (lr:∀ v∈us,v.cells.size=sz)
  (tz:cur.toList.take (n*sz)=flat vs) (jt:n+us.length≤cap) (hm:n+us.length≤9223372036854775807) :
  ∃ bb,cV w p (w.setRow b (cur.toList.take (n*sz)++flat us++cur.toList.drop (n*sz+(flat us).length)).toArray) bb ∧
   Kept s ((s.del b).set b (.row e sz (n+us.length))) w p (w.setRow b (cur.toList.take (n*sz)++flat us++cur.toList.drop (n*sz+(flat us).length)).toArray) bb ∧
   c0 (w.setRow b (cur.toList.take (n*sz)++flat us++cur.toList.drop (n*sz+(flat us).length)).toArray) bb ((s.del b).set b (.row e sz (n+us.length))) ∧
   Rel (w.setRow b (cur.toList.take (n*sz)++flat us++cur.toList.drop (n*sz+(flat us).length)).toArray) bb (.slice (some ⟨b,0,none⟩) (n+us.length) cap) (.aA sz (xs++ys) (.own b)):=by
 obtain ⟨WR,U,ae,al,bl⟩:=b6.obj _ _ tA;rw [iy] at U;cases U;have ju:=tx lr;have fa:=tx aw;have hmul:n*sz+us.length*sz≤cap*sz:=by rw [← Nat.add_mul];exact Nat.mul_le_mul_right _ jt
 generalize xq:(cur.toList.take (n*sz)++flat us++cur.toList.drop (n*sz+(flat us).length)).toArray=new;have nV:new.toList=cur.toList.take (n*sz)++flat us++cur.toList.drop (n*sz+(flat us).length):=by rw [← xq]
 have cE:cur.toList.length=cap*sz:=by rw [Array.length_toList,ng]
 have z1:new.size=cur.size:=by rw [← Array.length_toList,nV];simp only [List.length_append,List.length_take,List.length_drop,ju,cE,ng];omega
 have aG:b<w.heap.size:=(Array.getElem?_eq_some_iff.1 iy).1;have dz:=setRow_heap w b cur new e (0,0) iy;have gX:∀ k,k≠b→(w.setRow b new).heap[k]? = w.heap[k]? := fun k aD=>setRow_other w b k new aD
 have nW:∀ o,o<n*sz→new[o]? = cur[o]? := fun o ag=>by
  have:new.toList[o]? = cur.toList[o]?:=by
   rw [nV,List.append_assoc,List.getElem?_append_left vh,List.getElem?_take,if_pos ag]
  simpa using this
 let bb:bN:=fun aT o=>p aT o∨(aT=b∧o<(n+us.length)*sz)
 have hle:cV w p (w.setRow b new) bb:=by
  refine ⟨rfl,rfl,rfl,by simp,fun _ _ h => .inl h,fun aT o aN=>?_,fun aT x ab=>?_⟩
  ·by_cases e':aT=b
   ·subst e'
    rw [iz dz,iz iy];exact nW o ((bl o).1 aN)
   ·exact vn (gX aT e')
  ·by_cases e':aT=b
   ·subst e'
    simp only [World.jF,iy,dz] at ab ⊢;rw [z1];exact ab
   ·rw [vm (gX aT e')];exact ab
 refine ⟨bb,hle,⟨fun aT an aC=>gX aT (fun e'=>by rw [e',tA] at aC;simp at aC),fun aT an aC=>?_,fun aT o an aC aN=>?_⟩,⟨fun aT o' mD=>?_,fun aT o aN=>?_⟩,?_⟩
 ·have cB:aT≠b:=fun e'=>by rw [e',tA] at aC;simp at aC
  rw [aj.e5 _ _ cB,aj.lp _ cB];exact aC
 ·rcases aN with aN|⟨e',_⟩
  ·exact aN
  ·rw [e',tA] at aC;simp at aC
 ·by_cases e':aT=b
  ·subst e'
   rw [aj.fu] at mD;cases mD;refine ⟨new,dz,by rw [z1,ng,Nat.add_mul];omega,⟨cap,by rw [z1,ng]⟩,fun o=>⟨fun aN=>?_,fun ag => .inr ⟨rfl,ag⟩⟩⟩;rcases aN with aN|⟨_,ag⟩
   ·have:=(bl o).1 aN;rw [Nat.add_mul];omega
   ·exact ag
  ·rw [aj.e5 _ _ e',aj.lp _ e'] at mD
   have ag:=b6.obj aT o' mD;have c':=gX aT e';have GJ:∀ o,bb aT o↔p aT o:=fun o=>⟨fun aN=>by rcases aN with aN|⟨Nd,_⟩;exact aN;exact absurd Nd e',.inl⟩
   cases o' with
   | box t c=>obtain ⟨us,g1,g2,g3⟩:=ag;exact ⟨us,c'.trans g1,g2.mono hle,fun o aN=>g3 o ((GJ o).1 aN)⟩
   | row t sz n=>obtain ⟨cur,g1,g2,g3,g4⟩:=ag;exact ⟨cur,c'.trans g1,g2,g3,fun o=>(GJ o).trans (g4 o)⟩
   | map es=>obtain ⟨cw,c,g1,g2,g3⟩:=ag;exact ⟨cw,c,c'.trans g1,⟨g2.1.mono hle,g2.2.mono hle⟩,g3⟩
   | j2 es it l c=>exact ag.oO hle c' (gX it (ag.xd iy bn))
   | tick m=>obtain ⟨eJ,a2,a3,g1⟩:=ag;exact ⟨eJ,a2,a3,c'.trans g1⟩
   | loop r env=>exact ⟨c'.trans ag.1,fun t v h=>(ag.2 t v h).mono hle⟩
 ·rcases aN with aN|⟨rfl,_⟩
  ·simpa using b6.lt aT o aN
  ·simpa using aG
 ·have jI:(xs++ys).length=n+us.length:=by rw [List.length_append,aC,hu.length]
  refine .aA _ 0 _ _ _ (vs++us) _ _ bn jI.symm ?_ ((az.append hu).mono hle) (fun v av=>?_) hm jt (fun h=>by cases h) (fun xr pN=>?_)
  ·intro i v av
   have jm:flat (vs++us)=new.toList.take ((n+us.length)*sz):=by
    rw [CN,nV,← tz,Nat.add_mul,← ju];have:n*sz+(flat us).length=(cur.toList.take (n*sz)++flat us).length:=by rw [List.length_append,List.length_take,cE];omega
    rw [this,List.take_left]
   have aY:i<(n+us.length)*sz:=by
    have:=(List.getElem?_eq_some_iff.1 av).1;rw [jm,List.length_take] at this;omega
   refine ⟨.inr ⟨rfl,by omega⟩,?_⟩;rw [Nat.zero_add,iz dz];rw [jm,List.getElem?_take,if_pos aY] at av;simpa using av
  ·rcases List.mem_append.1 av with av|av
   ·exact aw v av
   ·exact lr v av
  ·cases pN
   exact ⟨rfl,rfl,e,by simp only [World.jF,dz,z1,ng]⟩
section
variable {P:Program} {Γ:cg} {N:Nat} {env:Env} {s:aj}
theorem z6 {t bG ty e:TypeId} {cM:TypeDesc} {i:TypeInfo} (w:World) (aK:P.underlying t=some (.slice e)) (cS:P.underlying bG=some cM) (cb:∀ k,cM ≠ .int k) (aY:P.info? e=some i)
  (g sLen sCap:Nat) (cur:Array Value) (ao:w.heap[g]? = some (.cells cur e (0,0))) {xv:Value} {m:Nat} {news:List Value}
  (aI:(Builtin.lenOf xv).run P w = .ok m w) (ba:(Builtin.firstCells i.size m xv).run P w = .ok news.toArray w) (U:∀ u∈news,u.oneCell'=true)
  (Nf:sLen+m≤sCap) (eU:sLen*i.size+news.length≤cur.size) :
  (Builtin.append_ #[t,bG] ty #[.slice (some ⟨g,0,none⟩) sLen sCap,xv]).run P w =
   .ok (.slice (some ⟨g,0,none⟩) (sLen+m) sCap) (w.setRow g (cur.toList.take (sLen*i.size)++news++cur.toList.drop (sLen*i.size+news.length)).toArray):=by
 have aF:=run_storeCells_at P g (sLen*i.size) e news 0 cur w ao (by simpa using eU) U;simp only [Nat.add_zero] at aF;have bE:(match cM with | .int _=>true|_=>false)=false:=by cases cM<;>first|rfl|exact absurd C (cb _)
 simp [Builtin.append_,run_underlying aK,run_underlying cS,sizeOf,typeInfo,aY,bE,aI,Nf,ba,Addr.add_lit,aF]
theorem xt {t bG ty e:TypeId} {cM:TypeDesc} {i:TypeInfo} {z:Value} (w:World) (aK:P.underlying t=some (.slice e)) (cS:P.underlying bG=some cM) (cb:∀ k,cM ≠ .int k) (aY:P.info? e=some i) (bE:i.zero=some z)
  {base:Option Addr} {sLen sCap:Nat} {xv:Value} {m:Nat} {olds news:List Value}
  (aI:(Builtin.lenOf xv).run P w = .ok m w) (qY:(Builtin.firstCells i.size sLen (.slice base sLen sCap)).run P w.drew = .ok olds.toArray w.drew) (ba:(Builtin.firstCells i.size m xv).run P w.drew = .ok news.toArray w.drew)
  (ao:sCap<sLen+m) (dY:((sLen+m:Nat):Int)≤9223372036854775807) (eU:Builtin.nextslicecap (sLen+m) sCap*i.bytes≤281474976710656) :
  (Builtin.append_ #[t,bG] ty #[.slice base sLen sCap,xv]).run P w =
   .ok (.slice (some ⟨w.heap.size,0,none⟩) (sLen+m) (grownCap w (sLen+m) sCap e))
    (w.drew.alloc (.cells (olds++news++(Builtin.zeroCells z.cells (grownCap w (sLen+m) sCap e-(sLen+m))).toList).toArray e)):=by
 have aC:¬ (sLen+m≤sCap):=by omega
 have Ng:¬ (9223372036854775807<((sLen:Int)+(m:Int))):=by omega
 have Nh:¬ (281474976710656<Builtin.nextslicecap (sLen+m) sCap*i.bytes):=by omega
 have qZ:(match cM with | .int _=>true|_=>false)=false:=by cases cM<;>first|rfl|exact absurd C (cb _)
 simp [Builtin.append_,run_underlying aK,run_underlying cS,sizeOf,typeInfo,zeroValue,aY,bE,qZ,aI,aC,Ng,Nh,Question.forced,ba,qY,newRow,grownCap];congr 2;apply Array.ext';simp [List.append_assoc]
def jv (sz:Nat) (x:ad):Bool:=match cellsOf x with
 | some cs=>Nat.beq cs.length sz&&cs.all eN
 | none=>false
theorem Ni {w:World} {p:bN} {sz:Nat}:∀ {vs:List Value} {xs:List ad},bO w p vs xs→(∀ x∈xs,jv sz x=true)→∀ u∈flat vs,u.oneCell'=true:=by
 intro vs
 induction vs with
 | nil=>intro xs _ _ u hu;simp [flat] at hu
 | cons v vs a'=>
  intro xs h ab u hu;cases h with
  | cons _ x _ xs az aK=>
  simp only [flat,List.flatMap_cons,List.mem_append] at hu;rcases hu with hu|hu
  ·have:=ab x (List.mem_cons_self ..)
   unfold jv at this;split at this
   ·rename_i cs gJ
    simp only [Bool.and_eq_true] at this;exact oT (oP az gJ) this.2 u hu
   ·cases this
  ·exact a' aK (fun y ay=>ab y (List.mem_cons_of_mem _ ay)) u hu
theorem oV {w:World} {p:bN} {v:Value} {sz sz':Nat} {xs:List ad} {own:bU} (h:Rel w p v (.aA sz xs own)) (b7:xs=[]∨sz=sz') :
  ∃ vs,bO w p vs xs∧(∀ u∈vs,u.cells.size=sz')∧(∀ P,(Builtin.lenOf v).run P w = .ok xs.length w) ∧
   (∀ P (w':World),(∀ b o,p b o→w'.cell? ⟨b,o,none⟩=w.cell? ⟨b,o,none⟩)→(Builtin.firstCells sz' xs.length v).run P w' = .ok (flat vs).toArray w') ∧
   ∃ base cap,v = .slice base xs.length cap:=by
 cases h with
 | gU _ _ _=>exact ⟨[],.nil,by simp,fun P=>rfl,fun P w' _=>rfl,_,_,rfl⟩
 | hE a _ _ _=>exact ⟨[],.nil,by simp,fun P=>rfl,fun P w' _=>run_firstCells_some w' sz' 0 a _ _ [] bn bn,_,_,rfl⟩
 | aA g off n cap _ vs _ _ aC aI aE az aw hm aD cE ag=>
  have mE:∀ u∈vs,u.cells.size=sz':=by
   rcases b7 with rfl|rfl
   ·have:vs=[]:=List.eq_nil_of_length_eq_zero (by rw [az.length];rfl)
    subst this;simp
   ·exact aw
  subst aI;refine ⟨vs,az,mE,fun P=>rfl,fun P w' hS=>?_,_,_,rfl⟩;refine run_firstCells_some w' sz' xs.length ⟨g,off,none⟩ _ _ (flat vs) (by rw [tx mE,az.length]) ?_;intro j u hu;obtain ⟨U,ae⟩:=aE j u hu;rw [j4,hS _ _ U];exact ae
theorem aU.append (aO:bL P Γ) {o:Oper} {t bG e:TypeId} {x y:Operand} {it cp aB:bJ} {dL bV:Nat} {xs ys:List ad} {pQ dh:bU}
    (ag:o.op = .call { callee := .builtin .append,args := #[x,y],argTypes := #[t,bG] }) (aK:Γ.get? t=some it) (bo:it.bz = .aA e) (cS:Γ.get? bG=some cp) (dp:∀ k,cp.bz ≠ .int k)
    (bF:Γ.get? e=some aB) (ab:aJ env x=some (.aA dL xs pQ)) (ay:aJ env y=some (.aA bV ys dh)) (fI:xs=[]∨dL=aB.size) (cY:ys=[]∨bV=aB.size)
    (dJ:Nat.beq aB.zero.cells.size aB.size=true) (dB:∀ y∈ys,jv aB.size y=true) (an:(xs.length+ys.length)*aB.bytes≤140737488355328) (dY:xs.length+ys.length≤9223372036854775807)
    (xu:(pQ = .nil∨pQ = .clip)∨∃ b,pQ = .own b∧dL=aB.size∧s b=some (.row e aB.size xs.length)) {X:ad→aj→Prop} :
    aU P N o env s (fun r ah=>(ys=[]∧(pQ = .nil∨pQ = .clip)∧r = .aA aB.size xs pQ∧ah=s) ∨
      (∃ s₁,(s₁=s∨∃ b,pQ = .own b∧s₁=s.del b)∧∃ b,s₁ b=none∧r = .aA aB.size (xs++ys) (.own b)∧ah=s₁.set b (.row e aB.size (xs.length+ys.length)))) X:=by
  refine aU.jo (by simp [fM,ag]) fun ro B a w p aF=>?_
  obtain ⟨info,d,U,ae,al,-⟩:=aO.parts aK;obtain ⟨ln,cM,g1,g2,g3,-⟩:=aO.parts cS;obtain ⟨iH,jq,cz,dj,ft,ej,kW,kX⟩:=aO.parts bF;have ar:d = .slice e:=by rw [bo] at al;cases d<;>simp [dP] at al;rw [al]
  subst ar;have cb:∀ k,cM ≠ .int k:=fun k e'=>by subst e';exact dp k g3.symm
  have fw:=aF.aJ ab;have eV:=aF.aJ ay;have ei:∀ val w',(Builtin.append_ #[t,bG] o.type #[a.eval x,a.eval y]).run P w = .ok val w'→(execOp a.eval o).run P w = .ok (.value val) w':=by
    intro val w' h;unfold execOp;rw [ag];simp only [resolve,invoke,builtin,Sem.run_bind,Sem.run_pure,Result.andThen_ok,List.map_toArray,List.map_cons,List.map_nil,h]
  generalize dQ:a.eval x=dr at fw ei;generalize eO:a.eval y=fp at eV ei;obtain ⟨us,hs,nX,iI,i',q0,q1,q2⟩:=oV eV cY;obtain ⟨vs,q3,nY,WS,GK,xw,nZ,q4⟩:=oV fw fI;have gz:=Ni hs dB;have nd:=Nat.eq_of_beq_eq_true dJ;have CO:=tx nX;have GL:=tx nY;have lu:=hs.length;have pR:=q3.length;have GM:∀ s₁:aj,(s₁=s∨∃ b,pQ = .own b∧s₁=s.del b)→nZ<xs.length+ys.length →
      ∃ val w' ah bb mB,(Builtin.append_ #[t,bG] o.type #[dr,fp]).run P w = .ok val w'∧cV w p w' bb∧Kept s ah w p w' bb∧c0 w' bb ah ∧
        (∃ b,s₁ b=none∧mB = .aA aB.size (xs++ys) (.own b)∧ah=s₁.set b (.row e aB.size (xs.length+ys.length)))∧Rel w' bb val mB:=by
    intro s₁ xx aG;have gH:aj.Sub s₁ s:=by
      rcases xx with rfl|⟨b,-,rfl⟩
      · exact aj.nf _
      · intro aT;by_cases e':aT=b
        · subst e';exact .inr (aj.l5 _ _)
        · exact .inl (aj.lp _ e')
    have eU:=growslice_fits (need:=xs.length+ys.length) (old:=nZ) (bytes:=aB.bytes) aG an;have cx:=xt (ty:=o.type) w ae g2 cb cz kX (base:=xw) (sLen:=xs.length) (sCap:=nZ) (m:=ys.length) (olds:=flat vs) (news:=flat us) (iI P)
      (by rw [← q4,ej];exact GK P w.drew (fun _ _ _=>rfl)) (by rw [ej];exact i' P w.drew (fun _ _ _=>rfl)) aG ai (by rw [kW];exact eU)
    rw [← q4] at cx;have l7:=Nat.le_trans (show xs.length+ys.length≤xs.length+ys.length from Nat.le_refl _) (show xs.length+ys.length≤grownCap w (xs.length+ys.length) nZ e from by simp [grownCap,Question.cut]);have lv:(Builtin.zeroCells aB.zero.cells (grownCap w (xs.length+ys.length) nZ e-(xs.length+ys.length))).toList.length=(grownCap w (xs.length+ys.length) nZ e-(xs.length+ys.length))*aB.zero.cells.size:=by
      rw [Array.length_toList];simp [Builtin.zeroCells]
    rw [nd] at lv;have z7:(xs++ys).length=xs.length+ys.length:=List.length_append;obtain ⟨bb,dD,c1,dn,lq,q5⟩:=Nb (s:=s₁) (aF.wf.sub gH) (vs:=vs++us) (xs:=xs++ys) (sz:=aB.size) (cap:=grownCap w (xs.length+ys.length) nZ e) (e:=e)
      (cur:=(flat vs++flat us++(Builtin.zeroCells aB.zero.cells (grownCap w (xs.length+ys.length) nZ e-(xs.length+ys.length))).toList).toArray) (q3.append hs)
      (fun v av=>by rcases List.mem_append.1 av with av|av;exact nY v av;exact nX v av)
      (by
        simp only [List.size_toArray,List.length_append,GL,CO,lv,pR,lu,← Nat.add_mul]
        congr 1;omega)
      (by
        have:(xs++ys).length*aB.size=(flat vs++flat us).length:=by rw [z7,List.length_append,GL,CO,pR,lu,Nat.add_mul]
        rw [this,CN];simp only [List.take_left])
      (by rw [z7];exact l7) (by rw [z7];exact dY)
    rw [z7] at dn lq q5;exact ⟨_,_,_,bb,_,cx,c1,dn.vl gH,lq,⟨w.heap.size,dD,rfl,rfl⟩,q5⟩
  rcases xu with xu|⟨b,rfl,Nj,tA⟩
  · by_cases aG:nZ<xs.length+ys.length
    · obtain ⟨val,w',ah,bb,mB,eE,e9,fH,h2,kY,kZ⟩:=GM s (.inl rfl) aG
      exact ⟨val,w',ah,bb,mB,ei _ _ eE,e9,fH,h2,.inr ⟨s,.inl C,kY⟩,kZ⟩
    ·
      have jt:nZ=xs.length:=by
        cases fw with
        | gU=>simp at q4;omega
        | hE=>simp at q4;omega
        | aA g off n cap _ vs' _ _ aC aI aE az aw hm aD cE ag=>
          simp only [Value.slice.injEq] at q4;rcases xu with rfl|rfl
          · exact absurd C aC
          · rw [← q4.2.2,cE C,aI]
      have vq:ys=[]:=List.eq_nil_of_length_eq_zero ai;subst vq;have zX:us=[]:=List.eq_nil_of_length_eq_zero (by simpa using lu);subst zX;refine ⟨dr,w,s,p,.aA aB.size xs pQ,ei _ _ ?_,.refl w p,.refl s w p,aF.wf,.inl ⟨rfl,xu,rfl,rfl⟩,?_⟩
      · have bE:(match cM with | .int _=>true|_=>false)=false:=by cases cM<;>first|rfl|exact absurd C (cb _)
        have hle:xs.length≤nZ:=by omega
        have q6:=i' P w (fun _ _ _=>rfl);simp only [List.length_nil] at q6 iI;have pS:=iI P;rw [q4];cases xw with
        | none=>simp [Builtin.append_,run_underlying ae,run_underlying g2,sizeOf,typeInfo,cz,bE,pS,ej,q6,hle,flat]
        | some WT=>simp [Builtin.append_,run_underlying ae,run_underlying g2,sizeOf,typeInfo,cz,bE,pS,ej,q6,hle,flat,storeCells]
      · rcases fI with rfl|rfl
        · cases fw with
          | gU _ _ h=>exact .gU _ _ h
          | hE a _ _ h=>exact .hE a _ _ h
          | aA g off n cap _ vs' _ _ aC aI aE az aw hm aD cE ag=>
            have:vs'=[]:=List.eq_nil_of_length_eq_zero (by rw [az.length];rfl);subst this;exact .aA g off n cap _ [] _ _ aC aI aE az bn hm aD cE (fun b an=>by rcases xu with rfl|rfl<;>cases an)
        · exact fw
  · by_cases aG:nZ<xs.length+ys.length
    · obtain ⟨val,w',ah,bb,mB,eE,e9,fH,h2,kY,kZ⟩:=GM (s.del b) (.inr ⟨b,rfl,rfl⟩) aG
      exact ⟨val,w',ah,bb,mB,ei _ _ eE,e9,fH,h2,.inr ⟨_,.inr ⟨b,rfl,rfl⟩,kY⟩,kZ⟩
    · cases fw with
      | gU _ _ h=>exact absurd C (h b)
      | hE _ _ _ h=>rcases h with h|h<;>cases h
      | aA g off n cap _ vs' _ _ aC aI aE az aw hm aD cE ag=>
        obtain ⟨rfl,rfl,e',GN⟩:=ag b rfl;obtain ⟨cur,cr,cJ,⟨b',dW⟩,n0⟩:=aF.wf.obj _ _ tA;simp only [Value.slice.injEq] at q4;obtain ⟨rfl,-,rfl⟩:=q4;have ng:cur.size=cap*dL:=by
          simp only [World.jF,cr] at GN;simpa using congrArg Prod.snd (Option.some.inj GN)
        have CP:cur.size=cap*aB.size:=by rw [← Nj];exact ng
        have tz:cur.toList.take (xs.length*aB.size)=flat vs:=by
          have b8:=GK P w (fun _ _ _=>rfl);have bZ:=run_firstCells_some (P:=P) w aB.size xs.length ⟨b,0,none⟩ n cap (cur.toList.take (xs.length*aB.size))
            (by have cE:cur.toList.length=cap*aB.size:=by rw [Array.length_toList,CP]
                rw [List.length_take,cE];have:=Nat.mul_le_mul_right aB.size (show xs.length≤cap by omega);omega)
            (fun j u hu=>by
              rw [j4,Nat.zero_add,iz cr]
              rw [List.getElem?_take] at hu
              split at hu
              · simpa using hu
              · cases hu)
          rw [bZ] at b8;have:=Result.ok.inj b8;simpa using this.1
        have cx:=z6 (ty:=o.type) w ae g2 cb cz b xs.length cap cur cr (iI P) (by rw [ej];exact i' P w (fun _ _ _=>rfl)) gz ai (by rw [ej,CO,CP,lu,← Nat.add_mul];exact Nat.mul_le_mul_right _ ai);rw [ej] at cx;obtain ⟨bb,eE,e9,fH,h2⟩:=Nc aF.wf tA cr CP rfl q3 hs nY nX tz (by rw [lu];omega) (by rw [lu];exact dY);rw [lu] at e9 fH h2;subst aI;exact ⟨_,_,_,bb,_,ei _ _ cx,eE,e9,fH,.inr ⟨_,.inr ⟨_,rfl,rfl⟩,_,aj.l5 _ _,rfl,rfl⟩,h2⟩
end
end Go.bj
namespace Go.bj
inductive eb where
 | ret (v:ad)
 | panic (v:ad)
def Nk (w:World) (p:bN):Ending→eb→Prop
 | .returned v,.ret x=>Rel w p v x
 | .panicked da,.panic x=>∃ v,vj v da∧Rel w p v x
 | _,_=>False
def tB (s:aj) (w:World) (p:bN) (R:eb→aj→Prop) (e:Ending) (w':World):Prop:=
 ∃ o ah bb,Nk w' bb e o∧R o ah∧cV w p w' bb∧Kept s ah w p w' bb∧c0 w' bb ah
def gM (P:Program) (fv:ad) (args:List ad) (s:aj) (R:eb→aj→Prop):Prop:=
 ∀ w p v vs,c0 w p s→Rel w p v fv→bO w p vs args→nQ P ((do let d ← Deferred.ofValue v vs.toArray;invoke d.target d.args:Sem Next).run P w) (tB s w p R)
def aW (P:Program) (f:FuncId):Prop:=∀ args w,(callFunc f args).run P w = .ok (.enter f args) w
def gg (P:Program) (f:FuncId) (args:List ad) (s:aj) (R:eb→aj→Prop):Prop:=
 aW P f∧∀ w p vs,c0 w p s→bO w p vs args→qJ P f vs.toArray w (tB s w p R)
theorem aZ {P:Program} {f:FuncId} {fn:Func} (ba:P.funcs[f]? = some fn) (aC:(fn.name == "runtime.NumGoroutine")=false) (an:fn.body.isNone=false):aW P f:=by
 intro args w;unfold callFunc;simp only [Sem.run_bind,run_program,Result.andThen_ok,ba,aC,an,Bool.false_eq_true,if_false,Sem.run_pure]
theorem tB.mono {s:aj} {w:World} {p:bN} {R c4:eb→aj→Prop} (az:∀ o s,R o s→c4 o s) {e:Ending} {w':World} (h:tB s w p R e w'):tB s w p c4 e w' :=
 let ⟨o,ah,bb,U,ae,al⟩:=h;⟨o,ah,bb,U,az _ _ ae,al⟩
theorem gM.mono {P:Program} {fv:ad} {args:List ad} {s:aj} {R c4:eb→aj→Prop} (h:gM P fv args s R) (az:∀ o s,R o s→c4 o s):gM P fv args s c4 :=
 fun w p v vs U ae al=>(h w p v vs U ae al).mono fun _ _ q=>q.mono az
theorem gg.mono {P:Program} {f:FuncId} {args:List ad} {s:aj} {R c4:eb→aj→Prop} (h:gg P f args s R) (az:∀ o s,R o s→c4 o s):gg P f args s c4 :=
 ⟨h.1,fun w p vs U ae=>(h.2 w p vs U ae).mono fun _ _ q=>q.mono az⟩
theorem gM.eP {P:Program} {f:FuncId} {first cap args:List ad} {s:aj} {R:eb→aj→Prop} (h:gg P f (first++(args++cap)) s R):gM P (.func f first cap) args s R:=by
 intro w p v vs b6 av eh;cases av with
 | func _ as cs _ _ aV aE=>
 have cx:(do let d ← Deferred.ofValue (.func (.func f) as cs) vs.toArray;invoke d.target d.args:Sem Next).run P w = .ok (.enter f (as++vs.toArray++cs)) w:=by
  simp only [Deferred.ofValue,Sem.run_bind,Sem.run_pure,Result.andThen_ok,invoke];exact h.1 _ _
 rw [cx];have:=h.2 w p (as.toList++(vs++cs.toList)) b6 (aV.append (eh.append aE));have e:(as.toList++(vs++cs.toList)).toArray=as++vs.toArray++cs:=by apply Array.ext';simp
 rw [e] at this;exact this
section
variable {P:Program} {Γ:cg} {N:Nat} {env:Env} {s:aj}
theorem aU.call {o:Oper} {g:Operand} {as:Array Operand} {cP:Array TypeId} {fv:ad} {xs:List ad} {R:eb→aj→Prop}
  (ag:o.op = .call { callee := .value g,args:=as,argTypes:=cP }) (ao:aJ env g=some fv) (aV:fg env as.toList=some xs) (h:gM P fv xs s R) :
  aU P N o env s (fun x ah=>R (.ret x) ah) (fun x ah=>R (.panic x) ah):=by
 refine ⟨by simp [fM,ag],fun ro B a w p aF=>?_⟩;have cx:=h w p (a.eval g) (as.toList.map a.eval) aF.wf (aF.aJ ao) (zO aF aV);have he:execOp a.eval o=(do let d ← Deferred.ofValue (a.eval g) (as.toList.map a.eval).toArray;invoke d.target d.args:Sem Next):=by
  unfold execOp;rw [ag];simp only [resolve];congr 1;congr 1;apply Array.ext';simp
 rw [he];refine cx.mono ?_;rintro e w' ⟨out,ah,bb,U,ae,al,bl,bD⟩;refine ⟨ah,bb,al,bl,bD,?_⟩;cases e<;>cases out<;>first|exact U.elim|skip
 ·exact ⟨_,ae,U⟩
 ·obtain ⟨v,CQ,CR⟩:=U;exact ⟨v,_,CQ,ae,CR⟩
theorem e8.call {ops:Array Oper} {Q:b2→Env→aj→Prop} {i:Nat} {l:List Nat} {o:Oper} {d:Nat} {f:FuncId} {as:Array Operand} {cP:Array TypeId} {xs:List ad} {R:eb→aj→Prop}
  (ag:ops[i]? = some o) (ao:guardOf ops env o=some true) (ar:o.dst=some d) (aX:Nat.blt d N=true) (bW:o.op = .call { callee := .value (.func f),args:=as,argTypes:=cP })
  (aV:fg env as.toList=some xs) (h:gg P f xs s R) (aD:∀ x ah,R (.ret x) ah→e8 P N ops l Q ((d,x)::env) ah) (ab:∀ x ah,R (.panic x) ah→Q (.panic x) env ah) :
  e8 P N ops (i::l) Q env s:=
 e8.op ag ao ar aX (aU.call bW (fv := .func f [] []) C aV (gM.eP gn)) aD ab
theorem e8.CS {ops:Array Oper} {Q:b2→Env→aj→Prop} {i:Nat} {l:List Nat} {o:Oper} {d:Nat} {g:Operand} {fv:ad} {as:Array Operand} {cP:Array TypeId} {xs:List ad} {R:eb→aj→Prop}
  (ag:ops[i]? = some o) (ao:guardOf ops env o=some true) (ar:o.dst=some d) (aX:Nat.blt d N=true) (bW:o.op = .call { callee := .value g,args:=as,argTypes:=cP })
  (av:aJ env g=some fv) (aV:fg env as.toList=some xs) (h:gM P fv xs s R) (aD:∀ x ah,R (.ret x) ah→e8 P N ops l Q ((d,x)::env) ah) (ab:∀ x ah,R (.panic x) ah→Q (.panic x) env ah) :
  e8 P N ops (i::l) Q env s:=
 e8.op ag ao ar aX (aU.call bW av aV h) aD ab
def n1 (P:Program) (t:TypeId) (name:String) (f:FuncId):Prop:=∀ v w,(method (P.types.size+Made.depth) t v name).run P w = .ok (f,v) w
theorem Nl {P:Program} {t:TypeId} {name:String} {f:FuncId} {info:TypeInfo} {m:Method} {d:TypeDesc} (aY:P.info? t=some info) (hm:info.methods.find? (·.name==name)=some m) (aN:m.path = #[])
  (ba:m.func=some (f,false)) (ar:P.underlying t=some d) (Nn:∀ e,d ≠ .pointer e) (No:∃ n,P.types.size+Made.depth=n+1):n1 P t name f:=by
 intro v w;obtain ⟨n,aC⟩:=No;rw [aC];unfold method;simp only [Sem.run_bind,typeInfo,run_program,Result.andThen_ok,aY,Sem.run_pure,hm,aN,follow,ba,receiverAt,run_underlying ar];cases d<;>first|exact absurd C (Nn _)|rfl
theorem Np {name:String} {cap args:Array Value}:Go.invoke (.fn (.method name) cap) args=(match args[0]? with
  | some recv=>callMethod recv name (args.extract 1 args.size)
  | none=>stuck "call: a method without a receiver"):=by
 cases h:args[0]? <;> simp [Go.invoke,h]
theorem aU.invoke {o:Oper} {g:Operand} {name:String} {as:Array Operand} {cP:Array TypeId} {t:TypeId} {v:ad} {f:FuncId} {xs:List ad} {R:eb→aj→Prop}
  (ag:o.op = .call { callee := .invoke g name,args:=as,argTypes:=cP }) (ao:aJ env g=some (.iface t v)) (aV:fg env as.toList=some xs) (hm:n1 P t name f) (h:gg P f (v::xs) s R) :
  aU P N o env s (fun x ah=>R (.ret x) ah) (fun x ah=>R (.panic x) ah):=by
 refine ⟨by simp [fM,ag],fun ro B a w p aF=>?_⟩;have l8:=aF.aJ ao;generalize Nq:a.eval g=WU at l8;cases l8 with
 | iface _ val _ lx=>
 have cx:(execOp a.eval o).run P w = .ok (.enter f (#[val]++(as.map a.eval))) w:=by
  unfold execOp;rw [ag];have hex:(#[Value.iface t val]++as.map a.eval).extract 1 (#[Value.iface t val]++as.map a.eval).size=as.map a.eval:=by
   apply Array.ext';simp [Array.toList_extract,List.take_of_length_le]
  have bB:(#[Value.iface t val]++as.map a.eval)[0]? = some (Value.iface t val):=by
   rw [Array.getElem?_append_left bn];rfl
  simp only [resolve,Nq,Sem.run_bind,Sem.run_pure,Result.andThen_ok];rw [bj.Np,bB];simp only [hex,callMethod,Sem.run_bind,run_program,Result.andThen_ok,hm val w];exact h.1 _ _
 rw [cx];have:=h.2 w p (val::as.toList.map a.eval) aF.wf (.cons _ _ _ _ lx (zO aF aV));have e:(val::as.toList.map a.eval).toArray = #[val]++(as.map a.eval):=by apply Array.ext';simp
 rw [e] at this;refine this.mono ?_;rintro e w' ⟨out,ah,bb,U,ae,al,bl,bD⟩;refine ⟨ah,bb,al,bl,bD,?_⟩;cases e<;>cases out<;>first|exact U.elim|skip
 ·exact ⟨_,ae,U⟩
 ·obtain ⟨v,CQ,CR⟩:=U;exact ⟨v,_,CQ,ae,CR⟩
theorem aU.panic {o:Oper} {x:Operand} {t:TypeId} {v:ad} (ag:o.op = .panic x) (ab:aJ env x=some (.iface t v)) {K:ad→aj→Prop}:aU P N o env s K (fun u ah=>u = .iface t v∧ah=s):=by
 refine ⟨by simp [fM,ag],fun ro B a w p aF=>?_⟩;have az:=aF.aJ ab;generalize av:a.eval x=dr at az;cases az with
 | iface _ val _ lx=>
 have cx:(execOp a.eval o).run P w = .halt (.panic (.iface t val)) w:=by
  unfold execOp;rw [ag];simp only [av,Instr.panic,Sem.run_bind,run_goPanic,Result.andThen_halt]
 rw [cx];exact ⟨s,p,.refl w p,.refl s w p,aF.wf,_,_,vj.one _,⟨rfl,rfl⟩,.iface _ _ _ lx⟩
theorem GO {sz:Nat}:∀ {vs:List Value} (_:∀ v∈vs,v.cells.size=sz) {j:Nat} {v:Value} (_:vs[j]? = some v) (k:Nat) {u:Value} (_:v.cells.toList[k]? = some u),(flat vs)[j*sz+k]? = some u:=by
 intro vs
 induction vs with
 | nil=>intro _ j v av;simp at av
 | cons x vs a'=>
  intro aw j v av k u hu;have ab:=aw x (List.mem_cons_self ..);simp only [flat,List.flatMap_cons];cases j with
  | zero=>
   simp at av;subst av;rw [Nat.zero_mul,Nat.zero_add,List.getElem?_append_left (List.getElem?_eq_some_iff.1 hu).1];exact hu
  | succ j=>
   have aI:x.cells.toList.length=sz:=by rw [Array.length_toList,ab]
   have:=a' (fun v av=>aw v (List.mem_cons_of_mem _ av)) (by simpa using av) k hu;rw [List.getElem?_append_right (by rw [aI,Nat.add_mul];omega),aI];have he:(j+1)*sz+k-sz=j*sz+k:=by rw [Nat.add_mul];omega
   rw [he];exact this
theorem aU.idx (aO:bL P Γ) {o:Oper} {t e:TypeId} {x y:Operand} {it aB:bJ} {xs:List ad} {own:bU} {k:IntKind} {i:Int} {j:Nat} {v:ad} {cs:List ad} (ag:o.op = .indexAddr t x y)
  (aK:Γ.get? t=some it) (bo:it.bz = .aA e) (bF:Γ.get? e=some aB) (ab:aJ env x=some (.aA aB.size xs own)) (ay:aJ env y=some (.int k i)) (ek:i=(j:Int)) (aS:xs[j]? = some v)
  (aE:cellsOf v=some cs) {X:ad→aj→Prop}:aU P N o env s (fun r ah=>r = .bq cs 0∧ah=s) X:=by
 refine aU.jo (by simp [fM,ag]) fun ro B a w p aF=>?_
 obtain ⟨info,d,U,ae,al,-⟩:=aO.parts aK;obtain ⟨iH,jq,cz,dj,ft,ej,-⟩:=aO.parts bF;have ar:d = .slice e:=by rw [bo] at al;cases d<;>simp [dP] at al;rw [al]
 subst ar;have az:=aF.aJ ab;have h3:=aF.aJ ay;generalize dQ:a.eval x=dr at az;generalize eO:a.eval y=fp at h3;cases h3;subst ek;have Nr:j<xs.length:=(List.getElem?_eq_some_iff.1 aS).1;cases az with
 | gU=>simp at aS
 | hE=>simp at aS
 | aA g off n cap _ vs _ _ aC aI cE gq aw hm aD GP ck=>
 obtain ⟨u,hu,xl⟩:=gq.get aS;have l4:=oP xl aE;refine ⟨.pointer (some ⟨g,off+j*aB.size,none⟩),w,s,p,_,?_,.refl w p,.refl s w p,aF.wf,⟨rfl,rfl⟩,.bq g (off+j*aB.size) _ 0 u.cells.toList cs C ?_ l4⟩
 ·unfold execOp
  rw [ag];simp only [dQ,eO];refine fU ?_;have aG:(0:Int)≤(j:Int)∧(j:Int)<(n:Int):=by omega
  simp [Instr.indexAt,asIntOf,run_underlying ae,aG.2,sizeOf,typeInfo,cz,ej,j4];intro bk;omega
 ·intro i eK nU
  have:=cE (j*aB.size+i) eK (GO aw hu i nU);rw [← Nat.add_assoc] at this;exact this
end
end Go.bj
namespace Go.bj
def tC (Γ:cg) (o:Oper) (env:Env):Option ad:=
  match o.op with
  | .binOp .quo _ x (.const (.int k (.ofNat (n+1)))) _=>match aJ env x with
    | some (.int k' a)=>if k'=k then some (.int k (k.wrap (a.tdiv (Int.ofNat (n+1))))) else none
    | _=>none
  | .binOp .rem _ x (.const (.int k (.ofNat (n+1)))) _=>match aJ env x with
    | some (.int k' a)=>if k'=k then some (.int k (a.tmod (Int.ofNat (n+1)))) else none
    | _=>none
  | .convert s d x=>match Γ.get? s,Γ.get? d with
    | some ⟨.int _,_,_,_⟩,some ⟨.int k,_,_,_⟩=>match aJ env x with
      | some (.int _ n)=>some (.int k (k.wrap n))
      | _=>none
    | _,_=>none
  | .call { callee := .builtin .max,args,argTypes:=_ }=>match args.toList with
    | [x,y]=>match aJ env x,aJ env y with
      | some (.int k a),some (.int _ b)=>some (.int k (if b>a then b else a))
      | _,_=>none
    | _=>none
  | .call { callee := .builtin .min,args,argTypes:=_ }=>match args.toList with
    | [x,y]=>match aJ env x,aJ env y with
      | some (.int k a),some (.int _ b)=>some (.int k (if b<a then b else a))
      | _,_=>none
    | _=>none
  | _=>none
section
variable {P:Program} {Γ:cg} (aO:bL P Γ) {N:Nat} {B:ff} {ro:Option Nat} {env:Env} {s:aj} {a:Act} {w:World} {p:bN} (aF:c9 N B ro env s a w p)
theorem r9 {o:Oper} {op:BinOp} {t yt:TypeId} {x y:Operand} {v:Value} {r:ad} (ag:o.op = .binOp op t x y yt)
  (U:(eqGuard op t x y (a.eval x) (a.eval y)).run P w = .ok () w) (ae:(binOp op t (a.eval x) (a.eval y)).run P w = .ok v w) (az:Rel w p v r):fT P o a w p r:=by
 refine .same (val:=v) ?_ az;unfold execOp;rw [ag];refine fU ?_;rw [Sem.run_bind,U,Result.andThen_ok,ae]
include aF
include aO
theorem Ns {o:Oper} {v:ad} (h:tC Γ o env=some v):fT P o a w p v:=by
 unfold tC at h;split at h
 ·rename_i t x k n yt ag
  split at h
  ·rename_i k' u ab
   split at h
   ·rename_i aD
    cases h;subst aD;have U:=aF.aJ ab;generalize av:a.eval x=dr at U;cases U;refine r9 (v := .int k' (k'.wrap (u.tdiv (Int.ofNat (n+1))))) ag ?_ ?_ (.int _ _)
    ·rfl
    ·rw [av]
     have aC:¬ (Int.ofNat (n+1)=0):=by simp;omega
     simp only [Act.eval,binOp,Op.intDiv,ne_eq,not_true_eq_false,if_false,aC,Sem.run_pure]
   ·cases h
  ·cases h
 ·rename_i t x k n yt ag
  split at h
  ·rename_i k' u ab
   split at h
   ·rename_i aD
    cases h;subst aD;have U:=aF.aJ ab;generalize av:a.eval x=dr at U;cases U;refine r9 (v := .int k' (u.tmod (Int.ofNat (n+1)))) ag ?_ ?_ (.int _ _)
    ·rfl
    ·rw [av]
     have aC:¬ (Int.ofNat (n+1)=0):=by simp;omega
     simp only [Act.eval,binOp,Op.intDiv,ne_eq,not_true_eq_false,if_false,aC,Sem.run_pure]
   ·cases h
  ·cases h
 ·rename_i iJ d x ag
  split at h
  ·rename_i GQ eJ a2 a3 k ix dk n2 aw ar
   split at h
   ·rename_i cz n ab
    cases h;obtain ⟨info,d1,U,ae,al,-⟩:=aO.parts aw;obtain ⟨ln,GR,nb,nc,tn,-⟩:=aO.parts ar;have b8:GR = .int k:=by cases GR<;>simp [dP] at tn;rw [tn]
    have az:=aF.aJ ab;generalize av:a.eval x=dr at az;cases az;refine .same (val := .int k (k.wrap n)) ?_ (.int _ _);unfold execOp;rw [ag];refine fU ?_;subst b8;rw [av];cases d1<;>simp [dP] at al
    simp [convert,run_underlying ae,run_underlying nc,Conv.intToInt]
   ·cases h
  ·cases h
 ·rename_i args fz ag
  split at h
  ·rename_i x y aI
   have tD:args = #[x,y]:=by apply Array.ext';simpa using aI
   subst tD;split at h
   ·rename_i k u k' eK ab ay
    cases h;have U:=aF.aJ ab;have ae:=aF.aJ ay;generalize dQ:a.eval x=dr at U;generalize eO:a.eval y=fp at ae;cases U;cases ae;refine .same (val := .int k (if eK>u then eK else u)) ?_ (.int _ _);unfold execOp;rw [ag];simp only [resolve,invoke,builtin,Sem.run_bind,Sem.run_pure,Result.andThen_ok,List.map_toArray,List.map_cons,List.map_nil,dQ,eO,run_max_int2]
   ·cases h
  ·cases h
 ·rename_i args fz ag
  split at h
  ·rename_i x y aI
   have tD:args = #[x,y]:=by apply Array.ext';simpa using aI
   subst tD;split at h
   ·rename_i k u k' eK ab ay
    cases h;have U:=aF.aJ ab;have ae:=aF.aJ ay;generalize dQ:a.eval x=dr at U;generalize eO:a.eval y=fp at ae;cases U;cases ae;refine .same (val := .int k (if eK<u then eK else u)) ?_ (.int _ _);unfold execOp;rw [ag];simp only [resolve,invoke,builtin,Sem.run_bind,Sem.run_pure,Result.andThen_ok,List.map_toArray,List.map_cons,List.map_nil,dQ,eO,run_min_int2]
   ·cases h
  ·cases h
 ·cases h
omit aF aO in
theorem Nt {o:Oper} {v:ad} (h:tC Γ o env=some v):fM o=true:=by
 unfold fM;cases ag:o.op<;>first|rfl|(unfold tC at h;rw [ag] at h;cases h)
omit aO in
theorem Nu {o:Oper} {t yt:TypeId} {x y:Operand} {u v:List UInt8} (ag:o.op = .binOp .add t x y yt) (ab:aJ env x=some (.str u)) (ay:aJ env y=some (.str v)) (aI:u.length+v.length≤9223372036854775807) :
  fT P o a w p (.str (u++v)):=by
 have U:=aF.aJ ab;have ae:=aF.aJ ay;generalize dQ:a.eval x=dr at U;generalize eO:a.eval y=fp at ae;cases U with|str ix _ b8=>cases ae with|str dk _ bZ=>
 refine r9 (v := .string (ix++dk)) ag ?_ ?_ ?_
 ·exact rfl
 ·rw [dQ,eO]
  have aw:¬ ((ix.size+dk.size:Nat):Int)>IntKind.i64.max:=by
   have eJ:ix.size=u.length:=by rw [← b8];simp
   have a2:dk.size=v.length:=by rw [← bZ];simp
   have:IntKind.i64.max=9223372036854775807:=by decide
   rw [eJ,a2,this];omega
  simp only [binOp,Op.stringOp,if_neg aw,Sem.run_pure]
 ·exact .str _ _ (by rw [← b8,← bZ];simp [ByteArray.data_append])
theorem Nv {o:Oper} {t e:TypeId} {x y:Operand} {it aB:bJ} {sz:Nat} {xs:List ad} {own:bU} {k:IntKind} {i:Int} {j:Nat} {v:ad} {cs:List ad} (ag:o.op = .indexAddr t x y)
  (aK:Γ.get? t=some it) (bo:it.bz = .aA e) (bF:Γ.get? e=some aB) (ab:aJ env x=some (.aA sz xs own)) (b7:sz=aB.size) (ay:aJ env y=some (.int k i)) (ek:i=(j:Int)) (aS:xs[j]? = some v)
  (aE:cellsOf v=some cs):fT P o a w p (.bq cs 0):=by
 subst b7;obtain ⟨info,d,U,ae,al,-⟩:=aO.parts aK;obtain ⟨iH,jq,cz,dj,ft,ej,-⟩:=aO.parts bF;have ar:d = .slice e:=by rw [bo] at al;cases d<;>simp [dP] at al;rw [al]
 subst ar;have az:=aF.aJ ab;have h3:=aF.aJ ay;generalize dQ:a.eval x=dr at az;generalize eO:a.eval y=fp at h3;cases h3;subst ek;have Nr:j<xs.length:=(List.getElem?_eq_some_iff.1 aS).1;cases az with
 | gU=>simp at aS
 | hE=>simp at aS
 | aA g off n cap _ vs _ _ aC aI cE gq aw hm aD GP ck=>
 obtain ⟨u,hu,xl⟩:=gq.get aS;have l4:=oP xl aE;refine .same (val := .pointer (some ⟨g,off+j*aB.size,none⟩)) ?_ (.bq g (off+j*aB.size) _ 0 u.cells.toList cs C ?_ l4)
 ·unfold execOp
  rw [ag];simp only [dQ,eO];refine fU ?_;have aG:(0:Int)≤(j:Int)∧(j:Int)<(n:Int):=by omega
  simp [Instr.indexAt,asIntOf,run_underlying ae,aG.2,sizeOf,typeInfo,cz,ej,j4];intro bk;omega
 ·intro i eK nU
  have:=cE (j*aB.size+i) eK (GO aw hu i nU);rw [← Nat.add_assoc] at this;exact this
theorem Nw {o:Oper} {t:TypeId} {x y:Operand} {it:bJ} {l:List UInt8} {k:IntKind} {i:Int} {j:Nat} {b:UInt8} (ag:o.op = .index t x y)
  (aK:Γ.get? t=some it) (bo:it.bz = .str) (ab:aJ env x=some (.str l)) (ay:aJ env y=some (.int k i)) (ek:i=(j:Int)) (aS:l[j]? = some b) :
  fT P o a w p (.int .u8 b.toNat):=by
 obtain ⟨info,d,U,ae,al,-⟩:=aO.parts aK;have ar:d = .string:=by rw [bo] at al;cases d<;>simp [dP] at al;rfl
 subst ar;have az:=aF.aJ ab;have h3:=aF.aJ ay;generalize dQ:a.eval x=dr at az;generalize eO:a.eval y=fp at h3;cases h3;subst ek;cases az with
 | str ly _ e=>
 have ao:ly[j]? = some b:=by
  rw [← e] at aS;have:ly.data[j]? = some b:=by simpa using aS
  exact this
 refine .same (val := .int .u8 b.toNat) ?_ (.int _ _);unfold execOp;rw [ag];simp only [dQ,eO];refine fU ?_;simp [Instr.index,asIntOf,run_underlying ae,ao]
omit aF aO in
theorem Nx {sz:Nat}:∀ {vs:List Value} (_:∀ v∈vs,v.cells.size=sz) (l:Nat) (i:Nat),l≤vs.length→(flat (vs.drop l))[i]? = (flat vs)[l*sz+i]?:=by
 intro vs
 induction vs with
 | nil=>
  intro _ l i aI;have:l=0:=by simpa using aI
  subst this;simp
 | cons v vs a'=>
  intro aw l i aI;cases l with
  | zero=>simp
  | succ l=>
   have av:=aw v (List.mem_cons_self ..);rw [List.drop_succ_cons,a' (fun v av=>aw v (List.mem_cons_of_mem _ av)) l i (by simpa using aI)];simp only [flat,List.flatMap_cons];rw [List.getElem?_append_right (by rw [Array.length_toList,av,Nat.add_mul];omega),Array.length_toList,av];congr 1;rw [Nat.add_mul];omega
omit aF aO in
theorem Ny {vs:List Value} (h:Nat) {i:Nat} {u:Value} (hu:(flat (vs.take h))[i]? = some u):(flat vs)[i]? = some u:=by
 have:flat vs=flat (vs.take h)++flat (vs.drop h):=by rw [← CN,List.take_append_drop]
 rw [this,List.getElem?_append_left (List.getElem?_eq_some_iff.1 hu).1];exact hu
theorem Nz {o:Oper} {t e:TypeId} {x:Operand} {jJ aY ig:Option Operand} {it aB:bJ} {sz:Nat} {xs:List ad} {own cZ:bU} {l h:Nat} (ag:o.op = .slice t x jJ aY ig)
  (aK:Γ.get? t=some it) (bo:it.bz = .aA e) (bF:Γ.get? e=some aB) (ab:aJ env x=some (.aA sz xs own)) (b7:xs=[]∨sz=aB.size)
  (hH:(jJ=none∧l=0)∨∃ y k,jJ=some y∧aJ env y=some (.int k (l:Int))) (oW:(aY=none∧ig=none∧h=xs.length)∨∃ y k,aY=some y∧aJ env y=some (.int k (h:Int)))
  (l9:(ig=none∧cZ = .bd)∨(∃ y k,ig=some y∧aJ env y=some (.int k (h:Int))∧cZ = .clip)) (aI:l≤h) (c':h≤xs.length):fT P o a w p (.aA sz ((xs.take h).drop l) cZ):=by
 obtain ⟨info,d,U,ae,al,-⟩:=aO.parts aK;obtain ⟨iH,jq,cz,dj,ft,ej,-⟩:=aO.parts bF;have ar:d = .slice e:=by rw [bo] at al;cases d<;>simp [dP] at al;rw [al]
 subst ar;have kp:∀ b,cZ ≠ .own b:=by rcases l9 with ⟨-,rfl⟩|⟨_,_,-,-,rfl⟩<;>simp
 have CT:cZ ≠ .nil:=by rcases l9 with ⟨-,rfl⟩|⟨_,_,-,-,rfl⟩<;>simp
 have n3:∀ {y k} {n:Nat},aJ env y=some (.int k (n:Int))→a.eval y = .int k (n:Int):=fun he=>by
  have:=aF.aJ he;generalize a.eval _=v at this ⊢;cases this;rfl
 have NA:∀ (cap:Nat),xs.length≤cap→∃ m,(Instr.sliceBounds true xs.length cap (jJ.map a.eval) (aY.map a.eval) (ig.map a.eval)).run P w = .ok (l,h,m) w∧h≤m∧m≤cap∧(cZ = .clip→m=h):=by
  intro cap jt;have aC:∀ n:Nat,(0:Int)≤(n:Int):=fun n=>by omega
  have CU:(l:Int)≤(h:Int):=by omega
  have z8:(h:Int)≤(cap:Int):=by omega
  rcases l9 with ⟨rfl,rfl⟩|⟨WV,WW,rfl,sa,rfl⟩
  ·rcases oW with ⟨rfl,-,rfl⟩|⟨NB,NC,rfl,xy⟩
   ·refine ⟨cap,?_,jt,Nat.le_refl _,by simp⟩
    rcases hH with ⟨rfl,rfl⟩|⟨GS,l',rfl,gN⟩
    ·simp [Instr.sliceBounds]
    ·simp [Instr.sliceBounds,n3 gN,run_sliceBound,aC,CU]
   ·refine ⟨cap,?_,by omega,Nat.le_refl _,by simp⟩
    rcases hH with ⟨rfl,rfl⟩|⟨GS,l',rfl,gN⟩
    ·simp [Instr.sliceBounds,n3 xy,run_sliceBound,aC,z8]
    ·simp [Instr.sliceBounds,n3 xy,n3 gN,run_sliceBound,aC,CU,z8]
  ·rcases oW with ⟨-,bB,-⟩|⟨NB,NC,rfl,xy⟩
   ·cases bB
   ·refine ⟨h,?_,Nat.le_refl _,by omega,fun _=>rfl⟩
    rcases hH with ⟨rfl,rfl⟩|⟨GS,l',rfl,gN⟩
    ·simp [Instr.sliceBounds,n3 xy,n3 sa,run_sliceBound,aC,z8]
    ·simp [Instr.sliceBounds,n3 xy,n3 gN,n3 sa,run_sliceBound,aC,CU,z8]
 have ei:∀ base cap val,a.eval x = .slice base xs.length cap→xs.length≤cap→(∀ m,h≤m→m≤cap→(cZ = .clip→m=h)→Rel w p (.slice (if m=l then base else base.map (·.add (l*aB.size))) (h-l) (m-l)) val)→fT P o a w p val:=by
  intro base cap val dQ jt en;obtain ⟨m,an,mF,h4,ND⟩:=NA cap jt;refine .same ?_ (en m mF h4 ND);unfold execOp;rw [ag];simp only [dQ];refine fU ?_;simp only [Instr.sliceAt,Instr.slice,Sem.run_bind,run_underlying ae,Result.andThen_ok,an,sizeOf,typeInfo,run_program,cz,Sem.run_pure,ej]
 have az:=aF.aJ ab;generalize dQ:a.eval x=dr at az;cases az with
 | gU _ _ _=>
  refine ei none 0 _ dQ (Nat.le_refl _) (fun m U ae al=>?_);have b8:h=0:=by simpa using c'
  have bZ:l=0:=by omega
  have eF:m=0:=by omega
  subst b8;subst bZ;subst eF;simp only [if_true,List.take_nil,List.drop_nil];exact .gU _ _ kp
 | hE a _ _ _=>
  refine ei (some a) 0 _ dQ (Nat.le_refl _) (fun m U ae al=>?_);have b8:h=0:=by simpa using c'
  have bZ:l=0:=by omega
  have eF:m=0:=by omega
  subst b8;subst bZ;subst eF;simp only [if_true,List.take_nil,List.drop_nil];refine .hE a _ _ ?_;cases cZ with
  | bd=>exact .inl C
  | clip=>exact .inr C
  | nil=>exact absurd C CT
  | own b=>exact absurd C (kp b)
 | aA g off n cap _ vs _ _ aC q7 cE gq aw hm aD GP ck=>
  subst q7;refine ei _ cap _ dQ aD (fun m U ae al=>?_);have hlen:h-l=((xs.take h).drop l).length:=by simp;omega
  have fa:=gq.length;have NF:∃ z',(if m=l then (some ⟨g,off,none⟩:Option Addr) else (some ⟨g,off,none⟩:Option Addr).map (·.add (l*aB.size)))=some ⟨g,z',none⟩∧(m≠l→z'=off+l*aB.size):=by
   by_cases e:m=l
   ·exact ⟨off,by simp [e],fun h=>absurd e h⟩
   ·exact ⟨off+l*aB.size,by simp [e,j4],fun _=>rfl⟩
  obtain ⟨z',NG,NH⟩:=NF;rw [NG];refine .aA g z' _ _ sz ((vs.take h).drop l) _ cZ CT hlen ?_ ((gq.take h).drop l) (fun v av=>aw v (List.mem_of_mem_take (List.mem_of_mem_drop av))) ai ai (fun aE=>by have:=al aE;omega) (fun b an=>absurd an (kp b));intro i u hu;by_cases e:m=l
  ·have:(vs.take h).drop l=[]:=by apply List.drop_eq_nil_of_le;rw [List.length_take];omega
   rw [this] at hu;simp [flat] at hu
  ·rw [NH e]
   have mE:∀ v∈vs.take h,v.cells.size=aB.size:=by
    rcases b7 with rfl|rfl
    ·have:vs=[]:=List.eq_nil_of_length_eq_zero (by rw [fa];rfl)
     subst this;simp
    ·exact fun v av=>aw v (List.mem_of_mem_take av)
   rw [Nx mE l i w9] at hu;have:=cE _ _ (Ny h hu);rw [← Nat.add_assoc] at this;exact this
end
def mG (l:List UInt8):List ad:=l.map fun b => .int .u8 b.toNat
theorem GU (l:List UInt8):(mG l).length=l.length:=by simp [mG]
theorem GV {w:World} {p:bN}:∀ (l:List UInt8),bO w p (l.map fun b=>Value.int .u8 b.toNat) (mG l)
 | [] => .nil
 | b::l => .cons _ _ _ _ (.int _ _) (GV l)
theorem GW {w:World} {p:bN}:∀ {l:List UInt8} {vs:List Value},bO w p vs (mG l)→vs=l.map fun b=>Value.int .u8 b.toNat
  | [],_,h=>by cases h;rfl
  | b::l,_,h=>by
    cases h with|cons v _ vs _ U ae=>
    cases U;rw [GW ae];rfl
section
variable {P:Program} {Γ:cg} (aO:bL P Γ) {N:Nat} {B:ff} {ro:Option Nat} {env:Env} {s:aj} {a:Act} {w:World} {p:bN} (aF:c9 N B ro env s a w p)
include aF aO
omit aF aO in
theorem GX:∀ (l:List UInt8),flat (l.map fun b=>Value.int .u8 b.toNat)=l.map fun b=>Value.int .u8 b.toNat:=by
 intro l
 induction l with
 | nil=>rfl
 | cons b l a'=>simp only [flat,List.map_cons,List.flatMap_cons,Value.cells] at a' ⊢;rw [a'];rfl
theorem NI {o:Oper} {iJ d e:TypeId} {x:Operand} {is id aB:bJ} {sz:Nat} {l:List UInt8} {own:bU} (ag:o.op = .convert iJ d x) (aw:Γ.get? iJ=some is) (ar:Γ.get? d=some id) (jw:is.bz = .aA e) (ma:id.bz = .str)
  (he:Γ.get? e=some aB) (ni:aB.bz = .int .u8) (ab:aJ env x=some (.aA sz (mG l) own)):fT P o a w p (.str l):=by
 obtain ⟨i1,d1,eJ,a2,a3,-⟩:=aO.parts aw;obtain ⟨i2,d2,ix,dk,n2,-⟩:=aO.parts ar;obtain ⟨i3,d3,cr,cJ,dW,-⟩:=aO.parts he;have b8:d1 = .slice e:=by rw [jw] at a3;cases d1<;>simp [dP] at a3;rw [a3]
 have bZ:d2 = .string:=by rw [ma] at n2;cases d2<;>simp [dP] at n2;rfl
 have eF:d3 = .int .u8:=by rw [ni] at dW;cases d3<;>simp [dP] at dW;rw [dW]
 subst b8;subst bZ;subst eF;have ei:∀ v,(convert iJ d (a.eval x)).run P w = .ok v w→(execOp a.eval o).run P w = .ok (.value v) w:=fun v h=>by
  unfold execOp;rw [ag];exact fU h
 have az:=aF.aJ ab;generalize av:a.eval x=dr at az ei;generalize jE:mG l=Aa at az;cases az with
 | gU=>
  have aI:l=[]:=by cases l with|nil=>rfl|cons b l=>simp [mG] at jE
  subst aI;refine .same (val := .string ByteArray.empty) (ei _ ?_) (.str _ _ C);rw [run_convert_bytes_string w iJ d e none 0 0 a2 cJ dk];rfl
 | hE cR _ _ _=>
  have aI:l=[]:=by cases l with|nil=>rfl|cons b l=>simp [mG] at jE
  subst aI;exact .same (val := .string ⟨#[]⟩) (ei _ (run_convert_bytes_back w iJ d e cR 0 [] a2 cJ dk (fun j aS=>by simp at aS))) (.str _ _ C)
 | aA g off n cap _ vs _ _ aC aI aE gq b7 hm aD cE ck=>
  subst jE;have eh:=GW gq;subst eh;rw [GU] at aI;subst aI;refine .same (val := .string ⟨l.toArray⟩) (ei _ ?_) (.str _ _ bn);refine run_convert_bytes_back w iJ d e ⟨g,off,none⟩ cap l a2 cJ dk (fun j aS=>?_);rw [j4];refine (aE j _ ?_).2;rw [GX];simp [List.getElem?_eq_getElem aS]
theorem NJ {o:Oper} {iJ d e:TypeId} {x:Operand} {is id aB:bJ} {l:List UInt8} (ag:o.op = .convert iJ d x) (aw:Γ.get? iJ=some is) (ar:Γ.get? d=some id) (jw:is.bz = .str) (ma:id.bz = .aA e)
  (he:Γ.get? e=some aB) (ni:aB.bz = .int .u8) (ab:aJ env x=some (.str l)) (CV:l.length≤9223372036854775807):fT P o a w p (.aA 1 (mG l) .bd):=by
 obtain ⟨i1,d1,eJ,a2,a3,-⟩:=aO.parts aw;obtain ⟨i2,d2,ix,dk,n2,-⟩:=aO.parts ar;obtain ⟨i3,d3,cr,cJ,dW,-⟩:=aO.parts he;have b8:d1 = .string:=by rw [jw] at a3;cases d1<;>simp [dP] at a3;rfl
 have bZ:d2 = .slice e:=by rw [ma] at n2;cases d2<;>simp [dP] at n2;rw [n2]
 have eF:d3 = .int .u8:=by rw [ni] at dW;cases d3<;>simp [dP] at dW;rw [dW]
 subst b8;subst bZ;subst eF;have az:=aF.aJ ab;generalize av:a.eval x=dr at az;cases az with
 | str ly _ k0=>
 have b7:ly.size=l.length:=by rw [← k0];simp
 have cx:=run_bytes_of_string (P:=P) w iJ d e ly a2 dk cJ;generalize jt:grownCap w ly.size 0 e=cap at cx;have l7:ly.size≤cap:=by rw [← jt];simp [grownCap,Question.cut]
 have ht:(bytesRow ly cap).toList=(l.map fun b=>Value.int .u8 b.toNat)++List.replicate (cap-ly.size) (.int .u8 0):=by
  simp [bytesRow,← k0]
 generalize NK:Obj.cells (bytesRow ly cap) e ((bytesRow ly cap).size,(bytesRow ly cap).size+1)=cQ at cx;have hle:cV w p (w.drew.alloc cQ) (p.dA w.heap.size True):=cV.trans jH (r3 (w:=w.drew) (fun b o h=>aF.wf.lt b o h) cQ True);refine ⟨.slice (some ⟨w.heap.size,0,none⟩) ly.size cap,_,_,?_,?_,hle,fun ah gY=>⟨?_,?_⟩⟩
 ·unfold execOp
  rw [ag];simp only [av];exact fU cx
 ·refine .aA w.heap.size 0 _ cap 1 (l.map fun b=>Value.int .u8 b.toNat) (mG l) .bd bn (by rw [GU,b7]) ?_ (GV l) (by simp [Value.cells]) ai l7 bn bn
  rw [GX];intro i v GY;refine ⟨.inr ⟨rfl,trivial⟩,?_⟩;have c':(w.drew.alloc cQ).heap[w.heap.size]? = some cQ:=r2 w.drew cQ;rw [← NK] at c' ⊢;simp only [World.cell?,c',Option.isSome_none,Bool.false_eq_true,if_false,Nat.zero_add];have:(bytesRow ly cap).toList[i]? = some v:=by
   rw [ht,List.getElem?_append_left (List.getElem?_eq_some_iff.1 GY).1];exact GY
  simpa using this
 ·exact Kept.trans (s₁:=ah) (w₁:=w.drew) (p₁:=p) (Nat.le_refl _) ti (zH (w:=w.drew) cQ True)
 ·exact xe (w:=w.drew) (vo gY) cQ True
end
inductive kq (Γ:cg) (o:Oper) (env:Env):ad→Prop
 | a {v:ad} (h:nS Γ o env=some v):kq Γ o env v
 | x {v:ad} (h:tC Γ o env=some v):kq Γ o env v
 | cat {t yt:TypeId} {x y:Operand} {u v:List UInt8} (ag:o.op = .binOp .add t x y yt) (ab:aJ env x=some (.str u)) (ay:aJ env y=some (.str v)) (aI:u.length+v.length≤9223372036854775807):kq Γ o env (.str (u++v))
 | toStr {iJ d e:TypeId} {x:Operand} {is id aB:bJ} {sz:Nat} {l:List UInt8} {own:bU} (ag:o.op = .convert iJ d x) (aw:Γ.get? iJ=some is) (ar:Γ.get? d=some id) (jw:is.bz = .aA e) (ma:id.bz = .str)
   (he:Γ.get? e=some aB) (ni:aB.bz = .int .u8) (ab:aJ env x=some (.aA sz (mG l) own)):kq Γ o env (.str l)
 | Ab {iJ d e:TypeId} {x:Operand} {is id aB:bJ} {l:List UInt8} (ag:o.op = .convert iJ d x) (aw:Γ.get? iJ=some is) (ar:Γ.get? d=some id) (jw:is.bz = .str) (ma:id.bz = .aA e)
   (he:Γ.get? e=some aB) (ni:aB.bz = .int .u8) (ab:aJ env x=some (.str l)) (CV:l.length≤9223372036854775807):kq Γ o env (.aA 1 (mG l) .bd)
 | idx {t e:TypeId} {x y:Operand} {it aB:bJ} {sz:Nat} {xs:List ad} {own:bU} {k:IntKind} {i:Int} (j:Nat) {v:ad} {cs:List ad} (ag:o.op = .indexAddr t x y)
   (aK:Γ.get? t=some it) (bo:it.bz = .aA e) (bF:Γ.get? e=some aB) (ab:aJ env x=some (.aA sz xs own)) (b7:sz=aB.size) (ay:aJ env y=some (.int k i)) (ek:i=(j:Int)) (aS:xs[j]? = some v)
   (aE:cellsOf v=some cs):kq Γ o env (.bq cs 0)
 | xz {t:TypeId} {x y:Operand} {it:bJ} {l:List UInt8} {k:IntKind} {i:Int} (j:Nat) {b:UInt8} (ag:o.op = .index t x y)
   (aK:Γ.get? t=some it) (bo:it.bz = .str) (ab:aJ env x=some (.str l)) (ay:aJ env y=some (.int k i)) (ek:i=(j:Int)) (aS:l[j]? = some b):kq Γ o env (.int .u8 b.toNat)
 | slice {t e:TypeId} {x:Operand} {jJ aY ig:Option Operand} {it aB:bJ} {sz:Nat} {xs:List ad} {own cZ:bU} (l h:Nat) (ag:o.op = .slice t x jJ aY ig)
   (aK:Γ.get? t=some it) (bo:it.bz = .aA e) (bF:Γ.get? e=some aB) (ab:aJ env x=some (.aA sz xs own)) (b7:xs=[]∨sz=aB.size)
   (hH:(jJ=none∧l=0)∨∃ y k,jJ=some y∧aJ env y=some (.int k (l:Int))) (oW:(aY=none∧ig=none∧h=xs.length)∨∃ y k,aY=some y∧aJ env y=some (.int k (h:Int)))
   (l9:(ig=none∧cZ = .bd)∨(∃ y k,ig=some y∧aJ env y=some (.int k (h:Int))∧cZ = .clip)) (aI:l≤h) (c':h≤xs.length):kq Γ o env (.aA sz ((xs.take h).drop l) cZ)
theorem kq.ok {P:Program} {Γ:cg} (aO:bL P Γ) {N:Nat} {B:ff} {ro:Option Nat} {env:Env} {s:aj} {a:Act} {w:World} {p:bN} (aF:c9 N B ro env s a w p) {o:Oper} {v:ad} (h:kq Γ o env v):fT P o a w p v:=by
 cases h with
 | a h=>exact GF aO aF h
 | x h=>exact Ns aO aF h
 | cat ag ab ay aI=>exact Nu aF ag ab ay aI
 | toStr ag aw ar jw ma he ni ab=>exact NI aO aF ag aw ar jw ma he ni ab
 | Ab ag aw ar jw ma he ni ab aI=>exact NJ aO aF ag aw ar jw ma he ni ab aI
 | idx j ag aK bo bF ab b7 ay ek aS aE=>exact Nv aO aF ag aK bo bF ab b7 ay ek aS aE
 | xz j ag aK bo ab ay ek aS=>exact Nw aO aF ag aK bo ab ay ek aS
 | slice l h ag aK bo bF ab b7 hH oW l9 aI c'=>exact Nz aO aF ag aK bo bF ab b7 hH oW l9 aI c'
theorem kq.fM {Γ:cg} {env:Env} {o:Oper} {v:ad} (h:kq Γ o env v):bj.fM o=true:=by
 cases h with
 | a h=>exact GG h
 | x h=>exact Nt h
 | cat ag=>simp [bj.fM,ag]
 | toStr ag=>simp [bj.fM,ag]
 | Ab ag=>simp [bj.fM,ag]
 | idx j ag=>simp [bj.fM,ag]
 | xz j ag=>simp [bj.fM,ag]
 | slice l h ag=>simp [bj.fM,ag]
theorem aU.pure {P:Program} {Γ:cg} (aO:bL P Γ) {N:Nat} {env:Env} {s:aj} {o:Oper} {v:ad} (h:kq Γ o env v):aU P N o env s (fun x ah=>x=v∧ah=s) (fun _ _=>False):=
 aU.l2 h.fM fun _ _ _ _ _ aF=>h.ok aO aF
end Go.bj
namespace Go.bj
def sb:Nat→List ad→Env
 | _,[]=>[]
 | k,v::vs=>(k,v)::sb (k+1) vs
def xA (Γ:cg) (env:Env) (s:aj):ResultVar→Option ad
  | .tmp t=>env.get? t
  | .cell a t=>match env.get? a,Γ.get? t with
    | some (.ptr b o),some i=>match s b with
      | some (.box _ cs)=>gI i cs o
      | _=>none
    | some (.bq cs o),some i=>gI i cs o
    | _,_=>none
def tE (Γ:cg) (env:Env) (s:aj):List ResultVar→Option (List ad)
  | []=>some []
  | r::rs=>match xA Γ env s r with
    | some v=>match tE Γ env s rs with
      | some vs=>some (v::vs)
      | none=>none
    | none=>none
def mH (Γ:cg) (env:Env) (s:aj) (rs:List ResultVar):Option ad:=
 match tE Γ env s rs with
 | some [v]=>some v
 | some vs=>some (.cl vs)
 | none=>none
section
variable {P:Program} {Γ:cg}
theorem NL (aO:bL P Γ) {N:Nat} {B:ff} {ro:Option Nat} {env:Env} {s:aj} {a:Act} {w w':World} {p:bN} (aF:c9 N B ro env s a w p)
  (hw:∀ b o v,w.cell? ⟨b,o,none⟩=some v→w'.cell? ⟨b,o,none⟩=some v) (ic:∀ v x,Rel w p v x→Rel w' p v x) {r:ResultVar} {v:ad} (h:xA Γ env s r=some v) :
  ∃ val,((match r with
   | .tmp t=>pure (a.tmps.getD t undef)
   | .cell b t=>do loadVar t (← asAddr (a.tmps.getD b undef))):Sem Value).run P w' = .ok val w'∧Rel w' p val v:=by
 cases r with
 | tmp t=>exact ⟨_,rfl,ic _ _ (aF.env t v h)⟩
 | cell b t=>
  simp only [xA] at h;split at h
  ·rename_i aT o i an aY
   split at h
   ·rename_i T cs aw
    have az:=aF.env b _ an;generalize av:a.tmps.getD b undef=xw at az;cases az;obtain ⟨vs,U,ae,al⟩:=aF.wf.obj _ _ aw;have gq:bO w' p vs.toList cs:=by
     have:∀ us xs,bO w p us xs→bO w' p us xs:=by
      intro us
      induction us with
      | nil=>intro xs h;cases h;exact .nil
      | cons u us a'=>intro xs h;cases h with|cons _ x _ xs ab aK=>exact .cons _ _ _ _ (ic _ _ ab) (a' _ aK)
     exact this _ _ ae
    obtain ⟨val,cx,en⟩:=xi aO aY (b:=aT) (base:=0) (vs:=vs.toList) (w:=w') (fun j u hu=>by
     rw [Nat.zero_add];refine hw _ _ _ ?_;rw [iz U];simpa using hu) gq h
    rw [Nat.zero_add] at cx;exact ⟨val,by simp only [av,asAddr,Sem.run_bind,Sem.run_pure,Result.andThen_ok,cx],en⟩
   ·cases h
  ·rename_i cs o i an aY
   have az:=ic _ _ (aF.env b _ an);generalize av:a.tmps.getD b undef=xw at az;cases az with
   | bq ly base vu _ vs _ nT aE gq=>
   subst nT;obtain ⟨val,cx,en⟩:=xi aO aY (b:=ly) (base:=base) (fun j u hu=>(aE j u hu).2) gq h;exact ⟨val,by simp only [av,asAddr,Sem.run_bind,Sem.run_pure,Result.andThen_ok,cx],en⟩
  ·cases h
theorem NM (aO:bL P Γ) {N:Nat} {B:ff} {ro:Option Nat} {env:Env} {s:aj} {a:Act} {w w':World} {p:bN} (aF:c9 N B ro env s a w p)
  (hw:∀ b o v,w.cell? ⟨b,o,none⟩=some v→w'.cell? ⟨b,o,none⟩=some v) (ic:∀ v x,Rel w p v x→Rel w' p v x):∀ {rs:List ResultVar} {xs:List ad} (_:tE Γ env s rs=some xs),
  ∃ mc,(rs.mapM fun r=>((match r with
   | .tmp t=>pure (a.tmps.getD t undef)
   | .cell b t=>do loadVar t (← asAddr (a.tmps.getD b undef))):Sem Value)).run P w' = .ok mc w'∧bO w' p mc xs:=by
 intro rs
 induction rs with
 | nil=>intro xs h;cases h;exact ⟨[],by simp,.nil⟩
 | cons r rs a'=>
  intro xs h;simp only [tE] at h;split at h
  ·rename_i v av
   split at h
   ·rename_i vs eh
    cases h;obtain ⟨val,U,ae⟩:=NL aO aF hw ic av;obtain ⟨mc,al,bl⟩:=a' eh;exact ⟨val::mc,by simp only [List.mapM_cons,Sem.run_bind,U,Result.andThen_ok,al,Sem.run_pure],.cons _ _ _ _ ae bl⟩
   ·cases h
  ·cases h
theorem NN (aO:bL P Γ) {N:Nat} {B:ff} {ro:Option Nat} {env:Env} {s:aj} {a:Act} {w w':World} {p:bN} (aF:c9 N B ro env s a w p)
  (hw:∀ b o v,w.cell? ⟨b,o,none⟩=some v→w'.cell? ⟨b,o,none⟩=some v) (ic:∀ v x,Rel w p v x→Rel w' p v x) {fn:Func} {v:ad} (h:mH Γ env s fn.results.toList=some v) :
  ∃ val,(results fn a.tmps).run P w' = .ok val w'∧Rel w' p val v:=by
 unfold mH at h;have key:∀ xs,tE Γ env s fn.results.toList=some xs→∃ mc,(results fn a.tmps).run P w' = .ok (if h:mc.length=1 then mc[0] else .tuple mc.toArray) w'∧bO w' p mc xs:=by
  intro xs gW;obtain ⟨mc,U,ae⟩:=NM aO aF hw ic gW;refine ⟨mc,?_,ae⟩;unfold results;rw [Array.mapM_eq_mapM_toList];simp only [Sem.run_bind,Sem.run_map];erw [U];simp only [Result.andThen_ok,Sem.run_pure];by_cases aI:mc.length=1
  ·simp [aI]
  ·simp [aI]
 split at h
 ·rename_i eK av
  cases h;obtain ⟨mc,U,ae⟩:=key _ av;cases ae with
  | cons u _ us _ hu aK=>cases aK;exact ⟨u,by simpa using U,hu⟩
 ·rename_i vs cB av
  cases h;obtain ⟨mc,U,ae⟩:=key _ av;have aI:mc.length≠1:=by
   rw [ae.length];intro aI;obtain ⟨x,ab⟩:=List.length_eq_one_iff.1 aI;exact cB x ab
  rw [dif_neg aI] at U;exact ⟨_,U,.cl _ _ (by simpa using ae)⟩
 ·cases h
theorem CW {s:aj} {p:bN}:∀ (b5:List Nat) (w:World),c0 w p s→(∀ d∈b5,∃ x,w.heap[d]? = some (.deferred x)) →
    cV w p (gp w b5) p∧c0 (gp w b5) p s∧(∀ b,b∉b5→(gp w b5).heap[b]? = w.heap[b]?)∧(∀ b o v,w.cell? ⟨b,o,none⟩=some v→(gp w b5).cell? ⟨b,o,none⟩=some v):=by
  intro b5
  induction b5 with
  | nil=>intro w b6 _;exact ⟨.refl w p,b6,fun _ _=>rfl,fun _ _ _ h=>h⟩
  | cons d b5 a'=>
    intro w b6 ar;obtain ⟨x,ab⟩:=ar d (List.mem_cons_self ..);have aG:d<w.heap.size:=(Array.getElem?_eq_some_iff.1 ab).1
    let w₁:World:={ w with heap:=w.heap.setIfInBounds d (.deferred none) }
    have nh:w₁.heap[d]? = some (.deferred none):=by simp [w₁,Array.getElem?_setIfInBounds,aG]
    have gX:∀ k,k≠d→w₁.heap[k]? = w.heap[k]? := fun k aD=>by
      show (w.heap.setIfInBounds d (.deferred none))[k]? = _;rw [Array.getElem?_setIfInBounds,if_neg (fun e=>aD e.symm)]
    have iy:∀ b o,w₁.cell? ⟨b,o,none⟩=w.cell? ⟨b,o,none⟩:=fun b o=>by
      by_cases e:b=d
      · subst e;simp only [World.cell?,nh,ab]
      · exact vn (gX b e)
    have hle:cV w p w₁ p:=⟨rfl,rfl,rfl,by simp [w₁],fun _ _ h=>h,fun b o _=>iy b o,fun b y ay=>by
      by_cases e:b=d
      · subst e;simp [World.jF,ab] at ay
      · rw [vm (gX b e)];exact ay⟩
    have NO:c0 w₁ p s:=by
      refine ⟨fun b o an=>?_,fun b o aN=>by simpa [w₁] using b6.lt b o aN⟩;have ag:=b6.obj b o an;have cB:b≠d:=by
        intro e;subst e;cases o with
        | box t c=>obtain ⟨us,g1,-⟩:=ag;rw [ab] at g1;cases g1
        | row t sz n=>obtain ⟨us,g1,-⟩:=ag;rw [ab] at g1;cases g1
        | map es=>obtain ⟨us,c,g1,-⟩:=ag;rw [ab] at g1;cases g1
        | j2 es it l c=>obtain ⟨_,_,_,g1,-⟩:=ag;rw [ab] at g1;cases g1
        | tick m=>obtain ⟨_,_,_,g1⟩:=ag;rw [ab] at g1;cases g1
        | loop r env=>have ck:=ag.1;rw [ab] at ck;cases ck
      have c':=gX b cB;cases o with
      | box t c=>obtain ⟨us,g1,g2,g3⟩:=ag;exact ⟨us,c'.trans g1,g2.mono hle,g3⟩
      | row t sz n=>obtain ⟨cur,g1,g2,g3,g4⟩:=ag;exact ⟨cur,c'.trans g1,g2,g3,g4⟩
      | map es=>obtain ⟨cw,c,g1,g2,g3⟩:=ag;exact ⟨cw,c,c'.trans g1,⟨g2.1.mono hle,g2.2.mono hle⟩,g3⟩
      | j2 es it l c=>exact ag.oO hle c' (gX it (ag.xd ab bn))
      | tick m=>obtain ⟨eJ,a2,a3,g1⟩:=ag;exact ⟨eJ,a2,a3,c'.trans g1⟩
      | loop r env=>exact ⟨c'.trans ag.1,fun t v h=>(ag.2 t v h).mono hle⟩
    obtain ⟨i1,i2,i3,i4⟩:=a' w₁ NO (fun cM cb=>by
      by_cases e:cM=d
      · subst e;exact ⟨none,nh⟩
      · obtain ⟨y,ay⟩:=ar cM (List.mem_cons_of_mem _ cb);exact ⟨y,(gX cM e).trans ay⟩)
    refine ⟨hle.trans i1,i2,fun b an=>?_,fun b o v av=>i4 b o v ((iy b o).trans av)⟩;have U:b≠d:=fun e=>an (e ▸ List.mem_cons_self ..)
    have ae:b∉b5:=fun e=>an (List.mem_cons_of_mem _ e)
    exact (i3 b ae).trans (gX b U)
def Fin (Γ:cg) (rs:List ResultVar) (R:eb→aj→Prop):b2→Env→aj→Prop
 | .normal,env,s | .ret,env,s=>∃ r r' ah,mH Γ env s rs=some r∧a8 r r'∧aj.Sub ah s∧R (.ret r') ah
 | .panic v,_,s=>∃ eK ah,a8 v eK∧aj.Sub ah s∧R (.panic eK) ah
 | .exit _,_,_=>False
theorem NP {w:World} {p:bN}:∀ (k:Nat) (args:List ad) (vs pre:List Value),pre.length=k→bO w p vs args→∀ t v,(sb k args).get? t=some v→∃ u,(pre++vs)[t]? = some u∧Rel w p u v:=by
 intro k args
 induction args generalizing k with
 | nil=>intro vs pre _ _ t v h;simp [sb,Env.get?] at h
 | cons x xs a'=>
  intro vs pre aD az t v h;cases az with
  | cons u _ us _ hu aK=>
  simp only [sb,Env.get?] at h;split at h
  ·rename_i he
   have:=Nat.eq_of_beq_eq_true he;subst this;cases h;exact ⟨u,by rw [List.getElem?_append_right ai];simp [aD],hu⟩
  ·obtain ⟨iK,U,ae⟩:=a' (k+1) us (pre++[u]) (by simp [aD]) aK t v h
   exact ⟨iK,by simpa using U,ae⟩
theorem Kept.sub {s ah ef:aj} {w w':World} {p bb:bN} (h:Kept s ah w p w' bb) (aw:aj.Sub ef ah):Kept s ef w p w' bb :=
 ⟨h.heap,fun b an aC=>aw.none (h.jG b an aC),h.j1⟩
theorem gg.bp (aO:bL P Γ) {f:FuncId} {fn:Func} {c:Code} {args:List ad} {s:aj} {R:eb→aj→Prop} (aE:aW P f) (ba:P.funcs[f]? = some fn) (an:fn.body=some c)
  (aX:Nat.ble args.length fn.ntmps=true) (h:af P fn.ntmps c (Fin Γ fn.results.toList R) (sb 0 args) s):gg P f args s R:=by
 refine ⟨aE,fun w p vs b6 eh=>Mp ba an fun b pN et=>?_⟩;have hle:=Nat.le_of_ble_eq_true aX;have aI:=eh.length;have b7:(vs.toArray++Array.replicate (fn.ntmps-vs.toArray.size) undef).size=fn.ntmps:=by simp;omega
 have aF:c9 fn.ntmps (w.heap.size,[]) b.roundOf (sb 0 args) s { tmps:=vs.toArray++Array.replicate (fn.ntmps-vs.toArray.size) undef,defers:=[] } w p:=by
  refine ⟨b7,fun t v av=>?_,b6,⟨[],rfl,by simp,by simp⟩,fun l aI=>(by rw [pN] at aI;cases aI),Nat.le_refl _⟩;obtain ⟨u,hu,az⟩:=NP 0 args vs [] rfl eh t v av;simp only [List.nil_append] at hu;have aG:=(List.getElem?_eq_some_iff.1 hu).1;have:(vs.toArray++Array.replicate (fn.ntmps-vs.toArray.size) undef).getD t undef=u:=by
   rw [Array.getD_eq_getD_getElem?,Array.getElem?_append_left (by simpa using aG)];simp [hu]
  rw [this];exact az
 refine kR (h b (w.heap.size,[]) _ w p et aF) ?_;rintro e cR w' ⟨x,er,ah,bb,ab,bs,gK,xB,aD⟩;obtain ⟨b5,q8,eT,dZ⟩:=gK.defs;rw [List.append_nil] at q8;obtain ⟨b8,bZ,eF,mC⟩:=CW b5 w' gK.wf (fun d ar=>⟨_,(dZ d ar).2.1⟩);have br:Kept s ah w p (gp w' b5) bb:=⟨fun aT dz aC=>(eF aT (fun hm=>by have:=(dZ aT hm).1;omega)).trans (aD.heap aT dz aC),aD.jG,aD.j1⟩;have eG:cV w p (gp w' b5) bb:=xB.trans b8;have fin:(∃ r r' ef,mH Γ er ah fn.results.toList=some r∧a8 r r'∧aj.Sub ef ah∧R (.ret r') ef) →
   ∃ b5,cR.defers=marksOf b5∧b5.Nodup∧(∀ d∈b5,w'.heap[d]? = some (.deferred (some [])))∧∃ v,(results fn cR.tmps).run P (gp w' b5) = .ok v (gp w' b5)∧tB s w p R (.returned v) (gp w' b5):=by
  rintro ⟨r,r',ef,az,vz,gH,dV⟩;obtain ⟨val,cx,en⟩:=NN aO gK mC (fun v x h=>h.mono b8) az;exact ⟨b5,q8,eT,fun d ar=>(dZ d ar).2.1,val,cx,.ret r',ef,bb,vz _ _ _ en,dV,eG,br.sub gH,bZ.sub gH⟩
 cases ab with
 | normal=>exact fin bs
 | ret=>exact fin bs
 | exit id=>exact bs.elim
 | panic v x da iX av=>
  obtain ⟨eK,ef,vz,gH,dV⟩:=bs;exact ⟨b5,q8,eT,fun d ar=>(dZ d ar).2.1,.panic eK,ef,bb,⟨v,iX,vz _ _ _ (av.mono b8)⟩,dV,eG,br.sub gH,bZ.sub gH⟩
end
end Go.bj
namespace Go.bj
def aa (P:Program) (N:Nat) (ops:Array Oper) (l:List Oper) (Q:b2→Env→aj→Prop) (env:Env) (s:aj):Prop:=
 ∀ k,(∀ j x,l[j]? = some x→ops[k+j]? = some x)→e8 P N ops (List.range' k l.length) Q env s
section
variable {P:Program} {Γ:cg} {N:Nat} {ops:Array Oper} {Q:b2→Env→aj→Prop} {env:Env} {s:aj} {l:List Oper} {o:Oper} {d:Nat}
theorem af.cK {id:Nat} {l:List Oper} (h:aa P N l.toArray l Q env s):af P N (.region id l.toArray false) Q env s:=by
 refine af.region ?_;have:=h 0 bn;rw [List.range_eq_range'];simpa using this
theorem aa.nil (h:Q .normal env s):aa P N ops [] Q env s:=fun _ _=>e8.nil h
theorem aa.cons (h:∀ k,ops[k]? = some o→aa P N ops l Q env s∨True→(∀ j x,l[j]? = some x→ops[k+1+j]? = some x)→e8 P N ops (k::List.range' (k+1) l.length) Q env s):aa P N ops (o::l) Q env s:=by
 intro k aD;have bB:ops[k]? = some o:=aD 0 o C;have aK:∀ j x,l[j]? = some x→ops[k+1+j]? = some x:=fun j x ab=>by have:=aD (j+1) x (by simpa using ab);simpa [Nat.add_assoc,Nat.add_comm 1 j] using this
 rw [List.length_cons,List.range'_succ];exact h k bB (.inr trivial) aK
theorem aa.op {K X:ad→aj→Prop} (ao:guardOf ops env o=some true) (ar:o.dst=some d) (aX:Nat.blt d N=true) (h:aU P N o env s K X)
  (aD:∀ x ah,K x ah→aa P N ops l Q ((d,x)::env) ah) (ab:∀ x ah,X x ah→Q (.panic x) env ah):aa P N ops (o::l) Q env s:=
 aa.cons fun k bB _ aK=>e8.op bB ao ar aX h (fun x ah br=>aD x ah br (k+1) aK) ab
theorem aa.th {K X:ad→aj→Prop} (ao:guardOf ops env o=some true) (ar:o.dst=none) (h:aU P N o env s K X)
  (aD:∀ x ah,K x ah→aa P N ops l Q env ah) (ab:∀ x ah,X x ah→Q (.panic x) env ah):aa P N ops (o::l) Q env s:=
 aa.cons fun k bB _ aK=>e8.th bB ao ar h (fun x ah br=>aD x ah br (k+1) aK) ab
theorem aa.skip (ao:guardOf ops env o=some false) (ar:o.dst=some d) (aX:Nat.blt d N=true) (h:aa P N ops l Q ((d,.cl [])::env) s):aa P N ops (o::l) Q env s:=
 aa.cons fun k bB _ aK=>e8.skip bB ao ar aX (h (k+1) aK)
theorem aa.step (aO:bL P Γ) {v:ad} (ao:guardOf ops env o=some true) (ar:o.dst=some d) (aX:Nat.blt d N=true) (av:nS Γ o env=some v) (h:aa P N ops l Q ((d,v)::env) s) :
  aa P N ops (o::l) Q env s:=
 aa.op ao ar aX (aU.nS aO av) (fun x ah ⟨U,ae⟩=>by subst U;subst ae;exact h) (fun _ _ h=>h.elim)
theorem aa.pure (aO:bL P Γ) {v:ad} (ao:guardOf ops env o=some true) (ar:o.dst=some d) (aX:Nat.blt d N=true) (av:kq Γ o env v) (h:aa P N ops l Q ((d,v)::env) s) :
  aa P N ops (o::l) Q env s:=
 aa.op ao ar aX (aU.pure aO av) (fun x ah ⟨U,ae⟩=>by subst U;subst ae;exact h) (fun _ _ h=>h.elim)
theorem aa.hI (aO:bL P Γ) {v:ad} (ao:guardOf ops env o=some true) (ar:o.dst=some d) (aX:Nat.blt d N=true) (av:tC Γ o env=some v) (h:aa P N ops l Q ((d,v)::env) s) :
  aa P N ops (o::l) Q env s:=aa.pure aO ao ar aX (.x av) h
theorem aa.call {f:FuncId} {as:Array Operand} {cP:Array TypeId} {xs:List ad} {R:eb→aj→Prop} (ao:guardOf ops env o=some true) (ar:o.dst=some d) (aX:Nat.blt d N=true)
  (bW:o.op = .call { callee := .value (.func f),args:=as,argTypes:=cP }) (aV:fg env as.toList=some xs) (h:gg P f xs s R)
  (aD:∀ x ah,R (.ret x) ah→aa P N ops l Q ((d,x)::env) ah) (ab:∀ x ah,R (.panic x) ah→Q (.panic x) env ah):aa P N ops (o::l) Q env s:=
 aa.op ao ar aX (aU.call bW (fv := .func f [] []) C aV (gM.eP gn)) aD ab
theorem aa.GZ {f:FuncId} {as:Array Operand} {cP:Array TypeId} {xs:List ad} {v:ad} (ao:guardOf ops env o=some true) (ar:o.dst=some d) (aX:Nat.blt d N=true)
  (bW:o.op = .call { callee := .value (.func f),args:=as,argTypes:=cP }) (aV:fg env as.toList=some xs) (h:gg P f xs s (fun out ah=>out = .ret v∧ah=s))
  (aD:aa P N ops l Q ((d,v)::env) s):aa P N ops (o::l) Q env s:=
 aa.call ao ar aX bW aV h (fun x ah ⟨U,ae⟩=>by cases U;subst ae;exact aD) (fun x ah ⟨U,_⟩=>by cases U)
theorem aa.CS {g:Operand} {fv:ad} {as:Array Operand} {cP:Array TypeId} {xs:List ad} {R:eb→aj→Prop} (ao:guardOf ops env o=some true) (ar:o.dst=some d) (aX:Nat.blt d N=true)
  (bW:o.op = .call { callee := .value g,args:=as,argTypes:=cP }) (av:aJ env g=some fv) (aV:fg env as.toList=some xs) (h:gM P fv xs s R)
  (aD:∀ x ah,R (.ret x) ah→aa P N ops l Q ((d,x)::env) ah) (ab:∀ x ah,R (.panic x) ah→Q (.panic x) env ah):aa P N ops (o::l) Q env s:=
 aa.op ao ar aX (aU.call bW av aV h) aD ab
theorem aa.idx (aO:bL P Γ) {t e:TypeId} {x y:Operand} {it aB:bJ} {sz:Nat} {xs:List ad} {own:bU} {k:IntKind} {i:Int} {v:ad} {cs:List ad} (j:Nat) (ao:guardOf ops env o=some true) (ar:o.dst=some d)
  (aX:Nat.blt d N=true) (ag:o.op = .indexAddr t x y) (aK:Γ.get? t=some it) (bo:it.bz = .aA e) (bF:Γ.get? e=some aB) (ab:aJ env x=some (.aA sz xs own)) (b7:sz=aB.size) (ay:aJ env y=some (.int k i))
  (ek:i=(j:Int)) (aS:xs[j]? = some v) (aE:cellsOf v=some cs) (h:aa P N ops l Q ((d,.bq cs 0)::env) s):aa P N ops (o::l) Q env s:=
 aa.pure aO ao ar aX (.idx j ag aK bo bF ab b7 ay ek aS aE) h
theorem aa.xz (aO:bL P Γ) {t:TypeId} {x y:Operand} {it:bJ} {cs:List UInt8} {k:IntKind} {i:Int} {b:UInt8} (j:Nat) (ao:guardOf ops env o=some true) (ar:o.dst=some d)
  (aX:Nat.blt d N=true) (ag:o.op = .index t x y) (aK:Γ.get? t=some it) (bo:it.bz = .str) (ab:aJ env x=some (.str cs)) (ay:aJ env y=some (.int k i))
  (ek:i=(j:Int)) (aS:cs[j]? = some b) (h:aa P N ops l Q ((d,.int .u8 b.toNat)::env) s):aa P N ops (o::l) Q env s:=
 aa.pure aO ao ar aX (.xz j ag aK bo ab ay ek aS) h
theorem aa.cat (aO:bL P Γ) {t yt:TypeId} {x y:Operand} {u v:List UInt8} (ao:guardOf ops env o=some true) (ar:o.dst=some d) (aX:Nat.blt d N=true) (ag:o.op = .binOp .add t x y yt)
  (ab:aJ env x=some (.str u)) (ay:aJ env y=some (.str v)) (aI:u.length+v.length≤9223372036854775807) (h:aa P N ops l Q ((d,.str (u++v))::env) s):aa P N ops (o::l) Q env s:=
 aa.pure aO ao ar aX (.cat ag ab ay aI) h
theorem aa.toStr (aO:bL P Γ) {iJ xC e:TypeId} {x:Operand} {is id aB:bJ} {sz:Nat} {u:List UInt8} {own:bU} (ao:guardOf ops env o=some true) (ar:o.dst=some d) (aX:Nat.blt d N=true) (ag:o.op = .convert iJ xC x)
  (aw:Γ.get? iJ=some is) (CX:Γ.get? xC=some id) (jw:is.bz = .aA e) (ma:id.bz = .str) (he:Γ.get? e=some aB) (ni:aB.bz = .int .u8) (ab:aJ env x=some (.aA sz (mG u) own))
  (h:aa P N ops l Q ((d,.str u)::env) s):aa P N ops (o::l) Q env s:=aa.pure aO ao ar aX (.toStr ag aw CX jw ma he ni ab) h
theorem aa.Ab (aO:bL P Γ) {iJ xC e:TypeId} {x:Operand} {is id aB:bJ} {u:List UInt8} (ao:guardOf ops env o=some true) (ar:o.dst=some d) (aX:Nat.blt d N=true) (ag:o.op = .convert iJ xC x)
  (aw:Γ.get? iJ=some is) (CX:Γ.get? xC=some id) (jw:is.bz = .str) (ma:id.bz = .aA e) (he:Γ.get? e=some aB) (ni:aB.bz = .int .u8) (ab:aJ env x=some (.str u)) (CV:u.length≤9223372036854775807)
  (h:aa P N ops l Q ((d,.aA 1 (mG u) .bd)::env) s):aa P N ops (o::l) Q env s:=aa.pure aO ao ar aX (.Ab ag aw CX jw ma he ni ab CV) h
theorem aa.slice (aO:bL P Γ) {t e:TypeId} {x:Operand} {jJ aY ig:Option Operand} {it aB:bJ} {sz:Nat} {xs:List ad} {own cZ:bU} (a b:Nat) (ao:guardOf ops env o=some true) (ar:o.dst=some d)
  (aX:Nat.blt d N=true) (ag:o.op = .slice t x jJ aY ig)
  (aK:Γ.get? t=some it) (bo:it.bz = .aA e) (bF:Γ.get? e=some aB) (ab:aJ env x=some (.aA sz xs own)) (b7:xs=[]∨sz=aB.size)
  (hH:(jJ=none∧a=0)∨∃ y k,jJ=some y∧aJ env y=some (.int k (a:Int))) (oW:(aY=none∧ig=none∧b=xs.length)∨∃ y k,aY=some y∧aJ env y=some (.int k (b:Int)))
  (l9:(ig=none∧cZ = .bd)∨(∃ y k,ig=some y∧aJ env y=some (.int k (b:Int))∧cZ = .clip)) (aI:a≤b) (c':b≤xs.length) (h:aa P N ops l Q ((d,.aA sz ((xs.take b).drop a) cZ)::env) s):aa P N ops (o::l) Q env s:=
 aa.pure aO ao ar aX (.slice a b ag aK bo bF ab b7 hH oW l9 aI c') h
theorem aa.freeze (t b:Nat) {T:TypeId} {cs:List ad} (aK:env.get? t=some (.ptr b 0)) (aw:s b=some (.box T cs)) (h:aa P N ops l Q ((t,.bq cs 0)::env) (s.del b)):aa P N ops l Q env s:=
 fun k aD=>e8.freeze t b aK aw (h k aD)
theorem cf {next:Env→aj→Prop} (h:next env s):b2.andThen next Q .normal env s:=h
end
end Go.bj
namespace Go.bj
def oX (ops:Array Oper) (i j:Nat):Prop:=∃ o e,ops[i]? = some o∧e∈o.after∧Region.binds .any e=true∧e.on=j
inductive j5 (ops:Array Oper):Nat→Nat→Prop
 | dep {i j:Nat} (h:oX ops i j):j5 ops i j
 | trans {i j k:Nat} (h:oX ops i j) (t:j5 ops j k):j5 ops i k
def tF (ops:Array Oper) (D:Nat→Bool):Prop:=∀ i j,D i=true→oX ops i j→D j=true
theorem tF.oY {ops:Array Oper} {D:Nat→Bool} (h:tF ops D) {i j:Nat} (aY:D i=true) (aV:j5 ops i j):D j=true:=by
 induction aV with
 | dep ar=>exact h _ _ aY ar
 | trans ar _ a'=>exact a' (h _ _ aY ar)
def dA (D:Nat→Bool) (i:Nat):Nat→Bool:=fun j=>if j=i then true else D j
theorem lz (D:Nat→Bool) (i:Nat):dA D i i=true:=by simp [dA]
theorem iL (D:Nat→Bool) {i j:Nat} (h:j≠i):dA D i j=D j:=by simp [dA,h]
theorem tG {D:Nat→Bool} {i j:Nat} (h:D j=true):dA D i j=true:=by unfold dA;split<;>simp_all
def gh (ops:Array Oper) (D:Nat→Bool) (i:Nat):Prop:=i<ops.size∧D i=false∧∀ j,oX ops i j→D j=true
theorem tF.dA {ops:Array Oper} {D:Nat→Bool} (h:tF ops D) {i:Nat} (az:gh ops D i):tF ops (dA D i):=by
 intro a b aV ar;by_cases e:a=i
 ·subst e;exact tG (az.2.2 b ar)
 ·rw [iL _ e] at aV;exact tG (h a b aV ar)
def looks (ops:Array Oper) (o:Oper):List Tmp:=
  (match o.guard with
   | some (g,_)=>match (ops[g]?).bind (·.dst) with
     | some d=>[d]
     | none=>[]
   | none=>[])++o.op.operands.toList.filterMap fun | .tmp t=>some t|_=>none
def bc (env:Env):List Tmp→Env
  | []=>[]
  | t::fz=>match env.get? t with
    | some v=>(t,v)::bc env fz
    | none=>bc env fz
theorem G0 {env:Env} {fz:List Tmp} {t:Tmp} {v:ad} (h:(bc env fz).get? t=some v):env.get? t=some v∧t∈fz:=by
 induction fz with
 | nil=>simp [bc,Env.get?] at h
 | cons u fz a'=>
  simp only [bc] at h;split at h
  ·rename_i x ab
   simp only [Env.get?] at h;split at h
   ·rename_i he
    have:=Nat.eq_of_beq_eq_true he;subst this;cases h;exact ⟨ab,List.mem_cons_self ..⟩
   ·exact ⟨(a' h).1,List.mem_cons_of_mem _ (a' h).2⟩
  ·exact ⟨(a' h).1,List.mem_cons_of_mem _ (a' h).2⟩
def Still (J:aj→Prop) (P:Program) (Γ:cg) (N:Nat) (ops:Array Oper) (o:Oper) (E:Env) (v:ad):Prop:=
 (guardOf ops E o=some true∧kq Γ o E v)∨(guardOf ops E o=some false∧v = .cl []) ∨
  (guardOf ops E o=some true∧∀ s,J s→aU P N o E s (fun x ah=>x=v∧ah=s) (fun _ _=>False))
structure sc (ops:Array Oper):Prop where
 uniq:∀ (i j:Nat) (x y:Oper) (d:Tmp),ops[i]? = some x→ops[j]? = some y→x.dst=some d→y.dst=some d→i=j
 apart:∀ (i j:Nat) (x y:Oper) (d:Tmp),i≠j→ops[i]? = some x→ops[j]? = some y→x.dst=some d→d∈looks ops y→j5 ops i j∨j5 ops j i
 back:∀ i j,oX ops i j→j<i
 own:∀ (i:Nat) (x:Oper) (d:Tmp),ops[i]? = some x→x.dst=some d→d∉looks ops x
inductive nj (P:Program) (Γ:cg) (N:Nat) (ops:Array Oper) (Q:b2→Env→aj→Prop):(aj→Prop)→(Nat→Bool)→Env→aj→Prop
 | congr {J:aj→Prop} {D:Nat→Bool} {env:Env} {s:aj} (e:Env) (he:∀ t,e.get? t=env.get? t) (h:nj P Γ N ops Q J D e s):nj P Γ N ops Q J D env s
 | fin {J:aj→Prop} {D:Nat→Bool} {env:Env} {s:aj} (dZ:∀ i,i<ops.size→D i=true) (h:Q .normal env s):nj P Γ N ops Q J D env s
 | still {J:aj→Prop} {D:Nat→Bool} {env:Env} {s:aj} (dX:J s) (i:Nat) (o:Oper) (d:Tmp) (v:ad) (az:gh ops D i) (ag:ops[i]? = some o) (ar:o.dst=some d) (aX:d<N)
   (av:Still J P Γ N ops o (bc env (looks ops o)) v) (h:nj P Γ N ops Q J (dA D i) ((d,v)::env) s):nj P Γ N ops Q J D env s
 | split {J:aj→Prop} {D:Nat→Bool} {env:Env} {s:aj} (K X:Nat→ad→aj→Prop) (tH:Nat→ad→aj→aj→Prop) (cB:∃ i,i<ops.size∧D i=false)
   (ao:∀ i o,gh ops D i→ops[i]? = some o→guardOf ops (bc env (looks ops o)) o=some true∧aU P N o (bc env (looks ops o)) s (K i) (X i)∧∀ d,o.dst=some d→d<N)
   (aS:∀ i o,gh ops D i→ops[i]? = some o→∀ x ah,K i x ah→(tH i x ah=J∧J ah)∨∀ j,j<ops.size→D j=true→j≠i→j5 ops i j)
   (aD:∀ i o d,gh ops D i→ops[i]? = some o→o.dst=some d→∀ x ah,K i x ah→nj P Γ N ops Q (tH i x ah) (dA D i) ((d,x)::env) ah)
   (j6:∀ i o,gh ops D i→ops[i]? = some o→o.dst=none→∀ x ah,K i x ah→nj P Γ N ops Q (tH i x ah) (dA D i) env ah)
   (ab:∀ i o,gh ops D i→ops[i]? = some o→∀ x ah,X i x ah→Q (.panic x) [] ah):nj P Γ N ops Q J D env s
abbrev bm (J:aj→Prop) (P:Program) (Γ:cg) (N:Nat) (ops:Array Oper) (Q:b2→Env→aj→Prop) (D:Nat→Bool) (env:Env) (s:aj):Prop:=nj P Γ N ops Q J D env s
section
variable {J:aj→Prop} {P:Program} {Γ:cg} {N:Nat} {ops:Array Oper} {Q:b2→Env→aj→Prop} {D:Nat→Bool} {env:Env} {s:aj}
theorem bm.congr (e:Env) (he:∀ t,e.get? t=env.get? t) (h:bm J P Γ N ops Q D e s):bm J P Γ N ops Q D env s:=nj.congr e he h
theorem bm.fin (dZ:∀ i,i<ops.size→D i=true) (h:Q .normal env s):bm J P Γ N ops Q D env s:=nj.fin dZ h
theorem bm.still (dX:J s) (i:Nat) (o:Oper) (d:Tmp) (v:ad) (az:gh ops D i) (ag:ops[i]? = some o) (ar:o.dst=some d) (aX:d<N)
  (av:Still J P Γ N ops o (bc env (looks ops o)) v) (h:bm J P Γ N ops Q (dA D i) ((d,v)::env) s):bm J P Γ N ops Q D env s:=nj.still dX i o d v az ag ar aX av h
theorem bm.split (K X:Nat→ad→aj→Prop) (cB:∃ i,i<ops.size∧D i=false)
  (ao:∀ i o,gh ops D i→ops[i]? = some o→guardOf ops (bc env (looks ops o)) o=some true∧aU P N o (bc env (looks ops o)) s (K i) (X i)∧∀ d,o.dst=some d→d<N)
  (aS:∀ i o,gh ops D i→ops[i]? = some o→∀ x ah,K i x ah→J ah∨∀ j,j<ops.size→j≠i→j5 ops i j)
  (aD:∀ i o d,gh ops D i→ops[i]? = some o→o.dst=some d→∀ x ah,K i x ah→bm J P Γ N ops Q (dA D i) ((d,x)::env) ah)
  (j6:∀ i o,gh ops D i→ops[i]? = some o→o.dst=none→∀ x ah,K i x ah→bm J P Γ N ops Q (dA D i) env ah)
  (ab:∀ i o,gh ops D i→ops[i]? = some o→∀ x ah,X i x ah→Q (.panic x) [] ah):bm J P Γ N ops Q D env s:=
 nj.split K X (fun _ _ _=>J) cB ao (fun i o U ae x ah al=>(aS i o U ae x ah al).imp (fun h=>⟨rfl,h⟩) (fun h j bl _ bD=>h j bl bD)) aD j6 ab
end
def me:aj→Prop:=fun _=>True
abbrev bf (P:Program) (Γ:cg) (N:Nat) (ops:Array Oper) (Q:b2→Env→aj→Prop) (D:Nat→Bool) (env:Env) (s:aj):Prop:=bm me P Γ N ops Q D env s
structure jK (J:aj→Prop) (P:Program) (Γ:cg) (N:Nat) (B:ff) (ro:Option Nat) (ops:Array Oper) (D L:Nat→Bool) (V:Nat→ad) (E:Nat→Env) (env:Env) (s:aj) (a:Act) (w:World) (p:bN):Prop where
 sub:∀ i,L i=true→D i=true
 pT:tF ops D
 oZ:tF ops L
 st:c9 N B ro [] s a w p
 known:∀ t v,env.get? t=some v→(∃ k o,D k=true∧L k=false∧ops[k]? = some o∧o.dst=some t)∨Rel w p (a.tmps.getD t undef) v
 tI:∀ i o,D i=true→L i=false→ops[i]? = some o→∃ d,o.dst=some d∧d<N∧env.get? d=some (V i)∧Still J P Γ N ops o (E i) (V i) ∧
  (∀ t x,(E i).get? t=some x→t∈looks ops o∧(∀ k u,ops[k]? = some u→u.dst=some t→j5 ops i k→L k=false→x=V k) ∧
   ((∀ k u,ops[k]? = some u→u.dst=some t→j5 ops i k→L k=true)→Rel w p (a.tmps.getD t undef) x))
 bound:∀ i,D i=true→i<ops.size
 inv:(∀ i,D i=true→L i=true)∨J s
theorem c9.restrict {N:Nat} {B:ff} {ro:Option Nat} {env:Env} {s:aj} {a:Act} {w:World} {p:bN} (h:c9 N B ro env s a w p) (e:Env) (he:∀ t v,e.get? t=some v→Rel w p (a.tmps.getD t undef) v) :
  c9 N B ro e s a w p:=⟨h.size,he,h.wf,h.defs,h.round,h.base⟩
section
variable {J:aj→Prop} {P:Program} {Γ:cg} {N:Nat} {ops:Array Oper} {Q:b2→Env→aj→Prop}
theorem jK.ahead (dc:sc ops) {B:ff} {ro:Option Nat} {D L:Nat→Bool} {V:Nat→ad} {E:Nat→Env} {env:Env} {s:aj} {a:Act} {w:World} {p:bN}
  (h:jK J P Γ N B ro ops D L V E env s a w p) {i:Nat} {o:Oper} {d:Tmp} {v:ad} (az:gh ops D i) (ag:ops[i]? = some o) (ar:o.dst=some d) (aX:d<N)
  (dX:J s) (av:Still J P Γ N ops o (bc env (looks ops o)) v) :
  jK J P Γ N B ro ops (dA D i) L (fun j=>if j=i then v else V j) (fun j=>if j=i then bc env (looks ops o) else E j) ((d,v)::env) s a w p:=by
 have NQ:L i=false:=by
  cases aI:L i with
  | false=>rfl
  | true=>have:=h.sub i aI;rw [az.2.1] at this;cases this
 refine ⟨fun j aS=>tG (h.sub j aS),h.pT.dA az,h.oZ,h.st,fun t x ab=>?_,fun j u aS lA hu=>?_,fun j aS=>?_,.inr dX⟩
 ·simp only [Env.get?] at ab
  split at ab
  ·rename_i he
   have:=Nat.eq_of_beq_eq_true he;subst this;exact .inl ⟨i,o,lz _ _,NQ,ag,ar⟩
  ·rcases h.known t x ab with ⟨k,u,U,ae,al,bl⟩|en
   ·exact .inl ⟨k,u,tG U,ae,al,bl⟩
   ·exact .inr en
 ·by_cases e:j=i
  ·subst e
   rw [ag] at hu;cases hu;refine ⟨d,ar,aX,by simp [Env.get?],?_,?_⟩
   ·simpa using av
   ·intro t x ab
    simp only [if_true] at ab;obtain ⟨pU,o0⟩:=G0 ab;refine ⟨o0,fun k u aD j7 ho nk=>?_,fun fV=>?_⟩
    ·have cB:k≠j:=fun e'=>by
      subst e';rw [ag] at aD;cases aD;rw [ar] at j7;cases j7;exact dc.own _ _ _ ag ar o0
     rw [if_neg cB];have NR:D k=true:=by
      have:=(h.pT.dA az).oY (lz D j) ho;rwa [iL _ cB] at this
     obtain ⟨cM,b8,bZ,eF,-⟩:=h.tI k u NR nk aD;rw [j7] at b8;cases b8;rw [pU] at eF;cases eF;rfl
    ·rcases h.known t x pU with ⟨k,u,U,ae,al,bl⟩|en
     ·have cB:k≠j:=fun e'=>by subst e';rw [az.2.1] at U;cases U
      rcases dc.apart k j u o t cB al ag bl o0 with ho|ho
      ·have:=h.pT.oY U ho;rw [az.2.1] at this;cases this
      ·have:=fV k u al bl ho;rw [ae] at this;cases this
     ·exact en
  ·rw [iL _ e] at aS
   obtain ⟨cM,b8,bZ,eF,mC,nm⟩:=h.tI j u aS lA hu;have ma:d≠cM:=fun e'=>by subst e';exact e (dc.uniq j i u o d hu ag b8 ar)
   refine ⟨cM,b8,bZ,?_,?_,?_⟩
   ·simp only [Env.get?,if_neg e]
    have:Nat.beq d cM=false:=by
     cases an:Nat.beq d cM with
     | false=>rfl
     | true=>exact absurd (Nat.eq_of_beq_eq_true an) ma
    simp [this,eF]
   ·simpa [e] using mC
   ·intro t x ab
    simp only [if_neg e] at ab;obtain ⟨f1,f2,f3⟩:=nm t x ab;refine ⟨f1,fun k iK aD j7 ho nk=>?_,f3⟩;have cB:k≠i:=fun e'=>by
     subst e';have:=h.pT.oY aS ho;rw [az.2.1] at this;cases this
    rw [if_neg cB];exact f2 k iK aD j7 ho nk
 ·by_cases e:j=i
  ·subst e;exact az.1
  ·rw [iL _ e] at aS;exact h.bound j aS
theorem jK.NS (dc:sc ops) {B:ff} {ro:Option Nat} {D L:Nat→Bool} {V:Nat→ad} {E:Nat→Env} {env:Env} {s:aj} {a:Act} {w w':World} {p bb:bN}
  (h:jK J P Γ N B ro ops D L V E env s a w p) {i:Nat} {o:Oper} {d:Tmp} {val:Value} (az:gh ops L i) (dZ:D i=true) (ag:ops[i]? = some o) (ar:o.dst=some d)
  (hle:cV w p w' bb) (aD:Kept s s w p w' bb) (b6:c0 w' bb s) (lx:Rel w' bb val (V i)):jK J P Γ N B ro ops D (dA L i) V E env s (a.put (some d) val) w' bb:=by
 obtain ⟨cM,cb,l0,Ac,G1,eu⟩:=h.tI i o dZ az.2.1 ag;rw [ar] at cb;cases cb;have gK:=h.st.step hle aD b6;have q9:=gK.put l0 lx;have js:∀ t,t≠d→(a.put (some d) val).tmps.getD t undef=a.tmps.getD t undef:=fun t aK=>by
  simp only [Act.put,Array.getD_eq_getD_getElem?,Array.getElem?_setIfInBounds,if_neg (fun e:d=t=>aK e.symm)]
 have Ad:(a.put (some d) val).tmps.getD d undef=val:=by
  have:d<a.tmps.size:=by rw [h.st.size];exact l0
  simp [Act.put,Array.getD_eq_getD_getElem?,Array.getElem?_setIfInBounds,this]
 refine ⟨fun j aS=>?_,h.pT,h.oZ.dA az,q9.restrict [] (by simp [Env.get?]),fun t x ab=>?_,fun j u aS lA hu=>?_,h.bound,h.inv.imp (fun q j aS=>tG (q j aS)) id⟩
 ·by_cases e:j=i
  ·subst e;exact dZ
  ·rw [iL _ e] at aS;exact h.sub j aS
 ·by_cases e:t=d
  ·subst e
   rw [Ac] at ab;cases ab;exact .inr (by rw [Ad];exact lx)
  ·rcases h.known t x ab with ⟨k,u,U,ae,al,bl⟩|en
   ·have cB:k≠i:=fun e'=>by subst e';rw [ag] at al;cases al;rw [ar] at bl;cases bl;exact e C
    exact .inl ⟨k,u,U,by rw [iL _ cB];exact ae,al,bl⟩
   ·exact .inr (by rw [js t e];exact en.mono hle)
 ·have cB:j≠i:=fun e=>by subst e;rw [lz] at lA;cases lA
  rw [iL _ cB] at lA;obtain ⟨cM,b8,bZ,eF,mC,nm⟩:=h.tI j u aS lA hu;refine ⟨cM,b8,bZ,eF,mC,fun t x ab=>?_⟩;obtain ⟨f1,f2,f3⟩:=nm t x ab;refine ⟨f1,fun k iK eL j7 ho nk=>?_,fun fV=>?_⟩
  ·have q':k≠i:=fun e=>by subst e;rw [lz] at nk;cases nk
   rw [iL _ q'] at nk;exact f2 k iK eL j7 ho nk
  ·by_cases e:t=d
   ·subst e
    rcases dc.apart i j o u t (Ne.symm cB) ag hu ar f1 with ho|ho
    ·have:=h.oZ.dA az |>.oY (lz L i) ho
     rw [iL _ cB] at this;rw [lA] at this;cases this
    ·have:=f2 i o ag ar ho az.2.1
     subst this;rw [Ad];exact lx
   ·rw [js t e]
    refine (f3 fun k iK eL j7 ho=>?_).mono hle;have q':k≠i:=fun e'=>by subst e';rw [ag] at eL;cases eL;rw [ar] at j7;cases j7;exact e C
    have:=fV k iK eL j7 ho;rwa [iL _ q'] at this
theorem jK.ready (dc:sc ops) {B:ff} {ro:Option Nat} {D L:Nat→Bool} {V:Nat→ad} {E:Nat→Env} {env:Env} {s:aj} {a:Act} {w:World} {p:bN}
  (h:jK J P Γ N B ro ops D L V E env s a w p) {i:Nat} {o:Oper} (az:gh ops L i) (dZ:D i=false) (ag:ops[i]? = some o) :
  gh ops D i∧c9 N B ro (bc env (looks ops o)) s a w p:=by
 refine ⟨⟨az.1,dZ,fun j aS=>h.sub j (az.2.2 j aS)⟩,h.st.restrict _ fun t v av=>?_⟩;obtain ⟨U,ae⟩:=G0 av;rcases h.known t v U with ⟨k,u,g1,g2,g3,g4⟩|en
 ·have cB:k≠i:=fun e=>by subst e;rw [dZ] at g1;cases g1
  rcases dc.apart k i u o t cB g3 ag g4 ae with ho|ho
  ·have:=h.pT.oY g1 ho;rw [dZ] at this;cases this
  ·have:=(h.oZ.dA az).oY (lz L i) ho
   rw [iL _ cB,g2] at this;cases this
 ·exact en
theorem jK.both (dc:sc ops) {B:ff} {ro:Option Nat} {D L:Nat→Bool} {V:Nat→ad} {E:Nat→Env} {env:Env} {s ah:aj} {a:Act} {w w':World} {p bb:bN}
  (h:jK J P Γ N B ro ops D L V E env s a w p) {i:Nat} {o:Oper} {val:Value} {x:ad} (az:gh ops L i) (n4:gh ops D i) (ag:ops[i]? = some o) (l0:∀ d,o.dst=some d→d<N)
  (hle:cV w p w' bb) (aD:Kept s ah w p w' bb) (b6:c0 w' bb ah) (lx:Rel w' bb val x) (dX:J ah∨∀ j,j<ops.size→D j=true→j≠i→j5 ops i j) :
  jK J P Γ N B ro ops (dA D i) (dA L i) V E (match o.dst with|some d=>(d,x)::env|none=>env) ah (a.put o.dst val) w' bb:=by
 have gK:=h.st.step hle aD b6;have js:∀ t,o.dst≠some t→(a.put o.dst val).tmps.getD t undef=a.tmps.getD t undef:=fun t aK=>by
  cases ar:o.dst with
  | none=>rfl
  | some d=>
   have:d≠t:=fun e=>aK (by rw [ar,e])
   simp only [Act.put,Array.getD_eq_getD_getElem?,Array.getElem?_setIfInBounds,if_neg this]
 have Ad:∀ d,o.dst=some d→(a.put o.dst val).tmps.getD d undef=val:=fun d ar=>by
  have:d<a.tmps.size:=by rw [h.st.size];exact l0 d ar
  simp [ar,Act.put,Array.getD_eq_getD_getElem?,Array.getElem?_setIfInBounds,this]
 have q9:c9 N B ro [] ah (a.put o.dst val) w' bb:=by
  cases ar:o.dst with
  | none=>exact gK
  | some d=>exact (gK.put (l0 d ar) lx).restrict [] (by simp [Env.get?])
 refine ⟨fun j aS=>?_,h.pT.dA n4,h.oZ.dA az,q9,fun t y ay=>?_,fun j u aS lA hu=>?_,fun j aS=>?_,dX.symm.imp (fun q j aS=>?_) id⟩
 ·by_cases e:j=i
  ·subst e;exact lz _ _
  ·rw [iL _ e] at aS;exact tG (h.sub j aS)
 ·by_cases e:o.dst=some t
  ·simp only [e,Env.get?,Nat.beq_refl,if_true] at ay
   cases ay;exact .inr (by rw [Ad t e];exact lx)
  ·have ey:env.get? t=some y:=by
    cases ar:o.dst with
    | none=>rw [ar] at ay;exact ay
    | some d=>
     rw [ar] at ay e;simp only [Env.get?] at ay;have:Nat.beq d t=false:=by
      cases an:Nat.beq d t with
      | false=>rfl
      | true=>exact absurd (congrArg some (Nat.eq_of_beq_eq_true an)) e
     rw [this] at ay;simpa using ay
   rcases h.known t y ey with ⟨k,u,U,ae,al,bl⟩|en
   ·have cB:k≠i:=fun e'=>by subst e';rw [ag] at al;cases al;exact e bl
    exact .inl ⟨k,u,tG U,by rw [iL _ cB];exact ae,al,bl⟩
   ·exact .inr (by rw [js t e];exact en.mono hle)
 ·have cB:j≠i:=fun e=>by subst e;rw [lz] at lA;cases lA
  rw [iL _ cB] at lA aS;obtain ⟨cM,b8,bZ,eF,mC,nm⟩:=h.tI j u aS lA hu;have xD:o.dst≠some cM:=fun e=>cB (dc.uniq j i u o cM hu ag b8 e)
  refine ⟨cM,b8,bZ,?_,mC,fun t y ay=>?_⟩
  ·cases ar:o.dst with
   | none=>exact eF
   | some d=>
    simp only [Env.get?];have:Nat.beq d cM=false:=by
     cases an:Nat.beq d cM with
     | false=>rfl
     | true=>exact absurd (by rw [ar,Nat.eq_of_beq_eq_true an]) xD
    rw [this];simpa using eF
  ·obtain ⟨f1,f2,f3⟩:=nm t y ay
   have G2:o.dst≠some t:=fun e=>by
    rcases dc.apart i j o u t (Ne.symm cB) ag hu e f1 with ho|ho
    ·have:=(h.oZ.dA az).oY (lz L i) ho
     rw [iL _ cB,lA] at this;cases this
    ·have:=h.pT.oY aS ho;rw [n4.2.1] at this;cases this
   refine ⟨f1,fun k iK eL j7 ho nk=>?_,fun fV=>?_⟩
   ·have q':k≠i:=fun e=>by subst e;rw [lz] at nk;cases nk
    rw [iL _ q'] at nk;exact f2 k iK eL j7 ho nk
   ·rw [js t G2]
    refine (f3 fun k iK eL j7 ho=>?_).mono hle;have q':k≠i:=fun e'=>by subst e';rw [ag] at eL;cases eL;exact G2 j7
    have:=fV k iK eL j7 ho;rwa [iL _ q'] at this
 ·by_cases e:j=i
  ·subst e;exact az.1
  ·rw [iL _ e] at aS;exact h.bound j aS
 ·by_cases e:j=i
  ·subst e;exact lz _ _
  ·rw [iL _ e] at aS
   exact (h.oZ.dA az).oY (lz L i) (q j (h.bound j aS) aS e)
theorem jK.NT (dc:sc ops) {B:ff} {ro:Option Nat} {D L:Nat→Bool} {V:Nat→ad} {E:Nat→Env} {env:Env} {s ah:aj} {a:Act} {w w':World} {p bb:bN} {tH:aj→Prop}
  (h:jK J P Γ N B ro ops D L V E env s a w p) {i:Nat} {o:Oper} {val:Value} {x:ad} (az:gh ops L i) (n4:gh ops D i) (ag:ops[i]? = some o) (l0:∀ d,o.dst=some d→d<N)
  (hle:cV w p w' bb) (aD:Kept s ah w p w' bb) (b6:c0 w' bb ah) (lx:Rel w' bb val x) (dX:(tH=J∧J ah)∨∀ j,j<ops.size→D j=true→j≠i→j5 ops i j) :
  jK tH P Γ N B ro ops (dA D i) (dA L i) V E (match o.dst with|some d=>(d,x)::env|none=>env) ah (a.put o.dst val) w' bb:=by
 rcases dX with ⟨rfl,dX⟩|fV
 ·exact h.both dc az n4 ag l0 hle aD b6 lx (.inl dX)
 ·have fs:=h.both dc az n4 ag l0 hle aD b6 lx (.inr fV)
  have left:∀ j,dA D i j=true→dA L i j=true:=fun j aS=>by
   by_cases e:j=i
   ·subst e;exact lz _ _
   ·rw [iL _ e] at aS
    exact (h.oZ.dA az).oY (lz L i) (fV j (h.bound j aS) aS e)
  exact ⟨fs.sub,fs.pT,fs.oZ,fs.st,fs.known,fun j u aS lA _=>(by rw [left j aS] at lA;cases lA),fs.bound,.inl left⟩
def iA (listed:Array Bool) (n:Nat):Nat→Bool:=fun i=>decide (i<n)&&listed.getD i true
theorem mem_ready {listed:Array Bool} (vA:∀ i j,oX ops i j→j<i) {i:Nat} (h:i∈Region.ready .any ops listed):gh ops (iA listed ops.size) i:=by
 unfold Region.ready at h;simp only [List.mem_filter,List.mem_range,Bool.and_eq_true,Bool.not_eq_true'] at h;obtain ⟨aG,aI,fV⟩:=h;refine ⟨aG,by simp only [iA,aI,Bool.and_false],fun j ⟨o,e,ag,he,an,aS⟩=>?_⟩;have WX:j<i:=vA i j ⟨o,e,ag,he,an,aS⟩;rw [ag] at fV;simp only [Option.map_some,Option.getD_some,Array.all_eq_true'] at fV;have:=fV e he;simp only [an,Bool.not_true,Bool.false_or] at this;rw [aS] at this;have qP:j<ops.size:=by omega
 simp only [iA,qP,decide_true,Bool.true_and];rw [Array.getD_eq_getD_getElem?] at this ⊢;cases ab:listed[j]? with
 | none=>rfl
 | some b=>rw [ab] at this;simpa using this
theorem G3 {listed:Array Bool} (vA:∀ i j,oX ops i j→j<i) (aC:Region.ready .any ops listed=[]) (b7:listed.size=ops.size):∀ i,i<ops.size→iA listed ops.size i=true:=by
 intro i
 induction i using Nat.strongRecOn with
 | _ i a'=>
  intro aY;cases aI:listed.getD i true with
  | true=>simp [iA,aY,aI]
  | false=>
   have gA:i∈Region.ready .any ops listed:=by
    unfold Region.ready;simp only [List.mem_filter,List.mem_range,Bool.and_eq_true,Bool.not_eq_true'];refine ⟨aY,aI,?_⟩;have ag:ops[i]? = some ops[i]:=by simp
    rw [ag];simp only [Option.map_some,Option.getD_some,Array.all_eq_true'];intro e he;cases an:Region.binds .any e with
    | false=>rfl
    | true=>
     simp only [Bool.not_true,Bool.false_or];have aG:=vA i e.on ⟨_,e,ag,he,an,rfl⟩;have:=a' e.on aG ai;have c6:e.on<listed.size:=by omega
     simp only [iA,Bool.and_eq_true] at this;rw [Array.getD_eq_getD_getElem?] at this ⊢;have NU:listed[e.on]? = some listed[e.on]:=by simp [c6]
     rw [NU] at this ⊢;simpa using this.2
   rw [aC] at gA;cases gA
theorem CY {listed:Array Bool} {i:Nat} (aY:i<ops.size) (b7:listed.size=ops.size):iA (listed.setIfInBounds i true) ops.size=dA (iA listed ops.size) i:=by
 funext j;unfold iA dA;by_cases e:j=i
 ·subst e;simp [aY,b7]
 ·have e':¬ i=j:=fun h=>e h.symm
  simp only [if_neg e,Array.getD_eq_getD_getElem?,Array.getElem?_setIfInBounds,if_neg e']
theorem NV (aO:bL P Γ) {B:ff} {ro:Option Nat} {E:Env} {s:aj} {a:Act} {w:World} {p:bN} {o:Oper} {d:Tmp} {v:ad} (ar:o.dst=some d) (aF:c9 N B ro E s a w p) (dX:J s) (h:Still J P Γ N ops o E v) {R:Ending→World→Prop} {S:Act→World→Prop}
  (I:∀ val w' bb,Rel w' bb val v→cV w p w' bb→Kept s s w p w' bb→c0 w' bb s→S (a.put (some d) val) w') :
  (if Region.wanted o (yielded ops a.tmps)=true then fM o=true∧nQ P ((execOp a.eval o).run P w) (fun e w'=>match e with
   | .returned v=>S (a.put o.dst v) w'
   | .panicked da=>R (.panicked da) w'
   | .outgrown=>False) else S (a.put o.dst undef) w):=by
 rcases h with ⟨ao,av⟩|⟨ao,rfl⟩|⟨ao,av⟩
 ·rw [if_pos (tf aF ao)]
  refine ⟨av.fM,?_⟩;obtain ⟨val,w',bb,cx,az,hle,aD⟩:=av.ok aO aF;rw [cx];obtain ⟨kV,hG⟩:=aD s aF.wf;rw [ar];exact I val w' bb az hle kV hG
 ·rw [if_neg (by rw [tf aF ao];simp),ar]
  exact I undef w p Cq (.refl w p) (.refl s w p) aF.wf
 ·rw [if_pos (tf aF ao)]
  refine ⟨(av s dX).1,((av s dX).2 ro B a w p aF).mono ?_⟩;rintro e w' ⟨ah,bb,hle,aD,b6,he⟩;cases e with
  | returned val=>
   obtain ⟨x,⟨rfl,rfl⟩,az⟩:=he;rw [ar];exact I val w' bb az hle aD b6
  | panicked da=>obtain ⟨v,x,-,ba,-⟩:=he;exact ba.elim
  | outgrown=>exact he
end
end Go.bj
namespace Go.bj
section
variable {J:aj→Prop} {P:Program} {Γ:cg} {N:Nat} {ops:Array Oper} {Q:b2→Env→aj→Prop}
def pV (listed:Array Bool) (n:Nat):Nat:=(List.range n).countP fun i => !iA listed n i
theorem G4 {listed:Array Bool} {i:Nat} (aY:i<ops.size) (b7:listed.size=ops.size) (aI:iA listed ops.size i=false) :
  pV (listed.setIfInBounds i true) ops.size+1=pV listed ops.size:=by
 unfold pV;rw [CY aY b7];have key:∀ l:List Nat,l.Nodup→i∈l→l.countP (fun j => !dA (iA listed ops.size) i j)+1=l.countP (fun j => !iA listed ops.size j):=by
  intro l
  induction l with
  | nil=>intro _ h;cases h
  | cons x l a'=>
   intro aC hm;have gZ:=List.nodup_cons.1 aC;simp only [List.countP_cons];by_cases e:x=i
   ·subst e
    have:l.countP (fun j => !dA (iA listed ops.size) x j)=l.countP (fun j => !iA listed ops.size j):=by
     apply List.countP_congr;intro y ay;have cB:y≠x:=fun e=>gZ.1 (e ▸ ay)
     rw [iL _ cB]
    rw [this,lz,aI];simp
   ·have NW:i∈l:=by rcases List.mem_cons.1 hm with h|h;exact absurd h.symm e;exact h
    have:=a' gZ.2 NW;rw [iL _ e];omega
 exact key _ List.nodup_range (List.mem_range.2 aY)
theorem G5 {listed:Array Bool} (h:pV listed ops.size=0):∀ i,i<ops.size→iA listed ops.size i=true:=by
 intro i aY;unfold pV at h;rw [List.countP_eq_zero] at h;have:=h i (List.mem_range.2 aY);simpa using this
theorem G6 {Q:fY→Act→World→Prop} {i:Nat} {rest:List Nat} {o:Oper} (ag:ops[i]? = some o) (a:Act) (w:World) :
  hZ P ops Q (i::rest) a w=(if Region.wanted o (yielded ops a.tmps)=true then fM o=true∧nQ P ((execOp a.eval o).run P w) (fun e w'=>match e with
   | .returned v=>hZ P ops Q rest (a.put o.dst v) w'
   | .panicked da=>Q (.panic da) a w'
   | .outgrown=>False) else hZ P ops Q rest (a.put o.dst undef) w):=by
 simp only [hZ,ag];split
 ·exact propext ⟨fun h=>⟨h.1,h.2.mono fun e w' h=>by cases e<;>exact h⟩,fun h=>⟨h.1,h.2.mono fun e w' h=>by cases e<;>exact h⟩⟩
 ·rfl
theorem G7 (fuel t:Nat) (listed:Array Bool) :
  (Region.ready .any ops listed=[]∧Region.linearise.go .any ops (fuel+1) t listed []=[]) ∨
  ∃ i∈Region.ready .any ops listed,∃ bG,Region.linearise.go .any ops (fuel+1) t listed []=i::Region.linearise.go .any ops fuel bG (listed.setIfInBounds i true) []:=by
 simp only [Region.linearise.go]
 change (Region.ready .any ops listed=[]∧(match (Region.ready .any ops listed)[t % (Region.ready .any ops listed).length]? with
   | some i=>Region.linearise.go .any ops fuel (t / (Region.ready .any ops listed).length) (listed.setIfInBounds i true) [i]
   | none=>[].reverse)=[])∨∃ i∈Region.ready .any ops listed,∃ bG,(match (Region.ready .any ops listed)[t % (Region.ready .any ops listed).length]? with
   | some i=>Region.linearise.go .any ops fuel (t / (Region.ready .any ops listed).length) (listed.setIfInBounds i true) [i]
   | none=>[].reverse)=i::Region.linearise.go .any ops fuel bG (listed.setIfInBounds i true) []
 cases aY:(Region.ready .any ops listed)[t % (Region.ready .any ops listed).length]? with
 | none=>
  have NX:Region.ready .any ops listed=[]:=by
   cases az:Region.ready .any ops listed with
   | nil=>rfl
   | cons x xs=>
    rw [az] at aY;have aG:t % (x::xs).length<(x::xs).length:=Nat.mod_lt _ bn;simp at aY;simp at aG;omega
  exact .inl ⟨NX,rfl⟩
 | some i=>
  refine .inr ⟨i,List.mem_of_getElem? aY,t / (Region.ready .any ops listed).length,?_⟩;simp only [];rw [linearise_go_acc];rfl
theorem jK.post {B:ff} {ro:Option Nat} {D L:Nat→Bool} {V:Nat→ad} {E:Nat→Env} {env:Env} {s:aj} {a:Act} {w:World} {p:bN}
  (h:jK J P Γ N B ro ops D L V E env s a w p) (eG:∀ i,i<ops.size→L i=true):c9 N B ro env s a w p:=
 h.st.restrict _ fun t v av=>by
  rcases h.known t v av with ⟨k,u,U,ae,al,-⟩|en
  ·have:=eG k (h.bound k U);rw [ae] at this;cases this
  ·exact en
theorem bm.sound (aO:bL P Γ) (dc:sc ops) {D:Nat→Bool} {env:Env} {s:aj} (h:bm J P Γ N ops Q D env s):∀ (fuel t:Nat) (listed:Array Bool) (B:ff) (ro:Option Nat) (V:Nat→ad) (E:Nat→Env) (a:Act) (w:World) (p:bN),
  listed.size=ops.size→pV listed ops.size≤fuel→jK J P Γ N B ro ops D (iA listed ops.size) V E env s a w p →
  hZ P ops (jl N B ro s w p Q) (Region.linearise.go .any ops fuel t listed []) a w:=by
 have pending:∀ {J:aj→Prop} {D:Nat→Bool} {env:Env} {s:aj} (fuel:Nat),
   (∀ (t:Nat) (listed:Array Bool) (B:ff) (ro:Option Nat) (V:Nat→ad) (E:Nat→Env) (a:Act) (w:World) (p:bN),listed.size=ops.size→pV listed ops.size≤fuel →
    jK J P Γ N B ro ops D (iA listed ops.size) V E env s a w p→hZ P ops (jl N B ro s w p Q) (Region.linearise.go .any ops fuel t listed []) a w) →
   ∀ (bG:Nat) (listed:Array Bool) (B:ff) (ro:Option Nat) (V:Nat→ad) (E:Nat→Env) (a:Act) (w:World) (p:bN) (i:Nat),listed.size=ops.size→pV listed ops.size≤fuel+1 →
    jK J P Γ N B ro ops D (iA listed ops.size) V E env s a w p→i∈Region.ready .any ops listed→D i=true →
    hZ P ops (jl N B ro s w p Q) (i::Region.linearise.go .any ops fuel bG (listed.setIfInBounds i true) []) a w:=by
  intro J D env s fuel a' bG listed B ro V E a w p i b7 pW ha aY dZ;have az:=mem_ready dc.back aY;obtain ⟨o,ag⟩:∃ o,ops[i]? = some o:=⟨_,Array.getElem?_eq_getElem az.1⟩;obtain ⟨d,ar,l0,Ac,G1,eu⟩:=ha.tI i _ dZ az.2.1 ag;have aF:c9 N B ro (E i) s a w p:=ha.st.restrict _ fun t v av=>by
   obtain ⟨-,-,f3⟩:=eu t v av;exact f3 fun k u aD j7 ho=>by
    have:=(ha.oZ.dA az).oY (lz (iA listed ops.size) i) ho;have cB:k≠i:=fun e=>by
     subst e;rw [ag] at aD;cases aD;rw [ar] at j7;cases j7;exact dc.own _ _ _ ag ar (eu _ _ av).1
    rwa [iL _ cB] at this
  rw [G6 ag];have dX:J s:=ha.inv.elim (fun q=>by have:=q i dZ;rw [az.2.1] at this;cases this) id;refine NV aO ar aF dX G1 (R:=fun e w'=>match e with | .panicked da=>jl N B ro s w p Q (.panic da) a w'|_=>False) ?_;intro val w' bb en hle aD b6;have sd:=ha.NS dc az dZ ag ar hle aD b6 en;rw [← CY az.1 b7] at sd;have NY:=G4 az.1 b7 az.2.1;refine tg (fun _ _ _ (q:jl N B ro s w' bb Q _ _ _)=>q.after hle aD) _ _ _ (a' bG _ B ro V E _ w' bb (by simpa using b7) ai sd)
 induction h with
 | @congr J D env s e he h a'=>
  intro fuel t listed B ro V E a w p b7 pW ha;refine a' fuel t listed B ro V E a w p b7 pW ⟨ha.sub,ha.pT,ha.oZ,ha.st,fun t v av=>ha.known t v ((he t).symm.trans av),fun i o U ae al=>?_,ha.bound,ha.inv⟩;obtain ⟨d,dD,c1,dn,lq⟩:=ha.tI i o U ae al;exact ⟨d,dD,c1,(he d).trans dn,lq⟩
 | @fin J D env s dZ bs=>
  intro fuel
  induction fuel with
  | zero=>
   intro t listed B ro V E a w p b7 pW ha;have fV:=G5 (ops:=ops) (listed:=listed) ai;exact .here .normal bs (ha.post fV)
  | succ fuel a'=>
   intro t listed B ro V E a w p b7 pW ha;rcases G7 (ops:=ops) fuel t listed with ⟨aC,ao⟩|⟨i,aY,bG,ao⟩
   ·rw [ao]
    exact .here .normal bs (ha.post (G3 dc.back aC b7))
   ·rw [ao]
    exact pending fuel a' bG listed B ro V E a w p i b7 pW ha aY (dZ i (mem_ready dc.back aY).1)
 | @still J D env s dX i o d v az ag ar aX av h a'=>
  intro fuel t listed B ro V E a w p b7 pW ha;exact a' fuel t listed B ro _ _ a w p b7 pW (ha.ahead dc az ag ar aX dX av)
 | @split J D env s K X tH cB ao aS aD j6 ab NZ N0=>
  intro fuel
  induction fuel with
  | zero=>
   intro t listed B ro V E a w p b7 pW ha;have fV:=G5 (ops:=ops) (listed:=listed) ai;obtain ⟨j,aS,CZ⟩:=cB;have:=ha.sub j (fV j aS);rw [CZ] at this;cases this
  | succ fuel a'=>
   intro t listed B ro V E a w p b7 pW ha;rcases G7 (ops:=ops) fuel t listed with ⟨aC,tJ⟩|⟨i,aY,bG,tJ⟩
   ·obtain ⟨j,aS,CZ⟩:=cB
    have:=ha.sub j (G3 dc.back aC b7 j aS);rw [CZ] at this;cases this
   ·rw [tJ]
    cases dZ:D i with
    | true=>exact pending fuel a' bG listed B ro V E a w p i b7 pW ha aY dZ
    | false=>
     have az:=mem_ready dc.back aY;obtain ⟨o,ag⟩:∃ o,ops[i]? = some o:=⟨_,Array.getElem?_eq_getElem az.1⟩;obtain ⟨n4,aF⟩:=ha.ready dc az dZ ag;obtain ⟨nn,ra,l0⟩:=ao i _ n4 ag;have NY:=G4 az.1 b7 az.2.1;rw [G6 ag,if_pos (tf aF nn)];refine ⟨ra.1,(ra.2 ro B a w p aF).mono ?_⟩;rintro e w' ⟨ah,bb,hle,km,b6,he⟩;cases e with
     | returned val=>
      obtain ⟨x,br,en⟩:=he;have sd:=ha.NT dc az n4 ag l0 hle km b6 en (aS i _ n4 ag x ah br);rw [← CY az.1 b7] at sd;refine tg (fun _ _ _ (q:jl N B ro ah w' bb Q _ _ _)=>q.after hle km) _ _ _ ?_;cases ar:o.dst with
      | none=>
       rw [ar] at sd;exact N0 i _ n4 ag ar x ah br fuel bG _ B ro V E _ w' bb (by simpa using b7) ai sd
      | some d=>
       rw [ar] at sd;exact NZ i _ d n4 ag ar x ah br fuel bG _ B ro V E _ w' bb (by simpa using b7) ai sd
     | panicked da=>
      obtain ⟨v,x,iX,fZ,en⟩:=he;exact ⟨.panic x,[],ah,bb,.panic v x _ iX en,ab i _ n4 ag x ah fZ,ha.st.step hle km b6,hle,km⟩
     | outgrown=>exact he
theorem N1 (ops:Array Oper):pV (Array.replicate ops.size false) ops.size≤ops.size:=by
 unfold pV;have:=List.countP_le_length (p:=fun i => !iA (Array.replicate ops.size false) ops.size i) (l:=List.range ops.size);simpa using this
theorem af.draw (aO:bL P Γ) (hm:P.follows .mixedOrders=true) {id:Nat} (dc:sc ops) {env:Env} {s:aj} (h:bm J P Γ N ops Q (fun _=>false) env s):af P N (.region id ops true) Q env s:=by
 intro b B a w p _ aF;refine Mn fun t=>?_
 simp only [Region.schedule,hm,Bool.true_or,if_true];have gK:c9 N B b.roundOf env s a w.drew p:=aF.step jH ti (vo aF.wf);have N2:iA (Array.replicate ops.size false) ops.size=fun _=>false:=by
  funext i;unfold iA;by_cases aY:i<ops.size
  ·simp [aY]
  ·simp [aY]
 have ha:jK J P Γ N B b.roundOf ops (fun _=>false) (iA (Array.replicate ops.size false) ops.size) (fun _ => .any) (fun _=>[]) env s a w.drew p:=by
  rw [N2];exact ⟨fun i h=>h,fun i j h=>(by cases h),fun i j h=>(by cases h),gK.restrict [] (by simp [Env.get?]),fun t v av => .inr (gK.env t v av),fun i o h=>(by cases h),fun i h=>(by cases h),.inl fun i h=>(by cases h)⟩
 have:=bm.sound aO dc h ops.size t (Array.replicate ops.size false) B b.roundOf _ _ a w.drew p bn (N1 ops) ha;exact tg (fun _ _ _ (q:jl N B b.roundOf s w.drew p Q _ _ _)=>q.after jH ti) _ _ _ this
end
def tK (o:Oper):List Nat:=o.after.toList.filterMap fun e=>if Region.binds .any e then some e.on else none
def o1 (l:List Nat) (i:Nat):Nat:=match nth l i with|some x=>x|none=>0
def vB (acc:List Nat):List Nat→Nat
 | []=>0
 | j::tL=>(2^j|||o1 acc j)|||vB acc tL
def tM:List Oper→List Nat→List Nat
  | [],acc=>acc
  | o::r,acc=>match vB acc (tK o) with
    | 0=>tM r (acc++[0])
    | m+1=>tM r (acc++[m+1])
def Ae (ops:Array Oper) (x y:Oper):Bool:=
 (match x.dst with|some d=>(looks ops y).contains d|none=>false)||(match y.dst with|some d=>(looks ops x).contains d|none=>false)
def pX (ops:Array Oper):Bool:=
  let ms:=tM ops.toList []
  (List.range ops.size).all fun j=>match ops[j]? with
    | none=>false
    | some y=>(tK y).all (fun k=>Nat.blt k j)&&(match y.dst with|some d => !(looks ops y).contains d|none=>true) &&
      (List.range j).all fun i=>match ops[i]? with
        | none=>false
        | some x=>(match x.dst,y.dst with|some d,some cM => !Nat.beq d cM|_,_=>true)&&(!Ae ops x y||(o1 ms j).testBit i)
theorem Af {ops:Array Oper} {i j:Nat} {o:Oper} (ag:ops[i]? = some o):j∈tK o↔oX ops i j:=by
 unfold tK oX;simp only [List.mem_filterMap,Array.mem_toList_iff];constructor
 ·rintro ⟨e,he,h⟩
  split at h
  ·cases h;exact ⟨o,e,ag,he,‹_›,rfl⟩
  ·cases h
 ·rintro ⟨o',e,ck,he,an,rfl⟩
  rw [ag] at ck;cases ck;exact ⟨e,he,by simp [an]⟩
theorem N3 {ops:Array Oper} {acc:List Nat} {k:Nat} (vC:∀ i j,(o1 acc i).testBit j=true→j5 ops i j):∀ (tL:List Nat),(∀ j∈tL,oX ops k j)→∀ j,(vB acc tL).testBit j=true→j5 ops k j:=by
 intro tL
 induction tL with
 | nil=>intro _ j h;simp [vB] at h
 | cons x tL a'=>
  intro ar j h;simp only [vB,Nat.testBit_or,Bool.or_eq_true] at h;rcases h with (h|h)|h
  ·rw [Nat.testBit_two_pow] at h
   have:=of_decide_eq_true h;subst this;exact .dep (ar _ (List.mem_cons_self ..))
  ·exact .trans (ar _ (List.mem_cons_self ..)) (vC _ _ h)
  ·exact a' (fun y ay=>ar y (List.mem_cons_of_mem _ ay)) j h
theorem G8 {ops:Array Oper}:∀ (r:List Oper) (acc:List Nat),(∀ i,r[i]? = ops[acc.length+i]?)→(∀ i j,(o1 acc i).testBit j=true→j5 ops i j) →
  ∀ i j,(o1 (tM r acc) i).testBit j=true→j5 ops i j:=by
 intro r
 induction r with
 | nil=>intro acc _ h;exact h
 | cons o r a'=>
  intro acc az vC;have ag:ops[acc.length]? = some o:=by simpa using (az 0).symm
  have hm:=N3 vC (k:=acc.length) (tK o) (fun j aS=>(Af ag).1 aS);have key:∀ m,vB acc (tK o)=m→∀ i j,(o1 (tM r (acc++[m])) i).testBit j=true→j5 ops i j:=by
   intro m C0;refine a' (acc++[m]) (fun i=>?_) (fun i j h=>?_)
   ·have:=az (i+1)
    simp only [List.getElem?_cons_succ] at this;rw [this];simp [Nat.add_assoc,Nat.add_comm 1 i]
   ·unfold o1 at h
    rw [vp] at h;by_cases aY:i<acc.length
    ·rw [List.getElem?_append_left aY] at h
     exact vC i j (by unfold o1;rw [vp];exact h)
    ·rw [List.getElem?_append_right ai] at h
     by_cases he:i=acc.length
     ·subst he
      simp at h;rw [← C0] at h;exact hm j h
     ·have:i-acc.length≠0:=by omega
      cases ab:i-acc.length with
      | zero=>omega
      | succ n=>rw [ab] at h;simp at h
  simp only [tM];split
  ·rename_i bB;exact key _ bB
  ·rename_i m bB;exact key _ bB
theorem C1 {ops:Array Oper} (h:pX ops=true):sc ops:=by
 unfold pX at h;simp only [List.all_eq_true,List.mem_range] at h;have h5:=G8 (ops:=ops) ops.toList [] bn (by intro i j h;simp [o1,nth] at h);have one:∀ j y,ops[j]? = some y→(∀ k,oX ops j k→k<j)∧(∀ d,y.dst=some d→d∉looks ops y) ∧
   (∀ i x,i<j→ops[i]? = some x→(∀ d,x.dst=some d→y.dst≠some d)∧(Ae ops x y=true→j5 ops j i)):=by
  intro j y ay;have aS:j<ops.size:=(Array.getElem?_eq_some_iff.1 ay).1;have:=h j aS;simp only [ay,Bool.and_eq_true,List.all_eq_true,List.mem_range] at this;obtain ⟨⟨U,ae⟩,al⟩:=this;refine ⟨fun k aD=>?_,fun d ar=>?_,fun i x aY ab=>?_⟩
  ·have:=U k ((Af ay).2 aD)
   simpa [Nat.blt_eq] using this
  ·rw [ar] at ae;simpa using ae
  ·have:=al i aY
   simp only [ab,Bool.and_eq_true] at this;obtain ⟨g1,g2⟩:=this;refine ⟨fun d ar cb=>?_,fun aE=>?_⟩
   ·rw [ar,cb] at g1;simp at g1
   ·rw [aE] at g2
    exact h5 j i (by simpa using g2)
 refine ⟨fun i j x y d ab ay xE G9=>?_,fun i j x y d cB ab ay xE aI=>?_,fun i j ar=>?_,fun i x d ab ar=>(one i x ab).2.1 d ar⟩
 ·rcases Nat.lt_trichotomy i j with aG|he|qV
  ·exact absurd G9 (((one j y ay).2.2 i x aG ab).1 d xE)
  ·exact he
  ·exact absurd xE (((one i x ab).2.2 j y qV ay).1 d G9)
 ·rcases Nat.lt_trichotomy i j with aG|he|qV
  ·exact .inr (((one j y ay).2.2 i x aG ab).2 (by simp [Ae,xE,aI]))
  ·exact absurd he cB
  ·exact .inl (((one i x ab).2.2 j y qV ay).2 (by simp [Ae,xE,aI]))
 ·obtain ⟨o,e,ag,-⟩:=id ar
  exact (one i o ag).1 j ar
end Go.bj
namespace Go.bj
def tN (Γ:cg) (N:Nat) (ops:Array Oper) (E:Env) (o:Oper):Option (Nat×ad):=
  match o.dst with
  | none=>none
  | some d=>match Nat.blt d N with
    | false=>none
    | true=>match guardOf ops E o with
      | some true=>match nS Γ o E with
        | some v=>some (d,v)
        | none=>none
      | some false=>some (d,.cl [])
      | none=>none
def xF (Γ:cg) (N:Nat) (ops:Array Oper):List Oper→Env→List Oper×Env
  | [],env=>([],env)
  | o::l,env=>match tN Γ N ops env o with
    | some (d,v)=>xF Γ N ops l ((d,v)::env)
    | none=>(o::l,env)
theorem Ag {J:aj→Prop} {P:Program} {Γ:cg} {N:Nat} {ops:Array Oper} {E:Env} {o:Oper} {d:Nat} {v:ad} (h:tN Γ N ops E o=some (d,v)):o.dst=some d∧d<N∧Still J P Γ N ops o E v:=by
 unfold tN at h;split at h
 ·cases h
 ·rename_i cM ar
  split at h
  ·cases h
  ·rename_i aX
   split at h
   ·rename_i ao
    split at h
    ·rename_i eK av;cases h;exact ⟨ar,by simpa [Nat.blt_eq] using aX,.inl ⟨ao,.a av⟩⟩
    ·cases h
   ·rename_i ao;cases h;exact ⟨ar,by simpa [Nat.blt_eq] using aX,.inr (.inl ⟨ao,rfl⟩)⟩
   ·cases h
section
variable {P:Program} {Γ:cg} {N:Nat} {ops:Array Oper} {Q:b2→Env→aj→Prop} {env:Env} {s:aj}
theorem aa.run (aO:bL P Γ) {l lB:List Oper} {er:Env} (h:xF Γ N ops l env=(lB,er)) (aD:aa P N ops lB Q er s):aa P N ops l Q env s:=by
 induction l generalizing env with
 | nil=>simp only [xF,Prod.mk.injEq] at h;obtain ⟨rfl,rfl⟩:=h;exact aD
 | cons o l a'=>
  simp only [xF] at h;split at h
  ·rename_i d v aK
   obtain ⟨ar,aX,aw⟩:=Ag (J:=me) (P:=P) aK;have n5:Nat.blt d N=true:=by simpa [Nat.blt_eq] using aX
   rcases aw with ⟨ao,av⟩|⟨ao,rfl⟩|⟨ao,av⟩
   ·exact aa.pure aO ao ar n5 av (a' h)
   ·exact aa.skip ao ar n5 (a' h)
   ·exact aa.op ao ar n5 (av s trivial) (fun x ah ⟨U,ae⟩=>by subst U;subst ae;exact a' h) (fun _ _ h=>h.elim)
  ·simp only [Prod.mk.injEq] at h;obtain ⟨rfl,rfl⟩:=h;exact aD
theorem aa.Ah {l:List Oper} (t:Nat) {v eK:ad} (av:env.get? t=some v) (he:v=eK) (h:aa P N ops l Q ((t,eK)::env) s):aa P N ops l Q env s:=by
 subst he;intro k aD ro B a w p aF
 exact h k aD ro B a w p ⟨aF.size,fun u x ab=>by
  simp only [Env.get?] at ab
  split at ab
  ·rename_i an;have:=Nat.eq_of_beq_eq_true an;subst this;cases ab;exact aF.env _ _ av
  ·exact aF.env u x ab,aF.wf,aF.defs,aF.round,aF.base⟩
theorem aa.eH {l:List Oper} (t:Nat) {b:Bool} (av:env.get? t=some (.bool b)) (he:b=true) (h:aa P N ops l Q ((t,.bool true)::env) s):aa P N ops l Q env s:=aa.Ah t av (congrArg ad.bool he) h
theorem aa.dR {l:List Oper} (t:Nat) {b:Bool} (av:env.get? t=some (.bool b)) (he:b=false) (h:aa P N ops l Q ((t,.bool false)::env) s):aa P N ops l Q env s:=aa.Ah t av (congrArg ad.bool he) h
theorem aa.sub {l:List Oper} (e:Env) (aw:Env.Sub e env) (h:aa P N ops l Q e s):aa P N ops l Q env s:=
 fun k aD ro B a w p aF=>h k aD ro B a w p (aF.sub aw)
theorem aa.drop {l:List Oper} (ah:aj) (aw:aj.Sub ah s) (h:aa P N ops l Q env ah):aa P N ops l Q env s:=
 fun k aD ro B a w p aF=>tg (fun _ _ _ (q:jl N B ro ah w p Q _ _ _)=>let ⟨x,er,ef,bb,U,ae,al,bl,bD⟩:=q;⟨x,er,ef,bb,U,ae,al,bl,bD.vl aw⟩) _ _ _ (h k aD ro B a w p (aF.Cn aw))
end
def bR (m:Nat):Nat→Bool:=fun i=>m.testBit i
theorem np (m i:Nat):dA (bR m) i=bR (m|||2^i):=by
 funext j;unfold dA bR;rw [Nat.testBit_or,Nat.testBit_two_pow];by_cases e:j=i
 ·subst e;simp
 ·have e':¬ i=j:=fun h=>e h.symm
  simp [e,e']
def hJ (ops:Array Oper) (m i:Nat):Bool:=match ops[i]? with
 | none=>false
 | some o => !(m.testBit i)&&(tK o).all fun j=>m.testBit j
theorem rb {ops:Array Oper} {m i:Nat}:hJ ops m i=true↔gh ops (bR m) i:=by
 unfold hJ gh bR;constructor
 ·intro h
  split at h
  ·cases h
  ·rename_i o ag
   simp only [Bool.and_eq_true,Bool.not_eq_true',List.all_eq_true] at h;exact ⟨(Array.getElem?_eq_some_iff.1 ag).1,h.1,fun j aS=>h.2 j ((Af ag).2 aS)⟩
 ·rintro ⟨U,ae,al⟩
  have ag:ops[i]? = some ops[i]:=Array.getElem?_eq_getElem U;rw [ag];simp only [ae,Bool.not_false,Bool.true_and,List.all_eq_true];exact fun j aS=>al j ((Af ag).1 aS)
def ed (ops:Array Oper) (m:Nat):List Nat→List Nat
  | []=>[]
  | i::is=>match hJ ops m i with
    | true=>i::ed ops m is
    | false=>ed ops m is
theorem xG {ops:Array Oper} {m i:Nat} {l:List Nat} (h:gh ops (bR m) i) (aY:i∈l):i∈ed ops m l:=by
 induction l with
 | nil=>cases aY
 | cons j l a'=>
  simp only [ed];rcases List.mem_cons.1 aY with rfl|aY
  ·rw [rb.2 h];exact List.mem_cons_self ..
  ·split
   ·exact List.mem_cons_of_mem _ (a' aY)
   ·exact a' aY
def o2 (Γ:cg) (N:Nat) (ops:Array Oper):List Nat→Nat→Env→Nat×Env
  | [],m,env=>(m,env)
  | i::is,m,env=>match ops[i]? with
    | none=>o2 Γ N ops is m env
    | some o=>match hJ ops m i with
      | false=>o2 Γ N ops is m env
      | true=>match tN Γ N ops (bc env (looks ops o)) o with
        | some (d,v)=>match m|||2^i with
          | 0=>o2 Γ N ops is 0 ((d,v)::env)
          | k+1=>o2 Γ N ops is (k+1) ((d,v)::env)
        | none=>o2 Γ N ops is m env
def idxs:Nat→List Oper→List Nat
 | _,[]=>[]
 | k,_::l=>k::idxs (k+1) l
theorem vD (k:Nat) (l:List Oper):idxs k l=List.range' k l.length:=by
 induction l generalizing k with
 | nil=>rfl
 | cons o l a'=>simp [idxs,a',List.range'_succ]
section
variable {J:aj→Prop} {P:Program} {Γ:cg} {N:Nat} {l:List Oper} {Q:b2→Env→aj→Prop} {env:Env} {s:aj} {m:Nat}
theorem bm.runs (dX:J s) {is:List Nat} {j8:Nat} {er:Env} (h:o2 Γ N l.toArray is m env=(j8,er)) (aD:bm J P Γ N l.toArray Q (bR j8) er s):bm J P Γ N l.toArray Q (bR m) env s:=by
 induction is generalizing m env with
 | nil=>simp only [o2,Prod.mk.injEq] at h;obtain ⟨rfl,rfl⟩:=h;exact aD
 | cons i is a'=>
  simp only [o2] at h;split at h
  ·exact a' h
  ·rename_i o ag
   split at h
   ·exact a' h
   ·rename_i az
    split at h
    ·rename_i d v aK
     obtain ⟨ar,aX,aw⟩:=Ag aK;refine bm.still dX i o d v (rb.1 az) ag ar aX aw ?_;rw [np];split at h
     ·rename_i bB;rw [bB];exact a' h
     ·rename_i k bB;rw [bB];exact a' h
    ·exact a' h
theorem bf.runs {is:List Nat} {j8:Nat} {er:Env} (h:o2 Γ N l.toArray is m env=(j8,er)) (aD:bf P Γ N l.toArray Q (bR j8) er s):bf P Γ N l.toArray Q (bR m) env s:=bm.runs trivial h aD
theorem bm.run (dX:J s) {j8:Nat} {er:Env} (h:o2 Γ N l.toArray (idxs 0 l) m env=(j8,er)) (aD:bm J P Γ N l.toArray Q (bR j8) er s):bm J P Γ N l.toArray Q (bR m) env s:=bm.runs dX h aD
theorem bf.run {j8:Nat} {er:Env} (h:o2 Γ N l.toArray (idxs 0 l) m env=(j8,er)) (aD:bf P Γ N l.toArray Q (bR j8) er s):bf P Γ N l.toArray Q (bR m) env s:=bm.runs trivial h aD
theorem bf.done (dZ:(idxs 0 l).all (fun i=>m.testBit i)=true) (h:Q .normal env s):bm J P Γ N l.toArray Q (bR m) env s:=by
 refine bm.fin (fun i aY=>?_) h;simp only [List.all_eq_true] at dZ;refine dZ i ?_;rw [vD,List.mem_range'_1];have:i<l.length:=by simpa using aY
 omega
def jL (ops:Array Oper) (i:Nat):Bool:=(List.range ops.size).all fun j=>Nat.beq j i||(o1 (tM ops.toList []) i).testBit j
theorem Ai {ops:Array Oper} {i:Nat} (h:jL ops i=true):∀ j,j<ops.size→j≠i→j5 ops i j:=by
 intro j aS cB;simp only [jL,List.all_eq_true] at h;have:=h j (List.mem_range.2 aS);have an:Nat.beq j i=false:=by
  cases an:Nat.beq j i with
  | false=>rfl
  | true=>exact absurd (Nat.eq_of_beq_eq_true an) cB
 rw [an,Bool.false_or] at this;refine G8 ops.toList [] (fun i=>by simp) (fun i j h=>?_) i j this;have:o1 [] i=0:=by cases i<;>rfl
 rw [this] at h;simp at h
theorem bm.one {i:Nat} {o:Oper} {d:Nat} {K X:ad→aj→Prop} (az:ed l.toArray m (idxs 0 l)=[i]) (ag:l.toArray[i]? = some o) (ar:o.dst=some d) (aX:Nat.blt d N=true)
  (ao:guardOf l.toArray (bc env (looks l.toArray o)) o=some true) (h:aU P N o (bc env (looks l.toArray o)) s K X)
  (aS:∀ x ah,K x ah→J ah∨jL l.toArray i=true) (aD:∀ x ah,K x ah→bm J P Γ N l.toArray Q (bR (m|||2^i)) ((d,x)::env) ah) (ab:∀ x ah,X x ah→Q (.panic x) [] ah):bm J P Γ N l.toArray Q (bR m) env s:=by
 have fq:∀ j,gh l.toArray (bR m) j→j=i:=fun j aS=>by
  have:=xG aS (l:=idxs 0 l) (by rw [vD,List.mem_range'_1];have:=aS.1;simp at this;omega);rw [az] at this;simpa using this
 have h3:gh l.toArray (bR m) i:=by
  have gA:i∈ed l.toArray m (idxs 0 l):=by rw [az];exact List.mem_cons_self ..
  have:∀ is,i∈ed l.toArray m is→hJ l.toArray m i=true:=by
   intro is
   induction is with
   | nil=>intro h;cases h
   | cons j is a'=>
    intro h;simp only [ed] at h;split at h
    ·rename_i an
     rcases List.mem_cons.1 h with rfl|h
     ·exact an
     ·exact a' h
    ·exact a' h
  exact rb.1 (this _ gA)
 refine bm.split (fun _=>K) (fun _=>X) ⟨i,h3.1,h3.2.1⟩ (fun j o' aS ck=>?_) (fun j o' tO ck x ah br=>by have:=fq j tO;subst this;exact (aS x ah br).imp id Ai) (fun j o' cM aS ck cb x ah br=>?_) (fun j o' aS ck cb x ah br=>?_) (fun j o' aS ck x ah fZ=>ab x ah fZ)
 ·have:=fq j aS;subst this
  rw [ag] at ck;cases ck;exact ⟨ao,h,fun cM cb=>by rw [ar] at cb;cases cb;simpa [Nat.blt_eq] using aX⟩
 ·have:=fq j aS;subst this
  rw [ag] at ck;cases ck;rw [ar] at cb;cases cb;rw [np];exact aD x ah br
 ·have:=fq j aS;subst this
  rw [ag] at ck;cases ck;rw [ar] at cb;cases cb
theorem bm.vE {i:Nat} {o:Oper} {K X:ad→aj→Prop} (az:ed l.toArray m (idxs 0 l)=[i]) (ag:l.toArray[i]? = some o) (ar:o.dst=none)
  (ao:guardOf l.toArray (bc env (looks l.toArray o)) o=some true) (h:aU P N o (bc env (looks l.toArray o)) s K X)
  (aS:∀ x ah,K x ah→J ah∨jL l.toArray i=true) (aD:∀ x ah,K x ah→bm J P Γ N l.toArray Q (bR (m|||2^i)) env ah) (ab:∀ x ah,X x ah→Q (.panic x) [] ah):bm J P Γ N l.toArray Q (bR m) env s:=by
 have fq:∀ j,gh l.toArray (bR m) j→j=i:=fun j aS=>by
  have:=xG aS (l:=idxs 0 l) (by rw [vD,List.mem_range'_1];have:=aS.1;simp at this;omega);rw [az] at this;simpa using this
 have aG:i<l.toArray.size:=(Array.getElem?_eq_some_iff.1 ag).1;have nq:bR m i=false:=by
  cases an:bR m i with
  | false=>rfl
  | true=>
   have gA:i∈ed l.toArray m (idxs 0 l):=by rw [az];exact List.mem_cons_self ..
   have:∀ is,i∈ed l.toArray m is→hJ l.toArray m i=true:=by
    intro is
    induction is with
    | nil=>intro h;cases h
    | cons j is a'=>
     intro h;simp only [ed] at h;split at h
     ·rename_i an
      rcases List.mem_cons.1 h with rfl|h
      ·exact an
      ·exact a' h
     ·exact a' h
   have:=(rb.1 (this _ gA)).2.1;rw [an] at this;cases this
 refine bm.split (fun _=>K) (fun _=>X) ⟨i,aG,nq⟩ (fun j o' aS ck=>?_) (fun j o' tO ck x ah br=>by have:=fq j tO;subst this;exact (aS x ah br).imp id Ai) (fun j o' cM aS ck cb x ah br=>?_) (fun j o' aS ck cb x ah br=>?_) (fun j o' aS ck x ah fZ=>ab x ah fZ)
 ·have:=fq j aS;subst this
  rw [ag] at ck;cases ck;exact ⟨ao,h,fun cM cb=>by rw [ar] at cb;cases cb⟩
 ·have:=fq j aS;subst this
  rw [ag] at ck;cases ck;rw [ar] at cb;cases cb
 ·have:=fq j aS;subst this
  rw [ag] at ck;cases ck;rw [np];exact aD x ah br
theorem bf.one {i:Nat} {o:Oper} {d:Nat} {K X:ad→aj→Prop} (az:ed l.toArray m (idxs 0 l)=[i]) (ag:l.toArray[i]? = some o) (ar:o.dst=some d) (aX:Nat.blt d N=true)
  (ao:guardOf l.toArray (bc env (looks l.toArray o)) o=some true) (h:aU P N o (bc env (looks l.toArray o)) s K X)
  (aD:∀ x ah,K x ah→bf P Γ N l.toArray Q (bR (m|||2^i)) ((d,x)::env) ah) (ab:∀ x ah,X x ah→Q (.panic x) [] ah):bf P Γ N l.toArray Q (bR m) env s:=
 bm.one az ag ar aX ao h (fun _ _ _ => .inl trivial) aD ab
theorem bf.vE {i:Nat} {o:Oper} {K X:ad→aj→Prop} (az:ed l.toArray m (idxs 0 l)=[i]) (ag:l.toArray[i]? = some o) (ar:o.dst=none)
  (ao:guardOf l.toArray (bc env (looks l.toArray o)) o=some true) (h:aU P N o (bc env (looks l.toArray o)) s K X)
  (aD:∀ x ah,K x ah→bf P Γ N l.toArray Q (bR (m|||2^i)) env ah) (ab:∀ x ah,X x ah→Q (.panic x) [] ah):bf P Γ N l.toArray Q (bR m) env s:=
 bm.vE az ag ar ao h (fun _ _ _ => .inl trivial) aD ab
theorem bf.congr {ops:Array Oper} {D:Nat→Bool} (e:Env) (he:∀ t,e.get? t=env.get? t) (h:bf P Γ N ops Q D e s):bf P Γ N ops Q D env s:=bm.congr e he h
theorem af.o3 (J:aj→Prop) (aO:bL P Γ) (hm:P.follows .mixedOrders=true) {id:Nat} (dc:pX l.toArray=true) (h:bm J P Γ N l.toArray Q (bR 0) env s):af P N (.region id l.toArray true) Q env s:=by
 refine af.draw (J:=J) aO hm (C1 dc) ?_;have:bR 0=fun _=>false:=by funext i;simp [bR]
 rw [this] at h;exact h
theorem af.re (aO:bL P Γ) (hm:P.follows .mixedOrders=true) {id:Nat} (dc:pX l.toArray=true) (h:bf P Γ N l.toArray Q (bR 0) env s):af P N (.region id l.toArray true) Q env s:=by
 refine af.draw (J:=me) aO hm (C1 dc) ?_;have:bR 0=fun _=>false:=by funext i;simp [bR]
 rw [this] at h;exact h
end
end Go.bj
