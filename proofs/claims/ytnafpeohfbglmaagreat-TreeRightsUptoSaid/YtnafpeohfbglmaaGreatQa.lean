import Derived.AtR
import Derived.Defers
import Derived.Laws.Sem
import Derived.Laws.World
import Derived.Laws.NewBlocks
import Derived.Laws.Cells
import Derived.Laws.Strings
import Derived.Laws.Tables
import Derived.Laws.Small
import Derived.LaidEql
import Derived.Laws.Append
import Derived.Laws.CopyRow
import Derived.Laws.Slices
import Derived.Laws.IdiomStrings
import Derived.Orders
set_option linter.unusedVariables false
set_option linter.unusedSimpArgs false
universe u
open List (all_eq_true eq_nil_of_length_eq_zero flatMap_cons foldl_cons getElem?_take length_append length_cons length_take mapM_cons map_cons map_nil map_toArray mem_append mem_cons mem_cons_of_mem mem_cons_self mem_map mem_range range range')
open Nat (add_assoc add_mul add_zero blt_eq eq_of_beq_eq_true le_refl zero_add)
open Bool (and_eq_true false_eq_true)
open Int (ofNat)
open Option (bind_some getD_some map_some)
open Array (ext' getD_eq_getD_getElem? getElem?_setIfInBounds length_toList)
theorem C {α:Sort u} {a:α}:a=a:=Eq.refl a
theorem xk {p:Prop} (h:p:=by rw [List.length_take,cv];omega):p:=h
theorem tA {p:Prop} (h:p:=by rw [List.length_take];omega):p:=h
theorem p2 {p:Prop} (h:p:=by simpa using ad):p:=h
theorem fD {p:Prop} (h:p:=by simpa using h):p:=h
theorem cG {p:Prop} (h:p:=by simp;omega):p:=h
theorem nA {p:Prop} (h:p:=by cases h):p:=h
theorem ag {p:Prop} (h:p:=by omega):p:=h
theorem a' {p:Prop} (h:p:=by simp):p:=h
namespace Go.cU
inductive gU where
 | normal
 | exit (id:Nat)
 | ret
 | panic (chain:List PanicEntry)
def p3 (P:Program) (m:Machine) (b:Frame) (k:List Item) (cs:List Frame):gU→Act→World→Prop
  | .normal,a,w=>Steps P m (lone (b.atR a k) cs w)
  | .exit id,a,w=>(∀ k',exitTo id k=some k'→Steps P m (lone (b.atR a k') cs w)) ∧
      (exitTo id k=none→∃ k₁,exitTo id k₁=none∧Steps P m (lone (b.atR a (.code (.exit id)::k₁)) cs w))
  | .ret,a,w=>∃ k₁,Steps P m (lone (b.atR a (.code .ret::k₁)) cs w)
  | .panic dB,a,w=>∃ k₁,Steps P m (lone { b.atR a k₁ with mode := .panicking dB } cs w)
theorem p3.of_steps {P:Program} {m m₁:Machine} {b:Frame} {k:List Item} {cs:List Frame} {e:gU} {a:Act} {w:World}
  (h:Steps P m m₁) (eT:p3 P m₁ b k cs e a w):p3 P m b k cs e a w:=by
 cases e with
 | normal=>exact h.trans eT
 | exit id=>exact ⟨fun k' aE=>h.trans (eT.1 k' aE),fun aE=>let ⟨k₁,U,ad⟩:=eT.2 aE;⟨k₁,U,h.trans ad⟩⟩
 | ret=>obtain ⟨k₁,ar⟩:=eT;exact ⟨k₁,h.trans ar⟩
 | panic dB=>obtain ⟨k₁,ar⟩:=eT;exact ⟨k₁,h.trans ar⟩
def jK (P:Program) (b:Frame) (c:Code) (Q:gU→Act→World→Prop) (a:Act) (w:World):Prop:=
 ∀ (k:List Item) (cs:List Frame),∃ e c' w',Q e c' w'∧p3 P (lone (b.atR a (.code c::k)) cs w) b k cs e c' w'
section rules
variable {P:Program} {b:Frame} {Q:gU→Act→World→Prop} {a:Act} {w:World}
theorem l0 {c:Code} {om:gU→Act→World→Prop} (h:jK P b c Q a w) (bq:∀ e a w,Q e a w→om e a w):jK P b c om a w:=
 fun k cs=>let ⟨e,c',w',q,r⟩:=h k cs;⟨e,c',w',bq _ _ _ q,r⟩
theorem PQ (h:Q .normal a w):jK P b .skip Q a w:=fun _ _=>⟨.normal,a,w,h,.one stepR_skip⟩
theorem PR (h:Q .ret a w):jK P b .ret Q a w:=fun k _=>⟨.ret,a,w,h,k,.refl P _⟩
theorem PS {id:Nat} (h:Q (.exit id) a w):jK P b (.exit id) Q a w:=
 fun k _=>⟨.exit id,a,w,h,fun _ aE => .one (stepR_exit aE),fun aE=>⟨k,aE,.refl P _⟩⟩
def gU.andThen (next:Act→World→Prop) (Q:gU→Act→World→Prop):gU→Act→World→Prop
 | .normal,a,w=>next a w
 | e,a,w=>Q e a w
theorem p3.IW {m:Machine} {c:Code} {k:List Item} {cs:List Frame} {e:gU} {a:Act} {w:World} (x:Item) (ab:x.plain=true)
  (he:e ≠ .normal) (h:p3 P m b (x::k) cs e a w):p3 P m b k cs e a w:=by
 cases e with
 | normal=>exact absurd C he
 | exit id=>exact ⟨fun k' aE=>h.1 k' (by cases x<;>simp_all [exitTo,Item.plain]),fun aE=>h.2 (by cases x<;>simp_all [exitTo,Item.plain])⟩
 | ret=>exact h
 | panic dB=>exact h
theorem PT {x y:Code} (h:jK P b x (gU.andThen (jK P b y Q) Q) a w):jK P b (.seq x y) Q a w:=by
 intro k cs;obtain ⟨e,iJ,w₁,bq,fT⟩:=h (.code y::k) cs;by_cases he:e = .normal
 ·subst he
  obtain ⟨y2,BK,hG,tB,tC⟩:=bq k cs;exact ⟨y2,BK,hG,tB,.of_steps (.head stepR_seq fT) tC⟩
 ·have u3:Q e iJ w₁:=by cases e<;>first|exact absurd C he|exact bq
  exact ⟨e,iJ,w₁,u3,.of_steps (.one stepR_seq) (p3.IW (c:=y) (.code y) C he fT)⟩
theorem PU {c:Operand} {x y:Code} {t:Bool} (aC:a.eval c = .bool t) (h:jK P b (if t then x else y) Q a w):jK P b (.cond c x y) Q a w:=
 fun k cs=>let ⟨e,c',w',q,r⟩:=h k cs;⟨e,c',w',q,.of_steps (.one (stepR_cond aC)) r⟩
def gU.inBlock (id:Nat) (Q:gU→Act→World→Prop):gU→Act→World→Prop
 | .exit kF,a,w=>if kF=id then Q .normal a w else Q (.exit kF) a w
 | e,a,w=>Q e a w
theorem PV {id:Nat} {c:Code} (h:jK P b c (gU.inBlock id Q) a w):jK P b (.block id c) Q a w:=by
 intro k cs;obtain ⟨e,iJ,w₁,bq,fT⟩:=h (.inBlock id::k) cs;cases e with
 | normal=>exact ⟨.normal,iJ,w₁,bq,.head stepR_block (Steps.trans fT (.one stepR_inBlock))⟩
 | exit kF=>
  by_cases sf:kF=id
  ·simp only [gU.inBlock,sf,if_true] at bq
   exact ⟨.normal,iJ,w₁,bq,.head stepR_block (fT.1 k (by simp [exitTo,sf]))⟩
  ·simp only [gU.inBlock,sf,if_false] at bq
   have cP:(id==kF)=false:=by simp;exact fun h=>sf h.symm
   refine ⟨.exit kF,iJ,w₁,bq,fun k' aE => .head stepR_block (fT.1 k' (by simp [exitTo,cP,aE])),fun aE=>?_⟩;obtain ⟨k₁,U,ad⟩:=fT.2 (by simp [exitTo,cP,aE]);exact ⟨k₁,U,.head stepR_block ad⟩
 | ret=>obtain ⟨k₁,ar⟩:=fT;exact ⟨.ret,iJ,w₁,bq,k₁,.head stepR_block ar⟩
 | panic dB=>obtain ⟨k₁,ar⟩:=fT;exact ⟨.panic dB,iJ,w₁,bq,k₁,.head stepR_block ar⟩
end rules
def Round (P:Program) (l:Nat) (f:FuncId) (tmps:Array Value) (ha body:Code) (w:World) (R:Ending→World→Prop):Prop:=
 ∀ (c:Frame) (cs:List Frame),∃ e w',R e w' ∧
  match e with
  | .returned v=>Steps P (lone (Frame.round l f tmps ha body .normal) (c::cs) w) (lone (c.finish v) cs w')
  | .panicked dB=>Steps P (lone (Frame.round l f tmps ha body .normal) (c::cs) w) (lone (c.raise dB) cs w')
  | .outgrown=>False
def sg (P:Program) (f:FuncId) (args:Array Value) (w:World) (R:Ending→World→Prop):Prop:=
 Calls P f args w fun e w'=>e ≠ .outgrown∧R e w'
theorem sg.mono {P:Program} {f:FuncId} {args:Array Value} {w:World} {R dt:Ending→World→Prop} (h:sg P f args w R)
  (aF:∀ e w',R e w'→dt e w'):sg P f args w dt:=Calls.mono h fun e w' ⟨U,ad⟩=>⟨U,aF e w' ad⟩
def y3 (P:Program) (gA:Next) (w:World) (R:Ending→World→Prop):Prop:=
 match gA with
 | .value v=>R (.returned v) w
 | .skip=>R (.returned undef) w
 | .enter f args=>sg P f args w R
 | .round l f tmps ha body=>Round P l f tmps ha body w R
 | _=>False
def o8 (P:Program) (r:Result Next) (R:Ending→World→Prop):Prop:=
 match r with
 | .ok gA w'=>y3 P gA w' R
 | .halt (.panic v) w'=>R (.panicked [{ v,recovered:=false }]) w'
 | _=>False
theorem Round.mono {P:Program} {l:Nat} {f:FuncId} {tmps:Array Value} {ha body:Code} {w:World} {R dt:Ending→World→Prop}
  (h:Round P l f tmps ha body w R) (aF:∀ e w',R e w'→dt e w'):Round P l f tmps ha body w dt :=
 fun c cs=>let ⟨e,w',r,s⟩:=h c cs;⟨e,w',aF _ _ r,s⟩
theorem y3.mono {P:Program} {gA:Next} {w:World} {R dt:Ending→World→Prop} (h:y3 P gA w R)
  (aF:∀ e w',R e w'→dt e w'):y3 P gA w dt:=by
 cases gA<;>first|exact aF _ _ h|exact sg.mono h aF|exact Round.mono h aF|exact h.elim
theorem o8.mono {P:Program} {r:Result Next} {R dt:Ending→World→Prop} (h:o8 P r R) (aF:∀ e w',R e w'→dt e w'):o8 P r dt:=by
 unfold o8 at h ⊢;split at h
 ·exact y3.mono h aF
 ·exact aF _ _ h
 ·exact h.elim
def gE (o:Oper):Bool:=match o.op with | .defer _=>false|_=>true
section ops
variable {P:Program} {b:Frame} {a:Act} {k:List Item} {cs:List Frame} {w:World} {ops:Array Oper}
theorem PW {i:Nat} {rest:List Nat} {o:Oper} {R:Ending→World→Prop} (ah:ops[i]? = some o) (hw:Region.wanted o (yielded ops a.tmps)=true)
  (ax:gE o=true) (h:o8 P ((execOp a.eval o).run P w) R) :
  ∃ e w',R e w' ∧
   match e with
   | .returned v=>Steps P (lone (b.atR a (.inRegion ops (i::rest)::k)) cs w) (lone (b.atR (a.put o.dst v) (.inRegion ops rest::k)) cs w')
   | .panicked dB=>∃ k₁,Steps P (lone (b.atR a (.inRegion ops (i::rest)::k)) cs w) (lone { b.atR a k₁ with mode := .panicking dB } cs w')
   | .outgrown=>False:=by
 have aw:=stepGR_op (P:=P) (b:=b) (k:=k) (cs:=cs) (w:=w) (rest:=rest) ah hw;have PX:o.semAt b.roundOf a.eval=execOp a.eval o:=Oper.semAt_eq _ _ _ (fun c aC=>by simp [gE,aC] at ax);rw [PX] at aw;have p4:∀ v,(b.atR a (.inRegion ops (i::rest)::k)).finish v=b.atR (a.put o.dst v) (.inRegion ops rest::k):=by
  intro v;rw [Frame.finish_atR,ah];rfl
 unfold o8 at h;split at h
 ·rename_i gA w' aF
  cases gA with
  | value v=>
   refine ⟨.returned v,w',h,.one (step_lone_go ?_)⟩;rw [aw,← p4];simp [stepG.apply,aF]
  | skip=>
   refine ⟨.returned undef,w',h,.one (step_lone_go ?_)⟩;rw [aw,← p4];simp [stepG.apply,aF]
  | enter f args=>
   obtain ⟨e,l1,hb,⟨lu,dV⟩,sh,_,y4⟩:=h (b.atR a (.inRegion ops (i::rest)::k)::cs);have si:step P (lone (b.atR a (.inRegion ops (i::rest)::k)) cs w) =
     .next (lone (Frame.enter P f args .normal) (b.atR a (.inRegion ops (i::rest)::k)::cs) w'):=
    step_lone_go (by rw [aw];simp [stepG.apply,aF,Frame.atR])
   cases e with
   | returned v=>
    refine ⟨.returned v,l1,dV,.head si (sh.trans (.one ?_))⟩;rw [← p4];exact step_leave_returned y4
   | panicked dB=>
    refine ⟨.panicked dB,l1,dV,.inRegion ops (i::rest)::k,.head si (sh.trans (.one ?_))⟩;rw [← Frame.raise_atR];exact step_leave_panicked y4
   | outgrown=>exact absurd C lu
  | round l f tmps ha body=>
   obtain ⟨e,l1,dV,sh⟩:=h (b.atR a (.inRegion ops (i::rest)::k)) cs;have si:step P (lone (b.atR a (.inRegion ops (i::rest)::k)) cs w) =
     .next (lone (Frame.round l f tmps ha body .normal) (b.atR a (.inRegion ops (i::rest)::k)::cs) w'):=
    step_lone_go (by rw [aw];simp [stepG.apply,aF,Frame.atR])
   cases e with
   | returned v=>exact ⟨.returned v,l1,dV,.head si (by rw [← p4];exact sh)⟩
   | panicked dB=>exact ⟨.panicked dB,l1,dV,.inRegion ops (i::rest)::k,.head si (by rw [← Frame.raise_atR];exact sh)⟩
   | outgrown=>exact sh.elim
  | _=>exact h.elim
 ·rename_i v w' aF
  refine ⟨.panicked [{ v,recovered:=false }],w',h,.inRegion ops (i::rest)::k,.one (step_lone_go ?_)⟩;rw [aw,← Frame.raise_atR];simp [stepG.apply,aF]
 ·exact h.elim
end ops
def iU (P:Program) (ops:Array Oper) (Q:gU→Act→World→Prop):List Nat→Act→World→Prop
 | [],a,w=>Q .normal a w
 | i::rest,a,w=>
  match ops[i]? with
  | none=>iU P ops Q rest a w
  | some o=>
   if Region.wanted o (yielded ops a.tmps) then
    gE o=true∧o8 P ((execOp a.eval o).run P w) fun
     | .returned v,w'=>iU P ops Q rest (a.put o.dst v) w'
     | .panicked dB,w'=>Q (.panic dB) a w'
     | .outgrown,_=>False
   else iU P ops Q rest (a.put o.dst undef) w
theorem IX {P:Program} {ops:Array Oper} {Q:gU→Act→World→Prop} (b:Frame) (k:List Item) (cs:List Frame) (l:List Nat) :
  ∀ (a:Act) (w:World),iU P ops Q l a w→∃ e c' w',Q e c' w'∧p3 P (lone (b.atR a (.inRegion ops l::k)) cs w) b k cs e c' w':=by
 induction l with
 | nil=>exact fun a w h=>⟨.normal,a,w,h,.one stepR_region_end⟩
 | cons i rest a1=>
  intro a w h;simp only [iU] at h;cases ah:ops[i]? with
  | none=>
   simp only [ah] at h;obtain ⟨e,c',w',bq,fT⟩:=a1 a w h;have ar:=stepR_op_skip (P:=P) (b:=b) (a:=a) (k:=k) (cs:=cs) (w:=w) (ops:=ops) (i:=i) (rest:=rest) (by simp [ah]);simp only [ah,Option.bind_none,Act.put] at ar;exact ⟨e,c',w',bq,.of_steps (.one ar) fT⟩
  | some o=>
   simp only [ah] at h;by_cases hw:Region.wanted o (yielded ops a.tmps)=true
   ·simp only [hw,if_true] at h
    obtain ⟨e,w',dV,aI⟩:=PW (b:=b) (k:=k) (cs:=cs) (rest:=rest) ah hw h.1 h.2;cases e with
    | returned v=>
     obtain ⟨e,c',l1,bq,fT⟩:=a1 _ _ dV;exact ⟨e,c',l1,bq,.of_steps aI fT⟩
    | panicked dB=>exact ⟨.panic dB,a,w',dV,aI⟩
    | outgrown=>exact aI.elim
   ·simp only [hw,if_false,false_eq_true] at h
    obtain ⟨e,c',w',bq,fT⟩:=a1 _ _ h;have ar:=stepR_op_skip (P:=P) (b:=b) (a:=a) (k:=k) (cs:=cs) (w:=w) (ops:=ops) (i:=i) (rest:=rest)
     (by simp [ah];simpa using hw)
    simp only [ah,bind_some] at ar;exact ⟨e,c',w',bq,.of_steps (.one ar) fT⟩
theorem PY {P:Program} {b:Frame} {id:Nat} {ops:Array Oper} {Q:gU→Act→World→Prop} {a:Act} {w:World}
  (h:iU P ops Q (range ops.size) a w):jK P b (.region id ops false) Q a w:=
 fun k cs=>let ⟨e,c',w',q,r⟩:=IX b k cs _ a w h;⟨e,c',w',q,.of_steps (.one stepR_region) r⟩
theorem PZ {P:Program} {b:Frame} {id:Nat} {ops:Array Oper} {Q:gU→Act→World→Prop} {a:Act} {w:World}
  (h:∀ t,iU P ops Q (Region.schedule (P.follows .mixedOrders) ops t) a { w with drawn:=w.drawn+1 }):jK P b (.region id ops true) Q a w:=
 fun k cs=>let ⟨e,c',w',q,r⟩:=IX b k cs _ a _ (h _);⟨e,c',w',q,.of_steps (.one stepR_region_draw) r⟩
def hn (w:World):List Nat→World
 | []=>w
 | d::cb=>hn { w with heap:=w.heap.setIfInBounds d (.deferred none) } cb
def marksOf (cb:List Nat):List Deferred:=cb.map fun d=>{ target := .collected d,args := #[] }
theorem EC {P:Program} {cs:List Frame}:∀ (cb:List Nat) (hb:Frame) (w:World),hb.mode ≠ .run→hb.defers=marksOf cb →
  (∀ d∈cb,w.heap[d]? = some (.deferred (some [])))→cb.Nodup→Steps P (lone hb cs w) (lone { hb with defers:=[] } cs (hn w cb)):=by
 intro cb
 induction cb with
 | nil=>
  intro hb w _ ax _ _;have:({ hb with defers:=[] }:Frame)=hb:=by cases hb;simp_all [marksOf]
  rw [this];exact .refl P _
 | cons d cb a1=>
  intro hb w hm ax aq az;have mZ:w.heap[d]? = some (.deferred (some [])):=aq d (mem_cons_self ..);have aM:(Instr.takeDeferred d).run P w = .ok [] { w with heap:=w.heap.setIfInBounds d (.deferred none) }:=by
   unfold Instr.takeDeferred;simp only [Sem.run_bind,getObj,setObj,Sem.run,mZ,Result.andThen];rfl
  have U:step P (lone hb cs w) = .next (lone { hb with defers:=marksOf cb } cs { w with heap:=w.heap.setIfInBounds d (.deferred none) }):=by
   refine step_lone_go ?_;cases u4:hb.mode with
   | run=>exact absurd u4 hm
   | returning=>simp [stepG,unwind,u4,ax,marksOf,Sem.runT_eq,aM]
   | panicking chain=>simp [stepG,unwind,u4,ax,marksOf,Sem.runT_eq,aM]
  have eF:=List.nodup_cons.1 az;refine .head U (a1 { hb with defers:=marksOf cb } _ hm C ?_ eF.2);intro c3 cl;have cP:d≠c3:=fun e=>eF.1 (e ▸ cl)
  simp only [getElem?_setIfInBounds,cP,if_false];exact aq c3 (mem_cons_of_mem _ cl)
def P0 (P:Program) (fn:Func) (R:Ending→World→Prop):gU→Act→World→Prop
  | .normal,a,w | .ret,a,w=>∃ cb,a.defers=marksOf cb∧cb.Nodup∧(∀ d∈cb,w.heap[d]? = some (.deferred (some []))) ∧
      ∃ v,(results fn a.tmps).run P (hn w cb) = .ok v (hn w cb)∧R (.returned v) (hn w cb)
  | .panic dB,a,w=>∃ cb,a.defers=marksOf cb∧cb.Nodup∧(∀ d∈cb,w.heap[d]? = some (.deferred (some [])))∧R (.panicked dB) (hn w cb)
  | .exit _,_,_=>False
theorem P1 {P:Program} {f:FuncId} {fn:Func} {c:Code} {args:Array Value} {w:World} {R:Ending→World→Prop}
    (a6:P.funcs[f]? = some fn) (aq:fn.body=some c)
    (h:∀ b:Frame,b.roundOf=none→(P.funcs[b.fn]?).isSome=true→jK P b c (P0 P fn R) { tmps:=args++Array.replicate (fn.ntmps-args.size) undef,defers:=[] } w) :
    sg P f args w R:=by
  intro cs
  let b:Frame:={ (default:Frame) with fn:=f,kind := .normal,roundOf:=none }
  have si:Frame.enter P f args .normal =
      b.atR { tmps:=args++Array.replicate (fn.ntmps-args.size) undef,defers:=[] } [.code c]:=by
    simp [Frame.enter,Frame.atR,a6,aq,b]
  obtain ⟨e,c',w',bq,fT⟩:=h b rfl (by simp [b,a6]) [] cs;rw [← si] at fT;cases e with
  | normal=>
    obtain ⟨cb,ax,az,k1,v,aF,dV⟩:=bq
    exact ⟨.returned v,_,_,⟨by simp,dV⟩,Steps.trans (Steps.trans fT (.one (stepR_end C)))
      (EC cb { b.atR c' [] with mode := .returning } w' a' ax k1 az),rfl,rfl,rfl,rfl,fn,a6,aF⟩
  | ret=>
    obtain ⟨cb,ax,az,k1,v,aF,dV⟩:=bq;obtain ⟨k₁,ar⟩:=fT
    exact ⟨.returned v,_,_,⟨by simp,dV⟩,Steps.trans (Steps.trans ar (.one (stepR_ret C)))
      (EC cb { b.atR c' (.code .ret::k₁) with mode := .returning } w' a' ax k1 az),rfl,rfl,rfl,rfl,fn,a6,aF⟩
  | panic dB=>
    obtain ⟨cb,ax,az,k1,dV⟩:=bq;obtain ⟨k₁,ar⟩:=fT;exact ⟨.panicked dB,_,_,⟨by simp,dV⟩,Steps.trans ar (EC cb { b.atR c' k₁ with mode := .panicking dB } w' a' ax k1 az),rfl,rfl,rfl,fn,a6⟩
  | exit id=>exact bq.elim
def P2 (P:Program) (l:Nat) (R:Ending→World→Prop):gU→Act→World→Prop
 | .normal,_,w=>∃ v w',(Instr.endRound l none).run P w = .ok v w'∧R (.returned v) w'
 | .ret,_,w=>∃ v w',(Instr.endRound l (some .ret)).run P w = .ok v w'∧R (.returned v) w'
 | .exit id,_,w=>∃ v w',(Instr.endRound l (some (.exit id))).run P w = .ok v w'∧R (.returned v) w'
 | .panic dB,a,w=>a.defers=[]∧R (.panicked dB) w
theorem P3 {P:Program} {l:Nat} {f:FuncId} {fn:Func} {tmps:Array Value} {ha body:Code} {w:World} {R:Ending→World→Prop}
  (a6:P.funcs[f]? = some fn)
  (h:∀ b:Frame,b.roundOf=some l→b.fn=f→jK P b ha (gU.andThen (fun iJ w₁=>∃ hG,(Instr.beginRound l).run P w₁ = .ok () hG∧jK P b body (P2 P l R) iJ hG) (fun _ _ _=>False))
   { tmps:=tmps,defers:=[] } w):Round P l f tmps ha body w R:=by
 intro c cs
 let b:Frame:={ (default:Frame) with fn:=f,kind := .normal,roundOf:=some l }
 have ra:Frame.round l f tmps ha body .normal=b.atR { tmps:=tmps,defers:=[] } [.code ha,.beginRound,.code body]:=by
  simp [Frame.round,Frame.atR,b]
 obtain ⟨e,iJ,w₁,bq,fT⟩:=h b rfl rfl [.beginRound,.code body] (c::cs);rw [← ra] at fT;by_cases he:e = .normal
 ·subst he
  obtain ⟨hG,h2,sj⟩:=bq;have s1:=Steps.one (stepR_beginRound (P:=P) (b:=b) (a:=iJ) (k:=[.code body]) (cs:=c::cs) C h2);obtain ⟨y2,BK,iK,tB,tC⟩:=sj [] (c::cs);cases y2 with
  | normal=>
   obtain ⟨v,lv,tD,dV⟩:=tB;exact ⟨.returned v,lv,dV,(Steps.trans fT s1).trans (Steps.trans tC (.one (stepR_round_end C C tD)))⟩
  | ret=>
   obtain ⟨v,lv,tD,dV⟩:=tB;obtain ⟨k₁,ar⟩:=tC;exact ⟨.returned v,lv,dV,(Steps.trans fT s1).trans (Steps.trans ar (.one (stepR_round_ret C C tD)))⟩
  | exit id=>
   obtain ⟨v,lv,tD,dV⟩:=tB;obtain ⟨k₁,aE,ar⟩:=tC.2 rfl;exact ⟨.returned v,lv,dV,(Steps.trans fT s1).trans (Steps.trans ar (.one (stepR_round_exit C C aE tD)))⟩
  | panic dB=>
   obtain ⟨ax,dV⟩:=tB;obtain ⟨k₁,ar⟩:=tC;refine ⟨.panicked dB,iK,dV,(Steps.trans fT s1).trans (Steps.trans ar (.one ?_))⟩;exact step_lone_go (by simp [stepG,unwind,Frame.catches,Frame.atR,ax,b,a6])
 ·cases e<;>first|exact absurd C he|exact bq.elim
end Go.cU
namespace Go.cU
inductive bL where
 | nil
 | clip
 | bb
 | own (b:Nat)
 deriving DecidableEq
inductive af where
 | any
 | bool (b:Bool)
 | int (k:IntKind) (n:Int)
 | str (s:List UInt8)
 | p5
 | ptr (b o:Nat)
 | bw (cells:List af) (off:Nat)
 | l2 (b:Nat) (cells:List af)
 | aA (sz:Nat) (xs:List af) (own:bL)
 | BL (b n:Nat)
 | sk
 | map (b:Nat)
 | func (f:FuncId) (first cap:List af)
 | hv (v:Value)
 | tE
 | iface (t:TypeId) (v:af)
 | nB
 | agg (cells:List af)
 | cp (vs:List af)
abbrev bR:=Nat→Nat→Prop
def flat (vs:List Value):List Value:=vs.flatMap fun v=>v.cells.toList
def u5 (w:World) (p:bR) (b o:Nat) (vs:List Value):Prop:=∀ i v,vs[i]? = some v→p b (o+i)∧w.cell? ⟨b,o+i,none⟩=some v
def _root_.Go.World.kG (w:World) (r:Nat):Option (TypeId×Nat):=
 match w.heap[r]? with
 | some (.cells c elem (0,0))=>some (elem,c.size)
 | _=>none
mutual
inductive Rel (w:World) (p:bR):Value→af→Prop
 | any (v:Value):Rel w p v .any
 | bool (b:Bool):Rel w p (.bool b) (.bool b)
 | int (k:IntKind) (n:Int):Rel w p (.int k n) (.int k n)
 | str (b:ByteArray) (s:List UInt8) (h:b.data.toList=s):Rel w p (.string b) (.str s)
 | p5:Rel w p (.pointer none) .p5
 | ptr (b o:Nat):Rel w p (.pointer (some ⟨b,o,none⟩)) (.ptr b o)
 | bw (b base o off:Nat) (vs:List Value) (cells:List af) (ah:o=base+off) (aC:u5 w p b base vs) (aF:bG w p vs cells) :
   Rel w p (.pointer (some ⟨b,o,none⟩)) (.bw cells off)
 | l2 (b:Nat) (vs:List Value) (cells:List af) (az:vs≠[]) (ar:∃ x,w.kG b=some x) (aC:u5 w p b 0 vs) (aF:bG w p vs cells):Rel w p (.pointer (some ⟨b,0,none⟩)) (.l2 b cells)
 | hR (sz:Nat) (own:bL) (h:∀ b,own ≠ .own b):Rel w p (.slice none 0 0) (.aA sz [] own)
 | im (a:Addr) (sz:Nat) (own:bL) (h:own = .bb∨own = .clip):Rel w p (.slice (some a) 0 0) (.aA sz [] own)
 | aA (g off n cap sz:Nat) (vs:List Value) (xs:List af) (own:bL) (az:own ≠ .nil) (aB:n=xs.length) (aC:u5 w p g off (flat vs)) (aF:bG w p vs xs)
   (ar:∀ v∈vs,v.cells.size=sz) (hm:n≤9223372036854775807) (aE:n≤cap) (cv:own = .clip→cap=n)
   (ah:∀ b,own = .own b→b=g∧off=0∧∃ e,w.kG g=some (e,cap*sz)):Rel w p (.slice (some ⟨g,off,none⟩) n cap) (.aA sz xs own)
 | BL (b n cap:Nat) (hm:n≤9223372036854775807) (aE:n≤cap):Rel w p (.slice (some ⟨b,0,none⟩) n cap) (.BL b n)
 | sk:Rel w p (.map none) .sk
 | map (b:Nat):Rel w p (.map (some b)) (.map b)
 | func (f:FuncId) (as cs:Array Value) (first cap:List af) (a7:bG w p as.toList first) (aC:bG w p cs.toList cap):Rel w p (.func (.func f) as cs) (.func f first cap)
 | hv (v:Value):Rel w p v (.hv v)
 | tE:Rel w p .nilFunc .tE
 | iface (t:TypeId) (v:Value) (x:af) (h:Rel w p v x):Rel w p (.iface t v) (.iface t x)
 | nB:Rel w p .nilIface .nB
 | agg (cs:Array Value) (xs:List af) (h:bG w p cs.toList xs):Rel w p (.agg cs) (.agg xs)
 | cp (vs:Array Value) (xs:List af) (h:bG w p vs.toList xs):Rel w p (.tuple vs) (.cp xs)
inductive bG (w:World) (p:bR):List Value→List af→Prop
 | nil:bG w p [] []
 | cons (v:Value) (x:af) (vs:List Value) (xs:List af) (h:Rel w p v x) (t:bG w p vs xs):bG w p (v::vs) (x::xs)
end
structure dc (w:World) (p:bR) (w':World) (bj:bR):Prop where
 os:w'.os=w.os
 tape:w'.tape=w.tape
 output:w'.output=w.output
 size:w.heap.size≤w'.heap.size
 k2:∀ b o,p b o→bj b o
 same:∀ b o,p b o→w'.cell? ⟨b,o,none⟩=w.cell? ⟨b,o,none⟩
 shape:∀ b x,w.kG b=some x→w'.kG b=some x
theorem dc.refl (w:World) (p:bR):dc w p w p:=⟨rfl,rfl,rfl,le_refl _,fun _ _ h=>h,fun _ _ _=>rfl,fun _ _ h=>h⟩
theorem dc.trans {w w₁ hG:World} {p p₁ ji:bR} (h:dc w p w₁ p₁) (k:dc w₁ p₁ hG ji):dc w p hG ji:=
 ⟨k.os.trans h.os,k.tape.trans h.tape,k.output.trans h.output,Nat.le_trans h.size k.size,fun b o aD=>k.k2 b o (h.k2 b o aD),
  fun b o aD=>(k.same b o (h.k2 b o aD)).trans (h.same b o aD),fun b x ab=>k.shape b x (h.shape b x ab)⟩
theorem u5.mono {w w':World} {p bj:bR} (hle:dc w p w' bj) {b o:Nat} {vs:List Value} (h:u5 w p b o vs):u5 w' bj b o vs:=
 fun i v av=>let ⟨U,ad⟩:=h i v av;⟨hle.k2 _ _ U,(hle.same _ _ U).trans ad⟩
mutual
theorem Rel.mono {w w':World} {p bj:bR} (hle:dc w p w' bj) {v:Value} {x:af} (h:Rel w p v x):Rel w' bj v x:=by
 cases h with
 | any v=>exact .any v
 | bool b=>exact .bool b
 | int k n=>exact .int k n
 | str b s h=>exact .str b s h
 | p5=>exact .p5
 | ptr b o=>exact .ptr b o
 | bw b base o off vs cells ah aC aF=>exact .bw b base o off vs cells ah (aC.mono hle) (aF.mono hle)
 | l2 b vs cells az ar aC aF=>exact .l2 b vs cells az (ar.imp fun x h=>hle.shape _ _ h) (aC.mono hle) (aF.mono hle)
 | hR sz own h=>exact .hR sz own h
 | im a sz own h=>exact .im a sz own h
 | aA g off n cap sz vs xs own az aB aC aF ar hm aE cv ah=>
  exact .aA g off n cap sz vs xs own az aB (aC.mono hle) (aF.mono hle) ar hm aE cv (fun b aq=>let ⟨U,ad,e,al⟩:=ah b aq;⟨U,ad,e,hle.shape _ _ al⟩)
 | BL b n cap hm aE=>exact .BL b n cap hm aE
 | sk=>exact .sk
 | map b=>exact .map b
 | func f as cs first cap a7 aC=>exact .func f as cs first cap (a7.mono hle) (aC.mono hle)
 | hv v=>exact .hv v
 | tE=>exact .tE
 | iface t v x h=>exact .iface t v x (h.mono hle)
 | nB=>exact .nB
 | agg cs xs h=>exact .agg cs xs (h.mono hle)
 | cp vs xs h=>exact .cp vs xs (h.mono hle)
theorem bG.mono {w w':World} {p bj:bR} (hle:dc w p w' bj) {vs:List Value} {xs:List af} (h:bG w p vs xs):bG w' bj vs xs:=by
 cases h with
 | nil=>exact .nil
 | cons v x vs xs h t=>exact .cons v x vs xs (h.mono hle) (t.mono hle)
end
section P4
variable {w:World} {p:bR}
theorem bG.length {vs:List Value} {xs:List af} (h:bG w p vs xs):vs.length=xs.length:=by
 induction vs generalizing xs with
 | nil=>cases h;rfl
 | cons v vs a1=>cases h with|cons _ x _ xs h t=>simp [a1 t]
theorem bG.get {vs:List Value} {xs:List af} (h:bG w p vs xs) {i:Nat} {x:af} (ab:xs[i]? = some x):∃ v,vs[i]? = some v∧Rel w p v x:=by
 induction vs generalizing xs i with
 | nil=>cases h;simp at ab
 | cons v vs a1=>
  cases h with
  | cons _ y _ ys h t=>
   cases i with
   | zero=>simp at ab;subst ab;exact ⟨v,rfl,h⟩
   | succ i=>simp at ab;obtain ⟨u,U,ad⟩:=a1 t ab;exact ⟨u,by simpa using U,ad⟩
theorem bG.append {vs us:List Value} {xs ys:List af} (h:bG w p vs xs) (k:bG w p us ys):bG w p (vs++us) (xs++ys):=by
 induction vs generalizing xs with
 | nil=>cases h;exact k
 | cons v vs a1=>cases h with|cons _ x _ xs h t=>exact .cons _ _ _ _ h (a1 t)
theorem bG.take {vs:List Value} {xs:List af} (h:bG w p vs xs) (n:Nat):bG w p (vs.take n) (xs.take n):=by
  induction vs generalizing xs n with
  | nil=>cases h;simp;exact .nil
  | cons v vs a1=>
    cases h with
    | cons _ x _ xs h t=>cases n with
      | zero=>exact .nil
      | succ n=>exact .cons _ _ _ _ h (a1 t n)
theorem bG.drop {vs:List Value} {xs:List af} (h:bG w p vs xs) (n:Nat):bG w p (vs.drop n) (xs.drop n):=by
  induction vs generalizing xs n with
  | nil=>cases h;simp;exact .nil
  | cons v vs a1=>
    cases h with
    | cons _ x _ xs h t=>cases n with
      | zero=>exact .cons _ _ _ _ h t
      | succ n=>exact a1 t n
theorem bG.set {vs:List Value} {xs:List af} (h:bG w p vs xs) (i:Nat) {v:Value} {x:af} (av:Rel w p v x):bG w p (vs.set i v) (xs.set i x):=by
  induction vs generalizing xs i with
  | nil=>cases h;exact .nil
  | cons u vs a1=>
    cases h with
    | cons _ y _ ys h t=>cases i with
      | zero=>exact .cons _ _ _ _ av t
      | succ i=>exact .cons _ _ _ _ h (a1 t i)
theorem bG.replicate {v:Value} {x:af} (h:Rel w p v x) (n:Nat):bG w p (List.replicate n v) (List.replicate n x):=by
 induction n with
 | zero=>exact .nil
 | succ n a1=>exact .cons _ _ _ _ h a1
end P4
abbrev Env:=List (Nat×af)
def Env.get? : Env→Nat→Option af
 | [],_=>none
 | (t,v)::e,n=>if Nat.beq t n then some v else Env.get? e n
inductive dC where
 | box (t:TypeId) (cells:List af)
 | row (t:TypeId) (sz n:Nat)
 | map (es:List (af×af))
 | k3 (es:List (af×af)) (it:Nat) (left:List (af×af)) (cur:Option (af×af))
 | tick (m:Nat)
 | loop (r:Loop) (env:Env)
abbrev ao:=Nat→Option dC
def lx (w:World) (p:bR) (cN:List MapEntry) (es:List (af×af)):Prop:=
 bG w p (cN.map (·.key)) (es.map (·.1))∧bG w p (cN.map (·.val)) (es.map (·.2))
def p6 (w:World) (p:bR) (b:Nat):dC→Prop
  | .box t cs=>∃ vs:Array Value,w.heap[b]? = some (.cells vs t (0,0))∧bG w p vs.toList cs∧∀ o,¬ p b o
  | .row t sz n=>∃ cur:Array Value,w.heap[b]? = some (.cells cur t (0,0))∧n*sz≤cur.size∧(∃ cap,cur.size=cap*sz)∧∀ o,p b o↔o<n*sz
  | .map es=>∃ cN clock,w.heap[b]? = some (.map cN clock)∧lx w p cN.toList es∧(∀ e∈cN.toList,e.born<clock)∧(cN.toList.map (·.born)).Nodup
  | .k3 es it left cur=>∃ (cN:Array MapEntry) (clock:Nat) (seen:Array Nat),w.heap[b]? = some (.map cN clock)∧w.heap[it]? = some (.mapIter (some b) clock seen clock)∧lx w p cN.toList es ∧
      (∀ e∈cN.toList,e.born<clock)∧(cN.toList.map (·.born)).Nodup∧lx w p (cN.toList.filter fun e => !seen.contains e.born) left ∧
      ∀ k v,cur=some (k,v)→∃ IY e,seen.back? = some IY∧cN.find? (·.born==IY)=some e∧Rel w p e.key k∧Rel w p e.val v
  | .tick m=>∃ since seen last,w.heap[b]? = some (.mapIter (some m) since seen last)
  | .loop r env=>w.heap[b]? = some (.loop r)∧∀ t v,env.get? t=some v→Rel w p (r.tmps.getD t undef) v
structure dm (w:World) (p:bR) (s:ao):Prop where
 obj:∀ b o,s b=some o→p6 w p b o
 lt:∀ b o,p b o→b<w.heap.size
theorem p6.p7 {w w':World} {p bj:bR} {b it:Nat} {es left:List (af×af)} {cur:Option (af×af)} (h:p6 w p b (.k3 es it left cur)) (hle:dc w p w' bj) (aq:w'.heap[b]? = w.heap[b]?) (aQ:w'.heap[it]? = w.heap[it]?) :
  p6 w' bj b (.k3 es it left cur):=by
 obtain ⟨cN,clock,seen,U,ad,al,bd,bD,gj,ib⟩:=h;exact ⟨cN,clock,seen,aq.trans U,aQ.trans ad,⟨al.1.mono hle,al.2.mono hle⟩,bd,bD,⟨gj.1.mono hle,gj.2.mono hle⟩,fun k v aC=>let ⟨st,e,dW,a2,a3,a4⟩:=ib k v aC;⟨st,e,dW,a2,a3.mono hle,a4.mono hle⟩⟩
theorem p6.y5 {w:World} {p:bR} {b it d:Nat} {es left:List (af×af)} {cur:Option (af×af)} (h:p6 w p b (.k3 es it left cur)) {o:Obj} (ax:w.heap[d]? = some o) (ah:∀ m a s l,o ≠ .mapIter m a s l):it≠d:=by
 obtain ⟨cN,clock,seen,U,ad,al⟩:=h;intro e;subst e;rw [ax] at ad;cases ad;exact ah _ _ _ _ C
structure Kept (s aj:ao) (w:World) (p:bR) (w':World) (bj:bR):Prop where
 heap:∀ b,b<w.heap.size→s b=none→w'.heap[b]? = w.heap[b]?
 kH:∀ b,b<w.heap.size→s b=none→aj b=none
 k2:∀ b o,b<w.heap.size→s b=none→bj b o→p b o
theorem Kept.refl (s:ao) (w:World) (p:bR):Kept s s w p w p:=⟨fun _ _ _=>rfl,fun _ _ h=>h,fun _ _ _ _ h=>h⟩
theorem Kept.trans {s s₁ dH:ao} {w w₁ hG:World} {p p₁ ji:bR} (ar:w.heap.size≤w₁.heap.size) (h:Kept s s₁ w p w₁ p₁) (k:Kept s₁ dH w₁ p₁ hG ji):Kept s dH w p hG ji:=
  ⟨fun b aq az=>(k.heap b (Nat.lt_of_lt_of_le aq ar) (h.kH b aq az)).trans (h.heap b aq az),
   fun b aq az=>k.kH b (Nat.lt_of_lt_of_le aq ar) (h.kH b aq az),
   fun b o aq az aD=>h.k2 b o aq az (k.k2 b o (Nat.lt_of_lt_of_le aq ar) (h.kH b aq az) aD)⟩
def xl:Value→Option af
 | .bool b=>some (.bool b)
 | .int k n=>some (.int k n)
 | .string s=>some (.str s.data.toList)
 | .pointer none=>some .p5
 | .slice none 0 0=>some (.aA 0 [] .nil)
 | .map none=>some .sk
 | .nilFunc=>some .tE
 | .nilIface=>some .nB
 | .tuple vs=>if vs.isEmpty then some (.cp []) else none
 | _=>none
def aJ (env:Env):Operand→Option af
 | .tmp t=>env.get? t
 | .const v=>xl v
 | .func f=>some (.func f [] [])
 | .global _=>none
theorem ED {w:World} {p:bR} {v:Value} {x:af} (h:xl v=some x):Rel w p v x:=by
 unfold xl at h;split at h<;>first|(cases h;done)|(cases h;first|exact .bool _|exact .int _ _|exact .str _ _ C|exact .p5|exact .hR _ _ (fun _=>by simp)|exact .sk|exact .tE|exact .nB)|skip
 rename_i vs;split at h
 ·rename_i he
  cases h;have:vs = #[]:=by simpa using he
  subst this;exact .cp _ _ .nil
 ·cases h
abbrev fL:=Nat×List Deferred
structure dw (N:Nat) (B:fL) (ro:Option Nat) (env:Env) (s:ao) (a:Act) (w:World) (p:bR):Prop where
 size:a.tmps.size=N
 env:∀ t v,env.get? t=some v→Rel w p (a.tmps.getD t undef) v
 wf:dm w p s
 defs:∃ cb,a.defers=marksOf cb++B.2∧cb.Nodup∧∀ d∈cb,B.1≤d∧w.heap[d]? = some (.deferred (some []))∧s d=none
 round:∀ l,ro=some l→a.defers=[]∧(∃ r,w.heap[l]? = some (.loop r))∧s l=none
 base:B.1≤w.heap.size
theorem dw.aJ {N:Nat} {B:fL} {ro:Option Nat} {env:Env} {s:ao} {a:Act} {w:World} {p:bR} (h:dw N B ro env s a w p) {o:Operand} {x:af} (ab:aJ env o=some x) :
  Rel w p (a.eval o) x:=by
 cases o with
 | tmp t=>exact h.env t x ab
 | const v=>exact ED ab
 | func f=>simp [cU.aJ] at ab;subst ab;exact .func f #[] #[] [] [] .nil .nil
 | global g=>simp [cU.aJ] at ab
theorem dw.step {N:Nat} {B:fL} {ro:Option Nat} {env:Env} {s aj:ao} {a:Act} {w w':World} {p bj:bR} (h:dw N B ro env s a w p)
  (hle:dc w p w' bj) (aE:Kept s aj w p w' bj) (cc:dm w' bj aj):dw N B ro env aj a w' bj:=by
 obtain ⟨cb,U,ad,al⟩:=h.defs;refine ⟨h.size,fun t v av=>(h.env t v av).mono hle,cc,⟨cb,U,ad,fun d ax=>?_⟩,fun l aB=>?_,Nat.le_trans h.base hle.size⟩
 ·obtain ⟨cF,mZ,ar⟩:=al d ax
  have au:d<w.heap.size:=(Array.getElem?_eq_some_iff.1 mZ).1;exact ⟨cF,(aE.heap d au ar).trans mZ,aE.kH d au ar⟩
 ·obtain ⟨ax,⟨r,aF⟩,ar⟩:=h.round l aB
  have au:l<w.heap.size:=(Array.getElem?_eq_some_iff.1 aF).1;exact ⟨ax,⟨r,(aE.heap l au ar).trans aF⟩,aE.kH l au ar⟩
theorem dw.put {N:Nat} {B:fL} {ro:Option Nat} {env:Env} {s:ao} {a:Act} {w:World} {p:bR} (h:dw N B ro env s a w p) {d:Nat} (ax:d<N) {v:Value} {x:af}
  (av:Rel w p v x):dw N B ro ((d,x)::env) s (a.put (some d) v) w p:=by
 refine ⟨by simp [Act.put,h.size],fun t y ay=>?_,h.wf,h.defs,h.round,h.base⟩;simp only [Env.get?] at ay;split at ay
 ·rename_i he
  have u6:d=t:=eq_of_beq_eq_true he;cases ay;subst u6;have cl:d<a.tmps.size:=h.size.symm ▸ ax;simpa [Act.put,getD_eq_getD_getElem?,getElem?_setIfInBounds,cl] using av
 ·rename_i he
  have u6:d≠t:=fun e=>he (by subst e;simp)
  have:=h.env t y ay;simpa [Act.put,getD_eq_getD_getElem?,getElem?_setIfInBounds,u6] using this
inductive b8 where
 | normal
 | exit (id:Nat)
 | ret
 | panic (v:af)
def xm (v:Value) (dB:List PanicEntry):Prop:=∃ rest,dB={ v,recovered:=false }::rest∧∀ e∈rest,e.goexit=false
theorem xm.one (v:Value):xm v [{ v,recovered:=false }]:=⟨[],rfl,fun _ h=>by cases h⟩
inductive xn (w:World) (p:bR):gU→b8→Prop
 | normal:xn w p .normal .normal
 | exit (id:Nat):xn w p (.exit id) (.exit id)
 | ret:xn w p .ret .ret
 | panic (v:Value) (x:af) (dB:List PanicEntry) (aC:xm v dB) (h:Rel w p v x):xn w p (.panic dB) (.panic x)
def kg (N:Nat) (B:fL) (ro:Option Nat) (s:ao) (w:World) (p:bR) (Q:b8→Env→ao→Prop) (e:gU) (c':Act) (w':World):Prop:=
 ∃ x eP aj bj,xn w' bj e x∧Q x eP aj∧dw N B ro eP aj c' w' bj∧dc w p w' bj∧Kept s aj w p w' bj
theorem kg.after {N:Nat} {B:fL} {ro:Option Nat} {s s₁:ao} {w w₁ w':World} {p p₁:bR} {Q:b8→Env→ao→Prop} {e:gU} {c':Act}
  (hle:dc w p w₁ p₁) (aE:Kept s s₁ w p w₁ p₁) (h:kg N B ro s₁ w₁ p₁ Q e c' w'):kg N B ro s w p Q e c' w' :=
 let ⟨x,eP,aj,bj,U,ad,al,bd,bD⟩:=h
 ⟨x,eP,aj,bj,U,ad,al,hle.trans bd,aE.trans hle.size bD⟩
def ae (P:Program) (N:Nat) (c:Code) (Q:b8→Env→ao→Prop) (env:Env) (s:ao):Prop:=
 ∀ (b:Frame) (B:fL) (a:Act) (w:World) (p:bR),(P.funcs[b.fn]?).isSome=true→dw N B b.roundOf env s a w p→jK P b c (kg N B b.roundOf s w p Q) a w
section P5
variable {P:Program} {N:Nat} {Q:b8→Env→ao→Prop} {env:Env} {s:ao}
theorem ae.mono {c:Code} {om:b8→Env→ao→Prop} (h:ae P N c Q env s) (bq:∀ e env s,Q e env s→om e env s):ae P N c om env s:=
 fun b B a w p eU aI=>l0 (h b B a w p eU aI) fun _ _ _ ⟨x,eP,aj,bj,U,ad,al⟩=>⟨x,eP,aj,bj,U,bq _ _ _ ad,al⟩
theorem kg.here {B:fL} {ro:Option Nat} {a:Act} {w:World} {p:bR} {e:gU} {x:b8} (ab:xn w p e x) (bq:Q x env s) (h:dw N B ro env s a w p) :
  kg N B ro s w p Q e a w:=⟨x,env,s,p,ab,bq,h,.refl w p,.refl s w p⟩
theorem ae.skip (h:Q .normal env s):ae P N .skip Q env s:=fun _ _ _ _ _ _ aI=>PQ (.here .normal h aI)
theorem ae.ret (h:Q .ret env s):ae P N .ret Q env s:=fun _ _ _ _ _ _ aI=>PR (.here .ret h aI)
theorem ae.exit {id:Nat} (h:Q (.exit id) env s):ae P N (.exit id) Q env s:=fun _ _ _ _ _ _ aI=>PS (.here (.exit id) h aI)
def b8.andThen (next:Env→ao→Prop) (Q:b8→Env→ao→Prop):b8→Env→ao→Prop
 | .normal,e,s=>next e s
 | x,e,s=>Q x e s
theorem ae.seq {x y:Code} (h:ae P N x (b8.andThen (ae P N y Q) Q) env s):ae P N (.seq x y) Q env s:=by
 intro b B a w p eU aI;refine PT (l0 (h b B a w p eU aI) ?_);rintro e iJ w₁ ⟨BM,oo,s₁,p₁,ab,bq,k4,hle,aE⟩;cases ab with
 | normal=>exact l0 (bq b B iJ w₁ p₁ eU k4) fun _ _ _ h=>h.after hle aE
 | exit id=>exact ⟨_,oo,s₁,p₁,.exit id,bq,k4,hle,aE⟩
 | ret=>exact ⟨_,oo,s₁,p₁,.ret,bq,k4,hle,aE⟩
 | panic v x dB aC av=>exact ⟨_,oo,s₁,p₁,.panic v x dB aC av,bq,k4,hle,aE⟩
theorem BN {w:World} {p:bR} {v:Value} {t:Bool} (h:Rel w p v (.bool t)):v = .bool t:=by cases h;rfl
theorem ae.cond {c:Operand} {x y:Code} {t:Bool} (aC:aJ env c=some (.bool t)) (aM:t=true→ae P N x Q env s) (a6:t=false→ae P N y Q env s) :
  ae P N (.cond c x y) Q env s:=by
 intro b B a w p eU aI;refine PU (BN (aI.aJ aC)) ?_;cases t
 ·exact a6 C b B a w p eU aI
 ·exact aM C b B a w p eU aI
theorem ae.ft {c:Operand} {x y:Code} (aC:aJ env c=some (.bool true)) (h:ae P N x Q env s):ae P N (.cond c x y) Q env s:=ae.cond aC (fun _=>h) a'
theorem ae.gP {c:Operand} {x y:Code} (aC:aJ env c=some (.bool false)) (h:ae P N y Q env s):ae P N (.cond c x y) Q env s:=ae.cond aC a' (fun _=>h)
def b8.inBlock (id:Nat) (Q:b8→Env→ao→Prop):b8→Env→ao→Prop
 | .exit kF,a,w=>if Nat.beq kF id then Q .normal a w else Q (.exit kF) a w
 | e,a,w=>Q e a w
theorem ae.block {id:Nat} {c:Code} (h:ae P N c (b8.inBlock id Q) env s):ae P N (.block id c) Q env s:=by
 intro b B a w p eU aI;refine PV (l0 (h b B a w p eU aI) ?_);rintro e iJ w₁ ⟨BM,oo,s₁,p₁,ab,bq,k4,hle,aE⟩;cases ab with
 | normal=>exact ⟨_,oo,s₁,p₁,.normal,bq,k4,hle,aE⟩
 | exit kF=>
  by_cases sf:kF=id
  ·simp only [b8.inBlock,sf,Nat.beq_refl,if_true] at bq
   simp only [gU.inBlock,sf,if_true];exact ⟨_,oo,s₁,p₁,.normal,bq,k4,hle,aE⟩
  ·have aq:Nat.beq kF id=false:=by
    cases P6:Nat.beq kF id with
    | false=>rfl
    | true=>exact absurd (eq_of_beq_eq_true P6) sf
   simp only [b8.inBlock,aq,if_false,false_eq_true] at bq;simp only [gU.inBlock,sf,if_false];exact ⟨_,oo,s₁,p₁,.exit kF,bq,k4,hle,aE⟩
 | ret=>exact ⟨_,oo,s₁,p₁,.ret,bq,k4,hle,aE⟩
 | panic v x dB aC av=>exact ⟨_,oo,s₁,p₁,.panic v x dB aC av,bq,k4,hle,aE⟩
def aS (x y:af):Prop:=∀ w p v,Rel w p v x→Rel w p v y
theorem aS.refl (x:af):aS x x:=fun _ _ _ h=>h
def Env.Sub:Env→Env→Prop
 | [],_=>True
 | (t,v)::e,env=>(∃ fu,env.get? t=some fu∧aS fu v)∧Env.Sub e env
theorem Env.Sub.get {e env:Env} (h:Env.Sub e env) {t:Nat} {v:af} (av:e.get? t=some v):∃ fu,env.get? t=some fu∧aS fu v:=by
 induction e with
 | nil=>simp [Env.get?] at av
 | cons x e a1=>
  obtain ⟨bH,fu⟩:=x;simp only [Env.get?] at av;split at av
  ·rename_i he
   have u6:bH=t:=eq_of_beq_eq_true he;cases av;subst u6;exact h.1
  ·exact a1 h.2 av
theorem dw.sub {B:fL} {ro:Option Nat} {e:Env} {a:Act} {w:World} {p:bR} (ar:Env.Sub e env) (h:dw N B ro env s a w p):dw N B ro e s a w p:=
 ⟨h.size,fun t v av=>let ⟨fu,U,ad⟩:=ar.get av;ad _ _ _ (h.env t fu U),h.wf,h.defs,h.round,h.base⟩
theorem ae.sub {c:Code} (e:Env) (ar:Env.Sub e env) (h:ae P N c Q e s):ae P N c Q env s:=
 fun b B a w p eU aI=>h b B a w p eU (aI.sub ar)
def ao.Sub (aj s:ao):Prop:=∀ b,aj b=s b∨aj b=none
theorem dm.sub {aj:ao} {w:World} {p:bR} (ar:ao.Sub aj s) (h:dm w p s):dm w p aj :=
 ⟨fun b o aq=>h.obj b o (by rcases ar b with e|e<;>simp_all),h.lt⟩
theorem ao.Sub.none {aj:ao} (ar:ao.Sub aj s) {b:Nat} (h:s b=none):aj b=none:=by rcases ar b with e|e<;>simp_all
theorem Kept.xo {aj eG:ao} (ar:ao.Sub aj s) {w w':World} {p bj:bR} (h:Kept aj eG w p w' bj):Kept s eG w p w' bj :=
 ⟨fun b aq az=>h.heap b aq (ar.none az),fun b aq az=>h.kH b aq (ar.none az),fun b o aq az=>h.k2 b o aq (ar.none az)⟩
theorem dw.EE {B:fL} {ro:Option Nat} {aj:ao} {a:Act} {w:World} {p:bR} (ar:ao.Sub aj s) (h:dw N B ro env s a w p):dw N B ro env aj a w p:=by
 obtain ⟨cb,U,ad,al⟩:=h.defs;exact ⟨h.size,h.env,h.wf.sub ar,⟨cb,U,ad,fun d ax=>let ⟨a,b,c⟩:=al d ax;⟨a,b,ar.none c⟩⟩,fun l aB=>let ⟨a,b,c⟩:=h.round l aB;⟨a,b,ar.none c⟩,h.base⟩
theorem ae.drop {c:Code} (aj:ao) (ar:ao.Sub aj s) (h:ae P N c Q env aj):ae P N c Q env s:=
 fun b B a w p eU aI=>l0 (h b B a w p eU (aI.EE ar)) fun _ _ _ ⟨x,eP,eG,bj,U,ad,al,bd,bD⟩=>⟨x,eP,eG,bj,U,ad,al,bd,bD.xo ar⟩
theorem ae.loop {σ:Type} {c:Code} (E:σ→Env) (S:σ→ao) (acg:σ→Prop) (μ:σ→Nat) (nC:σ) (an:acg nC) (eJ:Env.Sub (E nC) env) (ch:ao.Sub (S nC) s)
  (round:∀ x,acg x→ae P N c (b8.andThen (fun eP aj=>∃ y,acg y∧Env.Sub (E y) eP∧ao.Sub (S y) aj∧μ y<μ x) Q) (E x) (S x)):ae P N (.loop c) Q env s:=by
 refine ae.sub _ eJ (ae.drop _ ch ?_);intro b B a w p eU aI;have key:∀ n x a w p,μ x=n→acg x→dw N B b.roundOf (E x) (S x) a w p→∀ k cs,∃ e c' w',kg N B b.roundOf (S x) w p Q e c' w' ∧
   p3 P (lone (b.atR a (.code c :: .inLoop c::k)) cs w) b k cs e c' w':=by
  intro n
  induction n using Nat.strongRecOn with
  | _ n a1=>
   intro x a w p az ab aI k cs;obtain ⟨e,iJ,w₁,⟨BM,oo,s₁,p₁,EF,bq,k4,hle,aE⟩,fT⟩:=round x ab b B a w p eU aI (.inLoop c::k) cs;by_cases he:e = .normal
   ·subst he
    cases EF;obtain ⟨y,ay,hH,IZ,au⟩:=bq;obtain ⟨y2,BK,hG,tB,tC⟩:=a1 (μ y) (az ▸ au) y iJ w₁ p₁ rfl ay ((k4.sub hH).EE IZ) k cs;refine ⟨y2,BK,hG,kg.after hle aE ?_,.of_steps (Steps.trans fT (.one stepR_inLoop)) tC⟩;obtain ⟨oq,eP,eG,bj,U,ad,al,bd,bD⟩:=tB;exact ⟨oq,eP,eG,bj,U,ad,al,bd,bD.xo IZ⟩
   ·have u3:kg N B b.roundOf (S x) w p Q e iJ w₁:=by
     refine ⟨BM,oo,s₁,p₁,EF,?_,k4,hle,aE⟩;cases EF<;>first|exact absurd C he|exact bq
    exact ⟨e,iJ,w₁,u3,p3.IW (c:=c) (.inLoop c) C he fT⟩
 intro k cs;obtain ⟨e,c',w',bq,fT⟩:=key _ nC a w p rfl an aI k cs;exact ⟨e,c',w',bq,.of_steps (.one stepR_loop) fT⟩
end P5
end Go.cU
namespace Go.cU
def aZ (P:Program) (N:Nat) (o:Oper) (env:Env) (s:ao) (K X:af→ao→Prop):Prop:=
 gE o=true∧∀ ro B a w p,dw N B ro env s a w p→o8 P ((execOp a.eval o).run P w) fun e w'=>∃ aj bj,dc w p w' bj∧Kept s aj w p w' bj∧dm w' bj aj ∧
  match e with
  | .returned v=>∃ x,K x aj∧Rel w' bj v x
  | .panicked dB=>∃ v x,xm v dB∧X x aj∧Rel w' bj v x
  | .outgrown=>False
theorem aZ.mono {P:Program} {N:Nat} {o:Oper} {env:Env} {s:ao} {K X aO m0:af→ao→Prop} (h:aZ P N o env s K X)
  (aE:∀ x s,K x s→aO x s) (ab:∀ x s,X x s→m0 x s):aZ P N o env s aO m0 :=
 ⟨h.1,fun ro B a w p aI=>(h.2 ro B a w p aI).mono fun e w' ⟨aj,bj,U,ad,al,bd⟩=>⟨aj,bj,U,ad,al,by
  cases e with
  | returned v=>obtain ⟨x,ab,aF⟩:=bd;exact ⟨x,aE _ _ ab,aF⟩
  | panicked dB=>obtain ⟨v,x,aC,iq,aF⟩:=bd;exact ⟨v,x,aC,ab _ _ iq,aF⟩
  | outgrown=>exact bd⟩⟩
def guardOf (ops:Array Oper) (env:Env) (o:Oper):Option Bool:=
  match o.guard with
  | none=>some true
  | some (j,want)=>
    match (ops[j]?).bind (·.dst) with
    | none=>some false
    | some d=>match env.get? d with
      | some (.bool b)=>some (match want with|true=>b|false => !b)
      | some (.cp [])=>some false
      | _=>none
theorem P7 {w:World} {p:bR} {v:Value} (h:Rel w p v (.cp [])):v = .tuple #[]:=by
 cases h with
 | cp vs _ h=>have:=h.length;simp at this;rw [this]
theorem u7 {N:Nat} {B:fL} {ro:Option Nat} {env:Env} {s:ao} {a:Act} {w:World} {p:bR} (aI:dw N B ro env s a w p) {ops:Array Oper} {o:Oper} {g:Bool}
  (h:guardOf ops env o=some g):Region.wanted o (yielded ops a.tmps)=g:=by
 unfold guardOf at h;unfold Region.wanted;split at h
 ·rename_i aw;simp only [aw];cases h;rfl
 ·rename_i j want aw
  simp only [aw];split at h
  ·rename_i ax
   cases h;simp [yielded,ax]
  ·rename_i d ax
   split at h
   ·rename_i b aq
    have aF:=aI.env d _ aq;have av:=BN aF;cases h;have ay:yielded ops a.tmps j=some b:=by
     unfold yielded;have:a.tmps[d]? = some (.bool b):=by
      rw [getD_eq_getD_getElem?] at av;cases ab:a.tmps[d]? with
      | none=>rw [ab] at av;simp [undef] at av
      | some v=>rw [ab] at av;simpa using av
     simp [ax,this]
    rw [ay];cases want<;>cases b<;>rfl
   ·rename_i aq
    cases h;have aF:=aI.env d _ aq;have av:a.tmps.getD d undef = .tuple #[]:=by
     generalize I0:a.tmps.getD d undef=v at aF;exact P7 aF
    have ay:yielded ops a.tmps j=none:=by
     unfold yielded;rw [getD_eq_getD_getElem?] at av;simp only [ax,bind_some];cases ab:a.tmps[d]? with
     | none=>rfl
     | some v=>rw [ab] at av;simp at av;subst av;rfl
    rw [ay];rfl
   ·cases h
def fE (P:Program) (N:Nat) (ops:Array Oper) (l:List Nat) (Q:b8→Env→ao→Prop) (env:Env) (s:ao):Prop:=
 ∀ ro B a w p,dw N B ro env s a w p→iU P ops (kg N B ro s w p Q) l a w
section rw
variable {P:Program} {N:Nat} {ops:Array Oper} {Q:b8→Env→ao→Prop} {env:Env} {s:ao}
theorem ae.region {id:Nat} (h:fE P N ops (range ops.size) Q env s):ae P N (.region id ops false) Q env s:=
 fun b B a w p _ aI=>PY (h b.roundOf B a w p aI)
theorem fE.nil (h:Q .normal env s):fE P N ops [] Q env s:=fun _ _ _ _ _ aI => .here .normal h aI
theorem u9 {Q om:gU→Act→World→Prop} (bq:∀ e a w,Q e a w→om e a w):∀ (l:List Nat) (a:Act) (w:World),iU P ops Q l a w→iU P ops om l a w:=by
 intro l
 induction l with
 | nil=>exact fun a w h=>bq _ _ _ h
 | cons i rest a1=>
  intro a w h;simp only [iU] at h ⊢;split at h
  ·rename_i ah;exact a1 _ _ h
  ·rename_i o ah
   split at h
   ·rename_i hw
    rw [if_pos hw];exact ⟨h.1,h.2.mono fun e w' he=>by cases e<;>first|exact a1 _ _ he|exact bq _ _ _ he|exact he⟩
   ·rename_i hw
    rw [if_neg hw];exact a1 _ _ h
theorem fE.after {l:List Nat} {s₁:ao} {ro:Option Nat} {B:fL} {a:Act} {w w₁:World} {p p₁:bR} {EG:Env}
  (hle:dc w p w₁ p₁) (aE:Kept s s₁ w p w₁ p₁) (h:fE P N ops l Q EG s₁) (aI:dw N B ro EG s₁ a w₁ p₁):iU P ops (kg N B ro s w p Q) l a w₁:=
 u9 (fun _ _ _ q=>q.after hle aE) l a w₁ (h ro B a w₁ p₁ aI)
theorem fE.op {i:Nat} {l:List Nat} {o:Oper} {d:Nat} {K X:af→ao→Prop} (ah:ops[i]? = some o) (aw:guardOf ops env o=some true) (ax:o.dst=some d)
  (aU:Nat.blt d N=true) (h:aZ P N o env s K X) (aE:∀ x aj,K x aj→fE P N ops l Q ((d,x)::env) aj) (ab:∀ x aj,X x aj→Q (.panic x) env aj) :
  fE P N ops (i::l) Q env s:=by
 intro ro B a w p aI;have m1:d<N:=by simpa [blt_eq] using aU
 simp only [iU,ah,u7 aI aw,if_true];refine ⟨h.1,(h.2 ro B a w p aI).mono ?_⟩;rintro e w' ⟨aj,bj,hle,ly,cc,he⟩;cases e with
 | returned v=>
  obtain ⟨x,bg,aF⟩:=he;rw [ax];exact fE.after hle ly (aE x aj bg) ((aI.step hle ly cc).put m1 aF)
 | panicked dB=>
  obtain ⟨v,x,kI,iq,aF⟩:=he;exact ⟨.panic x,env,aj,bj,.panic v x dB kI aF,ab x aj iq,aI.step hle ly cc,hle,ly⟩
 | outgrown=>exact he
theorem fE.u' {i:Nat} {l:List Nat} {o:Oper} {K X:af→ao→Prop} (ah:ops[i]? = some o) (aw:guardOf ops env o=some true) (ax:o.dst=none)
  (h:aZ P N o env s K X) (aE:∀ x aj,K x aj→fE P N ops l Q env aj) (ab:∀ x aj,X x aj→Q (.panic x) env aj) :
  fE P N ops (i::l) Q env s:=by
 intro ro B a w p aI;simp only [iU,ah,u7 aI aw,if_true];refine ⟨h.1,(h.2 ro B a w p aI).mono ?_⟩;rintro e w' ⟨aj,bj,hle,ly,cc,he⟩;cases e with
 | returned v=>
  obtain ⟨x,bg,aF⟩:=he;rw [ax];exact fE.after hle ly (aE x aj bg) (aI.step hle ly cc)
 | panicked dB=>
  obtain ⟨v,x,kI,iq,aF⟩:=he;exact ⟨.panic x,env,aj,bj,.panic v x dB kI aF,ab x aj iq,aI.step hle ly cc,hle,ly⟩
 | outgrown=>exact he
theorem EH {w:World} {p:bR}:Rel w p undef (.cp []) := .cp #[] [] .nil
theorem fE.skip {i:Nat} {l:List Nat} {o:Oper} {d:Nat} (ah:ops[i]? = some o) (aw:guardOf ops env o=some false) (ax:o.dst=some d) (aU:Nat.blt d N=true)
  (h:fE P N ops l Q ((d,.cp [])::env) s):fE P N ops (i::l) Q env s:=by
 intro ro B a w p aI;have m1:d<N:=by simpa [blt_eq] using aU
 simp only [iU,ah,u7 aI aw,if_false,false_eq_true,ax];exact h ro B _ w p (aI.put m1 EH)
end rw
theorem dm.grow {w w':World} {p bj:bR} {s:ao} (hle:dc w p w' bj) (cX:∀ b,b<w.heap.size→w'.heap[b]? = w.heap[b]?)
  (aD:∀ b o,b<w.heap.size→bj b o→p b o) (au:∀ b o,bj b o→b<w'.heap.size) (h:dm w p s):dm w' bj s:=by
 refine ⟨fun b o aq=>?_,au⟩;have ah:=h.obj b o aq;cases o with
 | box t cs=>
  obtain ⟨vs,U,ad,al⟩:=ah;have sl:b<w.heap.size:=(Array.getElem?_eq_some_iff.1 U).1;exact ⟨vs,(cX b sl).trans U,ad.mono hle,fun o e6=>al o (aD b o sl e6)⟩
 | row t sz n=>
  obtain ⟨cur,U,ad,al,bd⟩:=ah;have sl:b<w.heap.size:=(Array.getElem?_eq_some_iff.1 U).1;exact ⟨cur,(cX b sl).trans U,ad,al,fun o=>⟨fun e6=>(bd o).1 (aD b o sl e6),fun az=>hle.k2 _ _ ((bd o).2 az)⟩⟩
 | map es=>
  obtain ⟨cN,clock,U,ad,al,bd⟩:=ah;have sl:b<w.heap.size:=(Array.getElem?_eq_some_iff.1 U).1;exact ⟨cN,clock,(cX b sl).trans U,⟨ad.1.mono hle,ad.2.mono hle⟩,al,bd⟩
 | k3 es it left cur=>
  obtain ⟨cN,clock,seen,U,ad,-⟩:=id ah;exact ah.p7 hle (cX b (Array.getElem?_eq_some_iff.1 U).1) (cX it (Array.getElem?_eq_some_iff.1 ad).1)
 | tick m=>obtain ⟨dW,a2,a3,U⟩:=ah;exact ⟨dW,a2,a3,(cX b (Array.getElem?_eq_some_iff.1 U).1).trans U⟩
 | loop r env=>exact ⟨(cX b (Array.getElem?_eq_some_iff.1 ah.1).1).trans ah.1,fun t v h=>(ah.2 t v h).mono hle⟩
theorem l3 (w:World) (o:Obj) (b:Nat) (h:b<w.heap.size):(w.alloc o).heap[b]? = w.heap[b]?:=by
 show (w.heap.push o)[b]? = _;rw [Array.getElem?_push,if_neg ag]
theorem tF (w:World) (o:Obj):(w.alloc o).heap[w.heap.size]? = some o:=by
 show (w.heap.push o)[w.heap.size]? = _;rw [Array.getElem?_push,if_pos C]
theorem xp {w w':World} {b:Nat} (h:w'.heap[b]? = w.heap[b]?):w'.kG b=w.kG b:=by simp [World.kG,h]
theorem xq {w w':World} {b o:Nat} (h:w'.heap[b]? = w.heap[b]?):w'.cell? ⟨b,o,none⟩=w.cell? ⟨b,o,none⟩:=by simp [World.cell?,h]
theorem P8 {w:World} {b:Nat} {x:TypeId×Nat} (h:w.kG b=some x):b<w.heap.size:=by
 unfold World.kG at h;split at h
 ·rename_i cX;exact (Array.getElem?_eq_some_iff.1 cX).1
 ·cases h
theorem dc.of_heap {w w':World} {p bj:bR} (ah:w'.os=w.os) (aM:w'.tape=w.tape) (hu:w'.output=w.output) (ar:w.heap.size≤w'.heap.size)
  (aD:∀ b o,p b o→bj b o) (au:∀ b o,p b o→b<w.heap.size) (cX:∀ b,b<w.heap.size→w'.heap[b]? = w.heap[b]?):dc w p w' bj :=
 ⟨ah,aM,hu,ar,aD,fun b o aq=>xq (cX b (au b o aq)),fun b x ab=>by rw [xp (cX b (P8 ab))];exact ab⟩
def bR.ee (p:bR) (b:Nat) (c:Prop):bR:=fun aW o=>p aW o∨(aW=b∧c)
section alloc
variable {w:World} {p:bR} {s:ao}
theorem tG (au:∀ b o,p b o→b<w.heap.size) (o:Obj) (c:Prop):dc w p (w.alloc o) (p.ee w.heap.size c):=
 dc.of_heap C C C a' (fun _ _ h => .inl h) au (fun b aq=>l3 w o b aq)
theorem y6 (h:dm w p s) (o:Obj) (c:Prop):dm (w.alloc o) (p.ee w.heap.size c) s:=
  h.grow (tG h.lt o c) (fun b aq=>l3 w o b aq) (fun b o aq aD=>by rcases aD with aD|⟨rfl,_⟩;exact aD;omega)
    (fun b o aD=>by rcases aD with aD|⟨rfl,_⟩;have:=h.lt b o aD;simp;omega;simp)
theorem BO (o:Obj) (c:Prop):Kept s s w p (w.alloc o) (p.ee w.heap.size c):=
 ⟨fun b aq _=>l3 w o b aq,fun _ _ h=>h,fun b o aq _ aD=>by rcases aD with aD|⟨rfl,_⟩;exact aD;omega⟩
theorem EI (vs:List Value) (t:TypeId):u5 (w.alloc (.cells vs.toArray t)) (p.ee w.heap.size True) w.heap.size 0 vs:=by
 intro i v av;refine ⟨.inr ⟨rfl,trivial⟩,?_⟩;rw [zero_add];simp only [World.cell?,tF,Option.isSome_none,false_eq_true,if_false];simpa using av
theorem kJ:dc w p w.drew p:=⟨rfl,rfl,rfl,le_refl _,fun _ _ h=>h,fun _ _ _=>rfl,fun _ _ h=>h⟩
theorem xr (h:dm w p s):dm w.drew p s:=h.grow kJ (fun _ _=>rfl) (fun _ _ _ h=>h) h.lt
theorem va:Kept s s w p w.drew p:=⟨fun _ _ _=>rfl,fun _ _ h=>h,fun _ _ _ _ h=>h⟩
end alloc
end Go.cU
namespace Go.cU
inductive sm where
 | bool
 | int (k:IntKind)
 | str
 | ptr (e:TypeId)
 | aA (e:TypeId)
 | map (k e:TypeId)
 | struct (gF:List (Nat×TypeId))
 | iface (bare:Bool)
 | func
 | arr (n:Nat) (e:TypeId)
 | other
structure bM where
 bF:sm
 size:Nat
 bytes:Nat
 zero:Value
def ev:TypeDesc→sm
 | .bool => .bool
 | .int k => .int k
 | .string => .str
 | .pointer e => .ptr e
 | .slice e => .aA e
 | .map k e => .map k e
 | .struct gF => .struct (gF.toList.map fun f=>(f.offset,f.type))
 | .interface ms => .iface ms.isEmpty
 | .func .. => .func
 | .array n e => .arr n e
 | _ => .other
abbrev cw:=List (Nat×bM)
def cw.get? : cw→Nat→Option bM
 | [],_=>none
 | (t,v)::e,n=>if Nat.beq t n then some v else cw.get? e n
def EJ (P:Program) (t:TypeId):Option bM:=
  match P.info? t,P.underlying t with
  | some i,some d=>match i.zero with
    | some z=>some { bF:=ev d,size:=i.size,bytes:=i.bytes,zero:=z }
    | none=>none
  | _,_=>none
def bQ (P:Program) (Γ:cw):Prop:=∀ t i,Γ.get? t=some i→EJ P t=some i
theorem P9 (P:Program) (Γ:cw) (h:Γ.map (fun x=>EJ P x.1)=Γ.map (fun x=>some x.2)):bQ P Γ:=by
 induction Γ with
 | nil=>intro t i h;simp [cw.get?] at h
 | cons x Γ a1=>
  obtain ⟨bH,BP⟩:=x;simp only [map_cons,List.cons.injEq] at h;intro t i aw;simp only [cw.get?] at aw;split at aw
  ·rename_i he
   have:=eq_of_beq_eq_true he;subst this;cases aw;exact h.1
  ·exact a1 h.2 t i aw
theorem bQ.parts {P:Program} {Γ:cw} (h:bQ P Γ) {t:TypeId} {i:bM} (aQ:Γ.get? t=some i) :
  ∃ info d,P.info? t=some info∧P.underlying t=some d∧ev d=i.bF∧info.size=i.size∧info.bytes=i.bytes∧info.zero=some i.zero:=by
 have:=h t i aQ;unfold EJ at this;split at this
 ·rename_i info d U ad
  split at this
  ·rename_i z bO
   cases this;exact ⟨info,d,U,ad,rfl,rfl,rfl,bO⟩
  ·cases this
 ·cases this
def cellsOf:af→Option (List af)
 | .agg cs=>some cs
 | .any=>none
 | .hv (.func f a c)=>some [.hv (.func f a c)]
 | .hv (.slice a n c)=>some [.hv (.slice a n c)]
 | .hv _=>none
 | .cp _=>none
 | v=>some [v]
theorem p8 {w:World} {p:bR} {v:Value} {x:af} {cs:List af} (aF:Rel w p v x) (h:cellsOf x=some cs):bG w p v.cells.toList cs:=by
 cases aF with
 | hv v=>
  cases v<;>simp [cellsOf] at h
  all_goals
   subst h;exact .cons _ _ _ _ (.hv _) .nil
 | any=>cases h
 | cp=>cases h
 | agg cs xs eT=>cases h;exact eT
 | _=>simp only [cellsOf] at h;cases h;simp only [Value.cells];refine .cons _ _ _ _ ?_ .nil;constructor<;>assumption
def tH:Nat→List af→Option (List af)
  | 0,_=>some []
  | n+1,v::r=>match tH n r with
    | some s=>some (v::s)
    | none=>none
  | _+1,[]=>none
def p9:Nat→List af→Option (List af)
 | 0,r=>some r
 | n+1,_::r=>p9 n r
 | _+1,[]=>none
def nth {α:Type}:List α→Nat→Option α
 | [],_=>none
 | x::_,0=>some x
 | _::r,n+1=>nth r n
theorem xt {α:Type} (l:List α) (n:Nat):nth l n=l[n]?:=by
  induction l generalizing n with
  | nil=>rfl
  | cons x l a1=>cases n with
    | zero=>rfl
    | succ n=>simp only [nth,List.getElem?_cons_succ];exact a1 n
theorem BQ {n:Nat} {l r:List af} (h:tH n l=some r):r=l.take n∧n≤l.length:=by
 induction n generalizing l r with
 | zero=>cases h;simp
 | succ n a1=>
  cases l with
  | nil=>simp [tH] at h
  | cons v l=>
   simp only [tH] at h;split at h
   ·rename_i s ar;cases h;obtain ⟨U,ad⟩:=a1 ar;subst U;simp;omega
   ·cases h
theorem P' {n:Nat} {l r:List af} (h:p9 n l=some r):r=l.drop n:=by
  induction n generalizing l with
  | zero=>cases h;rfl
  | succ n a1=>cases l with
    | nil=>simp [p9] at h
    | cons v l=>simpa [p9] using a1 (by simpa [p9] using h)
def hI (i:bM) (cells:List af) (off:Nat):Option af:=
  match p9 off cells with
  | none=>none
  | some r=>match i.bF with
    | .struct _=>match tH i.size r with
      | some cs=>some (.agg cs)
      | none=>none
    | .arr _ _=>match tH i.size r with
      | some cs=>some (.agg cs)
      | none=>none
    | .other=>none
    | _=>match r with
      | v::_=>some v
      | []=>none
def hx:Value→Option af
  | .agg cs=>match cs.toList.mapM xl with
    | some xs=>some (.agg xs)
    | none=>none
  | v=>xl v
theorem Qa {w:World} {p:bR} {vs:List Value} {xs:List af} (h:vs.mapM xl=some xs):bG w p vs xs:=by
 induction vs generalizing xs with
 | nil=>simp at h;subst h;exact .nil
 | cons v vs a1=>
  simp only [mapM_cons,Option.bind_eq_bind,Option.pure_def,Option.bind_eq_some_iff,Option.some.injEq] at h;obtain ⟨x,ab,ys,xu,rfl⟩:=h;exact .cons _ _ _ _ (ED ab) (a1 xu)
theorem p' {w:World} {p:bR} {v:Value} {x:af} (h:hx v=some x):Rel w p v x:=by
 unfold hx at h;split at h
 ·split at h
  ·rename_i cs xs ab;cases h;exact .agg _ _ (Qa ab)
  ·cases h
 ·exact ED h
def vb (d:TypeDesc):Bool:=match d with | .struct _ | .array _ _=>true|_=>false
theorem xw {P:Program} {t:TypeId} {d:TypeDesc} (h:P.underlying t=some d) (w:World):(isAgg t).run P w = .ok (vb d) w:=by
 unfold isAgg;rw [Sem.run_bind,run_underlying h,Result.andThen_ok];cases d<;>rfl
theorem y7 {d:TypeDesc} {gF:List (Nat×TypeId)} (h:ev d = .struct gF):∃ f:Array Field,d = .struct f∧gF=f.toList.map fun x=>(x.offset,x.type):=by
 cases d<;>simp [ev] at h;rename_i f;exact ⟨f,rfl,h.symm⟩
theorem y8 {d:TypeDesc} {n:Nat} {e:TypeId} (h:ev d = .arr n e):d = .array n e:=by
 cases d<;>simp [ev] at h
 rw [h.1,h.2]
theorem I1 {d:TypeDesc} (U:∀ gF,ev d ≠ .struct gF) (al:∀ n e,ev d ≠ .arr n e) (ad:ev d ≠ .other):vb d=false:=by
 cases d<;>simp_all [ev,vb]
def EK (op:BinOp) (k:IntKind) (a b:Int):Option af:=
 match op with
 | .add=>some (.int k (k.wrap (a+b)))
 | .sub=>some (.int k (k.wrap (a-b)))
 | .mul=>some (.int k (k.wrap (a*b)))
 | .eql=>some (.bool (a==b))
 | .neq=>some (.bool (a != b))
 | .lss=>some (.bool (decide (a<b)))
 | .leq=>some (.bool (decide (a≤b)))
 | .gtr=>some (.bool (decide (a>b)))
 | .geq=>some (.bool (decide (a≥b)))
 | _=>none
def EL (op:BinOp) (a b:List UInt8):Option af:=
 match op with
 | .eql=>some (.bool (a==b))
 | .neq=>some (.bool (!(a==b)))
 | .lss=>some (.bool (Op.bytesLess a b))
 | .gtr=>some (.bool (!(Op.bytesLess a b||a==b)))
 | .leq=>some (.bool (Op.bytesLess a b||a==b))
 | .geq=>some (.bool (!(Op.bytesLess a b)))
 | _=>none
def vc:af→Option Bool
 | .p5 | .sk | .tE | .nB=>some true
 | .ptr _ _ | .bw _ _ | .l2 _ _ | .map _ | .func _ _ _ | .iface _ _=>some false
 | .aA _ _ .nil=>some true
 | .aA _ (_::_) _=>some false
 | .aA _ _ (.own _)=>some false
 | _=>none
inductive EM where|ptr|aA|map|func|iface
def I2:Operand→Option EM
 | .const (.pointer none)=>some .ptr
 | .const (.slice none 0 0)=>some .aA
 | .const (.map none)=>some .map
 | .const .nilFunc=>some .func
 | .const .nilIface=>some .iface
 | _=>none
def sm.BR:sm→EM→Bool
 | .ptr _,.ptr=>true
 | .aA _,.aA=>true
 | .map _ _,.map=>true
 | .func,.func=>true
 | .iface _,.iface=>true
 | _,_=>false
def af.BS:af→EM→Bool
 | .p5,.ptr | .ptr _ _,.ptr | .bw _ _,.ptr | .l2 _ _,.ptr=>true
 | .aA _ _ _,.aA=>true
 | .sk,.map | .map _,.map=>true
 | .tE,.func | .func _ _ _,.func=>true
 | .nB,.iface | .iface _ _,.iface=>true
 | _,_=>false
def BT (Γ:cw) (op:BinOp) (t:TypeId) (y:Operand) (a b:af):Option af:=
  match I2 y with
  | some k=>match Γ.get? t with
    | some i=>match i.bF.BR k,a.BS k,vc a,op with
      | true,true,some q,.eql=>some (.bool q)
      | true,true,some q,.neq=>some (.bool (!q))
      | _,_,_,_=>none
    | none=>none
  | none=>match a,b with
    | .int k x,.int k' z=>if k=k' then EK op k x z else none
    | .str x,.str z=>EL op x z
    | .bool x,.bool z=>match Γ.get? t,op with
      | some ⟨.bool,_,_,_⟩,.eql=>some (.bool (x==z))
      | some ⟨.bool,_,_,_⟩,.neq=>some (.bool (!(x==z)))
      | _,_=>none
    | .l2 x _,.l2 z _=>match Γ.get? t,op with
      | some ⟨.ptr e,_,_,_⟩,.eql=>match Γ.get? e with
        | some ⟨_,_+1,_,_⟩=>some (.bool (x==z))
        | _=>none
      | some ⟨.ptr e,_,_,_⟩,.neq=>match Γ.get? e with
        | some ⟨_,_+1,_,_⟩=>some (.bool (!(x==z)))
        | _=>none
      | _,_=>none
    | _,_=>none
theorem Qb {P:Program} {op:BinOp} {t:TypeId} {k:IntKind} {a b:Int} {x:af} (h:EK op k a b=some x) (w:World) (p:bR) :
  ∃ v,(binOp op t (.int k a) (.int k b)).run P w = .ok v w∧Rel w p v x:=by
 cases op<;>simp only [EK] at h<;>cases h<;>simp only [binOp,ne_eq,not_true_eq_false,if_false,Op.intArith,Op.intCmp,Sem.run_pure] <;>
  first|exact ⟨_,rfl,.int _ _⟩|exact ⟨_,rfl,.bool _⟩
theorem Qc {P:Program} {op:BinOp} {t:TypeId} {a b:ByteArray} {x:af} (h:EL op a.data.toList b.data.toList=some x) (w:World) (p:bR) :
  ∃ v,(binOp op t (.string a) (.string b)).run P w = .ok v w∧Rel w p v x:=by
 cases op<;>simp only [EL] at h<;>cases h<;>simp only [binOp,Op.stringOp,Sem.run_pure,ByteArray.toList_eq]<;>exact ⟨_,rfl,.bool _⟩
theorem I3 {w:World} {b:Nat} {x:TypeId×Nat} (h:w.kG b=some x):∃ c T,w.heap[b]? = some (.cells c T (0,0)):=by
 unfold World.kG at h;split at h
 ·rename_i c T cX;exact ⟨c,T,cX⟩
 ·cases h
theorem sn {P:Program} {op:BinOp} {t:TypeId} {x y:Operand} {a b:Value} (w:World) (h:(a = .nilIface∧b = .nilIface→∃ c,y = .const c)∧(∀ c,a ≠ .agg c)) :
  (eqGuard op t x y a b).run P w = .ok () w:=by
 cases a with
 | nilIface=>
  cases b with
  | nilIface=>
   obtain ⟨c,rfl⟩:=h.1 ⟨rfl,rfl⟩;cases x<;>cases op<;>rfl
  | _=>cases op<;>rfl
 | agg c=>exact absurd C (h.2 c)
 | _=>cases op<;>rfl
theorem vd {P:Program} {t:TypeId} {x y:Value} {q:Bool} {w:World} (aq:binOp .eql t x y=(do pure (.bool (← Op.equal t x y)))) (az:binOp .neq t x y=(do pure (.bool (!(← Op.equal t x y)))))
  (h:∀ d,(Op.equalIn (d+1) t x y).run P w = .ok q w):(binOp .eql t x y).run P w = .ok (.bool q) w∧(binOp .neq t x y).run P w = .ok (.bool (!q)) w:=by
 have he:(Op.equal t x y).run P w = .ok q w:=h 9999;rw [aq,az];simp only [Sem.run_bind,he,Result.andThen_ok,Sem.run_pure,and_self]
theorem Qd {w:World} {p:bR} {v:Value} {sz:Nat} {xs:List af} {own:bL} {q:Bool} (h:Rel w p v (.aA sz xs own)) (bq:vc (.aA sz xs own)=some q) :
  (v = .slice none 0 0∧q=true)∨(∃ a n c,v = .slice (some a) n c∧q=false):=by
 cases h with
 | hR _ _ ah=>
  cases own<;>simp [vc] at bq
  ·exact .inl ⟨rfl,by simp [bq]⟩
  ·exact absurd C (ah _)
 | im a _ _ ah=>rcases ah with rfl|rfl<;>simp [vc] at bq
 | aA g off n cap _ vs _ _ az aB aC aF ar hm aE cv ah=>
  refine .inr ⟨_,_,_,rfl,?_⟩;cases own<;>cases xs<;>simp [vc] at bq az<;>simp [bq]
theorem Qe {P:Program} {Γ:cw} (aP:bQ P Γ) {N:Nat} {B:fL} {ro:Option Nat} {env:Env} {s:ao} {a:Act} {w:World} {p:bR} (aI:dw N B ro env s a w p)
  {op:BinOp} {t yt:TypeId} {x y:Operand} {u v r:af} (ab:aJ env x=some u) (ay:aJ env y=some v) (h:BT Γ op t y u v=some r) :
  ∃ val,(do eqGuard op t x y (a.eval x) (a.eval y);binOp op t (a.eval x) (a.eval y):Sem Value).run P w = .ok val w∧Rel w p val r:=by
 have hu:=aI.aJ ab;have av:=aI.aJ ay;unfold BT at h;split at h
 ·rename_i k aE
  have Qf:∃ c,y = .const c∧a.eval y=c∧((k = .ptr∧c = .pointer none)∨(k = .aA∧c = .slice none 0 0)∨(k = .map∧c = .map none)∨(k = .func∧c = .nilFunc)∨(k = .iface∧c = .nilIface)):=by
   unfold I2 at aE;split at aE<;>cases aE<;>exact ⟨_,rfl,rfl,by simp⟩
  obtain ⟨c,rfl,aC,BU⟩:=Qf;rw [aC];split at h
  ·rename_i i aQ
   obtain ⟨info,d,U,ad,al,-⟩:=aP.parts aQ;have key:∀ q,vc u=some q→u.BS k=true→i.bF.BR k=true→(∀ cs,a.eval x ≠ .agg cs)∧(binOp .eql t (a.eval x) c).run P w = .ok (.bool q) w∧(binOp .neq t (a.eval x) c).run P w = .ok (.bool (!q)) w:=by
    intro q bq a6 ah;generalize a.eval x=dP at hu;rw [← al] at ah;have ar:∀ (g n cap:Nat) (o:Nat),True:=fun _ _ _ _=>trivial
    have df:∀ e sz xs own,d = .slice e→u = .aA sz xs own→(∀ cs,dP ≠ .agg cs)∧(binOp .eql t dP (.slice none 0 0)).run P w = .ok (.bool q) w∧(binOp .neq t dP (.slice none 0 0)).run P w = .ok (.bool (!q)) w:=by
     rintro e sz xs own rfl rfl;rcases Qd hu bq with ⟨rfl,rfl⟩|⟨a,n,c,rfl,rfl⟩<;>(refine ⟨by simp,vd C C (fun d=>?_)⟩<;>simp [Op.equalIn,run_underlying ad])
    rcases BU with ⟨rfl,rfl⟩|⟨rfl,rfl⟩|⟨rfl,rfl⟩|⟨rfl,rfl⟩|⟨rfl,rfl⟩ <;>
    (try (cases d<;>simp only [ev,sm.BR] at ah<;>(try (simp at ah;done))<;>cases u<;>simp only [af.BS] at a6<;>(try (simp at a6;done))<;>exact df _ _ _ _ C C)) <;>
    cases d<;>simp only [ev,sm.BR] at ah<;>(try (simp at ah;done)) <;>
    cases hu<;>simp only [af.BS,vc] at a6 bq<;>(try (simp at a6;done)) <;>
    (try (cases bq)) <;>
    (refine ⟨by simp,vd C C (fun d=>?_)⟩<;>simp [Op.equalIn,run_underlying ad]<;>done)
   split at h
   ·rename_i q ah a6 bq
    cases h;obtain ⟨cD,dh,fa⟩:=key q bq a6 ah;exact ⟨_,by rw [Sem.run_bind,sn w ⟨fun _=>⟨_,rfl⟩,cD⟩,Result.andThen_ok,dh],.bool _⟩
   ·rename_i q ah a6 bq
    cases h;obtain ⟨cD,dh,fa⟩:=key q bq a6 ah;exact ⟨_,by rw [Sem.run_bind,sn w ⟨fun _=>⟨_,rfl⟩,cD⟩,Result.andThen_ok,fa],.bool _⟩
   ·cases h
  ·cases h
 ·split at h
  ·rename_i k z k' ab0
   split at h
   ·rename_i ly
    subst ly;generalize a.eval x=dP at hu;generalize a.eval y=fU at av;cases hu;cases av;obtain ⟨val,U,ad⟩:=Qb (P:=P) (t:=t) h w p;exact ⟨val,by rw [Sem.run_bind,sn w ⟨by simp,by simp⟩,Result.andThen_ok,U],ad⟩
   ·cases h
  ·generalize a.eval x=dP at hu;generalize a.eval y=fU at av
   cases hu with|str h3 _ cg=>cases av with|str dx _ bY=>
   subst cg;subst bY;obtain ⟨val,U,ad⟩:=Qc (P:=P) (t:=t) h w p;exact ⟨val,by rw [Sem.run_bind,sn w ⟨by simp,by simp⟩,Result.andThen_ok,U],ad⟩
  ·generalize a.eval x=dP at hu;generalize a.eval y=fU at av
   cases hu;cases av;split at h
   ·rename_i aQ
    obtain ⟨info,d,U,ad,al,-⟩:=aP.parts aQ;have ax:d = .bool:=by cases d<;>simp [ev] at al;rfl
    subst ax;cases h;exact ⟨_,by rw [Sem.run_bind,sn w ⟨by simp,by simp⟩,Result.andThen_ok];exact run_eql_bool w t _ _ ad,.bool _⟩
   ·rename_i aQ
    obtain ⟨info,d,U,ad,al,-⟩:=aP.parts aQ;have ax:d = .bool:=by cases d<;>simp [ev] at al;rfl
    subst ax;cases h;exact ⟨_,by rw [Sem.run_bind,sn w ⟨by simp,by simp⟩,Result.andThen_ok];exact run_neq_bool w t _ _ ad,.bool _⟩
   ·cases h
  ·rename_i h3 aaY dx f'
   generalize a.eval x=dP at hu;generalize a.eval y=fU at av;cases hu;cases av;rename_i v1 BV s1 c4 fp v2 y9 s2 dd gB;have key:∀ e d i,P.underlying t=some (.pointer e)→Γ.get? e=some i→i.size≠0→(Op.equalIn (d+1) t (.pointer (some ⟨h3,0,none⟩)) (.pointer (some ⟨dx,0,none⟩))).run P w = .ok (h3==dx) w:=by
    intro e d i he aQ bt;obtain ⟨mq,c3,nD,nE,ve,m2,-⟩:=aP.parts aQ;have b':mq.size≠0:=by rw [m2];exact bt
    have ar:(sameAddr ⟨h3,0,none⟩ ⟨dx,0,none⟩).run P w = .ok (h3==dx) w:=by
     by_cases aq:h3=dx
     ·subst aq;rw [beq_self_eq_true];exact run_sameAddr_same w _
     ·rw [beq_eq_false_iff_ne.2 aq]
      obtain ⟨so,acf,cD⟩:=I3 s1.choose_spec;obtain ⟨sq,ab6,dh⟩:=I3 s2.choose_spec;exact run_sameAddr_other w (fun e=>aq (congrArg Addr.block e)) cD dh
    simp only [Op.equalIn,Sem.run_bind,run_underlying he,Result.andThen_ok,sizeOf,typeInfo,run_program,nD,Sem.run_pure];rw [if_pos (by simpa using b')];exact ar
   split at h
   ·rename_i aQ
    obtain ⟨info,d,U,ad,al,-⟩:=aP.parts aQ;obtain ⟨e,rfl⟩:∃ e,d = .pointer e:=by cases d<;>simp [ev] at al;exact ⟨_,rfl⟩
    simp only [ev,sm.ptr.injEq] at al;subst al;split at h
    ·rename_i he
     cases h;exact ⟨_,by rw [Sem.run_bind,sn w ⟨by simp,by simp⟩,Result.andThen_ok];exact (vd C C fun d=>key e d _ ad he a').1,.bool _⟩
    ·cases h
   ·rename_i aQ
    obtain ⟨info,d,U,ad,al,-⟩:=aP.parts aQ;obtain ⟨e,rfl⟩:∃ e,d = .pointer e:=by cases d<;>simp [ev] at al;exact ⟨_,rfl⟩
    simp only [ev,sm.ptr.injEq] at al;subst al;split at h
    ·rename_i he
     cases h;exact ⟨_,by rw [Sem.run_bind,sn w ⟨by simp,by simp⟩,Result.andThen_ok];exact (vd C C fun d=>key e d _ ad he a').2,.bool _⟩
    ·cases h
   ·cases h
  ·cases h
def fM (env:Env):List Operand→Option (List af)
  | []=>some []
  | o::r=>match aJ env o with
    | some v=>match fM env r with
      | some vs=>some (v::vs)
      | none=>none
    | none=>none
theorem BW {N:Nat} {B:fL} {ro:Option Nat} {env:Env} {s:ao} {a:Act} {w:World} {p:bR} (aI:dw N B ro env s a w p) {l:List Operand} {vs:List af}
  (h:fM env l=some vs):bG w p (l.map a.eval) vs:=by
 induction l generalizing vs with
 | nil=>cases h;exact .nil
 | cons o r a1=>
  simp only [fM] at h;split at h
  ·rename_i v av
   split at h
   ·rename_i us hu;cases h;exact .cons _ _ _ _ (aI.aJ av) (a1 hu)
   ·cases h
  ·cases h
def eQ:Nat→List af→List af→List af
 | _,[],cells=>cells
 | off,c::cs,cells=>eQ (off+1) cs (cells.set off c)
def vf (place:Nat→Option (Nat×Nat)):List af→List (Nat×af)→Option (List af)
  | cells,[]=>some cells
  | cells,(i,v)::rest=>match place i,cellsOf v with
    | some (off,size),some cs=>match Nat.beq cs.length size&&Nat.ble (off+size) cells.length with
      | true=>vf place (eQ off cs cells) rest
      | false=>none
    | _,_=>none
def placesOf (Γ:cw):List (Nat×TypeId)→Option (List (Nat×Nat))
  | []=>some []
  | (off,t)::r=>match Γ.get? t with
    | some i=>match placesOf Γ r with
      | some l=>some ((off,i.size)::l)
      | none=>none
    | none=>none
def vg (env:Env):List (Nat×Operand)→Option (List (Nat×af))
  | []=>some []
  | (i,o)::r=>match aJ env o with
    | some v=>match vg env r with
      | some l=>some ((i,v)::l)
      | none=>none
    | none=>none
def y' (env:Env) (sz:Nat):Nat→List (Nat×Operand)→Option (List af)
  | _,[]=>some []
  | k,(i,o)::r=>match Nat.beq i k with
    | true=>match aJ env o with
      | some v=>match cellsOf v with
        | some cs=>match Nat.beq cs.length sz with
          | true=>match y' env sz (k+1) r with
            | some l=>some (v::l)
            | none=>none
          | false=>none
        | none=>none
      | none=>none
    | false=>none
def o9 (Γ:cw) (o:Oper) (env:Env):Option af:=
  match o.op with
  | .move x=>aJ env x
  | .assign x=>aJ env x
  | .pick c a b=>match aJ env c with
    | some (.bool true)=>aJ env a
    | some (.bool false)=>aJ env b
    | _=>none
  | .binOp op t x y _=>match aJ env x,aJ env y with
    | some a,some b=>BT Γ op t y a b
    | _,_=>none
  | .unOp .not _ x=>match aJ env x with
    | some (.bool b)=>some (.bool (!b))
    | _=>none
  | .extract x i=>match aJ env x with
    | some (.cp vs)=>nth vs i
    | _=>none
  | .fieldAddr s x f=>match Γ.get? s with
    | some ⟨.struct gF,_,_,_⟩=>match nth gF f with
      | some (off,t)=>match Γ.get? t with
        | some ⟨_,_+1,_,_⟩=>match aJ env x with
          | some (.ptr b o)=>some (.ptr b (o+off))
          | some (.bw cs o)=>some (.bw cs (o+off))
          | some (.l2 _ cs)=>some (.bw cs off)
          | _=>none
        | _=>none
      | none=>none
    | _=>none
  | .field s x f=>match Γ.get? s with
    | some ⟨.struct gF,_,_,_⟩=>match nth gF f with
      | some (off,t)=>match Γ.get? t with
        | some i=>match aJ env x with
          | some (.agg cs)=>hI i cs off
          | _=>none
        | none=>none
      | none=>none
    | _=>none
  | .load t x=>match Γ.get? t with
    | some i=>match aJ env x with
      | some (.bw cs o)=>hI i cs o
      | some (.l2 _ cs)=>hI i cs 0
      | _=>none
    | none=>none
  | .makeInterface t x=>match Γ.get? t with
    | some ⟨.iface _,_,_,_⟩=>none
    | some _=>match aJ env x with
      | some v=>some (.iface t v)
      | none=>none
    | none=>none
  | .makeFunc (.func f) first cap=>match fM env first.toList,fM env cap.toList with
    | some a,some c=>some (.func f a c)
    | _,_=>none
  | .nilCheck x=>match aJ env x with
    | some (.ptr b o)=>some (.ptr b o)
    | some (.bw cs o)=>some (.bw cs o)
    | some (.l2 b cs)=>some (.l2 b cs)
    | some (.func f a c)=>some (.func f a c)
    | _=>none
  | .typeAssert x _ t ok=>match Γ.get? t with
    | some ⟨.iface _,_,_,_⟩=>none
    | some i=>match aJ env x with
      | some (.iface bH v)=>match Nat.beq bH t,ok with
        | true,true=>some (.cp [v,.bool true])
        | true,false=>some v
        | false,true=>match hx i.zero with
          | some z=>some (.cp [z,.bool false])
          | none=>none
        | false,false=>none
      | some .nB=>match ok with
        | true=>match hx i.zero with
          | some z=>some (.cp [z,.bool false])
          | none=>none
        | false=>none
      | _=>none
    | none=>none
  | .call { callee := .builtin .len,args,argTypes }=>match args.toList,argTypes.toList with
    | [x],[t]=>match Γ.get? t with
      | some ⟨.aA _,_,_,_⟩=>match aJ env x with
        | some (.aA _ xs _)=>some (.int .i64 xs.length)
        | _=>none
      | some ⟨.str,_,_,_⟩=>match aJ env x with
        | some (.str l)=>some (.int .i64 l.length)
        | _=>none
      | _=>none
    | _,_=>none
  | .box _ x=>match aJ env x with
    | some v=>match cellsOf v with
      | some cs=>some (.bw cs 0)
      | none=>none
    | none=>none
  | .build t parts=>match Γ.get? t with
    | some ⟨.struct gF,_,_,z⟩=>match placesOf Γ gF,hx z,vg env parts.toList with
      | some pl,some (.agg aY),some ps=>match vf (nth pl) aY ps with
        | some cs=>some (.agg cs)
        | none=>none
      | _,_,_=>none
    | some ⟨.arr _ e,_,_,z⟩=>match Γ.get? e,hx z,vg env parts.toList with
      | some aG,some (.agg aY),some ps=>match vf (fun i=>some (i*aG.size,aG.size)) aY ps with
        | some cs=>some (.agg cs)
        | none=>none
      | _,_,_=>none
    | _=>none
  | .buildSlice t len parts=>match Γ.get? t with
    | some ⟨.aA e,_,_,_⟩=>match Γ.get? e with
      | some aG=>match Nat.beq parts.size len&&(Nat.ble (len*aG.size) 16777216&&Nat.ble len 16777216) with
        | true=>match y' env aG.size 0 parts.toList with
          | some xs=>some (.aA aG.size xs .clip)
          | none=>none
        | false=>none
      | none=>none
    | _=>none
  | _=>none
def gQ (P:Program) (o:Oper) (a:Act) (w:World) (p:bR) (v:af):Prop:=
 ∃ val w' bj,(execOp a.eval o).run P w = .ok (.value val) w'∧Rel w' bj val v∧dc w p w' bj∧(∀ s,dm w p s→Kept s s w p w' bj∧dm w' bj s)
theorem gQ.same {P:Program} {o:Oper} {a:Act} {w:World} {p:bR} {v:af} {val:Value} (h:(execOp a.eval o).run P w = .ok (.value val) w) (aF:Rel w p val v) :
  gQ P o a w p v:=⟨val,w,p,h,aF,.refl w p,fun s ar=>⟨.refl s w p,ar⟩⟩
theorem gQ.alloc {P:Program} {o:Oper} {a:Act} {w:World} {p:bR} {v:af} {val:Value} (vs:Array Value) (t:TypeId) (au:∀ b o,p b o→b<w.heap.size)
  (h:(execOp a.eval o).run P w = .ok (.value val) (w.alloc (.cells vs t))) (aF:Rel (w.alloc (.cells vs t)) (p.ee w.heap.size True) val v) :
  gQ P o a w p v:=
 ⟨val,_,_,h,aF,tG au _ _,fun _ ar=>⟨BO _ _,y6 ar _ _⟩⟩
theorem aZ.m3 {P:Program} {N:Nat} {o:Oper} {env:Env} {s:ao} {v:af} (ax:gE o=true)
  (h:∀ ro B a w p,dw N B ro env s a w p→gQ P o a w p v):aZ P N o env s (fun x aj=>x=v∧aj=s) (fun _ _=>False):=by
 refine ⟨ax,fun ro B a w p aI=>?_⟩;obtain ⟨val,w',bj,cO,aF,hle,aE⟩:=h ro B a w p aI;rw [cO];obtain ⟨l4,ir⟩:=aE s aI.wf;exact ⟨s,bj,hle,l4,ir,v,⟨rfl,rfl⟩,aF⟩
theorem gR {P:Program} {x:Sem Value} {v:Value} {w w':World} (h:x.run P w = .ok v w'):(do pure (.value (← x)):Sem Next).run P w = .ok (.value v) w':=by
 simp only [Sem.run_bind,h,Result.andThen_ok,Sem.run_pure]
theorem k5 (b o n:Nat):(⟨b,o,none⟩:Addr).add n=⟨b,o+n,none⟩:=by
 unfold Addr.add;split<;>simp_all
theorem I4 {w:World} {p:bR} {vs:List Value} {cells r:List af} {off:Nat} (aF:bG w p vs cells) (h:p9 off cells=some r):bG w p (vs.drop off) r:=by
 rw [P' h];exact aF.drop off
theorem za {P:Program} {Γ:cw} (aP:bQ P Γ) {t:TypeId} {i:bM} (aQ:Γ.get? t=some i) {w:World} {p:bR} {b base off:Nat} {vs:List Value} {cells:List af} {v:af}
  (aC:∀ j u,vs[j]? = some u→w.cell? ⟨b,base+j,none⟩=some u) (aF:bG w p vs cells) (h:hI i cells off=some v) :
  ∃ val,(loadVar t ⟨b,base+off,none⟩).run P w = .ok val w∧Rel w p val v:=by
 obtain ⟨info,d,U,ad,al,bd,-⟩:=aP.parts aQ;unfold hI at h;split at h
 ·cases h
 ·rename_i r ax
  have jj:=I4 aF ax;have jz:∀ j u,(vs.drop off)[j]? = some u→w.cell? ((⟨b,base+off,none⟩:Addr).add j)=some u:=by
   intro j u hu;rw [k5,add_assoc];exact aC _ _ (by simpa using hu)
  split at h
  ·rename_i gF br
   split at h
   ·rename_i cs hy
    cases h;obtain ⟨rfl,hlen⟩:=BQ hy;obtain ⟨f,rfl,-⟩:=y7 (al.trans br);have aB:((vs.drop off).take i.size).length=info.size:=by rw [length_take,jj.length,bd];omega
    have zb:=run_loadCells_list (P:=P) w ⟨b,base+off,none⟩ ((vs.drop off).take i.size) (fun j u hu=>jz j u (by
     rw [getElem?_take] at hu;split at hu;exact hu;cases hu))
    rw [aB] at zb;refine ⟨_,?_,.agg _ _ (by simpa using jj.take i.size)⟩;simp only [loadVar,Sem.run_bind,xw ad,Result.andThen_ok,vb,if_true,sizeOf,typeInfo,run_program,U,Sem.run_pure,zb]
   ·cases h
  ·rename_i I5 jA br
   split at h
   ·rename_i cs hy
    cases h;obtain ⟨rfl,hlen⟩:=BQ hy;obtain rfl:=y8 (al.trans br);have aB:((vs.drop off).take i.size).length=info.size:=by rw [length_take,jj.length,bd];omega
    have zb:=run_loadCells_list (P:=P) w ⟨b,base+off,none⟩ ((vs.drop off).take i.size) (fun j u hu=>jz j u (by
     rw [getElem?_take] at hu;split at hu;exact hu;cases hu))
    rw [aB] at zb;refine ⟨_,?_,.agg _ _ (by simpa using jj.take i.size)⟩;simp only [loadVar,Sem.run_bind,xw ad,Result.andThen_ok,vb,if_true,sizeOf,typeInfo,run_program,U,Sem.run_pure,zb]
   ·cases h
  ·cases h
  ·rename_i ar a7 ah
   split at h
   ·rename_i x xs
    cases h;generalize I6:vs.drop off=Qg at jj jz;cases jj with
    | cons u _ us _ ab aM=>
    have BX:=jz 0 u C;rw [k5,add_zero] at BX;refine ⟨u,?_,ab⟩;have EN:=I1 (d:=d) (fun gF=>by rw [al];exact ar gF) (fun n e=>by rw [al];exact a7 n e) (by rw [al];exact ah);simp [loadVar,xw ad,EN,BX]
   ·cases h
theorem Qh {P:Program} {Γ:cw} (aP:bQ P Γ) {t:TypeId} {i:bM} (aQ:Γ.get? t=some i) {w:World} {p:bR} {off:Nat} {vs:Array Value} {cells:List af} {v:af}
  (aF:bG w p vs.toList cells) (h:hI i cells off=some v):∃ val,(part t vs off).run P w = .ok val w∧Rel w p val v:=by
 obtain ⟨info,d,U,ad,al,bd,-⟩:=aP.parts aQ;unfold hI at h;split at h
 ·cases h
 ·rename_i r ax
  have jj:=I4 aF ax;split at h
  ·rename_i gF br
   split at h
   ·rename_i cs hy
    cases h;obtain ⟨rfl,hlen⟩:=BQ hy;obtain ⟨f,rfl,-⟩:=y7 (al.trans br);refine ⟨.agg (vs.extract off (off+info.size)),?_,.agg _ _ ?_⟩
    ·simp only [part,Sem.run_bind,xw ad,Result.andThen_ok,vb,if_true,sizeOf,typeInfo,run_program,U,Sem.run_pure]
    ·have:(vs.extract off (off+info.size)).toList=(vs.toList.drop off).take i.size:=by simp [Array.toList_extract,bd]
     rw [this];exact jj.take i.size
   ·cases h
  ·rename_i I5 jA br
   split at h
   ·rename_i cs hy
    cases h;obtain ⟨rfl,hlen⟩:=BQ hy;obtain rfl:=y8 (al.trans br);refine ⟨.agg (vs.extract off (off+info.size)),?_,.agg _ _ ?_⟩
    ·simp only [part,Sem.run_bind,xw ad,Result.andThen_ok,vb,if_true,sizeOf,typeInfo,run_program,U,Sem.run_pure]
    ·have:(vs.extract off (off+info.size)).toList=(vs.toList.drop off).take i.size:=by simp [Array.toList_extract,bd]
     rw [this];exact jj.take i.size
   ·cases h
  ·cases h
  ·rename_i ar a7 ah
   split at h
   ·rename_i x xs
    cases h;generalize I6:vs.toList.drop off=Qg at jj;cases jj with
    | cons u _ us _ ab aM=>
    have bt:vs[off]? = some u:=by
     have:=congrArg (fun l=>l[0]?) I6;simpa using this
    refine ⟨u,?_,ab⟩;have EN:=I1 (d:=d) (fun gF=>by rw [al];exact ar gF) (fun n e=>by rw [al];exact a7 n e) (by rw [al];exact ah);simp [part,xw ad,EN,bt]
   ·cases h
theorem Qi {w:World} {p:bR}:∀ (us:List Value) (cs:List af) (off:Nat) (vs:List Value) (xs:List af),bG w p us cs→bG w p vs xs →
  bG w p ((us.zipIdx).foldl (fun l (c,j)=>l.set (off+j) c) vs) (eQ off cs xs):=by
 have key:∀ (us:List Value) (cs:List af) (off k:Nat) (vs:List Value) (xs:List af),bG w p us cs→bG w p vs xs →
   bG w p ((us.zipIdx k).foldl (fun l (c,j)=>l.set (off+j) c) vs) (eQ (off+k) cs xs):=by
  intro us
  induction us with
  | nil=>intro cs off k vs xs h av;cases h;exact av
  | cons u us a1=>
   intro cs off k vs xs h av;cases h with
   | cons _ c _ cs aC aM=>
    simp only [List.zipIdx_cons,foldl_cons,eQ];have:=a1 cs off (k+1) _ _ aM (av.set (off+k) aC);rwa [← add_assoc] at this
 intro us cs off vs xs h av;simpa using key us cs off 0 vs xs h av
theorem I7 (l:List (Value×Nat)) (off:Nat):∀ (vs:Array Value),(l.foldl (fun cs (c,j)=>cs.setIfInBounds (off+j) c) vs).toList=l.foldl (fun cs (c,j)=>cs.set (off+j) c) vs.toList:=by
 induction l with
 | nil=>intro vs;rfl
 | cons x l a1=>intro vs;simp only [foldl_cons,a1,Array.toList_setIfInBounds]
theorem I8 {w:World} {p:bR} {place:Nat→Option (Nat×Nat)}:∀ (ps:List (Nat×Value)) (m4:List (Nat×af)) (vs:Array Value) (xs r:List af),
  ps.map (·.1)=m4.map (·.1)→bG w p (ps.map (·.2)) (m4.map (·.2))→bG w p vs.toList xs→vf place xs m4=some r →
  ∃ cs,Instr.fill place vs ps=some cs∧bG w p cs.toList r:=by
 intro ps
 induction ps with
 | nil=>
  intro m4 vs xs r U ad al h;cases m4 with
  | nil=>cases h;exact ⟨vs,rfl,al⟩
  | cons q m4=>simp at U
 | cons x ps a1=>
  intro m4 vs xs r U ad al h;cases m4 with
  | nil=>simp at U
  | cons q m4=>
   obtain ⟨i,v⟩:=x;obtain ⟨BP,u⟩:=q;simp only [map_cons,List.cons.injEq] at U;obtain ⟨rfl,U⟩:=U;simp only [map_cons] at ad;cases ad with
   | cons _ _ _ _ av aM=>
   simp only [vf] at h;split at h
   ·rename_i off size cs aD hy
    split at h
    ·rename_i tI
     simp only [and_eq_true] at tI;have b':=eq_of_beq_eq_true tI.1;have hle:=Nat.le_of_ble_eq_true tI.2;have m5:=p8 av hy;have eH:v.cells.size=size:=by rw [← b',← m5.length,length_toList]
     have c5:vs.size=xs.length:=by rw [← al.length,length_toList]
     have I9:=Qi _ _ off _ _ m5 al;have bO:v.cells.toList.zipIdx=(v.cells.zipIdx).toList:=by simp
     rw [bO,← I7] at I9;obtain ⟨out,ah,zd⟩:=a1 m4 _ _ r U aM I9 h;refine ⟨out,?_,zd⟩;simp only [Instr.fill,aD];rw [if_neg (by simp [eH];omega),← ah,← Array.foldl_toList]
    ·cases h
   ·cases h
theorem I' {N:Nat} {B:fL} {ro:Option Nat} {env:Env} {s:ao} {a:Act} {w:World} {p:bR} (aI:dw N B ro env s a w p) {l:List (Nat×Operand)} {m4:List (Nat×af)}
  (h:vg env l=some m4):(l.map fun x=>(x.1,a.eval x.2)).map (·.1)=m4.map (·.1)∧bG w p ((l.map fun x=>(x.1,a.eval x.2)).map (·.2)) (m4.map (·.2)):=by
 induction l generalizing m4 with
 | nil=>cases h;exact ⟨rfl,.nil⟩
 | cons x l a1=>
  obtain ⟨i,o⟩:=x;simp only [vg] at h;split at h
  ·rename_i v av
   split at h
   ·rename_i r aF
    cases h;obtain ⟨U,ad⟩:=a1 aF;exact ⟨by simp only [map_cons,U],.cons _ _ _ _ (aI.aJ av) ad⟩
   ·cases h
  ·cases h
theorem Qj {P:Program} {Γ:cw} (aP:bQ P Γ) (gF:List Field):∀ {pl:List (Nat×Nat)},placesOf Γ (gF.map fun x=>(x.offset,x.type))=some pl →
  gF.mapM (fun f=>(P.info? f.type).map fun i=>(f.offset,i.size))=some pl:=by
 induction gF with
 | nil=>intro pl h;cases h;rfl
 | cons f gF a1=>
  intro pl h;simp only [map_cons,placesOf] at h;split at h
  ·rename_i i aQ
   split at h
   ·rename_i l aB
    cases h;obtain ⟨info,d,U,-,-,bd,-⟩:=aP.parts aQ;simp [mapM_cons,U,a1 aB,bd]
   ·cases h
  ·cases h
theorem Ja (sz:Nat):∀ (vs:List Value) (k:Nat) (pre post:List Value),pre.length=k*sz→post.length=vs.length*sz→(∀ v∈vs,v.cells.size=sz) →
  Instr.fill (fun i=>some (i*sz,sz)) (pre++post).toArray ((vs.zipIdx k).map fun x=>(x.2,x.1))=some (pre++flat vs).toArray:=by
 intro vs
 induction vs with
 | nil=>intro k pre post U ad al;have:post=[]:=eq_nil_of_length_eq_zero p2;subst this;simp [Instr.fill,flat]
 | cons v vs a1=>
  intro k pre post U ad al;have av:=al v (mem_cons_self ..);simp only [List.zipIdx_cons,map_cons,Instr.fill];have hlen:post.length=sz+vs.length*sz:=by rw [ad,length_cons,add_mul];omega
  rw [if_neg (by simp [av];omega)];have vh:(Array.foldl (fun cs x=>cs.setIfInBounds (k*sz+x.2) x.1) (pre++post).toArray v.cells.zipIdx)=((pre++v.cells.toList)++post.drop sz).toArray:=by
   apply ext';rw [← Array.foldl_toList];have:=I7 v.cells.zipIdx.toList (k*sz) (pre++post).toArray;simp only at this ⊢;rw [this];have bO:v.cells.zipIdx.toList=v.cells.toList.zipIdx:=by simp
   rw [bO];have gen:∀ (us:List Value) (j:Nat) (a b:List Value),a.length=k*sz+j→us.length≤b.length →
     (us.zipIdx j).foldl (fun cs (x:Value×Nat)=>cs.set (k*sz+x.2) x.1) (a++b)=a++us++b.drop us.length:=by
    intro us
    induction us with
    | nil=>intro j a b _ _;simp
    | cons u us Qk=>
     intro j a b a7 aq;cases b with
     | nil=>simp at aq
     | cons c b=>
      simp only [List.zipIdx_cons,foldl_cons,length_cons,List.drop_succ_cons];have:(a++c::b).set (k*sz+j) u=(a++[u])++b:=by
       rw [List.set_append_right _ _ ag];have:k*sz+j-a.length=0:=by omega
       rw [this];simp
      rw [this,Qk (j+1) (a++[u]) b cG (by simpa using aq)];simp
   have fw:v.cells.toList.length=sz:=by rw [length_toList,av]
   have:=gen v.cells.toList 0 pre post ag (by rw [fw];omega);rw [fw] at this;simpa using this
  rw [vh];have:=a1 (k+1) (pre++v.cells.toList) (post.drop sz) (by simp [U,av,add_mul]) (by rw [List.length_drop,hlen];omega) (fun u hu=>al u (mem_cons_of_mem _ hu));rw [this];simp [flat,flatMap_cons]
theorem Ql {N:Nat} {B:fL} {ro:Option Nat} {env:Env} {s:ao} {a:Act} {w:World} {p:bR} (aI:dw N B ro env s a w p) {sz:Nat}:∀ {l:List (Nat×Operand)} {k:Nat} {xs:List af},
    y' env sz k l=some xs→∃ vs:List Value,(l.map fun x=>(x.1,a.eval x.2))=(vs.zipIdx k).map (fun x=>(x.2,x.1))∧bG w p vs xs∧(∀ v∈vs,v.cells.size=sz)∧vs.length=l.length:=by
  intro l
  induction l with
  | nil=>intro k xs h;cases h;exact ⟨[],rfl,.nil,by simp,rfl⟩
  | cons x l a1=>
    intro k xs h;obtain ⟨i,o⟩:=x;simp only [y'] at h;split at h
    · rename_i aq
      split at h
      · rename_i v av
        split at h
        · rename_i cs hy
          split at h
          · rename_i aB
            split at h
            · rename_i r aF
              cases h;have:=eq_of_beq_eq_true aq;subst this;obtain ⟨vs,U,ad,al,bd⟩:=a1 aF;have eM:=aI.aJ av;have b':(a.eval o).cells.size=sz:=by
                rw [← eq_of_beq_eq_true aB,← (p8 eM hy).length,length_toList]
              exact ⟨a.eval o::vs,by simp [U],.cons _ _ _ _ eM ad,by
                intro u hu;rcases mem_cons.1 hu with rfl|hu;exact b';exact al u hu,by simp [bd]⟩
            · cases h
          · cases h
        · cases h
      · cases h
    · cases h
section
variable {P:Program} {Γ:cw} (aP:bQ P Γ) {N:Nat} {B:fL} {ro:Option Nat} {env:Env} {s:ao} {a:Act} {w:World} {p:bR} (aI:dw N B ro env s a w p)
include aI
theorem Jb {o:Oper} {x:Operand} {v:af} (ah:o.op = .move x∨o.op = .assign x) (h:aJ env x=some v):gQ P o a w p v:=by
 refine .same (val:=a.eval x) ?_ (aI.aJ h);unfold execOp;rcases ah with ah|ah<;>rw [ah]<;>rfl
theorem Jc {o:Oper} {c x y:Operand} {v:af} {t:Bool} (ah:o.op = .pick c x y) (aC:aJ env c=some (.bool t)) (h:aJ env (if t then x else y)=some v):gQ P o a w p v:=by
 refine .same (val:=a.eval (if t then x else y)) ?_ (aI.aJ h);unfold execOp;rw [ah];simp only [BN (aI.aJ aC),asBool,Sem.run_bind,Sem.run_pure,Result.andThen_ok];cases t<;>rfl
include aP
theorem Qm {o:Oper} {op:BinOp} {t yt:TypeId} {x y:Operand} {u v r:af} (ah:o.op = .binOp op t x y yt) (ab:aJ env x=some u) (ay:aJ env y=some v)
  (h:BT Γ op t y u v=some r):gQ P o a w p r:=by
 obtain ⟨val,U,ad⟩:=Qe aP aI (yt:=yt) ab ay h;refine .same (val:=val) ?_ ad;unfold execOp;rw [ah];exact gR U
omit aP in
theorem Qn {o:Oper} {t:TypeId} {x:Operand} {b:Bool} (ah:o.op = .unOp .not t x) (ab:aJ env x=some (.bool b)):gQ P o a w p (.bool (!b)):=by
 refine .same (val := .bool (!b)) ?_ (.bool _);unfold execOp;rw [ah];simp only [BN (aI.aJ ab)];exact gR (by simp [Op.unary])
omit aP in
theorem Qo {o:Oper} {x:Operand} {i:Nat} {vs:List af} {v:af} (ah:o.op = .extract x i) (ab:aJ env x=some (.cp vs)) (h:nth vs i=some v):gQ P o a w p v:=by
 have aF:=aI.aJ ab;generalize av:a.eval x=dP at aF;cases aF with
 | cp us _ aB=>
 rw [xt] at h;obtain ⟨u,hu,ze⟩:=aB.get h;refine .same (val:=u) ?_ ze;unfold execOp;rw [ah];simp only [av]
 exact gR (by
  have:us[i]? = some u:=by simpa using hu
  simp [Instr.extract,this])
theorem EO {o:Oper} {S:TypeId} {x:Operand} {f sz mr:Nat} {gF:List (Nat×TypeId)} {z:Value} {off:Nat} {t:TypeId} {dX:bM} {v:af} (ah:o.op = .fieldAddr S x f)
  (ch:Γ.get? S=some ⟨.struct gF,sz,mr,z⟩) (a6:nth gF f=some (off,t)) (aM:Γ.get? t=some dX) (bt:dX.size≠0)
  (h:(∃ b o,aJ env x=some (.ptr b o)∧v = .ptr b (o+off))∨(∃ cs o,aJ env x=some (.bw cs o)∧v = .bw cs (o+off))∨(∃ b cs,aJ env x=some (.l2 b cs)∧v = .bw cs off)):gQ P o a w p v:=by
 obtain ⟨info,d,U,ad,al,-⟩:=aP.parts ch;obtain ⟨mq,c3,nD,nE,ve,m2,-⟩:=aP.parts aM;obtain ⟨zf,rfl,kh⟩:=y7 al;rw [xt,kh,List.getElem?_map] at a6;obtain ⟨fd,EP,ER⟩:=Option.map_eq_some_iff.1 a6;cases ER;have ES:zf[f]? = some fd:=by simpa using EP
 have b':mq.size≠0:=by rw [m2];exact bt
 have key:∀ b o',a.eval x = .pointer (some ⟨b,o',none⟩)→(execOp a.eval o).run P w = .ok (.value (.pointer (some ⟨b,o'+fd.offset,none⟩))) w:=by
  intro b o' ab;unfold execOp;rw [ah];simp only [ab];refine gR ?_;simp [Instr.fieldAt,run_underlying ad,ES,Instr.sureAddr,fieldPlace,sizeOf,typeInfo,nD,b',k5]
 rcases h with ⟨b,o',ab,rfl⟩|⟨cs,o',ab,rfl⟩|⟨b,cs,ab,rfl⟩
 ·have aF:=aI.aJ ab
  generalize av:a.eval x=dP at aF;cases aF;exact .same (key _ _ av) (.ptr _ _)
 ·have aF:=aI.aJ ab
  generalize av:a.eval x=dP at aF;cases aF with
  | bw b base tJ off vs _ mu aC hc=>
  exact .same (key _ _ av) (.bw b base _ _ vs _ ag aC hc)
 ·have aF:=aI.aJ ab
  generalize av:a.eval x=dP at aF;cases aF with
  | l2 b vs _ _ _ aC hc=>
  exact .same (key _ _ av) (.bw b 0 _ _ vs _ C aC hc)
theorem Qp {o:Oper} {S:TypeId} {x:Operand} {f sz mr:Nat} {gF:List (Nat×TypeId)} {z:Value} {off:Nat} {t:TypeId} {dX:bM} {cs:List af} {v:af} (ah:o.op = .field S x f)
  (ch:Γ.get? S=some ⟨.struct gF,sz,mr,z⟩) (a6:nth gF f=some (off,t)) (aM:Γ.get? t=some dX) (ab:aJ env x=some (.agg cs)) (h:hI dX cs off=some v):gQ P o a w p v:=by
 obtain ⟨info,d,U,ad,al,-⟩:=aP.parts ch;obtain ⟨zf,rfl,kh⟩:=y7 al;rw [xt,kh,List.getElem?_map] at a6;obtain ⟨fd,EP,ER⟩:=Option.map_eq_some_iff.1 a6;cases ER;have ES:zf[f]? = some fd:=by simpa using EP
 have aF:=aI.aJ ab;generalize av:a.eval x=dP at aF;cases aF with
 | agg us _ aB=>
 obtain ⟨val,cO,eM⟩:=Qh aP aM aB h;refine .same (val:=val) ?_ eM;unfold execOp;rw [ah];simp only [av];refine gR ?_;simp [Instr.field,run_underlying ad,ES,asAgg,cO]
theorem Jd {o:Oper} {t:TypeId} {x:Operand} {i:bM} {cs:List af} {off:Nat} {v:af} (ah:o.op = .load t x) (aM:Γ.get? t=some i) (ab:aJ env x=some (.bw cs off))
  (h:hI i cs off=some v):gQ P o a w p v:=by
 have aF:=aI.aJ ab;generalize av:a.eval x=dP at aF;cases aF with
 | bw b base tJ _ vs _ mu aC hc=>
 subst mu;obtain ⟨val,cO,eM⟩:=za aP aM (b:=b) (base:=base) (fun j u hu=>(aC j u hu).2) hc h;refine .same (val:=val) ?_ eM;unfold execOp;rw [ah];simp only [av];refine gR ?_;simp only [Instr.loadAt,Instr.sureAddr,Sem.run_bind,Sem.run_pure,Result.andThen_ok,cO]
theorem Qq {o:Oper} {t:TypeId} {x:Operand} {i:bM} {cs:List af} {b:Nat} {v:af} (ah:o.op = .load t x) (aM:Γ.get? t=some i) (ab:aJ env x=some (.l2 b cs))
  (h:hI i cs 0=some v):gQ P o a w p v:=by
 have aF:=aI.aJ ab;generalize av:a.eval x=dP at aF;cases aF with
 | l2 b vs _ _ _ aC hc=>
 obtain ⟨val,cO,eM⟩:=za aP aM (b:=b) (base:=0) (fun j u hu=>(aC j u hu).2) hc h;refine .same (val:=val) ?_ eM;unfold execOp;rw [ah];simp only [av];refine gR ?_;simp only [Instr.loadAt,Instr.sureAddr,Sem.run_bind,Sem.run_pure,Result.andThen_ok];simpa using cO
theorem Qr {o:Oper} {t:TypeId} {x:Operand} {i:bM} {v:af} (ah:o.op = .makeInterface t x) (aM:Γ.get? t=some i) (aQ:∀ b,i.bF ≠ .iface b) (ab:aJ env x=some v) :
  gQ P o a w p (.iface t v):=by
 obtain ⟨info,d,U,ad,al,-⟩:=aP.parts aM;refine .same (val := .iface t (a.eval x)) ?_ (.iface _ _ _ (aI.aJ ab));unfold execOp;rw [ah];refine gR ?_;have ax:∀ ms,d ≠ .interface ms:=fun ms e=>by subst e;exact aQ _ al.symm
 simp only [Instr.makeInterface,Sem.run_bind,run_underlying ad,Result.andThen_ok];cases d<;>first|rfl|exact absurd C (ax _)
omit aP in
theorem Qs {o:Oper} {f:FuncId} {first cap:Array Operand} {zg ho:List af} (ah:o.op = .makeFunc (.func f) first cap) (a6:fM env first.toList=some zg) (aC:fM env cap.toList=some ho) :
  gQ P o a w p (.func f zg ho):=by
 refine .same (val := .func (.func f) (first.map a.eval) (cap.map a.eval)) ?_ (.func _ _ _ _ _ (by simpa using BW aI a6) (by simpa using BW aI aC));unfold execOp;rw [ah];exact gR C
omit aP in
theorem BY {o:Oper} {x:Operand} {v:af} (ah:o.op = .nilCheck x) (ab:aJ env x=some v) (h:(∃ b o,v = .ptr b o)∨(∃ cs o,v = .bw cs o)∨(∃ b cs,v = .l2 b cs)∨(∃ f a c,v = .func f a c)):gQ P o a w p v:=by
 have aF:=aI.aJ ab;refine .same (val:=a.eval x) ?_ aF;unfold execOp;rw [ah];simp only [];rcases h with ⟨b,o',rfl⟩|⟨cs,o',rfl⟩|⟨b,cs,rfl⟩|⟨f,as,cs,rfl⟩<;>generalize av:a.eval x=dP at aF<;>cases aF<;>rfl
theorem BZ {o:Oper} {x:Operand} {B0 t:TypeId} {i:bM} {ok:Bool} {u v:af} (ah:o.op = .typeAssert x B0 t ok) (aM:Γ.get? t=some i) (aQ:∀ b,i.bF ≠ .iface b) (ab:aJ env x=some u)
  (h:(∃ y,u = .iface t y∧v=if ok then .cp [y,.bool true] else y) ∨
   (ok=true∧(u = .nB∨∃ bH y,bH≠t∧u = .iface bH y)∧∃ z,hx i.zero=some z∧v = .cp [z,.bool false])):gQ P o a w p v:=by
 obtain ⟨info,d,U,ad,al,bd,bD,gj⟩:=aP.parts aM;have ax:∀ ms,d ≠ .interface ms:=fun ms e=>by subst e;exact aQ _ al.symm
 have aF:=aI.aJ ab;generalize av:a.eval x=dP at aF;have bO:(zeroValue t).run P w = .ok i.zero w:=by simp [zeroValue,typeInfo,U,gj]
 rcases h with ⟨y,rfl,rfl⟩|⟨rfl,hu,z,B1,rfl⟩
 ·cases aF with
  | iface _ val _ ay=>
  have cO:(Instr.typeAssert (.iface t val) B0 t ok).run P w = .ok (if ok then .tuple #[val,.bool true] else val) w:=by
   cases d<;>first|exact absurd C (ax _)|(simp only [Instr.typeAssert,Sem.run_bind,run_underlying ad,Result.andThen_ok,if_true,Sem.run_pure])
  refine .same (val:=if ok then .tuple #[val,.bool true] else val) ?_ (by cases ok;exact ay;exact .cp _ _ (.cons _ _ _ _ ay (.cons _ _ _ _ (.bool _) .nil)));unfold execOp;rw [ah];simp only [av];exact gR cO
 ·have cO:(Instr.typeAssert dP B0 t true).run P w = .ok (.tuple #[i.zero,.bool false]) w:=by
   rcases hu with rfl|⟨bH,y,cP,rfl⟩
   ·cases aF
    cases d<;>first|exact absurd C (ax _)|(simp only [Instr.typeAssert,Sem.run_bind,run_underlying ad,Result.andThen_ok,if_true,bO,Sem.run_pure])
   ·cases aF
    cases d<;>first|exact absurd C (ax _)|(simp only [Instr.typeAssert,Sem.run_bind,run_underlying ad,Result.andThen_ok,if_true,if_neg cP,bO,Sem.run_pure])
  refine .same (val := .tuple #[i.zero,.bool false]) ?_ (.cp _ _ (.cons _ _ _ _ (p' B1) (.cons _ _ _ _ (.bool _) .nil)));unfold execOp;rw [ah];simp only [av];exact gR cO
theorem Je {o:Oper} {x:Operand} {t:TypeId} {i:bM} {u:af} {n:Nat} (ah:o.op = .call { callee := .builtin .len,args := #[x],argTypes := #[t] }) (aM:Γ.get? t=some i) (ab:aJ env x=some u)
  (h:(∃ e sz xs own,i.bF = .aA e∧u = .aA sz xs own∧n=xs.length)∨(∃ l,i.bF = .str∧u = .str l∧n=l.length)):gQ P o a w p (.int .i64 n):=by
 obtain ⟨info,d,U,ad,al,-⟩:=aP.parts aM;have aF:=aI.aJ ab;generalize av:a.eval x=dP at aF;refine .same (val := .int .i64 n) ?_ (.int _ _);unfold execOp;rw [ah];simp only [resolve,invoke,builtin,Sem.run_bind,Sem.run_pure,Result.andThen_ok,map_toArray,map_cons,map_nil,av];rcases h with ⟨e,sz,xs,own,br,rfl,rfl⟩|⟨l,br,rfl,rfl⟩
 ·have ax:d = .slice e:=by rw [br] at al;cases d<;>simp [ev] at al;rw [al]
  subst ax;cases aF with
  | hR=>simp [Builtin.len_,run_underlying ad,goInt]
  | im=>simp [Builtin.len_,run_underlying ad,goInt]
  | aA g off n cap sz vs _ _ az aB aC aF ar hm aE cv ah=>simp [Builtin.len_,run_underlying ad,goInt,aB]
 ·have ax:d = .string:=by rw [br] at al;cases d<;>simp [ev] at al;rfl
  subst ax;cases aF with
  | str b _ e=>subst e;simp [Builtin.len_,run_underlying ad,goInt]
omit aP in
theorem Qt {o:Oper} {t:TypeId} {x:Operand} {v:af} {cs:List af} (ah:o.op = .box t x) (ab:aJ env x=some v) (aC:cellsOf v=some cs):gQ P o a w p (.bw cs 0):=by
 have aF:=aI.aJ ab;have m5:=p8 aF aC;refine gQ.alloc (a.eval x).cells t aI.wf.lt (val := .pointer (some ⟨w.heap.size,0,none⟩)) ?_ ?_
 ·unfold execOp
  rw [ah];exact gR C
 ·refine .bw _ 0 0 0 (a.eval x).cells.toList _ C ?_ (m5.mono (tG aI.wf.lt _ _))
  have:=EI (w:=w) (p:=p) (a.eval x).cells.toList t;simpa using this
theorem Qu {o:Oper} {t:TypeId} {parts:Array (Nat×Operand)} {gF:List (Nat×TypeId)} {sz mr:Nat} {z:Value} {pl:List (Nat×Nat)} {aY cs:List af} {ps:List (Nat×af)}
  (ah:o.op = .build t parts) (aM:Γ.get? t=some ⟨.struct gF,sz,mr,z⟩) (h4:placesOf Γ gF=some pl) (bO:hx z=some (.agg aY)) (pa:vg env parts.toList=some ps)
  (h:vf (nth pl) aY ps=some cs):gQ P o a w p (.agg cs):=by
 obtain ⟨info,d,U,ad,al,bd,bD,gj⟩:=aP.parts aM;obtain ⟨zf,rfl,kh⟩:=y7 al;rw [kh] at h4;have Qv:=Qj aP zf.toList h4;have ET:=p' (w:=w) (p:=p) bO;obtain ⟨cg,bY⟩:=I' aI pa;have tK:bG w p z.cells.toList aY:=p8 ET C;have Qw:(fun x=>pl.toArray[x]?)=nth pl:=by funext x;rw [xt];simp
 obtain ⟨out,sr,qa⟩:=I8 _ _ z.cells aY cs cg bY tK h;refine .same (val := .agg out) ?_ (.agg _ _ qa);unfold execOp;rw [ah];refine gR (run_build w t _ out ?_);unfold Program.built;simp only [U,ad,gj,Qv];rw [Qw];simpa using sr
theorem Qx {o:Oper} {t e:TypeId} {n:Nat} {parts:Array (Nat×Operand)} {sz mr:Nat} {z:Value} {aG:bM} {aY cs:List af} {ps:List (Nat×af)}
  (ah:o.op = .build t parts) (aM:Γ.get? t=some ⟨.arr n e,sz,mr,z⟩) (he:Γ.get? e=some aG) (bO:hx z=some (.agg aY)) (pa:vg env parts.toList=some ps)
  (h:vf (fun i=>some (i*aG.size,aG.size)) aY ps=some cs):gQ P o a w p (.agg cs):=by
 obtain ⟨info,d,U,ad,al,bd,bD,gj⟩:=aP.parts aM;obtain ⟨mq,c3,nD,nE,ve,m2,Jf,B2⟩:=aP.parts he;obtain rfl:=y8 al;have ET:=p' (w:=w) (p:=p) bO;obtain ⟨cg,bY⟩:=I' aI pa;have tK:bG w p z.cells.toList aY:=p8 ET C;obtain ⟨out,sr,qa⟩:=I8 _ _ z.cells aY cs cg bY tK h;refine .same (val := .agg out) ?_ (.agg _ _ qa);unfold execOp;rw [ah];refine gR (run_build w t _ out ?_);unfold Program.built;simp only [U,ad,gj,nD,m2];simpa using sr
theorem Qy {o:Oper} {t e:TypeId} {len:Nat} {parts:Array (Nat×Operand)} {sz mr:Nat} {z:Value} {aG:bM} {xs:List af}
  (ah:o.op = .buildSlice t len parts) (aM:Γ.get? t=some ⟨.aA e,sz,mr,z⟩) (he:Γ.get? e=some aG) (hlen:parts.size=len) (B3:len*aG.size≤16777216) (aaZ:len≤16777216)
  (h:y' env aG.size 0 parts.toList=some xs):gQ P o a w p (.aA aG.size xs .clip):=by
 obtain ⟨info,d,U,ad,al,-⟩:=aP.parts aM;obtain ⟨mq,c3,nD,nE,ve,m2,Jf,B2⟩:=aP.parts he;have ax:d = .slice e:=by cases d<;>simp [ev] at al;rw [al]
 subst ax;obtain ⟨vs,cg,bY,eR,nF⟩:=Ql aI h;have fw:vs.length=len:=by rw [nF,length_toList,hlen]
 have kh:(flat vs).length=len*aG.size:=by
  rw [← fw];clear cg bY nF fw h
  induction vs with
  | nil=>simp [flat]
  | cons v vs a1=>
   have:=a1 (fun u hu=>eR u (mem_cons_of_mem _ hu));simp only [flat,flatMap_cons,length_append,length_toList,length_cons] at this ⊢;rw [eR v (mem_cons_self ..)];have eT:(List.flatMap (fun v=>v.cells.toList) vs).length=vs.length*aG.size:=this;rw [eT,add_mul];omega
 have sr:∀ ss:Array Value,ss.size=len*aG.size→Instr.fill (fun i=>some (i*aG.size,aG.size)) ss (parts.map fun x=>(x.1,a.eval x.2)).toList=some (flat vs).toArray:=by
  intro ss ot;have:=Ja aG.size vs 0 [] ss.toList a' (by rw [length_toList,ot,fw]) eR;simp only [List.nil_append] at this;rw [Array.toList_map,cg];simpa using this
 refine gQ.alloc (flat vs).toArray e aI.wf.lt (val := .slice (some ⟨w.heap.size,0,none⟩) len len) ?_ ?_
 ·unfold execOp
  rw [ah];refine gR ?_;have aa0:¬ (16777216<len*aG.size):=by omega
  have pb:¬ (len*aG.size>2^24):=by omega
  unfold Instr.buildSlice;simp only [Sem.run_bind,run_underlying ad,Result.andThen_ok,sizeOf,typeInfo,run_program,nD,Sem.run_pure,m2,if_neg pb];by_cases bt:len*aG.size=0
  ·rw [if_pos bt,Sem.run_bind,Sem.run_pure,Result.andThen_ok,sr _ a']
   rfl
  ·rw [if_neg bt]
   simp only [zeroValue,typeInfo,Sem.run_bind,run_program,nD,B2,Sem.run_pure,Result.andThen_ok];rw [sr _ a'];rfl
 ·refine .aA _ 0 _ _ _ vs _ _ a' (by rw [← bY.length,fw]) ?_ (bY.mono (tG aI.wf.lt _ _)) eR ?_ (le_refl _) (fun _=>rfl) (fun b aq=>by cases aq)
  ·exact EI (w:=w) (p:=p) (flat vs) e
  ·omega
theorem Jg {o:Oper} {v:af} (h:o9 Γ o env=some v):gQ P o a w p v:=by
 unfold o9 at h;split at h
 ·rename_i x ah;exact Jb aI (.inl ah) h
 ·rename_i x ah;exact Jb aI (.inr ah) h
 ·rename_i c x y ah
  split at h
  ·rename_i aC;exact Jc aI (t:=true) ah aC h
  ·rename_i aC;exact Jc aI (t:=false) ah aC h
  ·cases h
 ·rename_i op t x y yt ah
  split at h
  ·rename_i u fu ab ay;exact Qm aP aI ah ab ay h
  ·cases h
 ·rename_i t x ah
  split at h
  ·rename_i b aq;cases h;exact Qn aI ah aq
  ·cases h
 ·rename_i x i ah
  split at h
  ·rename_i vs ab;exact Qo aI ah ab h
  ·cases h
 ·rename_i S x f ah
  split at h
  ·rename_i gF sz mr z ch
   split at h
   ·rename_i off t a6
    split at h
    ·rename_i bF n Qz acq aM
     split at h
     ·rename_i b o' ab;cases h;exact EO aP aI ah ch a6 aM a' (.inl ⟨_,_,ab,rfl⟩)
     ·rename_i cs o' ab;cases h;exact EO aP aI ah ch a6 aM a' (.inr (.inl ⟨_,_,ab,rfl⟩))
     ·rename_i b cs ab;cases h;exact EO aP aI ah ch a6 aM a' (.inr (.inr ⟨_,_,ab,rfl⟩))
     ·cases h
    ·cases h
   ·cases h
  ·cases h
 ·rename_i S x f ah
  split at h
  ·rename_i gF sz mr z ch
   split at h
   ·rename_i off t a6
    split at h
    ·rename_i i aM
     split at h
     ·rename_i cs ab;exact Qp aP aI ah ch a6 aM ab h
     ·cases h
    ·cases h
   ·cases h
  ·cases h
 ·rename_i t x ah
  split at h
  ·rename_i i aM
   split at h
   ·rename_i cs o' ab;exact Jd aP aI ah aM ab h
   ·rename_i b cs ab;exact Qq aP aI ah aM ab h
   ·cases h
  ·cases h
 ·rename_i t x ah
  split at h
  ·cases h
  ·rename_i i EU aM
   split at h
   ·rename_i u ab;cases h;exact Qr aP aI ah aM (fun b e=>by obtain ⟨dW,a2,a3,a4⟩:=i;simp only at e;subst e;exact EU _ _ _ _ C) ab
   ·cases h
  ·cases h
 ·rename_i f first cap ah
  split at h
  ·rename_i zg ho U ad;cases h;exact Qs aI ah U ad
  ·cases h
 ·rename_i x ah
  split at h
  ·rename_i b o' ab;cases h;exact BY aI ah ab (.inl ⟨_,_,rfl⟩)
  ·rename_i cs o' ab;cases h;exact BY aI ah ab (.inr (.inl ⟨_,_,rfl⟩))
  ·rename_i b cs ab;cases h;exact BY aI ah ab (.inr (.inr (.inl ⟨_,_,rfl⟩)))
  ·rename_i f zg ho ab;cases h;exact BY aI ah ab (.inr (.inr (.inr ⟨_,_,_,rfl⟩)))
  ·cases h
 ·rename_i x B0 t ok ah
  split at h
  ·cases h
  ·rename_i i EU aM
   have B4:∀ b,i.bF ≠ .iface b:=fun b e=>by obtain ⟨dW,a2,a3,a4⟩:=i;simp only at e;subst e;exact EU _ _ _ _ C
   split at h
   ·rename_i bH u ab
    split at h
    ·rename_i aq;cases h;have:=eq_of_beq_eq_true aq;subst this;exact BZ aP aI ah aM B4 ab (.inl ⟨u,rfl,rfl⟩)
    ·rename_i aq;cases h;have:=eq_of_beq_eq_true aq;subst this;exact BZ aP aI ah aM B4 ab (.inl ⟨_,rfl,rfl⟩)
    ·rename_i aq
     split at h
     ·rename_i z bO;cases h
      exact BZ aP aI ah aM B4 ab (.inr ⟨rfl,.inr ⟨bH,u,(fun e=>by subst e;simp at aq),rfl⟩,z,bO,rfl⟩)
     ·cases h
    ·cases h
   ·rename_i ab
    split at h
    ·split at h
     ·rename_i z bO;cases h
      exact BZ aP aI ah aM B4 ab (.inr ⟨rfl,.inl C,z,bO,rfl⟩)
     ·cases h
    ·cases h
   ·cases h
  ·cases h
 ·rename_i args argTypes ah
  split at h
  ·rename_i x t U ad
   have cg:args = #[x]:=by apply ext';simpa using U
   have bY:argTypes = #[t]:=by apply ext';simpa using ad
   subst cg;subst bY;split at h
   ·rename_i e sz mr z aM
    split at h
    ·rename_i sz' xs own ab;cases h;exact Je aP aI ah aM ab (.inl ⟨_,_,_,_,rfl,rfl,rfl⟩)
    ·cases h
   ·rename_i sz mr z aM
    split at h
    ·rename_i l ab;cases h;exact Je aP aI ah aM ab (.inr ⟨_,rfl,rfl,rfl⟩)
    ·cases h
   ·cases h
  ·cases h
 ·rename_i t x ah
  split at h
  ·rename_i u ab
   split at h
   ·rename_i cs aC;cases h;exact Qt aI ah ab aC
   ·cases h
  ·cases h
 ·rename_i t parts ah
  split at h
  ·rename_i gF sz mr z aM
   split at h
   ·rename_i pl aY ps h4 bO pa
    split at h
    ·rename_i cs hy;cases h;exact Qu aP aI ah aM h4 bO pa hy
    ·cases h
   ·cases h
  ·rename_i I5 jA sz mr z aM
   split at h
   ·rename_i aG aY ps he bO pa
    split at h
    ·rename_i cs hy;cases h;exact Qx aP aI ah aM he bO pa hy
    ·cases h
   ·cases h
  ·cases h
 ·rename_i t len parts ah
  split at h
  ·rename_i e sz mr z aM
   split at h
   ·rename_i aG he
    split at h
    ·rename_i tI
     simp only [and_eq_true] at tI;split at h
     ·rename_i xs c5;cases h
      exact Qy aP aI ah aM he (eq_of_beq_eq_true tI.1) (Nat.le_of_ble_eq_true tI.2.1) (Nat.le_of_ble_eq_true tI.2.2) c5
     ·cases h
    ·cases h
   ·cases h
  ·cases h
 ·cases h
omit aI aP in
theorem Jh {o:Oper} {v:af} (h:o9 Γ o env=some v):gE o=true:=by
 unfold gE;cases ah:o.op<;>first|rfl|(unfold o9 at h;rw [ah] at h;cases h)
omit aI in
theorem aZ.o9 {o:Oper} {v:af} (h:cU.o9 Γ o env=some v):aZ P N o env s (fun x aj=>x=v∧aj=s) (fun _ _=>False):=
 aZ.m3 (Jh h) fun _ _ _ _ _ aI=>Jg aP aI h
omit aI in
theorem fE.step {ops:Array Oper} {Q:b8→Env→ao→Prop} {i:Nat} {l:List Nat} {o:Oper} {d:Nat} {v:af} (ah:ops[i]? = some o) (aw:guardOf ops env o=some true)
  (ax:o.dst=some d) (aU:Nat.blt d N=true) (av:cU.o9 Γ o env=some v) (h:fE P N ops l Q ((d,v)::env) s):fE P N ops (i::l) Q env s:=
 fE.op ah aw ax aU (aZ.o9 aP av) (fun x aj ⟨U,ad⟩=>by subst U;subst ad;exact h) (fun _ _ h=>h.elim)
end
def ao.set (s:ao) (b:Nat) (o:dC):ao:=fun aW=>if aW=b then some o else s aW
def ao.del (s:ao) (b:Nat):ao:=fun aW=>if aW=b then none else s aW
theorem ao.gk (s:ao) (b:Nat) (o:dC):s.set b o b=some o:=by simp [ao.set]
theorem ao.fx (s:ao) {b aW:Nat} (o:dC) (h:aW≠b):s.set b o aW=s aW:=by simp [ao.set,h]
theorem ao.m6 (s:ao) (b:Nat):s.del b b=none:=by simp [ao.del]
theorem ao.mv (s:ao) {b aW:Nat} (h:aW≠b):s.del b aW=s aW:=by simp [ao.del,h]
theorem ao.tL {s:ao} {b aW:Nat} {o:dC} (h:s.set b o aW=none):aW≠b∧s aW=none:=by
 unfold ao.set at h;split at h
 ·cases h
 ·exact ⟨‹_›,h⟩
theorem ao.vi (s:ao) (b:Nat) (o:dC) (h:s b=none):ao.Sub s (s.set b o):=fun aW=>by
 by_cases e:aW=b
 ·subst e;exact .inr h
 ·exact .inl (by rw [ao.fx _ _ e])
theorem ao.ou (s:ao):ao.Sub s s:=fun _ => .inl rfl
theorem ao.Sub.trans {a b c:ao} (h:ao.Sub a b) (k:ao.Sub b c):ao.Sub a c:=fun x=>by
 rcases h x with e|e
 ·rcases k x with e'|e'
  ·exact .inl (e.trans e')
  ·exact .inr (e.trans e')
 ·exact .inr e
theorem ao.zh (s:ao) (b:Nat) (o:dC) (h:s b=none):(s.set b o).del b=s:=by
 funext aW;by_cases e:aW=b
 ·subst e;simp [ao.del,h]
 ·simp [ao.del,ao.set,e]
theorem ao.set_set (s:ao) (b:Nat) (o o':dC):(s.set b o).set b o'=s.set b o':=by
 funext aW;by_cases e:aW=b<;>simp [ao.set,e]
theorem p6.lt {w:World} {p:bR} {b:Nat} {o:dC} (h:p6 w p b o):b<w.heap.size:=by
 cases o with
 | box t cs=>obtain ⟨vs,U,-⟩:=h;exact (Array.getElem?_eq_some_iff.1 U).1
 | row t sz n=>obtain ⟨vs,U,-⟩:=h;exact (Array.getElem?_eq_some_iff.1 U).1
 | map es=>obtain ⟨vs,c,U,-⟩:=h;exact (Array.getElem?_eq_some_iff.1 U).1
 | k3 es it l c=>obtain ⟨_,_,_,U,-⟩:=h;exact (Array.getElem?_eq_some_iff.1 U).1
 | tick m=>obtain ⟨_,_,_,U⟩:=h;exact (Array.getElem?_eq_some_iff.1 U).1
 | loop r env=>exact (Array.getElem?_eq_some_iff.1 h.1).1
theorem rb {w:World} {p:bR} {s:ao} (cc:dm w p s) (o:Obj) (x:dC) (ab:∀ w':World,w'.heap[w.heap.size]? = some o→(∀ v y,Rel w p v y→Rel w' p v y)→(∀ vs ys,bG w p vs ys→bG w' p vs ys)→p6 w' p w.heap.size x) :
  s w.heap.size=none∧dc w p (w.alloc o) p∧Kept s (s.set w.heap.size x) w p (w.alloc o) p∧dm (w.alloc o) p (s.set w.heap.size x):=by
 have az:s w.heap.size=none:=by
  cases h:s w.heap.size with
  | none=>rfl
  | some o'=>exact absurd (cc.obj _ _ h).lt ag
 have hle:dc w p (w.alloc o) p:=dc.of_heap C C C a' (fun _ _ h=>h) cc.lt (fun b aq=>l3 w o b aq);refine ⟨az,hle,⟨fun b aq _=>l3 w o b aq,fun b aq ar=>by rw [ao.fx _ _ ag];exact ar,fun _ _ _ _ h=>h⟩,?_⟩;have aw:=cc.grow hle (fun b aq=>l3 w o b aq) (fun _ _ _ h=>h) (fun b o aD=>by have:=cc.lt b o aD;simp;omega);refine ⟨fun b o' aq=>?_,aw.lt⟩;by_cases e:b=w.heap.size
 ·subst e
  rw [ao.gk] at aq;cases aq;exact ab _ (tF w o) (fun _ _ h=>h.mono hle) (fun _ _ h=>h.mono hle)
 ·rw [ao.fx _ _ e] at aq
  exact aw.obj b o' aq
section
variable {P:Program} {Γ:cw} {N:Nat} {env:Env} {s:ao}
theorem aZ.ki {o:Oper} {K X:af→ao→Prop} (ax:gE o=true)
  (h:∀ ro B a w p,dw N B ro env s a w p→∃ val w' aj bj x,(execOp a.eval o).run P w = .ok (.value val) w'∧dc w p w' bj∧Kept s aj w p w' bj∧dm w' bj aj∧K x aj∧Rel w' bj val x) :
  aZ P N o env s K X:=by
 refine ⟨ax,fun ro B a w p aI=>?_⟩;obtain ⟨val,w',aj,bj,x,aF,U,ad,al,bd,bD⟩:=h ro B a w p aI;rw [aF];exact ⟨aj,bj,U,ad,al,x,bd,bD⟩
theorem aZ.EV {o:Oper} {K X:af→ao→Prop} (ax:gE o=true)
  (h:∀ ro B a w p,dw N B ro env s a w p→∃ w' aj bj,(execOp a.eval o).run P w = .ok .skip w'∧dc w p w' bj∧Kept s aj w p w' bj∧dm w' bj aj∧K (.cp []) aj) :
  aZ P N o env s K X:=by
 refine ⟨ax,fun ro B a w p aI=>?_⟩;obtain ⟨w',aj,bj,aF,U,ad,al,bd⟩:=h ro B a w p aI;rw [aF];exact ⟨aj,bj,U,ad,al,_,bd,EH⟩
theorem aZ.alloc (aP:bQ P Γ) {o:Oper} {t:TypeId} {i:bM} {z:af} {cs:List af} (ah:o.op = .alloc t) (aM:Γ.get? t=some i) (bO:hx i.zero=some z) (aC:cellsOf z=some cs) {X:af→ao→Prop} :
  aZ P N o env s (fun x aj=>∃ b,s b=none∧x = .ptr b 0∧aj=s.set b (.box t cs)) X:=by
 refine aZ.ki (by simp [gE,ah]) fun ro B a w p aI=>?_
 obtain ⟨info,d,U,ad,al,bd,bD,gj⟩:=aP.parts aM
 obtain ⟨az,hle,aE,cc⟩:=rb aI.wf (.cells i.zero.cells t (0,0)) (.box t cs) (fun w' iL aF hc=>
  ⟨i.zero.cells,iL,hc _ _ (p8 (p' bO) aC),fun o' aD=>absurd (aI.wf.lt _ _ aD) ag⟩)
 refine ⟨.pointer (some ⟨w.heap.size,0,none⟩),_,_,p,_,?_,hle,aE,cc,⟨w.heap.size,az,rfl,rfl⟩,.ptr _ _⟩;unfold execOp;rw [ah];refine gR ?_;simp [Instr.alloc,zeroValue,typeInfo,U,gj,newVar,newRow]
theorem jB {w:World} {b:Nat} {vs:Array Value} {t:TypeId} {hb:Nat×Nat} (h:w.heap[b]? = some (.cells vs t hb)) (j:Nat):w.cell? ⟨b,j,none⟩=vs[j]?:=by
 simp [World.cell?,h]
theorem aZ.tM (aP:bQ P Γ) {o:Oper} {t T:TypeId} {x:Operand} {i:bM} {b off:Nat} {cs:List af} {v:af} (ah:o.op = .load t x) (aM:Γ.get? t=some i) (ab:aJ env x=some (.ptr b off))
  (ar:s b=some (.box T cs)) (h:hI i cs off=some v) {X:af→ao→Prop}:aZ P N o env s (fun x aj=>x=v∧aj=s) X:=by
 refine aZ.ki (by simp [gE,ah]) fun ro B a w p aI=>?_
 have aF:=aI.aJ ab;generalize av:a.eval x=dP at aF;cases aF;obtain ⟨vs,U,ad,al⟩:=aI.wf.obj _ _ ar;obtain ⟨val,cO,eM⟩:=za aP aM (b:=b) (base:=0) (vs:=vs.toList) (fun j u hu=>by rw [zero_add,jB U];simpa using hu) ad h;refine ⟨val,w,s,p,v,?_,.refl w p,.refl s w p,aI.wf,⟨rfl,rfl⟩,eM⟩;unfold execOp;rw [ah];simp only [av];refine gR ?_;rw [zero_add] at cO;simp only [Instr.loadAt,Instr.sureAddr,Sem.run_bind,Sem.run_pure,Result.andThen_ok,cO]
theorem vj {w:World} {p:bR} (cc:dm w p s) {b:Nat} {T:TypeId} {cs:List af} (ar:s b=some (.box T cs)) {vs':Array Value} {cs':List af}
    (b':∀ vs,w.heap[b]? = some (.cells vs T (0,0))→vs'.size=vs.size) (aF:bG w p vs'.toList cs') (w':World) (iL:w'=w.setRow b vs') :
    dc w p w' p∧Kept s (s.set b (.box T cs')) w p w' p∧dm w' p (s.set b (.box T cs')):=by
  subst iL;obtain ⟨vs,U,ad,al⟩:=cc.obj _ _ ar;have au:b<w.heap.size:=(Array.getElem?_eq_some_iff.1 U).1;have dI:=setRow_heap w b vs vs' T (0,0) U;have hS:∀ k,k≠b→(w.setRow b vs').heap[k]? = w.heap[k]? := fun k aE=>setRow_other w b k vs' aE
  have hle:dc w p (w.setRow b vs') p:=by
    refine ⟨rfl,rfl,rfl,by simp,fun _ _ h=>h,fun aW o aD=>xq (hS aW (fun e=>al o (e ▸ aD))),fun aW x ab=>?_⟩;by_cases e:aW=b
    · subst e
      have QA:=b' vs U;simp only [World.kG,U,dI] at ab ⊢;rw [QA];exact ab
    · rw [xp (hS aW e)];exact ab
  refine ⟨hle,⟨fun aW aq az=>hS aW (fun e=>by rw [e,ar] at az;simp at az),fun aW aq az=>by
    rw [ao.fx]
    · exact az
    · intro e;rw [e,ar] at az;simp at az,fun _ _ _ _ h=>h⟩,?_,fun aW o aD=>by simpa using cc.lt aW o aD⟩
  intro aW o' nG;by_cases e:aW=b
  · subst e
    rw [ao.gk] at nG;cases nG;exact ⟨vs',dI,aF.mono hle,al⟩
  · rw [ao.fx _ _ e] at nG
    have ah:=cc.obj aW o' nG;have cX:=hS aW e;cases o' with
    | box t c=>obtain ⟨us,g1,g2,g3⟩:=ah;exact ⟨us,cX.trans g1,g2.mono hle,g3⟩
    | row t sz n=>obtain ⟨cur,g1,g2,g3,g4⟩:=ah;exact ⟨cur,cX.trans g1,g2,g3,g4⟩
    | map es=>obtain ⟨cN,c,g1,g2,g3⟩:=ah;exact ⟨cN,c,cX.trans g1,⟨g2.1.mono hle,g2.2.mono hle⟩,g3⟩
    | k3 es it l c=>exact ah.p7 hle cX (hS it (ah.y5 U a'))
    | tick m=>obtain ⟨dW,a2,a3,g1⟩:=ah;exact ⟨dW,a2,a3,cX.trans g1⟩
    | loop r env=>exact ⟨cX.trans ah.1,fun t v h=>(ah.2 t v h).mono hle⟩
def e7:af→Bool
 | .hv (.func _ _ _)=>true
 | .hv (.slice _ _ _)=>true
 | .any | .hv _ | .agg _ | .cp _=>false
 | _=>true
theorem EW {w:World} {p:bR} {v:Value} {x:af} (aF:Rel w p v x) (h:e7 x=true):v.oneCell'=true:=by
 cases aF with
 | hv v=>cases v<;>first|rfl|(simp [e7] at h;done)
 | _=>first|rfl|(simp [e7] at h;done)
theorem qb {w:World} {p:bR}:∀ {vs:List Value} {xs:List af},bG w p vs xs→xs.all e7=true→∀ v∈vs,v.oneCell'=true:=by
 intro vs
 induction vs with
 | nil=>intro xs _ _ v av;cases av
 | cons u vs a1=>
  intro xs h a7 v av;cases h with
  | cons _ x _ xs ab aM=>
  simp only [List.all_cons,and_eq_true] at a7;rcases mem_cons.1 av with rfl|av
  ·exact EW ab a7.1
  ·exact a1 aM a7.2 v av
theorem Ji (off:Nat):∀ (cs xs:List af),off+cs.length≤xs.length→eQ off cs xs=xs.take off++cs++xs.drop (off+cs.length):=by
 intro cs
 induction cs generalizing off with
 | nil=>intro xs h;simp [eQ]
 | cons c cs a1=>
  intro xs h;simp only [eQ,length_cons] at h ⊢;rw [a1 (off+1) _ cG];have U:(xs.set off c).take (off+1)=xs.take off++[c]:=by
   rw [List.take_succ_eq_append_getElem cG];simp [List.take_set_of_le]
  have ad:(xs.set off c).drop (off+1+cs.length)=xs.drop (off+1+cs.length):=by
   rw [List.drop_set_of_lt ag]
  rw [U,ad];simp [add_assoc,Nat.add_comm 1]
theorem aZ.B5 (aP:bQ P Γ) {o:Oper} {t T:TypeId} {x y:Operand} {i:bM} {b off:Nat} {cs us:List af} {v:af} (ah:o.op = .store t x y) (aM:Γ.get? t=some i) (ab:aJ env x=some (.ptr b off))
  (ay:aJ env y=some v) (av:cellsOf v=some us) (hu:Nat.beq us.length i.size=true) (QB:us.all e7=true) (ar:s b=some (.box T cs)) (fy:Nat.ble (off+us.length) cs.length=true) {X:af→ao→Prop} :
  aZ P N o env s (fun _ aj=>aj=s.set b (.box T (eQ off us cs))) X:=by
 refine aZ.EV (by simp [gE,ah]) fun ro B a w p aI=>?_
 have aF:=aI.aJ ab;generalize ew:a.eval x=dP at aF;cases aF;have fh:=aI.aJ ay;have m5:=p8 fh av;obtain ⟨info,d,g1,g2,g3,g4,-⟩:=aP.parts aM;obtain ⟨vs,U,ad,al⟩:=aI.wf.obj _ _ ar;have b':(a.eval y).cells.size=info.size:=by rw [g4,← eq_of_beq_eq_true hu,← m5.length,length_toList]
 have QC:=Nat.le_of_ble_eq_true fy;have lz:vs.size=cs.length:=by rw [← ad.length,length_toList]
 have eS:(a.eval y).cells.toList.length=us.length:=m5.length;have hJ:=run_storeCells_at P b off T (a.eval y).cells.toList 0 vs w U (by rw [eS];omega) (qb m5 QB);simp only [add_zero] at hJ;have eM:bG w p (vs.toList.take off++(a.eval y).cells.toList++vs.toList.drop (off+(a.eval y).cells.toList.length)) (eQ off us cs):=by
  rw [Ji _ _ _ QC,eS];exact ((ad.take off).append m5).append (ad.drop _)
 obtain ⟨cD,dh,fa⟩:=vj aI.wf ar (vs':=(vs.toList.take off++(a.eval y).cells.toList++vs.toList.drop (off+(a.eval y).cells.toList.length)).toArray) (fun vk B6=>by
  rw [U] at B6;cases B6
  simp only [List.size_toArray,length_append,length_take,List.length_drop,eS,length_toList];omega) (by simpa using eM) _ C
 refine ⟨_,_,p,?_,cD,dh,fa,rfl⟩;unfold execOp;rw [ah];simp only [ew];simp only [Instr.storeAt,Instr.sureAddr,storeVar,sizeOf,typeInfo,Sem.run_bind,Sem.run_pure,Result.andThen_ok,run_program,g1,b',ne_eq,not_true_eq_false,if_false];rw [hJ];rfl
theorem dw.freeze {B:fL} {ro:Option Nat} {a:Act} {w:World} {p:bR} (h:dw N B ro env s a w p) {t b:Nat} {T:TypeId} {cs:List af} (aM:env.get? t=some (.ptr b 0)) (ar:s b=some (.box T cs)) :
  ∃ bj,dw N B ro ((t,.bw cs 0)::env) (s.del b) a w bj∧dc w p w bj∧Kept s (s.del b) w p w bj:=by
 obtain ⟨vs,U,ad,al⟩:=h.wf.obj _ _ ar;have au:b<w.heap.size:=(Array.getElem?_eq_some_iff.1 U).1;have hle:dc w p w (p.ee b True):=⟨rfl,rfl,rfl,le_refl _,fun _ _ h => .inl h,fun _ _ _=>rfl,fun _ _ h=>h⟩
 have aE:Kept s (s.del b) w p w (p.ee b True):=⟨fun _ _ _=>rfl,fun aW aq az=>by
  by_cases e:aW=b
  ·subst e;exact ao.m6 _ _
  ·rw [ao.mv _ e];exact az,fun aW o aq az aD=>by
   rcases aD with aD|⟨rfl,_⟩
   ·exact aD
   ·rw [ar] at az;cases az⟩
 have cc:dm w (p.ee b True) (s.del b):=by
  refine ⟨fun aW o aq=>?_,fun aW o aD=>by rcases aD with aD|⟨rfl,_⟩;exact h.wf.lt _ _ aD;exact au⟩;by_cases e:aW=b
  ·subst e;rw [ao.m6] at aq;cases aq
  ·rw [ao.mv _ e] at aq
   have ah:=h.wf.obj aW o aq;have e6:∀ o,p.ee b True aW o↔p aW o:=fun o=>⟨fun aD=>by rcases aD with aD|⟨e',_⟩;exact aD;exact absurd e' e,.inl⟩
   cases o with
   | box t c=>obtain ⟨us,g1,g2,g3⟩:=ah;exact ⟨us,g1,g2.mono hle,fun o aD=>g3 o ((e6 o).1 aD)⟩
   | row t sz n=>obtain ⟨cur,g1,g2,g3,g4⟩:=ah;exact ⟨cur,g1,g2,g3,fun o=>(e6 o).trans (g4 o)⟩
   | map es=>obtain ⟨cN,c,g1,g2,g3⟩:=ah;exact ⟨cN,c,g1,⟨g2.1.mono hle,g2.2.mono hle⟩,g3⟩
   | k3 es it l c=>exact ah.p7 hle C C
   | tick m=>exact ah
   | loop r env=>exact ⟨ah.1,fun t v h=>(ah.2 t v h).mono hle⟩
 have aI:=h.step hle aE cc;refine ⟨_,⟨aI.size,fun bH v av=>?_,aI.wf,aI.defs,aI.round,aI.base⟩,hle,aE⟩;simp only [Env.get?] at av;split at av
 ·rename_i he
  have:=eq_of_beq_eq_true he;subst this;cases av;have aF:=h.env t _ aM;generalize a.tmps.getD t undef=dP at aF;cases aF;refine .bw b 0 0 0 vs.toList cs C ?_ (ad.mono hle);intro i v aQ;refine ⟨.inr ⟨rfl,trivial⟩,?_⟩;rw [zero_add,jB U];simpa using aQ
 ·exact aI.env bH v av
theorem fE.freeze {ops:Array Oper} {Q:b8→Env→ao→Prop} {l:List Nat} (t b:Nat) {T:TypeId} {cs:List af} (aM:env.get? t=some (.ptr b 0)) (ar:s b=some (.box T cs))
  (h:fE P N ops l Q ((t,.bw cs 0)::env) (s.del b)):fE P N ops l Q env s:=by
 intro ro B a w p aI;obtain ⟨bj,hJ,hle,aE⟩:=aI.freeze aM ar;exact fE.after hle aE h hJ
theorem ae.freeze {Q:b8→Env→ao→Prop} {c:Code} (t b:Nat) {T:TypeId} {cs:List af} (aM:env.get? t=some (.ptr b 0)) (ar:s b=some (.box T cs))
  (h:ae P N c Q ((t,.bw cs 0)::env) (s.del b)):ae P N c Q env s:=by
 intro hb B a w p eU aI;obtain ⟨bj,hJ,hle,aE⟩:=aI.freeze aM ar;exact l0 (h hb B a w bj eU hJ) fun _ _ _ q=>q.after hle aE
end
def j2:af→af→Option Bool
 | .str a,.str b=>some (a==b)
 | .int k a,.int k' b=>if k=k' then some (a==b) else none
 | .bool a,.bool b=>some (a==b)
 | _,_=>none
def j3:sm→af→Bool
 | .str,.str _=>true
 | .int _,.int _ _=>true
 | .bool,.bool _=>true
 | _,_=>false
def iV:List (af×af)→af→Option (Option af)
  | [],_=>some none
  | (k',v)::r,k=>match j2 k k' with
    | some true=>some (some v)
    | some false=>iV r k
    | none=>none
def lA:List (af×af)→af→af→Option (List (af×af))
  | [],k,v=>some [(k,v)]
  | (k',fu)::r,k,v=>match j2 k k' with
    | some true=>some ((k,v)::r)
    | some false=>match lA r k v with
      | some r'=>some ((k',fu)::r')
      | none=>none
    | none=>none
theorem Jj (a b:ByteArray):(a==b)=(a.data.toList==b.data.toList):=by
 cases a with|mk x=>cases b with|mk y=>
 show (ByteArray.beq ⟨x⟩ ⟨y⟩)=_;unfold ByteArray.beq;simp
theorem B7 {w:World} {p:bR} {d:TypeDesc} {hK zi:Value} {k k':af} {b:Bool} (U:Rel w p hK k) (ad:Rel w p zi k') (a6:j3 (ev d) k=true) (h:j2 k k'=some b) :
  Instr.sameNow d hK zi=some b:=by
 unfold j2 at h;split at h
 ·cases U with|str a _ e=>cases ad with|str c' _ e'=>
  cases d<;>simp [ev,j3] at a6
  cases h;simp [Instr.sameNow,Jj,e,e']
 ·cases U;cases ad
  cases d<;>simp [ev,j3] at a6
  split at h
  ·cases h;rename_i aE;subst aE;simp [Instr.sameNow]
  ·cases h
 ·cases U;cases ad
  cases d<;>simp [ev,j3] at a6
  cases h;simp [Instr.sameNow]
 ·cases h
theorem QD {w:World} {p:bR} {hK zi:Value} {k k':af} (U:Rel w p hK k) (ad:Rel w p zi k') (h:j2 k k'=some true):Instr.sameBits 10000 zi hK=true:=by
 unfold j2 at h;split at h
 ·cases U with|str a _ e=>cases ad with|str c' _ e'=>
  have h:=beq_iff_eq.1 (Option.some.inj h);show (c'==a)=true;rw [Jj,e,e',h];simp
 ·rename_i k a k' b
  cases U;cases ad;split at h
  ·rename_i aE
   subst aE;have h:=beq_iff_eq.1 (Option.some.inj h);show (k==k&&b==a)=true;rw [h];simp
  ·cases h
 ·rename_i a b
  cases U;cases ad;have h:=beq_iff_eq.1 (Option.some.inj h);show (b==a)=true;rw [h];simp
 ·cases h
theorem QE {w:World} {p:bR} {d:TypeDesc} {hK:Value} {k:af} (aE:Rel w p hK k) (a6:j3 (ev d) k=true):∀ (cN:List MapEntry) (es:List (af×af)) (i:Nat) (r:Option af),
  lx w p cN es→iV es k=some r →
  match r with
  | none=>Instr.findNow d hK cN i=some none
  | some v=>∃ j val,Instr.findNow d hK cN i=some (some (j,val))∧Rel w p val v:=by
 intro cN
 induction cN with
 | nil=>
  intro es i r aF h;cases es with
  | nil=>cases h;rfl
  | cons e es=>exact absurd aF.1.length a'
 | cons m cN a1=>
  intro es i r aF h;cases es with
  | nil=>exact absurd aF.1.length a'
  | cons e es=>
   obtain ⟨k',fu⟩:=e;obtain ⟨xx,su⟩:=aF;cases xx with|cons _ _ _ _ eC sv=>cases su with|cons _ _ _ _ ov qc=>
   simp only [iV] at h;split at h
   ·rename_i he
    cases h;exact ⟨i,m.val,by simp only [Instr.findNow,B7 aE eC a6 he],ov⟩
   ·rename_i he
    have:=a1 es (i+1) r ⟨sv,qc⟩ h;have ar:=B7 aE eC a6 he;cases r with
    | none=>simp only [Instr.findNow,ar];exact this
    | some v=>obtain ⟨j,val,U,ad⟩:=this;exact ⟨j,val,by simp only [Instr.findNow,ar];exact U,ad⟩
   ·cases h
theorem QF {w:World} {p:bR} {d:TypeDesc} {hK vv:Value} {k v:af} (aE:Rel w p hK k) (av:Rel w p vv v) (a6:j3 (ev d) k=true):∀ (cN:List MapEntry) (es du:List (af×af)) (i:Nat),
  lx w p cN es→lA es k v=some du →
  (Instr.findNow d hK cN i=some none∧∀ n,lx w p (cN++[{ key:=hK,val:=vv,born:=n }]) du) ∨
  (∃ j val e,Instr.findNow d hK cN i=some (some (i+j,val))∧cN[j]? = some e∧Instr.sameBits 10000 e.key hK=true∧lx w p (cN.modify j fun e=>{ e with key:=hK,val:=vv }) du):=by
 intro cN
 induction cN with
 | nil=>
  intro es du i aF h;cases es with
  | nil=>cases h;exact .inl ⟨rfl,fun n=>⟨.cons _ _ _ _ aE .nil,.cons _ _ _ _ av .nil⟩⟩
  | cons e es=>exact absurd aF.1.length a'
 | cons m cN a1=>
  intro es du i aF h;cases es with
  | nil=>exact absurd aF.1.length a'
  | cons e es=>
   obtain ⟨k',fu⟩:=e;obtain ⟨xx,su⟩:=aF;cases xx with|cons _ _ _ _ eC sv=>cases su with|cons _ _ _ _ ov qc=>
   simp only [lA] at h;split at h
   ·rename_i he
    cases h;refine .inr ⟨0,m.val,m,by simp only [Instr.findNow,B7 aE eC a6 he,add_zero],rfl,QD aE eC he,?_⟩;exact ⟨.cons _ _ _ _ aE sv,.cons _ _ _ _ av qc⟩
   ·rename_i he
    split at h
    ·rename_i r' jj
     cases h;have ar:=B7 aE eC a6 he;rcases a1 es r' (i+1) ⟨sv,qc⟩ jj with ⟨U,ad⟩|⟨j,val,e',U,ad,al,bd⟩
     ·exact .inl ⟨by simp only [Instr.findNow,ar];exact U,fun n=>⟨.cons _ _ _ _ eC (ad n).1,.cons _ _ _ _ ov (ad n).2⟩⟩
     ·refine .inr ⟨j+1,val,e',by simp only [Instr.findNow,ar];rw [U];congr 3;omega,by simpa using ad,al,?_⟩
      simp only [List.modify_succ_cons];exact ⟨.cons _ _ _ _ eC bd.1,.cons _ _ _ _ ov bd.2⟩
    ·cases h
   ·cases h
section
variable {P:Program} {Γ:cw} {N:Nat} {env:Env} {s:ao}
theorem run_checkKey {d:TypeDesc} {t:TypeId} {hK:Value} {k:af} {w:World} {p:bR} (hu:P.underlying t=some d) (aE:Rel w p hK k) (a6:j3 (ev d) k=true) (e:Bool) :
  (Instr.checkKey e 10000 t hK).run P w = .ok () w:=by
 have:∀ n,(Instr.checkKey e (n+1) t hK).run P w = .ok () w:=by
  intro n;unfold Instr.checkKey;simp only [Sem.run_bind,run_underlying hu,Result.andThen_ok];cases aE<;>simp [j3] at a6<;>cases d<;>simp [ev] at a6<;>rfl
 exact this 9999
theorem run_findKey {d:TypeDesc} {t:TypeId} {hK:Value} {es:List MapEntry} {r:Option (Nat×Value)} {w:World} (hu:P.underlying t=some d) (h:Instr.findNow d hK es 0=some r) :
  (Instr.findKey t hK es).run P w = .ok r w:=by
 unfold Instr.findKey;simp only [Sem.run_bind,run_underlying hu,Result.andThen_ok,h,Sem.run_pure]
def B8:Obj→Bool
 | .cells .. => false
 | _=>true
theorem xy {w:World} {r:Nat} {o:Obj} (h:w.heap[r]? = some o) (aC:B8 o=true):(getObj r).run P w = .ok o w:=by
 cases o<;>first|(simp [B8] at aC;done)|simp [getObj,Sem.run,h]
def lB (ok:Bool) (zero:af):Option af→af
 | some v=>if ok then .cp [v,.bool true] else v
 | none=>if ok then .cp [zero,.bool false] else zero
theorem aZ.lookup (aP:bQ P Γ) {o:Oper} {t dQ eV:TypeId} {x y:Operand} {ok:Bool} {it gG aG:bM} {m:af} {es:List (af×af)} {k z:af} {r:Option af} (ah:o.op = .lookup t x y ok)
  (aM:Γ.get? t=some it) (br:it.bF = .map dQ eV) (jk:Γ.get? dQ=some gG) (bI:Γ.get? eV=some aG) (ab:aJ env x=some m) (ay:aJ env y=some k)
  (hm:(∃ b,m = .map b∧s b=some (.map es))∨(m = .sk∧es=[])) (a6:j3 gG.bF k=true) (aw:iV es k=some r) (bO:hx aG.zero=some z) {X:af→ao→Prop} :
  aZ P N o env s (fun x aj=>x=lB ok z r∧aj=s) X:=by
 refine aZ.ki (by simp [gE,ah]) fun ro B a w p aI=>?_
 obtain ⟨info,d,U,ad,al,-⟩:=aP.parts aM;obtain ⟨QG,xz,l4,ir,sw,-⟩:=aP.parts jk;obtain ⟨jL,kj,EX,zj,QH,-,-,EY⟩:=aP.parts bI;have ax:d = .map dQ eV:=by rw [br] at al;cases d<;>simp [ev] at al;rw [al.1,al.2]
 subst ax;have aF:=aI.aJ ab;have kk:=aI.aJ ay;generalize ew:a.eval x=dP at aF;generalize fb:a.eval y=fU at kk;rw [← sw] at a6;have EZ:(zeroValue eV).run P w = .ok aG.zero w:=by simp [zeroValue,typeInfo,EX,EY]
 have tail:∀ cN:Array MapEntry,lx w p cN.toList es→∃ val,(do
   Instr.checkKey cN.isEmpty 10000 dQ fU
   let (v,QI) ← match ← Instr.findKey dQ fU cN.toList with
    | some (_,v)=>pure (v,true)
    | none=>do pure (← zeroValue eV,false)
   pure (if ok then .tuple #[v,.bool QI] else v):Sem Value).run P w = .ok val w∧Rel w p val (lB ok z r):=by
  intro cN zk;have j4:=QE kk a6 cN.toList es 0 r zk aw;simp only [Sem.run_bind,run_checkKey ir kk a6,Result.andThen_ok];cases r with
  | none=>
   simp only at j4;simp only [run_findKey ir j4,Result.andThen_ok,Sem.run_bind,EZ,Sem.run_pure,lB];cases ok
   ·exact ⟨_,rfl,p' bO⟩
   ·exact ⟨_,rfl,.cp _ _ (.cons _ _ _ _ (p' bO) (.cons _ _ _ _ (.bool _) .nil))⟩
  | some v=>
   obtain ⟨j,val,g1,g2⟩:=j4;simp only [run_findKey ir g1,Result.andThen_ok,Sem.run_pure,lB];cases ok
   ·exact ⟨_,rfl,g2⟩
   ·exact ⟨_,rfl,.cp _ _ (.cons _ _ _ _ g2 (.cons _ _ _ _ (.bool _) .nil))⟩
 have E0:∃ val,(Instr.lookup t dP fU ok).run P w = .ok val w∧Rel w p val (lB ok z r):=by
  unfold Instr.lookup;rcases hm with ⟨b,rfl,ar⟩|⟨rfl,rfl⟩
  ·cases aF
   obtain ⟨cN,clock,g1,g2,-⟩:=aI.wf.obj _ _ ar;obtain ⟨val,cO,eM⟩:=tail cN g2;refine ⟨val,?_,eM⟩;simp only [Sem.run_bind,run_underlying ad,Result.andThen_ok,xy g1 C,Sem.run_pure] at cO ⊢;exact cO
  ·cases aF
   obtain ⟨val,cO,eM⟩:=tail #[] ⟨.nil,.nil⟩;refine ⟨val,?_,eM⟩;simp only [Sem.run_bind,run_underlying ad,Result.andThen_ok,Sem.run_pure] at cO ⊢;exact cO
 obtain ⟨val,cO,eM⟩:=E0;refine ⟨val,w,s,p,_,?_,.refl w p,.refl s w p,aI.wf,⟨rfl,rfl⟩,eM⟩;unfold execOp;rw [ah];simp only [ew,fb];exact gR cO
theorem E1 {w:World} {p:bR} (cc:dm w p s) {b:Nat} {es:List (af×af)} (ar:s b=some (.map es)) {mes':Array MapEntry} {clock':Nat} {du:List (af×af)}
    (aF:lx w p mes'.toList du) (aq:∀ e∈mes'.toList,e.born<clock') (eF:(mes'.toList.map (·.born)).Nodup)
    (w':World) (iL:w'={ w with heap:=w.heap.setIfInBounds b (.map mes' clock') }) :
    dc w p w' p∧Kept s (s.set b (.map du)) w p w' p∧dm w' p (s.set b (.map du)):=by
  subst iL;obtain ⟨cN,clock,U,ad,al,bd⟩:=cc.obj _ _ ar;have au:b<w.heap.size:=(Array.getElem?_eq_some_iff.1 U).1;have dI:(w.heap.setIfInBounds b (.map mes' clock'))[b]? = some (.map mes' clock'):=by simp [getElem?_setIfInBounds,au]
  have hS:∀ k,k≠b→(w.heap.setIfInBounds b (.map mes' clock'))[k]? = w.heap[k]? := fun k aE=>by
    rw [getElem?_setIfInBounds,if_neg (fun e=>aE e.symm)]
  have hle:dc w p { w with heap:=w.heap.setIfInBounds b (.map mes' clock') } p:=by
    refine ⟨rfl,rfl,rfl,by simp,fun _ _ h=>h,fun aW o aD=>?_,fun aW x ab=>?_⟩
    · by_cases e:aW=b
      · subst e;simp only [World.cell?,U,dI]
      · exact xq (hS aW e)
    · by_cases e:aW=b
      · subst e;simp [World.kG,U] at ab
      · rw [xp (hS aW e)];exact ab
  refine ⟨hle,⟨fun aW aq az=>hS aW (fun e=>by rw [e,ar] at az;simp at az),fun aW aq az=>by
    rw [ao.fx]
    · exact az
    · intro e;rw [e,ar] at az;simp at az,fun _ _ _ _ h=>h⟩,?_,fun aW o aD=>by simpa using cc.lt aW o aD⟩
  intro aW o' nG;by_cases e:aW=b
  · subst e
    rw [ao.gk] at nG;cases nG;exact ⟨mes',clock',dI,⟨aF.1.mono hle,aF.2.mono hle⟩,aq,eF⟩
  · rw [ao.fx _ _ e] at nG
    have ah:=cc.obj aW o' nG;have cX:=hS aW e;cases o' with
    | box t c=>obtain ⟨us,g1,g2,g3⟩:=ah;exact ⟨us,cX.trans g1,g2.mono hle,g3⟩
    | row t sz n=>obtain ⟨cur,g1,g2,g3,g4⟩:=ah;exact ⟨cur,cX.trans g1,g2,g3,g4⟩
    | map es=>obtain ⟨cN,c,g1,g2,g3⟩:=ah;exact ⟨cN,c,cX.trans g1,⟨g2.1.mono hle,g2.2.mono hle⟩,g3⟩
    | k3 es it l c=>exact ah.p7 hle cX (hS it (ah.y5 U a'))
    | tick m=>obtain ⟨dW,a2,a3,g1⟩:=ah;exact ⟨dW,a2,a3,cX.trans g1⟩
    | loop r env=>exact ⟨cX.trans ah.1,fun t v h=>(ah.2 t v h).mono hle⟩
theorem QJ {t dQ eV:TypeId} {xz:TypeDesc} {b:Nat} {cN:Array MapEntry} {clock:Nat} {hK vv:Value} {k:af} {w:World} {p:bR}
  (ad:P.underlying t=some (.map dQ eV)) (ir:P.underlying dQ=some xz) (kk:Rel w p hK k) (a6:j3 (ev xz) k=true) (g1:w.heap[b]? = some (.map cN clock)) :
  (∀ (h:Instr.findNow xz hK cN.toList 0=some none),(Instr.mapUpdate t (.map (some b)) hK vv).run P w = .ok () { w with heap:=w.heap.setIfInBounds b (.map (cN.push { key:=hK,val:=vv,born:=clock }) (clock+1)) }) ∧
  (∀ j val e,Instr.findNow xz hK cN.toList 0=some (some (j,val))→cN[j]? = some e→Instr.sameBits 10000 e.key hK=true →
   (Instr.mapUpdate t (.map (some b)) hK vv).run P w = .ok () { w with heap:=w.heap.setIfInBounds b (.map (cN.modify j fun e=>{ e with key:=hK,val:=vv }) clock) }):=by
 constructor
 ·intro h
  unfold Instr.mapUpdate;simp only [Sem.run_bind,run_underlying ad,Result.andThen_ok,xy g1 C,run_checkKey ir kk a6,run_findKey ir h];simp [setObj,Sem.run,g1]
 ·intro j val e h he aq
  unfold Instr.mapUpdate;simp only [Sem.run_bind,run_underlying ad,Result.andThen_ok,xy g1 C,run_checkKey ir kk a6,run_findKey ir h];simp [Instr.keyThatStays,he,aq,setObj,Sem.run,g1]
theorem aZ.mapUpdate (aP:bQ P Γ) {o:Oper} {t dQ eV:TypeId} {x y z:Operand} {it gG:bM} {b:Nat} {es du:List (af×af)} {k v:af} (ah:o.op = .mapUpdate t x y z∨o.op = .insert t x y z)
    (aM:Γ.get? t=some it) (br:it.bF = .map dQ eV) (jk:Γ.get? dQ=some gG) (ab:aJ env x=some (.map b)) (ay:aJ env y=some k) (bO:aJ env z=some v)
    (ar:s b=some (.map es)) (a6:j3 gG.bF k=true) (aD:lA es k v=some du) {X:af→ao→Prop} :
    aZ P N o env s (fun _ aj=>aj=s.set b (.map du)) X:=by
  refine aZ.EV (by rcases ah with ah|ah<;>simp [gE,ah]) fun ro B a w p aI=>?_
  obtain ⟨info,d,U,ad,al,-⟩:=aP.parts aM;obtain ⟨QG,xz,l4,ir,sw,-⟩:=aP.parts jk;have ax:d = .map dQ eV:=by rw [br] at al;cases d<;>simp [ev] at al;rw [al.1,al.2]
  subst ax;rw [← sw] at a6;have aF:=aI.aJ ab;have kk:=aI.aJ ay;have E2:=aI.aJ bO;obtain ⟨cN,clock,g1,g2,g3,g4⟩:=aI.wf.obj _ _ ar;generalize ew:a.eval x=dP at aF;cases aF;obtain ⟨fp,gB⟩:=QJ (vv:=a.eval z) ad ir kk a6 g1;have cO:∀ w',(Instr.mapUpdate t (.map (some b)) (a.eval y) (a.eval z)).run P w = .ok () w'→(execOp a.eval o).run P w = .ok .skip w':=by
    intro w' hw;unfold execOp;rcases ah with ah|ah<;>rw [ah]<;>simp only [ew]<;>simp only [Sem.run_bind,hw,Result.andThen_ok,Sem.run_pure]
  rcases QF kk E2 a6 cN.toList es du 0 g2 aD with ⟨ef,di⟩|⟨j,val,e,ef,di,dL,mw⟩
  · obtain ⟨cD,dh,fa⟩:=E1 aI.wf ar (mes':=cN.push { key:=a.eval y,val:=a.eval z,born:=clock }) (clock':=clock+1) (by simpa using di clock)
      (by intro e he;simp only [Array.toList_push,mem_append,List.mem_singleton] at he;rcases he with he|rfl;have:=g3 e he;omega;simp)
      (by
        simp only [Array.toList_push,List.map_append,map_cons,map_nil]
        rw [List.nodup_append]
        refine ⟨g4,by simp,?_⟩
        intro x ab y ay e
        simp only [List.mem_singleton] at ay
        obtain ⟨m,hm,rfl⟩:=mem_map.1 ab
        have:=g3 m hm
        omega) _ C
    exact ⟨_,_,p,cO _ (fp ef),cD,dh,fa,rfl⟩
  · rw [zero_add] at ef
    have vl:((cN.modify j fun e=>{ e with key:=a.eval y,val:=a.eval z }).toList.map (·.born))=cN.toList.map (·.born):=by
      rw [Array.toList_modify];apply List.ext_getElem?;intro n;simp only [List.getElem?_map,List.getElem?_modify];split
      · cases cN.toList[n]? <;> rfl
      · cases cN.toList[n]? <;> rfl
    obtain ⟨cD,dh,fa⟩:=E1 aI.wf ar (mes':=cN.modify j fun e=>{ e with key:=a.eval y,val:=a.eval z }) (clock':=clock) (by simpa using mw)
      (by
        intro e he
        have:e.born∈((cN.modify j fun e=>{ e with key:=a.eval y,val:=a.eval z }).toList.map (·.born)):=mem_map.2 ⟨e,he,rfl⟩
        rw [vl] at this
        obtain ⟨e',u6,aq⟩:=mem_map.1 this
        rw [← aq];exact g3 e' u6)
      (by rw [vl];exact g4) _ C
    exact ⟨_,_,p,cO _ (gB j val e ef (by simpa using di) dL),cD,dh,fa,rfl⟩
theorem aZ.makeMap {o:Oper} {t:TypeId} (ah:o.op = .makeMap t none) {X:af→ao→Prop}:aZ P N o env s (fun x aj=>∃ b,s b=none∧x = .map b∧aj=s.set b (.map [])) X:=by
 refine aZ.ki (by simp [gE,ah]) fun ro B a w p aI=>?_
 obtain ⟨az,hle,aE,cc⟩:=rb aI.wf (.map #[] 0) (.map []) (fun w' iL aF hc=>⟨#[],0,iL,⟨.nil,.nil⟩,by simp,by simp⟩);refine ⟨.map (some w.heap.size),_,_,p,_,?_,hle,aE,cc,⟨w.heap.size,az,rfl,rfl⟩,.map _⟩;unfold execOp;rw [ah];exact gR C
end
theorem vm {vs:List Value} {sz:Nat} (h:∀ v∈vs,v.cells.size=sz):(flat vs).length=vs.length*sz:=by
 induction vs with
 | nil=>simp [flat]
 | cons v vs a1=>
  have eT:=a1 (fun u hu=>h u (mem_cons_of_mem _ hu));simp only [flat,flatMap_cons,length_append,length_toList,length_cons] at eT ⊢;rw [h v (mem_cons_self ..)];have QK:(List.flatMap (fun v=>v.cells.toList) vs).length=vs.length*sz:=eT;rw [QK,add_mul];omega
theorem E3 (vs us:List Value):flat (vs++us)=flat vs++flat us:=by simp [flat,List.flatMap_append]
theorem QL {w:World} {p:bR} {s:ao} (cc:dm w p s) {vs:List Value} {xs:List af} {sz cap:Nat} {e:TypeId} {cur:Array Value} (aF:bG w p vs xs)
    (ar:∀ v∈vs,v.cells.size=sz) (ow:cur.size=cap*sz) (vn:cur.toList.take (xs.length*sz)=flat vs) (kl:xs.length≤cap) (hm:xs.length≤9223372036854775807) :
    ∃ bj,s w.heap.size=none∧dc w p (w.drew.alloc (.cells cur e)) bj∧Kept s (s.set w.heap.size (.row e sz xs.length)) w p (w.drew.alloc (.cells cur e)) bj ∧
      dm (w.drew.alloc (.cells cur e)) bj (s.set w.heap.size (.row e sz xs.length))∧Rel (w.drew.alloc (.cells cur e)) bj (.slice (some ⟨w.heap.size,0,none⟩) xs.length cap) (.aA sz xs (.own w.heap.size)):=by
  have az:s w.heap.size=none:=by
    cases h:s w.heap.size with
    | none=>rfl
    | some o'=>exact absurd (cc.obj _ _ h).lt ag
  let bj:bR:=fun b o=>p b o∨(b=w.heap.size∧o<xs.length*sz)
  have ox:(w.drew.alloc (.cells cur e)).heap[w.heap.size]? = some (.cells cur e):=tF w.drew _;have hold:∀ b,b<w.heap.size→(w.drew.alloc (.cells cur e)).heap[b]? = w.heap[b]? := fun b aq=>l3 w.drew _ b aq
  have hle:dc w p (w.drew.alloc (.cells cur e)) bj:=dc.of_heap C C C a' (fun _ _ h => .inl h) cc.lt hold;have hlen:=vm ar;have hmul:xs.length*sz≤cap*sz:=Nat.mul_le_mul_right _ kl;refine ⟨bj,az,hle,⟨fun b aq _=>hold b aq,fun b aq ar=>by rw [ao.fx _ _ ag];exact ar,fun b o aq _ aD=>by rcases aD with aD|⟨rfl,_⟩;exact aD;omega⟩,?_,?_⟩
  · have aw:dm (w.drew.alloc (.cells cur e)) bj s:=cc.grow hle hold (fun b o aq aD=>by rcases aD with aD|⟨rfl,_⟩;exact aD;omega) (fun b o aD=>by
      rcases aD with aD|⟨rfl,_⟩
      · have:=cc.lt b o aD;simp;omega
      · simp)
    refine ⟨fun b o aq=>?_,aw.lt⟩;by_cases e':b=w.heap.size
    · subst e'
      rw [ao.gk] at aq;cases aq;refine ⟨cur,ox,by omega,⟨cap,ow⟩,fun o=>⟨fun aD=>?_,fun ah => .inr ⟨rfl,ah⟩⟩⟩;rcases aD with aD|⟨_,ah⟩
      · exact absurd (cc.lt _ _ aD) ag
      · exact ah
    · rw [ao.fx _ _ e'] at aq;exact aw.obj b o aq
  · refine .aA _ 0 _ _ _ vs _ _ a' rfl ?_ (aF.mono hle) ar hm kl (fun h=>by cases h) (fun b aq=>?_)
    · intro i v av
      have aQ:i<xs.length*sz:=by
        have:=(List.getElem?_eq_some_iff.1 av).1;rw [hlen,aF.length] at this;exact this
      refine ⟨.inr ⟨rfl,by omega⟩,?_⟩;rw [zero_add,jB ox];rw [← vn,getElem?_take,if_pos aQ] at av;simpa using av
    · cases aq
      exact ⟨rfl,rfl,e,by simp only [World.kG,ox,ow]⟩
theorem QM {w:World} {p:bR} {s:ao} (cc:dm w p s) {b:Nat} {e:TypeId} {sz n cap:Nat} (vo:s b=some (.row e sz n)) {cur:Array Value} (jz:w.heap[b]? = some (.cells cur e (0,0)))
  (ow:cur.size=cap*sz) {vs us:List Value} {xs ys:List af} (az:n=xs.length) (aF:bG w p vs xs) (hu:bG w p us ys) (ar:∀ v∈vs,v.cells.size=sz) (kK:∀ v∈us,v.cells.size=sz)
  (vn:cur.toList.take (n*sz)=flat vs) (kl:n+us.length≤cap) (hm:n+us.length≤9223372036854775807) :
  ∃ bj,dc w p (w.setRow b (cur.toList.take (n*sz)++flat us++cur.toList.drop (n*sz+(flat us).length)).toArray) bj ∧
   Kept s ((s.del b).set b (.row e sz (n+us.length))) w p (w.setRow b (cur.toList.take (n*sz)++flat us++cur.toList.drop (n*sz+(flat us).length)).toArray) bj ∧
   dm (w.setRow b (cur.toList.take (n*sz)++flat us++cur.toList.drop (n*sz+(flat us).length)).toArray) bj ((s.del b).set b (.row e sz (n+us.length))) ∧
   Rel (w.setRow b (cur.toList.take (n*sz)++flat us++cur.toList.drop (n*sz+(flat us).length)).toArray) bj (.slice (some ⟨b,0,none⟩) (n+us.length) cap) (.aA sz (xs++ys) (.own b)):=by
 obtain ⟨aa1,U,ad,al,bd⟩:=cc.obj _ _ vo;rw [jz] at U;cases U;have km:=vm kK;have fw:=vm ar;have hmul:n*sz+us.length*sz≤cap*sz:=by rw [← add_mul];exact Nat.mul_le_mul_right _ kl
 generalize zl:(cur.toList.take (n*sz)++flat us++cur.toList.drop (n*sz+(flat us).length)).toArray=new;have nH:new.toList=cur.toList.take (n*sz)++flat us++cur.toList.drop (n*sz+(flat us).length):=by rw [← zl]
 have cv:cur.toList.length=cap*sz:=by rw [length_toList,ow]
 have B9:new.size=cur.size:=by rw [← length_toList,nH];simp only [length_append,length_take,List.length_drop,km,cv,ow];omega
 have au:b<w.heap.size:=(Array.getElem?_eq_some_iff.1 jz).1;have dI:=setRow_heap w b cur new e (0,0) jz;have hS:∀ k,k≠b→(w.setRow b new).heap[k]? = w.heap[k]? := fun k aE=>setRow_other w b k new aE
 have pc:∀ o,o<n*sz→new[o]? = cur[o]? := fun o ah=>by
  have:new.toList[o]? = cur.toList[o]?:=by
   rw [nH,List.append_assoc,List.getElem?_append_left xk,getElem?_take,if_pos ah]
  simpa using this
 let bj:bR:=fun aW o=>p aW o∨(aW=b∧o<(n+us.length)*sz)
 have hle:dc w p (w.setRow b new) bj:=by
  refine ⟨rfl,rfl,rfl,by simp,fun _ _ h => .inl h,fun aW o aD=>?_,fun aW x ab=>?_⟩
  ·by_cases e':aW=b
   ·subst e'
    rw [jB dI,jB jz];exact pc o ((bd o).1 aD)
   ·exact xq (hS aW e')
  ·by_cases e':aW=b
   ·subst e'
    simp only [World.kG,jz,dI] at ab ⊢;rw [B9];exact ab
   ·rw [xp (hS aW e')];exact ab
 refine ⟨bj,hle,⟨fun aW aq az=>hS aW (fun e'=>by rw [e',vo] at az;simp at az),fun aW aq az=>?_,fun aW o aq az aD=>?_⟩,⟨fun aW o' nG=>?_,fun aW o aD=>?_⟩,?_⟩
 ·have cP:aW≠b:=fun e'=>by rw [e',vo] at az;simp at az
  rw [ao.fx _ _ cP,ao.mv _ cP];exact az
 ·rcases aD with aD|⟨e',_⟩
  ·exact aD
  ·rw [e',vo] at az;simp at az
 ·by_cases e':aW=b
  ·subst e'
   rw [ao.gk] at nG;cases nG;refine ⟨new,dI,by rw [B9,ow,add_mul];omega,⟨cap,by rw [B9,ow]⟩,fun o=>⟨fun aD=>?_,fun ah => .inr ⟨rfl,ah⟩⟩⟩;rcases aD with aD|⟨_,ah⟩
   ·have:=(bd o).1 aD;rw [add_mul];omega
   ·exact ah
  ·rw [ao.fx _ _ e',ao.mv _ e'] at nG
   have ah:=cc.obj aW o' nG;have cX:=hS aW e';have Jk:∀ o,bj aW o↔p aW o:=fun o=>⟨fun aD=>by rcases aD with aD|⟨QN,_⟩;exact aD;exact absurd QN e',.inl⟩
   cases o' with
   | box t c=>obtain ⟨us,g1,g2,g3⟩:=ah;exact ⟨us,cX.trans g1,g2.mono hle,fun o aD=>g3 o ((Jk o).1 aD)⟩
   | row t sz n=>obtain ⟨cur,g1,g2,g3,g4⟩:=ah;exact ⟨cur,cX.trans g1,g2,g3,fun o=>(Jk o).trans (g4 o)⟩
   | map es=>obtain ⟨cN,c,g1,g2,g3⟩:=ah;exact ⟨cN,c,cX.trans g1,⟨g2.1.mono hle,g2.2.mono hle⟩,g3⟩
   | k3 es it l c=>exact ah.p7 hle cX (hS it (ah.y5 jz a'))
   | tick m=>obtain ⟨dW,a2,a3,g1⟩:=ah;exact ⟨dW,a2,a3,cX.trans g1⟩
   | loop r env=>exact ⟨cX.trans ah.1,fun t v h=>(ah.2 t v h).mono hle⟩
 ·rcases aD with aD|⟨rfl,_⟩
  ·simpa using cc.lt aW o aD
  ·simpa using au
 ·have fc:(xs++ys).length=n+us.length:=by rw [length_append,az,hu.length]
  refine .aA _ 0 _ _ _ (vs++us) _ _ a' fc.symm ?_ ((aF.append hu).mono hle) (fun v av=>?_) hm kl (fun h=>by cases h) (fun vp ra=>?_)
  ·intro i v av
   have kh:flat (vs++us)=new.toList.take ((n+us.length)*sz):=by
    rw [E3,nH,← vn,add_mul,← km];have:n*sz+(flat us).length=(cur.toList.take (n*sz)++flat us).length:=by rw [length_append,length_take,cv];omega
    rw [this,List.take_left]
   have aQ:i<(n+us.length)*sz:=by
    have:=(List.getElem?_eq_some_iff.1 av).1;rw [kh,length_take] at this;omega
   refine ⟨.inr ⟨rfl,by omega⟩,?_⟩;rw [zero_add,jB dI];rw [kh,getElem?_take,if_pos aQ] at av;simpa using av
  ·rcases mem_append.1 av with av|av
   ·exact ar v av
   ·exact kK v av
  ·cases ra
   exact ⟨rfl,rfl,e,by simp only [World.kG,dI,B9,ow]⟩
section
variable {P:Program} {Γ:cw} {N:Nat} {env:Env} {s:ao}
theorem B' {t bH ty e:TypeId} {c3:TypeDesc} {i:TypeInfo} (w:World) (aM:P.underlying t=some (.slice e)) (cV:P.underlying bH=some c3) (cl:∀ k,c3 ≠ .int k) (aQ:P.info? e=some i)
  (g sLen sCap:Nat) (cur:Array Value) (aw:w.heap[g]? = some (.cells cur e (0,0))) {xv:Value} {m:Nat} {news:List Value}
  (aB:(Builtin.lenOf xv).run P w = .ok m w) (a6:(Builtin.firstCells i.size m xv).run P w = .ok news.toArray w) (U:∀ u∈news,u.oneCell'=true)
  (QO:sLen+m≤sCap) (fy:sLen*i.size+news.length≤cur.size) :
  (Builtin.append_ #[t,bH] ty #[.slice (some ⟨g,0,none⟩) sLen sCap,xv]).run P w =
   .ok (.slice (some ⟨g,0,none⟩) (sLen+m) sCap) (w.setRow g (cur.toList.take (sLen*i.size)++news++cur.toList.drop (sLen*i.size+news.length)).toArray):=by
 have aI:=run_storeCells_at P g (sLen*i.size) e news 0 cur w aw (by simpa using fy) U;simp only [add_zero] at aI;have bO:(match c3 with | .int _=>true|_=>false)=false:=by cases c3<;>first|rfl|exact absurd C (cl _)
 simp [Builtin.append_,run_underlying aM,run_underlying cV,sizeOf,typeInfo,aQ,bO,aB,QO,a6,Addr.add_lit,aI]
theorem zm {t bH ty e:TypeId} {c3:TypeDesc} {i:TypeInfo} {z:Value} (w:World) (aM:P.underlying t=some (.slice e)) (cV:P.underlying bH=some c3) (cl:∀ k,c3 ≠ .int k) (aQ:P.info? e=some i) (bO:i.zero=some z)
  {base:Option Addr} {sLen sCap:Nat} {xv:Value} {m:Nat} {olds news:List Value}
  (aB:(Builtin.lenOf xv).run P w = .ok m w) (pd:(Builtin.firstCells i.size sLen (.slice base sLen sCap)).run P w.drew = .ok olds.toArray w.drew) (a6:(Builtin.firstCells i.size m xv).run P w.drew = .ok news.toArray w.drew)
  (aw:sCap<sLen+m) (ei:((sLen+m:Nat):Int)≤9223372036854775807) (fy:Builtin.nextslicecap (sLen+m) sCap*i.bytes≤281474976710656) :
  (Builtin.append_ #[t,bH] ty #[.slice base sLen sCap,xv]).run P w =
   .ok (.slice (some ⟨w.heap.size,0,none⟩) (sLen+m) (grownCap w (sLen+m) sCap e))
    (w.drew.alloc (.cells (olds++news++(Builtin.zeroCells z.cells (grownCap w (sLen+m) sCap e-(sLen+m))).toList).toArray e)):=by
 have az:¬ (sLen+m≤sCap):=by omega
 have QP:¬ (9223372036854775807<((sLen:Int)+(m:Int))):=by omega
 have QQ:¬ (281474976710656<Builtin.nextslicecap (sLen+m) sCap*i.bytes):=by omega
 have sx:(match c3 with | .int _=>true|_=>false)=false:=by cases c3<;>first|rfl|exact absurd C (cl _)
 simp [Builtin.append_,run_underlying aM,run_underlying cV,sizeOf,typeInfo,zeroValue,aQ,bO,sx,aB,az,QP,QQ,Question.forced,a6,pd,newRow,grownCap];congr 2;apply ext';simp [List.append_assoc]
def j5 (sz:Nat) (x:af):Bool:=match cellsOf x with
 | some cs=>Nat.beq cs.length sz&&cs.all e7
 | none=>false
theorem QR {w:World} {p:bR} {sz:Nat}:∀ {vs:List Value} {xs:List af},bG w p vs xs→(∀ x∈xs,j5 sz x=true)→∀ u∈flat vs,u.oneCell'=true:=by
 intro vs
 induction vs with
 | nil=>intro xs _ _ u hu;simp [flat] at hu
 | cons v vs a1=>
  intro xs h ab u hu;cases h with
  | cons _ x _ xs aF aM=>
  simp only [flat,flatMap_cons,mem_append] at hu;rcases hu with hu|hu
  ·have:=ab x (mem_cons_self ..)
   unfold j5 at this;split at this
   ·rename_i cs hy
    simp only [and_eq_true] at this;exact qb (p8 aF hy) this.2 u hu
   ·cases this
  ·exact a1 aM (fun y ay=>ab y (mem_cons_of_mem _ ay)) u hu
theorem qd {w:World} {p:bR} {v:Value} {sz sz':Nat} {xs:List af} {own:bL} (h:Rel w p v (.aA sz xs own)) (b':xs=[]∨sz=sz') :
  ∃ vs,bG w p vs xs∧(∀ u∈vs,u.cells.size=sz')∧(∀ P,(Builtin.lenOf v).run P w = .ok xs.length w) ∧
   (∀ P (w':World),(∀ b o,p b o→w'.cell? ⟨b,o,none⟩=w.cell? ⟨b,o,none⟩)→(Builtin.firstCells sz' xs.length v).run P w' = .ok (flat vs).toArray w') ∧
   ∃ base cap,v = .slice base xs.length cap:=by
 cases h with
 | hR _ _ _=>exact ⟨[],.nil,by simp,fun P=>rfl,fun P w' _=>rfl,_,_,rfl⟩
 | im a _ _ _=>exact ⟨[],.nil,by simp,fun P=>rfl,fun P w' _=>run_firstCells_some w' sz' 0 a _ _ [] a' a',_,_,rfl⟩
 | aA g off n cap _ vs _ _ az aB aC aF ar hm aE cv ah=>
  have vq:∀ u∈vs,u.cells.size=sz':=by
   rcases b' with rfl|rfl
   ·have:vs=[]:=eq_nil_of_length_eq_zero (by rw [aF.length];rfl)
    subst this;simp
   ·exact ar
  subst aB;refine ⟨vs,aF,vq,fun P=>rfl,fun P w' iL=>?_,_,_,rfl⟩;refine run_firstCells_some w' sz' xs.length ⟨g,off,none⟩ _ _ (flat vs) (by rw [vm vq,aF.length]) ?_;intro j u hu;obtain ⟨U,ad⟩:=aC j u hu;rw [k5,iL _ _ U];exact ad
theorem aZ.append (aP:bQ P Γ) {o:Oper} {t bH e:TypeId} {x y:Operand} {it ct aG:bM} {dR bU:Nat} {xs ys:List af} {re dj:bL}
    (ah:o.op = .call { callee := .builtin .append,args := #[x,y],argTypes := #[t,bH] }) (aM:Γ.get? t=some it) (br:it.bF = .aA e) (cV:Γ.get? bH=some ct) (dn:∀ k,ct.bF ≠ .int k)
    (bI:Γ.get? e=some aG) (ab:aJ env x=some (.aA dR xs re)) (ay:aJ env y=some (.aA bU ys dj)) (hT:xs=[]∨dR=aG.size) (c8:ys=[]∨bU=aG.size)
    (dO:Nat.beq aG.zero.cells.size aG.size=true) (dJ:∀ y∈ys,j5 aG.size y=true) (aq:(xs.length+ys.length)*aG.bytes≤140737488355328) (ei:xs.length+ys.length≤9223372036854775807)
    (zn:(re = .nil∨re = .clip)∨∃ b,re = .own b∧dR=aG.size∧s b=some (.row e aG.size xs.length)) {X:af→ao→Prop} :
    aZ P N o env s (fun r aj=>(ys=[]∧(re = .nil∨re = .clip)∧r = .aA aG.size xs re∧aj=s) ∨
      (∃ s₁,(s₁=s∨∃ b,re = .own b∧s₁=s.del b)∧∃ b,s₁ b=none∧r = .aA aG.size (xs++ys) (.own b)∧aj=s₁.set b (.row e aG.size (xs.length+ys.length)))) X:=by
  refine aZ.ki (by simp [gE,ah]) fun ro B a w p aI=>?_
  obtain ⟨info,d,U,ad,al,-⟩:=aP.parts aM;obtain ⟨mq,c3,g1,g2,g3,-⟩:=aP.parts cV;obtain ⟨jL,kj,cD,dh,fa,eD,jM,jl⟩:=aP.parts bI;have ax:d = .slice e:=by rw [br] at al;cases d<;>simp [ev] at al;rw [al]
  subst ax;have cl:∀ k,c3 ≠ .int k:=fun k e'=>by subst e';exact dn k g3.symm
  have ga:=aI.aJ ab;have fh:=aI.aJ ay;have eI:∀ val w',(Builtin.append_ #[t,bH] o.type #[a.eval x,a.eval y]).run P w = .ok val w'→(execOp a.eval o).run P w = .ok (.value val) w':=by
    intro val w' h;unfold execOp;rw [ah];simp only [resolve,invoke,builtin,Sem.run_bind,Sem.run_pure,Result.andThen_ok,map_toArray,map_cons,map_nil,h]
  generalize ew:a.eval x=dP at ga eI;generalize fb:a.eval y=fU at fh eI;obtain ⟨us,ic,pe,jN,j6,sy,sA,sB⟩:=qd fh c8;obtain ⟨vs,tN,mx,aa2,Jl,zo,pf,sC⟩:=qd ga hT;have iu:=QR ic dJ;have ot:=eq_of_beq_eq_true dO;have E4:=vm pe;have Jm:=vm mx;have my:=ic.length;have sD:=tN.length;have Jn:∀ s₁:ao,(s₁=s∨∃ b,re = .own b∧s₁=s.del b)→pf<xs.length+ys.length →
      ∃ val w' aj bj oq,(Builtin.append_ #[t,bH] o.type #[dP,fU]).run P w = .ok val w'∧dc w p w' bj∧Kept s aj w p w' bj∧dm w' bj aj ∧
        (∃ b,s₁ b=none∧oq = .aA aG.size (xs++ys) (.own b)∧aj=s₁.set b (.row e aG.size (xs.length+ys.length)))∧Rel w' bj val oq:=by
    intro s₁ vr au;have hH:ao.Sub s₁ s:=by
      rcases vr with rfl|⟨b,-,rfl⟩
      · exact ao.ou _
      · intro aW;by_cases e':aW=b
        · subst e';exact .inr (ao.m6 _ _)
        · exact .inl (ao.mv _ e')
    have fy:=growslice_fits (need:=xs.length+ys.length) (old:=pf) (bytes:=aG.bytes) au aq;have cO:=zm (ty:=o.type) w ad g2 cl cD jl (base:=zo) (sLen:=xs.length) (sCap:=pf) (m:=ys.length) (olds:=flat vs) (news:=flat us) (jN P)
      (by rw [← sC,eD];exact Jl P w.drew (fun _ _ _=>rfl)) (by rw [eD];exact j6 P w.drew (fun _ _ _=>rfl)) au ag (by rw [jM];exact fy)
    rw [← sC] at cO;have m7:=Nat.le_trans (show xs.length+ys.length≤xs.length+ys.length from le_refl _) (show xs.length+ys.length≤grownCap w (xs.length+ys.length) pf e from by simp [grownCap,Question.cut]);have m8:(Builtin.zeroCells aG.zero.cells (grownCap w (xs.length+ys.length) pf e-(xs.length+ys.length))).toList.length=(grownCap w (xs.length+ys.length) pf e-(xs.length+ys.length))*aG.zero.cells.size:=by
      rw [length_toList];simp [Builtin.zeroCells]
    rw [ot] at m8;have Ca:(xs++ys).length=xs.length+ys.length:=length_append;obtain ⟨bj,ef,di,dL,mw,sE⟩:=QL (s:=s₁) (aI.wf.sub hH) (vs:=vs++us) (xs:=xs++ys) (sz:=aG.size) (cap:=grownCap w (xs.length+ys.length) pf e) (e:=e)
      (cur:=(flat vs++flat us++(Builtin.zeroCells aG.zero.cells (grownCap w (xs.length+ys.length) pf e-(xs.length+ys.length))).toList).toArray) (tN.append ic)
      (fun v av=>by rcases mem_append.1 av with av|av;exact mx v av;exact pe v av)
      (by
        simp only [List.size_toArray,length_append,Jm,E4,m8,sD,my,← add_mul]
        congr 1;omega)
      (by
        have:(xs++ys).length*aG.size=(flat vs++flat us).length:=by rw [Ca,length_append,Jm,E4,sD,my,add_mul]
        rw [this,E3];simp only [List.take_left])
      (by rw [Ca];exact m7) (by rw [Ca];exact ei)
    rw [Ca] at dL mw sE;exact ⟨_,_,_,bj,_,cO,di,dL.xo hH,mw,⟨w.heap.size,ef,rfl,rfl⟩,sE⟩
  rcases zn with zn|⟨b,rfl,QS,vo⟩
  · by_cases au:pf<xs.length+ys.length
    · obtain ⟨val,w',aj,bj,oq,fp,gB,hp,iW,l5,l6⟩:=Jn s (.inl rfl) au
      exact ⟨val,w',aj,bj,oq,eI _ _ fp,gB,hp,iW,.inr ⟨s,.inl C,l5⟩,l6⟩
    ·
      have kl:pf=xs.length:=by
        cases ga with
        | hR=>simp at sC;omega
        | im=>simp at sC;omega
        | aA g off n cap _ vs' _ _ az aB aC aF ar hm aE cv ah=>
          simp only [Value.slice.injEq] at sC;rcases zn with rfl|rfl
          · exact absurd C az
          · rw [← sC.2.2,cv C,aB]
      have xu:ys=[]:=eq_nil_of_length_eq_zero ag;subst xu;have B6:us=[]:=eq_nil_of_length_eq_zero (by simpa using my);subst B6;refine ⟨dP,w,s,p,.aA aG.size xs re,eI _ _ ?_,.refl w p,.refl s w p,aI.wf,.inl ⟨rfl,zn,rfl,rfl⟩,?_⟩
      · have bO:(match c3 with | .int _=>true|_=>false)=false:=by cases c3<;>first|rfl|exact absurd C (cl _)
        have hle:xs.length≤pf:=by omega
        have pg:=j6 P w (fun _ _ _=>rfl);simp only [List.length_nil] at pg jN;have tO:=jN P;rw [sC];cases zo with
        | none=>simp [Builtin.append_,run_underlying ad,run_underlying g2,sizeOf,typeInfo,cD,bO,tO,eD,pg,hle,flat]
        | some abX=>simp [Builtin.append_,run_underlying ad,run_underlying g2,sizeOf,typeInfo,cD,bO,tO,eD,pg,hle,flat,storeCells]
      · rcases hT with rfl|rfl
        · cases ga with
          | hR _ _ h=>exact .hR _ _ h
          | im a _ _ h=>exact .im a _ _ h
          | aA g off n cap _ vs' _ _ az aB aC aF ar hm aE cv ah=>
            have:vs'=[]:=eq_nil_of_length_eq_zero (by rw [aF.length];rfl);subst this;exact .aA g off n cap _ [] _ _ az aB aC aF a' hm aE cv (fun b aq=>by rcases zn with rfl|rfl<;>cases aq)
        · exact ga
  · by_cases au:pf<xs.length+ys.length
    · obtain ⟨val,w',aj,bj,oq,fp,gB,hp,iW,l5,l6⟩:=Jn (s.del b) (.inr ⟨b,rfl,rfl⟩) au
      exact ⟨val,w',aj,bj,oq,eI _ _ fp,gB,hp,iW,.inr ⟨_,.inr ⟨b,rfl,rfl⟩,l5⟩,l6⟩
    · cases ga with
      | hR _ _ h=>exact absurd C (h b)
      | im _ _ _ h=>rcases h with h|h<;>cases h
      | aA g off n cap _ vs' _ _ az aB aC aF ar hm aE cv ah=>
        obtain ⟨rfl,rfl,e',Jo⟩:=ah b rfl;obtain ⟨cur,c4,dd,⟨cd,eZ⟩,ph⟩:=aI.wf.obj _ _ vo;simp only [Value.slice.injEq] at sC;obtain ⟨rfl,-,rfl⟩:=sC;have ow:cur.size=cap*dR:=by
          simp only [World.kG,c4] at Jo;simpa using congrArg Prod.snd (Option.some.inj Jo)
        have E5:cur.size=cap*aG.size:=by rw [← QS];exact ow
        have vn:cur.toList.take (xs.length*aG.size)=flat vs:=by
          have cg:=Jl P w (fun _ _ _=>rfl);have bY:=run_firstCells_some (P:=P) w aG.size xs.length ⟨b,0,none⟩ n cap (cur.toList.take (xs.length*aG.size))
            (by have cv:cur.toList.length=cap*aG.size:=by rw [length_toList,E5]
                rw [length_take,cv];have:=Nat.mul_le_mul_right aG.size (show xs.length≤cap by omega);omega)
            (fun j u hu=>by
              rw [k5,zero_add,jB c4]
              rw [getElem?_take] at hu
              split at hu
              · simpa using hu
              · cases hu)
          rw [bY] at cg;have:=Result.ok.inj cg;simpa using this.1
        have cO:=B' (ty:=o.type) w ad g2 cl cD b xs.length cap cur c4 (jN P) (by rw [eD];exact j6 P w (fun _ _ _=>rfl)) iu ag (by rw [eD,E4,E5,my,← add_mul];exact Nat.mul_le_mul_right _ ag);rw [eD] at cO;obtain ⟨bj,fp,gB,hp,iW⟩:=QM aI.wf vo c4 E5 rfl tN ic mx pe vn (by rw [my];omega) (by rw [my];exact ei);rw [my] at gB hp iW;subst aB;exact ⟨_,_,_,bj,_,eI _ _ cO,fp,gB,hp,.inr ⟨_,.inr ⟨_,rfl,rfl⟩,_,ao.m6 _ _,rfl,rfl⟩,iW⟩
end
inductive ey where
 | ret (v:af)
 | panic (v:af)
def QT (w:World) (p:bR):Ending→ey→Prop
 | .returned v,.ret x=>Rel w p v x
 | .panicked dB,.panic x=>∃ v,xm v dB∧Rel w p v x
 | _,_=>False
def vt (s:ao) (w:World) (p:bR) (R:ey→ao→Prop) (e:Ending) (w':World):Prop:=
 ∃ o aj bj,QT w' bj e o∧R o aj∧dc w p w' bj∧Kept s aj w p w' bj∧dm w' bj aj
def hL (P:Program) (fv:af) (args:List af) (s:ao) (R:ey→ao→Prop):Prop:=
 ∀ w p v vs,dm w p s→Rel w p v fv→bG w p vs args→o8 P ((do let d ← Deferred.ofValue v vs.toArray;invoke d.target d.args:Sem Next).run P w) (vt s w p R)
def sF (P:Program) (f:FuncId):Prop:=∀ args w,(callFunc f args).run P w = .ok (.enter f args) w
def hd (P:Program) (f:FuncId) (args:List af) (s:ao) (R:ey→ao→Prop):Prop:=
 sF P f∧∀ w p vs,dm w p s→bG w p vs args→sg P f vs.toArray w (vt s w p R)
theorem zp {P:Program} {f:FuncId} {fn:Func} (a6:P.funcs[f]? = some fn) (az:(fn.name == "runtime.NumGoroutine")=false) (aq:fn.body.isNone=false):sF P f:=by
 intro args w;unfold callFunc;simp only [Sem.run_bind,run_program,Result.andThen_ok,a6,az,aq,false_eq_true,if_false,Sem.run_pure]
theorem vt.mono {s:ao} {w:World} {p:bR} {R dt:ey→ao→Prop} (aF:∀ o s,R o s→dt o s) {e:Ending} {w':World} (h:vt s w p R e w'):vt s w p dt e w' :=
 let ⟨o,aj,bj,U,ad,al⟩:=h;⟨o,aj,bj,U,aF _ _ ad,al⟩
theorem hL.mono {P:Program} {fv:af} {args:List af} {s:ao} {R dt:ey→ao→Prop} (h:hL P fv args s R) (aF:∀ o s,R o s→dt o s):hL P fv args s dt :=
 fun w p v vs U ad al=>(h w p v vs U ad al).mono fun _ _ q=>q.mono aF
theorem hd.mono {P:Program} {f:FuncId} {args:List af} {s:ao} {R dt:ey→ao→Prop} (h:hd P f args s R) (aF:∀ o s,R o s→dt o s):hd P f args s dt :=
 ⟨h.1,fun w p vs U ad=>(h.2 w p vs U ad).mono fun _ _ q=>q.mono aF⟩
theorem hL.fk {P:Program} {f:FuncId} {first cap args:List af} {s:ao} {R:ey→ao→Prop} (h:hd P f (first++(args++cap)) s R):hL P (.func f first cap) args s R:=by
 intro w p v vs cc av eH;cases av with
 | func _ as cs _ _ a7 aC=>
 have cO:(do let d ← Deferred.ofValue (.func (.func f) as cs) vs.toArray;invoke d.target d.args:Sem Next).run P w = .ok (.enter f (as++vs.toArray++cs)) w:=by
  simp only [Deferred.ofValue,Sem.run_bind,Sem.run_pure,Result.andThen_ok,invoke];exact h.1 _ _
 rw [cO];have:=h.2 w p (as.toList++(vs++cs.toList)) cc (a7.append (eH.append aC));have e:(as.toList++(vs++cs.toList)).toArray=as++vs.toArray++cs:=by apply ext';simp
 rw [e] at this;exact this
section
variable {P:Program} {Γ:cw} {N:Nat} {env:Env} {s:ao}
theorem aZ.call {o:Oper} {g:Operand} {as:Array Operand} {c6:Array TypeId} {fv:af} {xs:List af} {R:ey→ao→Prop}
  (ah:o.op = .call { callee := .value g,args:=as,argTypes:=c6 }) (aw:aJ env g=some fv) (a7:fM env as.toList=some xs) (h:hL P fv xs s R) :
  aZ P N o env s (fun x aj=>R (.ret x) aj) (fun x aj=>R (.panic x) aj):=by
 refine ⟨by simp [gE,ah],fun ro B a w p aI=>?_⟩;have cO:=h w p (a.eval g) (as.toList.map a.eval) aI.wf (aI.aJ aw) (BW aI a7);have he:execOp a.eval o=(do let d ← Deferred.ofValue (a.eval g) (as.toList.map a.eval).toArray;invoke d.target d.args:Sem Next):=by
  unfold execOp;rw [ah];simp only [resolve];congr 1;congr 1;apply ext';simp
 rw [he];refine cO.mono ?_;rintro e w' ⟨out,aj,bj,U,ad,al,bd,bD⟩;refine ⟨aj,bj,al,bd,bD,?_⟩;cases e<;>cases out<;>first|exact U.elim|skip
 ·exact ⟨_,ad,U⟩
 ·obtain ⟨v,E6,E7⟩:=U;exact ⟨v,_,E6,ad,E7⟩
theorem fE.call {ops:Array Oper} {Q:b8→Env→ao→Prop} {i:Nat} {l:List Nat} {o:Oper} {d:Nat} {f:FuncId} {as:Array Operand} {c6:Array TypeId} {xs:List af} {R:ey→ao→Prop}
  (ah:ops[i]? = some o) (aw:guardOf ops env o=some true) (ax:o.dst=some d) (aU:Nat.blt d N=true) (b2:o.op = .call { callee := .value (.func f),args:=as,argTypes:=c6 })
  (a7:fM env as.toList=some xs) (h:hd P f xs s R) (aE:∀ x aj,R (.ret x) aj→fE P N ops l Q ((d,x)::env) aj) (ab:∀ x aj,R (.panic x) aj→Q (.panic x) env aj) :
  fE P N ops (i::l) Q env s:=
 fE.op ah aw ax aU (aZ.call b2 (fv := .func f [] []) C a7 (hL.fk fD)) aE ab
theorem fE.E8 {ops:Array Oper} {Q:b8→Env→ao→Prop} {i:Nat} {l:List Nat} {o:Oper} {d:Nat} {g:Operand} {fv:af} {as:Array Operand} {c6:Array TypeId} {xs:List af} {R:ey→ao→Prop}
  (ah:ops[i]? = some o) (aw:guardOf ops env o=some true) (ax:o.dst=some d) (aU:Nat.blt d N=true) (b2:o.op = .call { callee := .value g,args:=as,argTypes:=c6 })
  (av:aJ env g=some fv) (a7:fM env as.toList=some xs) (h:hL P fv xs s R) (aE:∀ x aj,R (.ret x) aj→fE P N ops l Q ((d,x)::env) aj) (ab:∀ x aj,R (.panic x) aj→Q (.panic x) env aj) :
  fE P N ops (i::l) Q env s:=
 fE.op ah aw ax aU (aZ.call b2 av a7 h) aE ab
def pj (P:Program) (t:TypeId) (name:String) (f:FuncId):Prop:=∀ v w,(method (P.types.size+Made.depth) t v name).run P w = .ok (f,v) w
theorem QU {P:Program} {t:TypeId} {name:String} {f:FuncId} {info:TypeInfo} {m:Method} {d:TypeDesc} (aQ:P.info? t=some info) (hm:info.methods.find? (·.name==name)=some m) (aD:m.path = #[])
  (a6:m.func=some (f,false)) (ax:P.underlying t=some d) (QV:∀ e,d ≠ .pointer e) (QW:∃ n,P.types.size+Made.depth=n+1):pj P t name f:=by
 intro v w;obtain ⟨n,az⟩:=QW;rw [az];unfold method;simp only [Sem.run_bind,typeInfo,run_program,Result.andThen_ok,aQ,Sem.run_pure,hm,aD,follow,a6,receiverAt,run_underlying ax];cases d<;>first|exact absurd C (QV _)|rfl
theorem QX {name:String} {cap args:Array Value}:Go.invoke (.fn (.method name) cap) args=(match args[0]? with
  | some recv=>callMethod recv name (args.extract 1 args.size)
  | none=>stuck "call: a method without a receiver"):=by
 cases h:args[0]? <;> simp [Go.invoke,h]
theorem aZ.invoke {o:Oper} {g:Operand} {name:String} {as:Array Operand} {c6:Array TypeId} {t:TypeId} {v:af} {f:FuncId} {xs:List af} {R:ey→ao→Prop}
  (ah:o.op = .call { callee := .invoke g name,args:=as,argTypes:=c6 }) (aw:aJ env g=some (.iface t v)) (a7:fM env as.toList=some xs) (hm:pj P t name f) (h:hd P f (v::xs) s R) :
  aZ P N o env s (fun x aj=>R (.ret x) aj) (fun x aj=>R (.panic x) aj):=by
 refine ⟨by simp [gE,ah],fun ro B a w p aI=>?_⟩;have l7:=aI.aJ aw;generalize QY:a.eval g=acn at l7;cases l7 with
 | iface _ val _ oy=>
 have cO:(execOp a.eval o).run P w = .ok (.enter f (#[val]++(as.map a.eval))) w:=by
  unfold execOp;rw [ah];have hex:(#[Value.iface t val]++as.map a.eval).extract 1 (#[Value.iface t val]++as.map a.eval).size=as.map a.eval:=by
   apply ext';simp [Array.toList_extract,List.take_of_length_le]
  have bt:(#[Value.iface t val]++as.map a.eval)[0]? = some (Value.iface t val):=by
   rw [Array.getElem?_append_left a'];rfl
  simp only [resolve,QY,Sem.run_bind,Sem.run_pure,Result.andThen_ok];rw [cU.QX,bt];simp only [hex,callMethod,Sem.run_bind,run_program,Result.andThen_ok,hm val w];exact h.1 _ _
 rw [cO];have:=h.2 w p (val::as.toList.map a.eval) aI.wf (.cons _ _ _ _ oy (BW aI a7));have e:(val::as.toList.map a.eval).toArray = #[val]++(as.map a.eval):=by apply ext';simp
 rw [e] at this;refine this.mono ?_;rintro e w' ⟨out,aj,bj,U,ad,al,bd,bD⟩;refine ⟨aj,bj,al,bd,bD,?_⟩;cases e<;>cases out<;>first|exact U.elim|skip
 ·exact ⟨_,ad,U⟩
 ·obtain ⟨v,E6,E7⟩:=U;exact ⟨v,_,E6,ad,E7⟩
theorem aZ.panic {o:Oper} {x:Operand} {t:TypeId} {v:af} (ah:o.op = .panic x) (ab:aJ env x=some (.iface t v)) {K:af→ao→Prop}:aZ P N o env s K (fun u aj=>u = .iface t v∧aj=s):=by
 refine ⟨by simp [gE,ah],fun ro B a w p aI=>?_⟩;have aF:=aI.aJ ab;generalize av:a.eval x=dP at aF;cases aF with
 | iface _ val _ oy=>
 have cO:(execOp a.eval o).run P w = .halt (.panic (.iface t val)) w:=by
  unfold execOp;rw [ah];simp only [av,Instr.panic,Sem.run_bind,run_goPanic,Result.andThen_halt]
 rw [cO];exact ⟨s,p,.refl w p,.refl s w p,aI.wf,_,_,xm.one _,⟨rfl,rfl⟩,.iface _ _ _ oy⟩
theorem Jp {sz:Nat}:∀ {vs:List Value} (_:∀ v∈vs,v.cells.size=sz) {j:Nat} {v:Value} (_:vs[j]? = some v) (k:Nat) {u:Value} (_:v.cells.toList[k]? = some u),(flat vs)[j*sz+k]? = some u:=by
 intro vs
 induction vs with
 | nil=>intro _ j v av;simp at av
 | cons x vs a1=>
  intro ar j v av k u hu;have ab:=ar x (mem_cons_self ..);simp only [flat,flatMap_cons];cases j with
  | zero=>
   simp at av;subst av;rw [Nat.zero_mul,zero_add,List.getElem?_append_left (List.getElem?_eq_some_iff.1 hu).1];exact hu
  | succ j=>
   have aB:x.cells.toList.length=sz:=by rw [length_toList,ab]
   have:=a1 (fun v av=>ar v (mem_cons_of_mem _ av)) (by simpa using av) k hu;rw [List.getElem?_append_right (by rw [aB,add_mul];omega),aB];have he:(j+1)*sz+k-sz=j*sz+k:=by rw [add_mul];omega
   rw [he];exact this
theorem aZ.idx (aP:bQ P Γ) {o:Oper} {t e:TypeId} {x y:Operand} {it aG:bM} {xs:List af} {own:bL} {k:IntKind} {i:Int} {j:Nat} {v:af} {cs:List af} (ah:o.op = .indexAddr t x y)
  (aM:Γ.get? t=some it) (br:it.bF = .aA e) (bI:Γ.get? e=some aG) (ab:aJ env x=some (.aA aG.size xs own)) (ay:aJ env y=some (.int k i)) (eK:i=(j:Int)) (aK:xs[j]? = some v)
  (aC:cellsOf v=some cs) {X:af→ao→Prop}:aZ P N o env s (fun r aj=>r = .bw cs 0∧aj=s) X:=by
 refine aZ.ki (by simp [gE,ah]) fun ro B a w p aI=>?_
 obtain ⟨info,d,U,ad,al,-⟩:=aP.parts aM;obtain ⟨jL,kj,cD,dh,fa,eD,-⟩:=aP.parts bI;have ax:d = .slice e:=by rw [br] at al;cases d<;>simp [ev] at al;rw [al]
 subst ax;have aF:=aI.aJ ab;have iX:=aI.aJ ay;generalize ew:a.eval x=dP at aF;generalize fb:a.eval y=fU at iX;cases iX;subst eK;have vu:j<xs.length:=(List.getElem?_eq_some_iff.1 aK).1;cases aF with
 | hR=>simp at aK
 | im=>simp at aK
 | aA g off n cap _ vs _ _ az aB cv hc ar hm aE Jq cC=>
 obtain ⟨u,hu,ze⟩:=hc.get aK;have m5:=p8 ze aC;refine ⟨.pointer (some ⟨g,off+j*aG.size,none⟩),w,s,p,_,?_,.refl w p,.refl s w p,aI.wf,⟨rfl,rfl⟩,.bw g (off+j*aG.size) _ 0 u.cells.toList cs C ?_ m5⟩
 ·unfold execOp
  rw [ah];simp only [ew,fb];refine gR ?_;have au:(0:Int)≤(j:Int)∧(j:Int)<(n:Int):=by omega
  simp [Instr.indexAt,asIntOf,run_underlying ad,au.2,sizeOf,typeInfo,cD,eD,k5];intro aV;omega
 ·intro i fu ov
  have:=cv (j*aG.size+i) fu (Jp ar hu i ov);rw [← add_assoc] at this;exact this
end
def vw (Γ:cw) (o:Oper) (env:Env):Option af:=
  match o.op with
  | .binOp .quo _ x (.const (.int k (.ofNat (n+1)))) _=>match aJ env x with
    | some (.int k' a)=>if k'=k then some (.int k (k.wrap (a.tdiv (ofNat (n+1))))) else none
    | _=>none
  | .binOp .rem _ x (.const (.int k (.ofNat (n+1)))) _=>match aJ env x with
    | some (.int k' a)=>if k'=k then some (.int k (a.tmod (ofNat (n+1)))) else none
    | _=>none
  | .convert s d x=>match Γ.get? s,Γ.get? d with
    | some ⟨.int _,_,_,_⟩,some ⟨.int k,_,_,_⟩=>match aJ env x with
      | some (.int _ n)=>some (.int k (k.wrap n))
      | _=>none
    | _,_=>none
  | .call { callee := .builtin .max,args,argTypes:=_ }=>match args.toList with
    | [x,y]=>match aJ env x,aJ env y with
      | some (.int k a),some (.int _ b)=>some (.int k (if b>a then b else a))
      | _,_=>none
    | _=>none
  | .call { callee := .builtin .min,args,argTypes:=_ }=>match args.toList with
    | [x,y]=>match aJ env x,aJ env y with
      | some (.int k a),some (.int _ b)=>some (.int k (if b<a then b else a))
      | _,_=>none
    | _=>none
  | _=>none
section
variable {P:Program} {Γ:cw} (aP:bQ P Γ) {N:Nat} {B:fL} {ro:Option Nat} {env:Env} {s:ao} {a:Act} {w:World} {p:bR} (aI:dw N B ro env s a w p)
theorem tP {o:Oper} {op:BinOp} {t yt:TypeId} {x y:Operand} {v:Value} {r:af} (ah:o.op = .binOp op t x y yt)
  (U:(eqGuard op t x y (a.eval x) (a.eval y)).run P w = .ok () w) (ad:(binOp op t (a.eval x) (a.eval y)).run P w = .ok v w) (aF:Rel w p v r):gQ P o a w p r:=by
 refine .same (val:=v) ?_ aF;unfold execOp;rw [ah];refine gR ?_;rw [Sem.run_bind,U,Result.andThen_ok,ad]
include aI
include aP
theorem QZ {o:Oper} {v:af} (h:vw Γ o env=some v):gQ P o a w p v:=by
 unfold vw at h;split at h
 ·rename_i t x k n yt ah
  split at h
  ·rename_i k' u ab
   split at h
   ·rename_i aE
    cases h;subst aE;have U:=aI.aJ ab;generalize av:a.eval x=dP at U;cases U;refine tP (v := .int k' (k'.wrap (u.tdiv (ofNat (n+1))))) ah ?_ ?_ (.int _ _)
    ·rfl
    ·rw [av]
     have az:¬ (ofNat (n+1)=0):=by simp;omega
     simp only [Act.eval,binOp,Op.intDiv,ne_eq,not_true_eq_false,if_false,az,Sem.run_pure]
   ·cases h
  ·cases h
 ·rename_i t x k n yt ah
  split at h
  ·rename_i k' u ab
   split at h
   ·rename_i aE
    cases h;subst aE;have U:=aI.aJ ab;generalize av:a.eval x=dP at U;cases U;refine tP (v := .int k' (u.tmod (ofNat (n+1)))) ah ?_ ?_ (.int _ _)
    ·rfl
    ·rw [av]
     have az:¬ (ofNat (n+1)=0):=by simp;omega
     simp only [Act.eval,binOp,Op.intDiv,ne_eq,not_true_eq_false,if_false,az,Sem.run_pure]
   ·cases h
  ·cases h
 ·rename_i jO d x ah
  split at h
  ·rename_i Jr dW a2 a3 k h3 dx m9 ar ax
   split at h
   ·rename_i cD n ab
    cases h;obtain ⟨info,d1,U,ad,al,-⟩:=aP.parts ar;obtain ⟨mq,Js,nD,nE,ve,-⟩:=aP.parts ax;have cg:Js = .int k:=by cases Js<;>simp [ev] at ve;rw [ve]
    have aF:=aI.aJ ab;generalize av:a.eval x=dP at aF;cases aF;refine .same (val := .int k (k.wrap n)) ?_ (.int _ _);unfold execOp;rw [ah];refine gR ?_;subst cg;rw [av];cases d1<;>simp [ev] at al
    simp [convert,run_underlying ad,run_underlying nE,Conv.intToInt]
   ·cases h
  ·cases h
 ·rename_i args gl ah
  split at h
  ·rename_i x y aB
   have vx:args = #[x,y]:=by apply ext';simpa using aB
   subst vx;split at h
   ·rename_i k u k' fu ab ay
    cases h;have U:=aI.aJ ab;have ad:=aI.aJ ay;generalize ew:a.eval x=dP at U;generalize fb:a.eval y=fU at ad;cases U;cases ad;refine .same (val := .int k (if fu>u then fu else u)) ?_ (.int _ _);unfold execOp;rw [ah];simp only [resolve,invoke,builtin,Sem.run_bind,Sem.run_pure,Result.andThen_ok,map_toArray,map_cons,map_nil,ew,fb,run_max_int2]
   ·cases h
  ·cases h
 ·rename_i args gl ah
  split at h
  ·rename_i x y aB
   have vx:args = #[x,y]:=by apply ext';simpa using aB
   subst vx;split at h
   ·rename_i k u k' fu ab ay
    cases h;have U:=aI.aJ ab;have ad:=aI.aJ ay;generalize ew:a.eval x=dP at U;generalize fb:a.eval y=fU at ad;cases U;cases ad;refine .same (val := .int k (if fu<u then fu else u)) ?_ (.int _ _);unfold execOp;rw [ah];simp only [resolve,invoke,builtin,Sem.run_bind,Sem.run_pure,Result.andThen_ok,map_toArray,map_cons,map_nil,ew,fb,run_min_int2]
   ·cases h
  ·cases h
 ·cases h
omit aI aP in
theorem Q0 {o:Oper} {v:af} (h:vw Γ o env=some v):gE o=true:=by
 unfold gE;cases ah:o.op<;>first|rfl|(unfold vw at h;rw [ah] at h;cases h)
omit aP in
theorem Q1 {o:Oper} {t yt:TypeId} {x y:Operand} {u v:List UInt8} (ah:o.op = .binOp .add t x y yt) (ab:aJ env x=some (.str u)) (ay:aJ env y=some (.str v)) (aB:u.length+v.length≤9223372036854775807) :
  gQ P o a w p (.str (u++v)):=by
 have U:=aI.aJ ab;have ad:=aI.aJ ay;generalize ew:a.eval x=dP at U;generalize fb:a.eval y=fU at ad;cases U with|str h3 _ cg=>cases ad with|str dx _ bY=>
 refine tP (v := .string (h3++dx)) ah ?_ ?_ ?_
 ·exact rfl
 ·rw [ew,fb]
  have ar:¬ ((h3.size+dx.size:Nat):Int)>IntKind.i64.max:=by
   have dW:h3.size=u.length:=by rw [← cg];simp
   have a2:dx.size=v.length:=by rw [← bY];simp
   have:IntKind.i64.max=9223372036854775807:=by decide
   rw [dW,a2,this];omega
  simp only [binOp,Op.stringOp,if_neg ar,Sem.run_pure]
 ·exact .str _ _ (by rw [← cg,← bY];simp [ByteArray.data_append])
theorem Q2 {o:Oper} {t e:TypeId} {x y:Operand} {it aG:bM} {sz:Nat} {xs:List af} {own:bL} {k:IntKind} {i:Int} {j:Nat} {v:af} {cs:List af} (ah:o.op = .indexAddr t x y)
  (aM:Γ.get? t=some it) (br:it.bF = .aA e) (bI:Γ.get? e=some aG) (ab:aJ env x=some (.aA sz xs own)) (b':sz=aG.size) (ay:aJ env y=some (.int k i)) (eK:i=(j:Int)) (aK:xs[j]? = some v)
  (aC:cellsOf v=some cs):gQ P o a w p (.bw cs 0):=by
 subst b';obtain ⟨info,d,U,ad,al,-⟩:=aP.parts aM;obtain ⟨jL,kj,cD,dh,fa,eD,-⟩:=aP.parts bI;have ax:d = .slice e:=by rw [br] at al;cases d<;>simp [ev] at al;rw [al]
 subst ax;have aF:=aI.aJ ab;have iX:=aI.aJ ay;generalize ew:a.eval x=dP at aF;generalize fb:a.eval y=fU at iX;cases iX;subst eK;have vu:j<xs.length:=(List.getElem?_eq_some_iff.1 aK).1;cases aF with
 | hR=>simp at aK
 | im=>simp at aK
 | aA g off n cap _ vs _ _ az aB cv hc ar hm aE Jq cC=>
 obtain ⟨u,hu,ze⟩:=hc.get aK;have m5:=p8 ze aC;refine .same (val := .pointer (some ⟨g,off+j*aG.size,none⟩)) ?_ (.bw g (off+j*aG.size) _ 0 u.cells.toList cs C ?_ m5)
 ·unfold execOp
  rw [ah];simp only [ew,fb];refine gR ?_;have au:(0:Int)≤(j:Int)∧(j:Int)<(n:Int):=by omega
  simp [Instr.indexAt,asIntOf,run_underlying ad,au.2,sizeOf,typeInfo,cD,eD,k5];intro aV;omega
 ·intro i fu ov
  have:=cv (j*aG.size+i) fu (Jp ar hu i ov);rw [← add_assoc] at this;exact this
theorem Q3 {o:Oper} {t:TypeId} {x y:Operand} {it:bM} {l:List UInt8} {k:IntKind} {i:Int} {j:Nat} {b:UInt8} (ah:o.op = .index t x y)
  (aM:Γ.get? t=some it) (br:it.bF = .str) (ab:aJ env x=some (.str l)) (ay:aJ env y=some (.int k i)) (eK:i=(j:Int)) (aK:l[j]? = some b) :
  gQ P o a w p (.int .u8 b.toNat):=by
 obtain ⟨info,d,U,ad,al,-⟩:=aP.parts aM;have ax:d = .string:=by rw [br] at al;cases d<;>simp [ev] at al;rfl
 subst ax;have aF:=aI.aJ ab;have iX:=aI.aJ ay;generalize ew:a.eval x=dP at aF;generalize fb:a.eval y=fU at iX;cases iX;subst eK;cases aF with
 | str mz _ e=>
 have aw:mz[j]? = some b:=by
  rw [← e] at aK;have:mz.data[j]? = some b:=by simpa using aK
  exact this
 refine .same (val := .int .u8 b.toNat) ?_ (.int _ _);unfold execOp;rw [ah];simp only [ew,fb];refine gR ?_;simp [Instr.index,asIntOf,run_underlying ad,aw]
omit aI aP in
theorem Q4 {sz:Nat}:∀ {vs:List Value} (_:∀ v∈vs,v.cells.size=sz) (l:Nat) (i:Nat),l≤vs.length→(flat (vs.drop l))[i]? = (flat vs)[l*sz+i]?:=by
 intro vs
 induction vs with
 | nil=>
  intro _ l i aB;have:l=0:=by simpa using aB
  subst this;simp
 | cons v vs a1=>
  intro ar l i aB;cases l with
  | zero=>simp
  | succ l=>
   have av:=ar v (mem_cons_self ..);rw [List.drop_succ_cons,a1 (fun v av=>ar v (mem_cons_of_mem _ av)) l i (by simpa using aB)];simp only [flat,flatMap_cons];rw [List.getElem?_append_right (by rw [length_toList,av,add_mul];omega),length_toList,av];congr 1;rw [add_mul];omega
omit aI aP in
theorem Q5 {vs:List Value} (h:Nat) {i:Nat} {u:Value} (hu:(flat (vs.take h))[i]? = some u):(flat vs)[i]? = some u:=by
 have:flat vs=flat (vs.take h)++flat (vs.drop h):=by rw [← E3,List.take_append_drop]
 rw [this,List.getElem?_append_left (List.getElem?_eq_some_iff.1 hu).1];exact hu
theorem Q6 {o:Oper} {t e:TypeId} {x:Operand} {gC aQ jm:Option Operand} {it aG:bM} {sz:Nat} {xs:List af} {own cQ:bL} {l h:Nat} (ah:o.op = .slice t x gC aQ jm)
  (aM:Γ.get? t=some it) (br:it.bF = .aA e) (bI:Γ.get? e=some aG) (ab:aJ env x=some (.aA sz xs own)) (b':xs=[]∨sz=aG.size)
  (iM:(gC=none∧l=0)∨∃ y k,gC=some y∧aJ env y=some (.int k (l:Int))) (qe:(aQ=none∧jm=none∧h=xs.length)∨∃ y k,aQ=some y∧aJ env y=some (.int k (h:Int)))
  (m':(jm=none∧cQ = .bb)∨(∃ y k,jm=some y∧aJ env y=some (.int k (h:Int))∧cQ = .clip)) (aB:l≤h) (cX:h≤xs.length):gQ P o a w p (.aA sz ((xs.take h).drop l) cQ):=by
 obtain ⟨info,d,U,ad,al,-⟩:=aP.parts aM;obtain ⟨jL,kj,cD,dh,fa,eD,-⟩:=aP.parts bI;have ax:d = .slice e:=by rw [br] at al;cases d<;>simp [ev] at al;rw [al]
 subst ax;have iY:∀ b,cQ ≠ .own b:=by rcases m' with ⟨-,rfl⟩|⟨_,_,-,-,rfl⟩<;>simp
 have tQ:cQ ≠ .nil:=by rcases m' with ⟨-,rfl⟩|⟨_,_,-,-,rfl⟩<;>simp
 have pk:∀ {y k} {n:Nat},aJ env y=some (.int k (n:Int))→a.eval y = .int k (n:Int):=fun he=>by
  have:=aI.aJ he;generalize a.eval _=v at this ⊢;cases this;rfl
 have Q7:∀ (cap:Nat),xs.length≤cap→∃ m,(Instr.sliceBounds true xs.length cap (gC.map a.eval) (aQ.map a.eval) (jm.map a.eval)).run P w = .ok (l,h,m) w∧h≤m∧m≤cap∧(cQ = .clip→m=h):=by
  intro cap kl;have az:∀ n:Nat,(0:Int)≤(n:Int):=fun n=>by omega
  have E9:(l:Int)≤(h:Int):=by omega
  have Cb:(h:Int)≤(cap:Int):=by omega
  rcases m' with ⟨rfl,rfl⟩|⟨acv,ach,rfl,zq,rfl⟩
  ·rcases qe with ⟨rfl,-,rfl⟩|⟨Q8,Q9,rfl,zr⟩
   ·refine ⟨cap,?_,kl,le_refl _,by simp⟩
    rcases iM with ⟨rfl,rfl⟩|⟨Jt,na,rfl,h5⟩
    ·simp [Instr.sliceBounds]
    ·simp [Instr.sliceBounds,pk h5,run_sliceBound,az,E9]
   ·refine ⟨cap,?_,by omega,le_refl _,by simp⟩
    rcases iM with ⟨rfl,rfl⟩|⟨Jt,na,rfl,h5⟩
    ·simp [Instr.sliceBounds,pk zr,run_sliceBound,az,Cb]
    ·simp [Instr.sliceBounds,pk zr,pk h5,run_sliceBound,az,E9,Cb]
  ·rcases qe with ⟨-,bt,-⟩|⟨Q8,Q9,rfl,zr⟩
   ·cases bt
   ·refine ⟨h,?_,le_refl _,by omega,fun _=>rfl⟩
    rcases iM with ⟨rfl,rfl⟩|⟨Jt,na,rfl,h5⟩
    ·simp [Instr.sliceBounds,pk zr,pk zq,run_sliceBound,az,Cb]
    ·simp [Instr.sliceBounds,pk zr,pk h5,pk zq,run_sliceBound,az,E9,Cb]
 have eI:∀ base cap val,a.eval x = .slice base xs.length cap→xs.length≤cap→(∀ m,h≤m→m≤cap→(cQ = .clip→m=h)→Rel w p (.slice (if m=l then base else base.map (·.add (l*aG.size))) (h-l) (m-l)) val)→gQ P o a w p val:=by
  intro base cap val ew kl eM;obtain ⟨m,aq,qf,l8,Q'⟩:=Q7 cap kl;refine .same ?_ (eM m qf l8 Q');unfold execOp;rw [ah];simp only [ew];refine gR ?_;simp only [Instr.sliceAt,Instr.slice,Sem.run_bind,run_underlying ad,Result.andThen_ok,aq,sizeOf,typeInfo,run_program,cD,Sem.run_pure,eD]
 have aF:=aI.aJ ab;generalize ew:a.eval x=dP at aF;cases aF with
 | hR _ _ _=>
  refine eI none 0 _ ew (le_refl _) (fun m U ad al=>?_);have cg:h=0:=by simpa using cX
  have bY:l=0:=by omega
  have eR:m=0:=by omega
  subst cg;subst bY;subst eR;simp only [if_true,List.take_nil,List.drop_nil];exact .hR _ _ iY
 | im a _ _ _=>
  refine eI (some a) 0 _ ew (le_refl _) (fun m U ad al=>?_);have cg:h=0:=by simpa using cX
  have bY:l=0:=by omega
  have eR:m=0:=by omega
  subst cg;subst bY;subst eR;simp only [if_true,List.take_nil,List.drop_nil];refine .im a _ _ ?_;cases cQ with
  | bb=>exact .inl C
  | clip=>exact .inr C
  | nil=>exact absurd C tQ
  | own b=>exact absurd C (iY b)
 | aA g off n cap _ vs _ _ az lC cv hc ar hm aE Jq cC=>
  subst lC;refine eI _ cap _ ew aE (fun m U ad al=>?_);have hlen:h-l=((xs.take h).drop l).length:=by simp;omega
  have fw:=hc.length;have Ra:∃ Cc,(if m=l then (some ⟨g,off,none⟩:Option Addr) else (some ⟨g,off,none⟩:Option Addr).map (·.add (l*aG.size)))=some ⟨g,Cc,none⟩∧(m≠l→Cc=off+l*aG.size):=by
   by_cases e:m=l
   ·exact ⟨off,by simp [e],fun h=>absurd e h⟩
   ·exact ⟨off+l*aG.size,by simp [e,k5],fun _=>rfl⟩
  obtain ⟨Cc,Rb,Rc⟩:=Ra;rw [Rb];refine .aA g Cc _ _ sz ((vs.take h).drop l) _ cQ tQ hlen ?_ ((hc.take h).drop l) (fun v av=>ar v (List.mem_of_mem_take (List.mem_of_mem_drop av))) ag ag (fun aC=>by have:=al aC;omega) (fun b aq=>absurd aq (iY b));intro i u hu;by_cases e:m=l
  ·have:(vs.take h).drop l=[]:=by apply List.drop_eq_nil_of_le;rw [length_take];omega
   rw [this] at hu;simp [flat] at hu
  ·rw [Rc e]
   have vq:∀ v∈vs.take h,v.cells.size=aG.size:=by
    rcases b' with rfl|rfl
    ·have:vs=[]:=eq_nil_of_length_eq_zero (by rw [fw];rfl)
     subst this;simp
    ·exact fun v av=>ar v (List.mem_of_mem_take av)
   rw [Q4 vq l i tA] at hu;have:=cv _ _ (Q5 h hu);rw [← add_assoc] at this;exact this
end
def nI (l:List UInt8):List af:=l.map fun b => .int .u8 b.toNat
theorem Ju (l:List UInt8):(nI l).length=l.length:=by simp [nI]
theorem Jv {w:World} {p:bR}:∀ (l:List UInt8),bG w p (l.map fun b=>Value.int .u8 b.toNat) (nI l)
 | [] => .nil
 | b::l => .cons _ _ _ _ (.int _ _) (Jv l)
theorem Jw {w:World} {p:bR}:∀ {l:List UInt8} {vs:List Value},bG w p vs (nI l)→vs=l.map fun b=>Value.int .u8 b.toNat
  | [],_,h=>by cases h;rfl
  | b::l,_,h=>by
    cases h with|cons v _ vs _ U ad=>
    cases U;rw [Jw ad];rfl
section
variable {P:Program} {Γ:cw} (aP:bQ P Γ) {N:Nat} {B:fL} {ro:Option Nat} {env:Env} {s:ao} {a:Act} {w:World} {p:bR} (aI:dw N B ro env s a w p)
include aI aP
omit aI aP in
theorem Jx:∀ (l:List UInt8),flat (l.map fun b=>Value.int .u8 b.toNat)=l.map fun b=>Value.int .u8 b.toNat:=by
 intro l
 induction l with
 | nil=>rfl
 | cons b l a1=>simp only [flat,map_cons,flatMap_cons,Value.cells] at a1 ⊢;rw [a1];rfl
theorem Re {o:Oper} {jO d e:TypeId} {x:Operand} {is id aG:bM} {sz:Nat} {l:List UInt8} {own:bL} (ah:o.op = .convert jO d x) (ar:Γ.get? jO=some is) (ax:Γ.get? d=some id) (kn:is.bF = .aA e) (nb:id.bF = .str)
  (he:Γ.get? e=some aG) (oz:aG.bF = .int .u8) (ab:aJ env x=some (.aA sz (nI l) own)):gQ P o a w p (.str l):=by
 obtain ⟨i1,d1,dW,a2,a3,-⟩:=aP.parts ar;obtain ⟨i2,d2,h3,dx,m9,-⟩:=aP.parts ax;obtain ⟨i3,d3,c4,dd,eZ,-⟩:=aP.parts he;have cg:d1 = .slice e:=by rw [kn] at a3;cases d1<;>simp [ev] at a3;rw [a3]
 have bY:d2 = .string:=by rw [nb] at m9;cases d2<;>simp [ev] at m9;rfl
 have eR:d3 = .int .u8:=by rw [oz] at eZ;cases d3<;>simp [ev] at eZ;rw [eZ]
 subst cg;subst bY;subst eR;have eI:∀ v,(convert jO d (a.eval x)).run P w = .ok v w→(execOp a.eval o).run P w = .ok (.value v) w:=fun v h=>by
  unfold execOp;rw [ah];exact gR h
 have aF:=aI.aJ ab;generalize av:a.eval x=dP at aF eI;generalize k1:nI l=Cd at aF;cases aF with
 | hR=>
  have aB:l=[]:=by cases l with|nil=>rfl|cons b l=>simp [nI] at k1
  subst aB;refine .same (val := .string ByteArray.empty) (eI _ ?_) (.str _ _ C);rw [run_convert_bytes_string w jO d e none 0 0 a2 dd dx];rfl
 | im c' _ _ _=>
  have aB:l=[]:=by cases l with|nil=>rfl|cons b l=>simp [nI] at k1
  subst aB;exact .same (val := .string ⟨#[]⟩) (eI _ (run_convert_bytes_back w jO d e c' 0 [] a2 dd dx (fun j aK=>by simp at aK))) (.str _ _ C)
 | aA g off n cap _ vs _ _ az aB aC hc b' hm aE cv cC=>
  subst k1;have eH:=Jw hc;subst eH;rw [Ju] at aB;subst aB;refine .same (val := .string ⟨l.toArray⟩) (eI _ ?_) (.str _ _ a');refine run_convert_bytes_back w jO d e ⟨g,off,none⟩ cap l a2 dd dx (fun j aK=>?_);rw [k5];refine (aC j _ ?_).2;rw [Jx];simp [List.getElem?_eq_getElem aK]
theorem Rf {o:Oper} {jO d e:TypeId} {x:Operand} {is id aG:bM} {l:List UInt8} (ah:o.op = .convert jO d x) (ar:Γ.get? jO=some is) (ax:Γ.get? d=some id) (kn:is.bF = .str) (nb:id.bF = .aA e)
  (he:Γ.get? e=some aG) (oz:aG.bF = .int .u8) (ab:aJ env x=some (.str l)) (E':l.length≤9223372036854775807):gQ P o a w p (.aA 1 (nI l) .bb):=by
 obtain ⟨i1,d1,dW,a2,a3,-⟩:=aP.parts ar;obtain ⟨i2,d2,h3,dx,m9,-⟩:=aP.parts ax;obtain ⟨i3,d3,c4,dd,eZ,-⟩:=aP.parts he;have cg:d1 = .string:=by rw [kn] at a3;cases d1<;>simp [ev] at a3;rfl
 have bY:d2 = .slice e:=by rw [nb] at m9;cases d2<;>simp [ev] at m9;rw [m9]
 have eR:d3 = .int .u8:=by rw [oz] at eZ;cases d3<;>simp [ev] at eZ;rw [eZ]
 subst cg;subst bY;subst eR;have aF:=aI.aJ ab;generalize av:a.eval x=dP at aF;cases aF with
 | str mz _ nc=>
 have b':mz.size=l.length:=by rw [← nc];simp
 have cO:=run_bytes_of_string (P:=P) w jO d e mz a2 dx dd;generalize kl:grownCap w mz.size 0 e=cap at cO;have m7:mz.size≤cap:=by rw [← kl];simp [grownCap,Question.cut]
 have jn:(bytesRow mz cap).toList=(l.map fun b=>Value.int .u8 b.toNat)++List.replicate (cap-mz.size) (.int .u8 0):=by
  simp [bytesRow,← nc]
 generalize Rg:Obj.cells (bytesRow mz cap) e ((bytesRow mz cap).size,(bytesRow mz cap).size+1)=dD at cO;have hle:dc w p (w.drew.alloc dD) (p.ee w.heap.size True):=dc.trans kJ (tG (w:=w.drew) (fun b o h=>aI.wf.lt b o h) dD True);refine ⟨.slice (some ⟨w.heap.size,0,none⟩) mz.size cap,_,_,?_,?_,hle,fun aj hz=>⟨?_,?_⟩⟩
 ·unfold execOp
  rw [ah];simp only [av];exact gR cO
 ·refine .aA w.heap.size 0 _ cap 1 (l.map fun b=>Value.int .u8 b.toNat) (nI l) .bb a' (by rw [Ju,b']) ?_ (Jv l) (by simp [Value.cells]) ag m7 a' a'
  rw [Jx];intro i v Jy;refine ⟨.inr ⟨rfl,trivial⟩,?_⟩;have cX:(w.drew.alloc dD).heap[w.heap.size]? = some dD:=tF w.drew dD;rw [← Rg] at cX ⊢;simp only [World.cell?,cX,Option.isSome_none,false_eq_true,if_false,zero_add];have:(bytesRow mz cap).toList[i]? = some v:=by
   rw [jn,List.getElem?_append_left (List.getElem?_eq_some_iff.1 Jy).1];exact Jy
  simpa using this
 ·exact Kept.trans (s₁:=aj) (w₁:=w.drew) (p₁:=p) (le_refl _) va (BO (w:=w.drew) dD True)
 ·exact y6 (w:=w.drew) (xr hz) dD True
end
inductive lD (Γ:cw) (o:Oper) (env:Env):af→Prop
 | a {v:af} (h:o9 Γ o env=some v):lD Γ o env v
 | x {v:af} (h:vw Γ o env=some v):lD Γ o env v
 | cat {t yt:TypeId} {x y:Operand} {u v:List UInt8} (ah:o.op = .binOp .add t x y yt) (ab:aJ env x=some (.str u)) (ay:aJ env y=some (.str v)) (aB:u.length+v.length≤9223372036854775807):lD Γ o env (.str (u++v))
 | toStr {jO d e:TypeId} {x:Operand} {is id aG:bM} {sz:Nat} {l:List UInt8} {own:bL} (ah:o.op = .convert jO d x) (ar:Γ.get? jO=some is) (ax:Γ.get? d=some id) (kn:is.bF = .aA e) (nb:id.bF = .str)
   (he:Γ.get? e=some aG) (oz:aG.bF = .int .u8) (ab:aJ env x=some (.aA sz (nI l) own)):lD Γ o env (.str l)
 | Ce {jO d e:TypeId} {x:Operand} {is id aG:bM} {l:List UInt8} (ah:o.op = .convert jO d x) (ar:Γ.get? jO=some is) (ax:Γ.get? d=some id) (kn:is.bF = .str) (nb:id.bF = .aA e)
   (he:Γ.get? e=some aG) (oz:aG.bF = .int .u8) (ab:aJ env x=some (.str l)) (E':l.length≤9223372036854775807):lD Γ o env (.aA 1 (nI l) .bb)
 | idx {t e:TypeId} {x y:Operand} {it aG:bM} {sz:Nat} {xs:List af} {own:bL} {k:IntKind} {i:Int} (j:Nat) {v:af} {cs:List af} (ah:o.op = .indexAddr t x y)
   (aM:Γ.get? t=some it) (br:it.bF = .aA e) (bI:Γ.get? e=some aG) (ab:aJ env x=some (.aA sz xs own)) (b':sz=aG.size) (ay:aJ env y=some (.int k i)) (eK:i=(j:Int)) (aK:xs[j]? = some v)
   (aC:cellsOf v=some cs):lD Γ o env (.bw cs 0)
 | zs {t:TypeId} {x y:Operand} {it:bM} {l:List UInt8} {k:IntKind} {i:Int} (j:Nat) {b:UInt8} (ah:o.op = .index t x y)
   (aM:Γ.get? t=some it) (br:it.bF = .str) (ab:aJ env x=some (.str l)) (ay:aJ env y=some (.int k i)) (eK:i=(j:Int)) (aK:l[j]? = some b):lD Γ o env (.int .u8 b.toNat)
 | slice {t e:TypeId} {x:Operand} {gC aQ jm:Option Operand} {it aG:bM} {sz:Nat} {xs:List af} {own cQ:bL} (l h:Nat) (ah:o.op = .slice t x gC aQ jm)
   (aM:Γ.get? t=some it) (br:it.bF = .aA e) (bI:Γ.get? e=some aG) (ab:aJ env x=some (.aA sz xs own)) (b':xs=[]∨sz=aG.size)
   (iM:(gC=none∧l=0)∨∃ y k,gC=some y∧aJ env y=some (.int k (l:Int))) (qe:(aQ=none∧jm=none∧h=xs.length)∨∃ y k,aQ=some y∧aJ env y=some (.int k (h:Int)))
   (m':(jm=none∧cQ = .bb)∨(∃ y k,jm=some y∧aJ env y=some (.int k (h:Int))∧cQ = .clip)) (aB:l≤h) (cX:h≤xs.length):lD Γ o env (.aA sz ((xs.take h).drop l) cQ)
theorem lD.ok {P:Program} {Γ:cw} (aP:bQ P Γ) {N:Nat} {B:fL} {ro:Option Nat} {env:Env} {s:ao} {a:Act} {w:World} {p:bR} (aI:dw N B ro env s a w p) {o:Oper} {v:af} (h:lD Γ o env v):gQ P o a w p v:=by
 cases h with
 | a h=>exact Jg aP aI h
 | x h=>exact QZ aP aI h
 | cat ah ab ay aB=>exact Q1 aI ah ab ay aB
 | toStr ah ar ax kn nb he oz ab=>exact Re aP aI ah ar ax kn nb he oz ab
 | Ce ah ar ax kn nb he oz ab aB=>exact Rf aP aI ah ar ax kn nb he oz ab aB
 | idx j ah aM br bI ab b' ay eK aK aC=>exact Q2 aP aI ah aM br bI ab b' ay eK aK aC
 | zs j ah aM br ab ay eK aK=>exact Q3 aP aI ah aM br ab ay eK aK
 | slice l h ah aM br bI ab b' iM qe m' aB cX=>exact Q6 aP aI ah aM br bI ab b' iM qe m' aB cX
theorem lD.gE {Γ:cw} {env:Env} {o:Oper} {v:af} (h:lD Γ o env v):cU.gE o=true:=by
 cases h with
 | a h=>exact Jh h
 | x h=>exact Q0 h
 | cat ah=>simp [cU.gE,ah]
 | toStr ah=>simp [cU.gE,ah]
 | Ce ah=>simp [cU.gE,ah]
 | idx j ah=>simp [cU.gE,ah]
 | zs j ah=>simp [cU.gE,ah]
 | slice l h ah=>simp [cU.gE,ah]
theorem aZ.pure {P:Program} {Γ:cw} (aP:bQ P Γ) {N:Nat} {env:Env} {s:ao} {o:Oper} {v:af} (h:lD Γ o env v):aZ P N o env s (fun x aj=>x=v∧aj=s) (fun _ _=>False):=
 aZ.m3 h.gE fun _ _ _ _ _ aI=>h.ok aP aI
def rf:Nat→List af→Env
 | _,[]=>[]
 | k,v::vs=>(k,v)::rf (k+1) vs
def zt (Γ:cw) (env:Env) (s:ao):ResultVar→Option af
  | .tmp t=>env.get? t
  | .cell a t=>match env.get? a,Γ.get? t with
    | some (.ptr b o),some i=>match s b with
      | some (.box _ cs)=>hI i cs o
      | _=>none
    | some (.bw cs o),some i=>hI i cs o
    | _,_=>none
def vy (Γ:cw) (env:Env) (s:ao):List ResultVar→Option (List af)
  | []=>some []
  | r::rs=>match zt Γ env s r with
    | some v=>match vy Γ env s rs with
      | some vs=>some (v::vs)
      | none=>none
    | none=>none
def nJ (Γ:cw) (env:Env) (s:ao) (rs:List ResultVar):Option af:=
 match vy Γ env s rs with
 | some [v]=>some v
 | some vs=>some (.cp vs)
 | none=>none
section
variable {P:Program} {Γ:cw}
theorem Rh (aP:bQ P Γ) {N:Nat} {B:fL} {ro:Option Nat} {env:Env} {s:ao} {a:Act} {w w':World} {p:bR} (aI:dw N B ro env s a w p)
  (hw:∀ b o v,w.cell? ⟨b,o,none⟩=some v→w'.cell? ⟨b,o,none⟩=some v) (jj:∀ v x,Rel w p v x→Rel w' p v x) {r:ResultVar} {v:af} (h:zt Γ env s r=some v) :
  ∃ val,((match r with
   | .tmp t=>pure (a.tmps.getD t undef)
   | .cell b t=>do loadVar t (← asAddr (a.tmps.getD b undef))):Sem Value).run P w' = .ok val w'∧Rel w' p val v:=by
 cases r with
 | tmp t=>exact ⟨_,rfl,jj _ _ (aI.env t v h)⟩
 | cell b t=>
  simp only [zt] at h;split at h
  ·rename_i aW o i aq aQ
   split at h
   ·rename_i T cs ar
    have aF:=aI.env b _ aq;generalize av:a.tmps.getD b undef=zo at aF;cases aF;obtain ⟨vs,U,ad,al⟩:=aI.wf.obj _ _ ar;have hc:bG w' p vs.toList cs:=by
     have:∀ us xs,bG w p us xs→bG w' p us xs:=by
      intro us
      induction us with
      | nil=>intro xs h;cases h;exact .nil
      | cons u us a1=>intro xs h;cases h with|cons _ x _ xs ab aM=>exact .cons _ _ _ _ (jj _ _ ab) (a1 _ aM)
     exact this _ _ ad
    obtain ⟨val,cO,eM⟩:=za aP aQ (b:=aW) (base:=0) (vs:=vs.toList) (w:=w') (fun j u hu=>by
     rw [zero_add];refine hw _ _ _ ?_;rw [jB U];simpa using hu) hc h
    rw [zero_add] at cO;exact ⟨val,by simp only [av,asAddr,Sem.run_bind,Sem.run_pure,Result.andThen_ok,cO],eM⟩
   ·cases h
  ·rename_i cs o i aq aQ
   have aF:=jj _ _ (aI.env b _ aq);generalize av:a.tmps.getD b undef=zo at aF;cases aF with
   | bw mz base tJ _ vs _ mu aC hc=>
   subst mu;obtain ⟨val,cO,eM⟩:=za aP aQ (b:=mz) (base:=base) (fun j u hu=>(aC j u hu).2) hc h;exact ⟨val,by simp only [av,asAddr,Sem.run_bind,Sem.run_pure,Result.andThen_ok,cO],eM⟩
  ·cases h
theorem Ri (aP:bQ P Γ) {N:Nat} {B:fL} {ro:Option Nat} {env:Env} {s:ao} {a:Act} {w w':World} {p:bR} (aI:dw N B ro env s a w p)
  (hw:∀ b o v,w.cell? ⟨b,o,none⟩=some v→w'.cell? ⟨b,o,none⟩=some v) (jj:∀ v x,Rel w p v x→Rel w' p v x):∀ {rs:List ResultVar} {xs:List af} (_:vy Γ env s rs=some xs),
  ∃ nd,(rs.mapM fun r=>((match r with
   | .tmp t=>pure (a.tmps.getD t undef)
   | .cell b t=>do loadVar t (← asAddr (a.tmps.getD b undef))):Sem Value)).run P w' = .ok nd w'∧bG w' p nd xs:=by
 intro rs
 induction rs with
 | nil=>intro xs h;cases h;exact ⟨[],by simp,.nil⟩
 | cons r rs a1=>
  intro xs h;simp only [vy] at h;split at h
  ·rename_i v av
   split at h
   ·rename_i vs eH
    cases h;obtain ⟨val,U,ad⟩:=Rh aP aI hw jj av;obtain ⟨nd,al,bd⟩:=a1 eH;exact ⟨val::nd,by simp only [mapM_cons,Sem.run_bind,U,Result.andThen_ok,al,Sem.run_pure],.cons _ _ _ _ ad bd⟩
   ·cases h
  ·cases h
theorem Rk (aP:bQ P Γ) {N:Nat} {B:fL} {ro:Option Nat} {env:Env} {s:ao} {a:Act} {w w':World} {p:bR} (aI:dw N B ro env s a w p)
  (hw:∀ b o v,w.cell? ⟨b,o,none⟩=some v→w'.cell? ⟨b,o,none⟩=some v) (jj:∀ v x,Rel w p v x→Rel w' p v x) {fn:Func} {v:af} (h:nJ Γ env s fn.results.toList=some v) :
  ∃ val,(results fn a.tmps).run P w' = .ok val w'∧Rel w' p val v:=by
 unfold nJ at h;have key:∀ xs,vy Γ env s fn.results.toList=some xs→∃ nd,(results fn a.tmps).run P w' = .ok (if h:nd.length=1 then nd[0] else .tuple nd.toArray) w'∧bG w' p nd xs:=by
  intro xs c5;obtain ⟨nd,U,ad⟩:=Ri aP aI hw jj c5;refine ⟨nd,?_,ad⟩;unfold results;rw [Array.mapM_eq_mapM_toList];simp only [Sem.run_bind,Sem.run_map];erw [U];simp only [Result.andThen_ok,Sem.run_pure];by_cases aB:nd.length=1
  ·simp [aB]
  ·simp [aB]
 split at h
 ·rename_i fu av
  cases h;obtain ⟨nd,U,ad⟩:=key _ av;cases ad with
  | cons u _ us _ hu aM=>cases aM;exact ⟨u,by simpa using U,hu⟩
 ·rename_i vs cP av
  cases h;obtain ⟨nd,U,ad⟩:=key _ av;have aB:nd.length≠1:=by
   rw [ad.length];intro aB;obtain ⟨x,ab⟩:=List.length_eq_one_iff.1 aB;exact cP x ab
  rw [dif_neg aB] at U;exact ⟨_,U,.cp _ _ p2⟩
 ·cases h
theorem Fa {s:ao} {p:bR}:∀ (cb:List Nat) (w:World),dm w p s→(∀ d∈cb,∃ x,w.heap[d]? = some (.deferred x)) →
    dc w p (hn w cb) p∧dm (hn w cb) p s∧(∀ b,b∉cb→(hn w cb).heap[b]? = w.heap[b]?)∧(∀ b o v,w.cell? ⟨b,o,none⟩=some v→(hn w cb).cell? ⟨b,o,none⟩=some v):=by
  intro cb
  induction cb with
  | nil=>intro w cc _;exact ⟨.refl w p,cc,fun _ _=>rfl,fun _ _ _ h=>h⟩
  | cons d cb a1=>
    intro w cc ax;obtain ⟨x,ab⟩:=ax d (mem_cons_self ..);have au:d<w.heap.size:=(Array.getElem?_eq_some_iff.1 ab).1
    let w₁:World:={ w with heap:=w.heap.setIfInBounds d (.deferred none) }
    have ox:w₁.heap[d]? = some (.deferred none):=by simp [w₁,getElem?_setIfInBounds,au]
    have hS:∀ k,k≠d→w₁.heap[k]? = w.heap[k]? := fun k aE=>by
      show (w.heap.setIfInBounds d (.deferred none))[k]? = _;rw [getElem?_setIfInBounds,if_neg (fun e=>aE e.symm)]
    have jz:∀ b o,w₁.cell? ⟨b,o,none⟩=w.cell? ⟨b,o,none⟩:=fun b o=>by
      by_cases e:b=d
      · subst e;simp only [World.cell?,ox,ab]
      · exact xq (hS b e)
    have hle:dc w p w₁ p:=⟨rfl,rfl,rfl,by simp [w₁],fun _ _ h=>h,fun b o _=>jz b o,fun b y ay=>by
      by_cases e:b=d
      · subst e;simp [World.kG,ab] at ay
      · rw [xp (hS b e)];exact ay⟩
    have Rl:dm w₁ p s:=by
      refine ⟨fun b o aq=>?_,fun b o aD=>by simpa [w₁] using cc.lt b o aD⟩;have ah:=cc.obj b o aq;have cP:b≠d:=by
        intro e;subst e;cases o with
        | box t c=>obtain ⟨us,g1,-⟩:=ah;rw [ab] at g1;cases g1
        | row t sz n=>obtain ⟨us,g1,-⟩:=ah;rw [ab] at g1;cases g1
        | map es=>obtain ⟨us,c,g1,-⟩:=ah;rw [ab] at g1;cases g1
        | k3 es it l c=>obtain ⟨_,_,_,g1,-⟩:=ah;rw [ab] at g1;cases g1
        | tick m=>obtain ⟨_,_,_,g1⟩:=ah;rw [ab] at g1;cases g1
        | loop r env=>have cC:=ah.1;rw [ab] at cC;cases cC
      have cX:=hS b cP;cases o with
      | box t c=>obtain ⟨us,g1,g2,g3⟩:=ah;exact ⟨us,cX.trans g1,g2.mono hle,g3⟩
      | row t sz n=>obtain ⟨cur,g1,g2,g3,g4⟩:=ah;exact ⟨cur,cX.trans g1,g2,g3,g4⟩
      | map es=>obtain ⟨cN,c,g1,g2,g3⟩:=ah;exact ⟨cN,c,cX.trans g1,⟨g2.1.mono hle,g2.2.mono hle⟩,g3⟩
      | k3 es it l c=>exact ah.p7 hle cX (hS it (ah.y5 ab a'))
      | tick m=>obtain ⟨dW,a2,a3,g1⟩:=ah;exact ⟨dW,a2,a3,cX.trans g1⟩
      | loop r env=>exact ⟨cX.trans ah.1,fun t v h=>(ah.2 t v h).mono hle⟩
    obtain ⟨i1,i2,i3,i4⟩:=a1 w₁ Rl (fun c3 cl=>by
      by_cases e:c3=d
      · subst e;exact ⟨none,ox⟩
      · obtain ⟨y,ay⟩:=ax c3 (mem_cons_of_mem _ cl);exact ⟨y,(hS c3 e).trans ay⟩)
    refine ⟨hle.trans i1,i2,fun b aq=>?_,fun b o v av=>i4 b o v ((jz b o).trans av)⟩;have U:b≠d:=fun e=>aq (e ▸ mem_cons_self ..)
    have ad:b∉cb:=fun e=>aq (mem_cons_of_mem _ e)
    exact (i3 b ad).trans (hS b U)
def Fin (Γ:cw) (rs:List ResultVar) (R:ey→ao→Prop):b8→Env→ao→Prop
 | .normal,env,s | .ret,env,s=>∃ r r' aj,nJ Γ env s rs=some r∧aS r r'∧ao.Sub aj s∧R (.ret r') aj
 | .panic v,_,s=>∃ fu aj,aS v fu∧ao.Sub aj s∧R (.panic fu) aj
 | .exit _,_,_=>False
theorem Rm {w:World} {p:bR}:∀ (k:Nat) (args:List af) (vs pre:List Value),pre.length=k→bG w p vs args→∀ t v,(rf k args).get? t=some v→∃ u,(pre++vs)[t]? = some u∧Rel w p u v:=by
 intro k args
 induction args generalizing k with
 | nil=>intro vs pre _ _ t v h;simp [rf,Env.get?] at h
 | cons x xs a1=>
  intro vs pre aE aF t v h;cases aF with
  | cons u _ us _ hu aM=>
  simp only [rf,Env.get?] at h;split at h
  ·rename_i he
   have:=eq_of_beq_eq_true he;subst this;cases h;exact ⟨u,by rw [List.getElem?_append_right ag];simp [aE],hu⟩
  ·obtain ⟨jP,U,ad⟩:=a1 (k+1) us (pre++[u]) (by simp [aE]) aM t v h
   exact ⟨jP,by simpa using U,ad⟩
theorem Kept.sub {s aj eG:ao} {w w':World} {p bj:bR} (h:Kept s aj w p w' bj) (ar:ao.Sub eG aj):Kept s eG w p w' bj :=
 ⟨h.heap,fun b aq az=>ar.none (h.kH b aq az),h.k2⟩
theorem hd.xA (aP:bQ P Γ) {f:FuncId} {fn:Func} {c:Code} {args:List af} {s:ao} {R:ey→ao→Prop} (aC:sF P f) (a6:P.funcs[f]? = some fn) (aq:fn.body=some c)
  (aU:Nat.ble args.length fn.ntmps=true) (h:ae P fn.ntmps c (Fin Γ fn.results.toList R) (rf 0 args) s):hd P f args s R:=by
 refine ⟨aC,fun w p vs cc eH=>P1 a6 aq fun b ra eU=>?_⟩;have hle:=Nat.le_of_ble_eq_true aU;have aB:=eH.length;have b':(vs.toArray++Array.replicate (fn.ntmps-vs.toArray.size) undef).size=fn.ntmps:=by simp;omega
 have aI:dw fn.ntmps (w.heap.size,[]) b.roundOf (rf 0 args) s { tmps:=vs.toArray++Array.replicate (fn.ntmps-vs.toArray.size) undef,defers:=[] } w p:=by
  refine ⟨b',fun t v av=>?_,cc,⟨[],rfl,by simp,by simp⟩,fun l aB=>(by rw [ra] at aB;cases aB),le_refl _⟩;obtain ⟨u,hu,aF⟩:=Rm 0 args vs [] rfl eH t v av;simp only [List.nil_append] at hu;have au:=(List.getElem?_eq_some_iff.1 hu).1;have:(vs.toArray++Array.replicate (fn.ntmps-vs.toArray.size) undef).getD t undef=u:=by
   rw [getD_eq_getD_getElem?,Array.getElem?_append_left (by simpa using au)];simp [hu]
  rw [this];exact aF
 refine l0 (h b (w.heap.size,[]) _ w p eU aI) ?_;rintro e c' w' ⟨x,eP,aj,bj,ab,bq,hJ,zu,aE⟩;obtain ⟨cb,sG,eF,e8⟩:=hJ.defs;rw [List.append_nil] at sG;obtain ⟨cg,bY,eR,nF⟩:=Fa cb w' hJ.wf (fun d ax=>⟨_,(e8 d ax).2.1⟩);have bg:Kept s aj w p (hn w' cb) bj:=⟨fun aW dI az=>(eR aW (fun hm=>by have:=(e8 aW hm).1;omega)).trans (aE.heap aW dI az),aE.kH,aE.k2⟩;have bN:dc w p (hn w' cb) bj:=zu.trans cg;have fin:(∃ r r' eG,nJ Γ eP aj fn.results.toList=some r∧aS r r'∧ao.Sub eG aj∧R (.ret r') eG) →
   ∃ cb,c'.defers=marksOf cb∧cb.Nodup∧(∀ d∈cb,w'.heap[d]? = some (.deferred (some [])))∧∃ v,(results fn c'.tmps).run P (hn w' cb) = .ok v (hn w' cb)∧vt s w p R (.returned v) (hn w' cb):=by
  rintro ⟨r,r',eG,aF,xB,hH,dV⟩;obtain ⟨val,cO,eM⟩:=Rk aP hJ nF (fun v x h=>h.mono cg) aF;exact ⟨cb,sG,eF,fun d ax=>(e8 d ax).2.1,val,cO,.ret r',eG,bj,xB _ _ _ eM,dV,bN,bg.sub hH,bY.sub hH⟩
 cases ab with
 | normal=>exact fin bq
 | ret=>exact fin bq
 | exit id=>exact bq.elim
 | panic v x dB kI av=>
  obtain ⟨fu,eG,xB,hH,dV⟩:=bq;exact ⟨cb,sG,eF,fun d ax=>(e8 d ax).2.1,.panic fu,eG,bj,⟨v,kI,xB _ _ _ (av.mono cg)⟩,dV,bN,bg.sub hH,bY.sub hH⟩
end
def aa (P:Program) (N:Nat) (ops:Array Oper) (l:List Oper) (Q:b8→Env→ao→Prop) (env:Env) (s:ao):Prop:=
 ∀ k,(∀ j x,l[j]? = some x→ops[k+j]? = some x)→fE P N ops (range' k l.length) Q env s
section
variable {P:Program} {Γ:cw} {N:Nat} {ops:Array Oper} {Q:b8→Env→ao→Prop} {env:Env} {s:ao} {l:List Oper} {o:Oper} {d:Nat}
theorem ae.cH {id:Nat} {l:List Oper} (h:aa P N l.toArray l Q env s):ae P N (.region id l.toArray false) Q env s:=by
 refine ae.region ?_;have:=h 0 a';rw [List.range_eq_range'];simpa using this
theorem aa.nil (h:Q .normal env s):aa P N ops [] Q env s:=fun _ _=>fE.nil h
theorem aa.cons (h:∀ k,ops[k]? = some o→aa P N ops l Q env s∨True→(∀ j x,l[j]? = some x→ops[k+1+j]? = some x)→fE P N ops (k::range' (k+1) l.length) Q env s):aa P N ops (o::l) Q env s:=by
 intro k aE;have bt:ops[k]? = some o:=aE 0 o C;have aM:∀ j x,l[j]? = some x→ops[k+1+j]? = some x:=fun j x ab=>by have:=aE (j+1) x (by simpa using ab);simpa [add_assoc,Nat.add_comm 1 j] using this
 rw [length_cons,List.range'_succ];exact h k bt (.inr trivial) aM
theorem aa.op {K X:af→ao→Prop} (aw:guardOf ops env o=some true) (ax:o.dst=some d) (aU:Nat.blt d N=true) (h:aZ P N o env s K X)
  (aE:∀ x aj,K x aj→aa P N ops l Q ((d,x)::env) aj) (ab:∀ x aj,X x aj→Q (.panic x) env aj):aa P N ops (o::l) Q env s:=
 aa.cons fun k bt _ aM=>fE.op bt aw ax aU h (fun x aj bg=>aE x aj bg (k+1) aM) ab
theorem aa.u' {K X:af→ao→Prop} (aw:guardOf ops env o=some true) (ax:o.dst=none) (h:aZ P N o env s K X)
  (aE:∀ x aj,K x aj→aa P N ops l Q env aj) (ab:∀ x aj,X x aj→Q (.panic x) env aj):aa P N ops (o::l) Q env s:=
 aa.cons fun k bt _ aM=>fE.u' bt aw ax h (fun x aj bg=>aE x aj bg (k+1) aM) ab
theorem aa.skip (aw:guardOf ops env o=some false) (ax:o.dst=some d) (aU:Nat.blt d N=true) (h:aa P N ops l Q ((d,.cp [])::env) s):aa P N ops (o::l) Q env s:=
 aa.cons fun k bt _ aM=>fE.skip bt aw ax aU (h (k+1) aM)
theorem aa.step (aP:bQ P Γ) {v:af} (aw:guardOf ops env o=some true) (ax:o.dst=some d) (aU:Nat.blt d N=true) (av:o9 Γ o env=some v) (h:aa P N ops l Q ((d,v)::env) s) :
  aa P N ops (o::l) Q env s:=
 aa.op aw ax aU (aZ.o9 aP av) (fun x aj ⟨U,ad⟩=>by subst U;subst ad;exact h) (fun _ _ h=>h.elim)
theorem aa.pure (aP:bQ P Γ) {v:af} (aw:guardOf ops env o=some true) (ax:o.dst=some d) (aU:Nat.blt d N=true) (av:lD Γ o env v) (h:aa P N ops l Q ((d,v)::env) s) :
  aa P N ops (o::l) Q env s:=
 aa.op aw ax aU (aZ.pure aP av) (fun x aj ⟨U,ad⟩=>by subst U;subst ad;exact h) (fun _ _ h=>h.elim)
theorem aa.iv (aP:bQ P Γ) {v:af} (aw:guardOf ops env o=some true) (ax:o.dst=some d) (aU:Nat.blt d N=true) (av:vw Γ o env=some v) (h:aa P N ops l Q ((d,v)::env) s) :
  aa P N ops (o::l) Q env s:=aa.pure aP aw ax aU (.x av) h
theorem aa.call {f:FuncId} {as:Array Operand} {c6:Array TypeId} {xs:List af} {R:ey→ao→Prop} (aw:guardOf ops env o=some true) (ax:o.dst=some d) (aU:Nat.blt d N=true)
  (b2:o.op = .call { callee := .value (.func f),args:=as,argTypes:=c6 }) (a7:fM env as.toList=some xs) (h:hd P f xs s R)
  (aE:∀ x aj,R (.ret x) aj→aa P N ops l Q ((d,x)::env) aj) (ab:∀ x aj,R (.panic x) aj→Q (.panic x) env aj):aa P N ops (o::l) Q env s:=
 aa.op aw ax aU (aZ.call b2 (fv := .func f [] []) C a7 (hL.fk fD)) aE ab
theorem aa.Jz {f:FuncId} {as:Array Operand} {c6:Array TypeId} {xs:List af} {v:af} (aw:guardOf ops env o=some true) (ax:o.dst=some d) (aU:Nat.blt d N=true)
  (b2:o.op = .call { callee := .value (.func f),args:=as,argTypes:=c6 }) (a7:fM env as.toList=some xs) (h:hd P f xs s (fun out aj=>out = .ret v∧aj=s))
  (aE:aa P N ops l Q ((d,v)::env) s):aa P N ops (o::l) Q env s:=
 aa.call aw ax aU b2 a7 h (fun x aj ⟨U,ad⟩=>by cases U;subst ad;exact aE) (fun x aj ⟨U,_⟩=>by cases U)
theorem aa.E8 {g:Operand} {fv:af} {as:Array Operand} {c6:Array TypeId} {xs:List af} {R:ey→ao→Prop} (aw:guardOf ops env o=some true) (ax:o.dst=some d) (aU:Nat.blt d N=true)
  (b2:o.op = .call { callee := .value g,args:=as,argTypes:=c6 }) (av:aJ env g=some fv) (a7:fM env as.toList=some xs) (h:hL P fv xs s R)
  (aE:∀ x aj,R (.ret x) aj→aa P N ops l Q ((d,x)::env) aj) (ab:∀ x aj,R (.panic x) aj→Q (.panic x) env aj):aa P N ops (o::l) Q env s:=
 aa.op aw ax aU (aZ.call b2 av a7 h) aE ab
theorem aa.idx (aP:bQ P Γ) {t e:TypeId} {x y:Operand} {it aG:bM} {sz:Nat} {xs:List af} {own:bL} {k:IntKind} {i:Int} {v:af} {cs:List af} (j:Nat) (aw:guardOf ops env o=some true) (ax:o.dst=some d)
  (aU:Nat.blt d N=true) (ah:o.op = .indexAddr t x y) (aM:Γ.get? t=some it) (br:it.bF = .aA e) (bI:Γ.get? e=some aG) (ab:aJ env x=some (.aA sz xs own)) (b':sz=aG.size) (ay:aJ env y=some (.int k i))
  (eK:i=(j:Int)) (aK:xs[j]? = some v) (aC:cellsOf v=some cs) (h:aa P N ops l Q ((d,.bw cs 0)::env) s):aa P N ops (o::l) Q env s:=
 aa.pure aP aw ax aU (.idx j ah aM br bI ab b' ay eK aK aC) h
theorem aa.zs (aP:bQ P Γ) {t:TypeId} {x y:Operand} {it:bM} {cs:List UInt8} {k:IntKind} {i:Int} {b:UInt8} (j:Nat) (aw:guardOf ops env o=some true) (ax:o.dst=some d)
  (aU:Nat.blt d N=true) (ah:o.op = .index t x y) (aM:Γ.get? t=some it) (br:it.bF = .str) (ab:aJ env x=some (.str cs)) (ay:aJ env y=some (.int k i))
  (eK:i=(j:Int)) (aK:cs[j]? = some b) (h:aa P N ops l Q ((d,.int .u8 b.toNat)::env) s):aa P N ops (o::l) Q env s:=
 aa.pure aP aw ax aU (.zs j ah aM br ab ay eK aK) h
theorem aa.cat (aP:bQ P Γ) {t yt:TypeId} {x y:Operand} {u v:List UInt8} (aw:guardOf ops env o=some true) (ax:o.dst=some d) (aU:Nat.blt d N=true) (ah:o.op = .binOp .add t x y yt)
  (ab:aJ env x=some (.str u)) (ay:aJ env y=some (.str v)) (aB:u.length+v.length≤9223372036854775807) (h:aa P N ops l Q ((d,.str (u++v))::env) s):aa P N ops (o::l) Q env s:=
 aa.pure aP aw ax aU (.cat ah ab ay aB) h
theorem aa.toStr (aP:bQ P Γ) {jO zv e:TypeId} {x:Operand} {is id aG:bM} {sz:Nat} {u:List UInt8} {own:bL} (aw:guardOf ops env o=some true) (ax:o.dst=some d) (aU:Nat.blt d N=true) (ah:o.op = .convert jO zv x)
  (ar:Γ.get? jO=some is) (Fb:Γ.get? zv=some id) (kn:is.bF = .aA e) (nb:id.bF = .str) (he:Γ.get? e=some aG) (oz:aG.bF = .int .u8) (ab:aJ env x=some (.aA sz (nI u) own))
  (h:aa P N ops l Q ((d,.str u)::env) s):aa P N ops (o::l) Q env s:=aa.pure aP aw ax aU (.toStr ah ar Fb kn nb he oz ab) h
theorem aa.Ce (aP:bQ P Γ) {jO zv e:TypeId} {x:Operand} {is id aG:bM} {u:List UInt8} (aw:guardOf ops env o=some true) (ax:o.dst=some d) (aU:Nat.blt d N=true) (ah:o.op = .convert jO zv x)
  (ar:Γ.get? jO=some is) (Fb:Γ.get? zv=some id) (kn:is.bF = .str) (nb:id.bF = .aA e) (he:Γ.get? e=some aG) (oz:aG.bF = .int .u8) (ab:aJ env x=some (.str u)) (E':u.length≤9223372036854775807)
  (h:aa P N ops l Q ((d,.aA 1 (nI u) .bb)::env) s):aa P N ops (o::l) Q env s:=aa.pure aP aw ax aU (.Ce ah ar Fb kn nb he oz ab E') h
theorem aa.slice (aP:bQ P Γ) {t e:TypeId} {x:Operand} {gC aQ jm:Option Operand} {it aG:bM} {sz:Nat} {xs:List af} {own cQ:bL} (a b:Nat) (aw:guardOf ops env o=some true) (ax:o.dst=some d)
  (aU:Nat.blt d N=true) (ah:o.op = .slice t x gC aQ jm)
  (aM:Γ.get? t=some it) (br:it.bF = .aA e) (bI:Γ.get? e=some aG) (ab:aJ env x=some (.aA sz xs own)) (b':xs=[]∨sz=aG.size)
  (iM:(gC=none∧a=0)∨∃ y k,gC=some y∧aJ env y=some (.int k (a:Int))) (qe:(aQ=none∧jm=none∧b=xs.length)∨∃ y k,aQ=some y∧aJ env y=some (.int k (b:Int)))
  (m':(jm=none∧cQ = .bb)∨(∃ y k,jm=some y∧aJ env y=some (.int k (b:Int))∧cQ = .clip)) (aB:a≤b) (cX:b≤xs.length) (h:aa P N ops l Q ((d,.aA sz ((xs.take b).drop a) cQ)::env) s):aa P N ops (o::l) Q env s:=
 aa.pure aP aw ax aU (.slice a b ah aM br bI ab b' iM qe m' aB cX) h
theorem aa.freeze (t b:Nat) {T:TypeId} {cs:List af} (aM:env.get? t=some (.ptr b 0)) (ar:s b=some (.box T cs)) (h:aa P N ops l Q ((t,.bw cs 0)::env) (s.del b)):aa P N ops l Q env s:=
 fun k aE=>fE.freeze t b aM ar (h k aE)
theorem b5 {next:Env→ao→Prop} (h:next env s):b8.andThen next Q .normal env s:=h
end
def qg (ops:Array Oper) (i j:Nat):Prop:=∃ o e,ops[i]? = some o∧e∈o.after∧Region.binds .any e=true∧e.on=j
inductive k6 (ops:Array Oper):Nat→Nat→Prop
 | dep {i j:Nat} (h:qg ops i j):k6 ops i j
 | trans {i j k:Nat} (h:qg ops i j) (t:k6 ops j k):k6 ops i k
def vz (ops:Array Oper) (D:Nat→Bool):Prop:=∀ i j,D i=true→qg ops i j→D j=true
theorem vz.qh {ops:Array Oper} {D:Nat→Bool} (h:vz ops D) {i j:Nat} (aQ:D i=true) (a7:k6 ops i j):D j=true:=by
 induction a7 with
 | dep ax=>exact h _ _ aQ ax
 | trans ax _ a1=>exact a1 (h _ _ aQ ax)
def ee (D:Nat→Bool) (i:Nat):Nat→Bool:=fun j=>if j=i then true else D j
theorem mA (D:Nat→Bool) (i:Nat):ee D i i=true:=by simp [ee]
theorem jQ (D:Nat→Bool) {i j:Nat} (h:j≠i):ee D i j=D j:=by simp [ee,h]
theorem vA {D:Nat→Bool} {i j:Nat} (h:D j=true):ee D i j=true:=by unfold ee;split<;>simp_all
def hf (ops:Array Oper) (D:Nat→Bool) (i:Nat):Prop:=i<ops.size∧D i=false∧∀ j,qg ops i j→D j=true
theorem vz.ee {ops:Array Oper} {D:Nat→Bool} (h:vz ops D) {i:Nat} (aF:hf ops D i):vz ops (ee D i):=by
 intro a b a7 ax;by_cases e:a=i
 ·subst e;exact vA (aF.2.2 b ax)
 ·rw [jQ _ e] at a7;exact vA (h a b a7 ax)
def looks (ops:Array Oper) (o:Oper):List Tmp:=
  (match o.guard with
   | some (g,_)=>match (ops[g]?).bind (·.dst) with
     | some d=>[d]
     | none=>[]
   | none=>[])++o.op.operands.toList.filterMap fun | .tmp t=>some t|_=>none
def iw (env:Env):List Tmp→Env
  | []=>[]
  | t::gl=>match env.get? t with
    | some v=>(t,v)::iw env gl
    | none=>iw env gl
abbrev bZ (l:List Oper) (env:Env) (o:Oper):Env:=iw env (looks l.toArray o)
abbrev c7 (l:List Oper) (env:Env) (o:Oper):Prop:=guardOf l.toArray (iw env (looks l.toArray o)) o=some true
theorem JA {env:Env} {gl:List Tmp} {t:Tmp} {v:af} (h:(iw env gl).get? t=some v):env.get? t=some v∧t∈gl:=by
 induction gl with
 | nil=>simp [iw,Env.get?] at h
 | cons u gl a1=>
  simp only [iw] at h;split at h
  ·rename_i x ab
   simp only [Env.get?] at h;split at h
   ·rename_i he
    have:=eq_of_beq_eq_true he;subst this;cases h;exact ⟨ab,mem_cons_self ..⟩
   ·exact ⟨(a1 h).1,mem_cons_of_mem _ (a1 h).2⟩
  ·exact ⟨(a1 h).1,mem_cons_of_mem _ (a1 h).2⟩
def Still (J:ao→Prop) (P:Program) (Γ:cw) (N:Nat) (ops:Array Oper) (o:Oper) (E:Env) (v:af):Prop:=
 (guardOf ops E o=some true∧lD Γ o E v)∨(guardOf ops E o=some false∧v = .cp []) ∨
  (guardOf ops E o=some true∧∀ s,J s→aZ P N o E s (fun x aj=>x=v∧aj=s) (fun _ _=>False))
structure tR (ops:Array Oper):Prop where
 uniq:∀ (i j:Nat) (x y:Oper) (d:Tmp),ops[i]? = some x→ops[j]? = some y→x.dst=some d→y.dst=some d→i=j
 apart:∀ (i j:Nat) (x y:Oper) (d:Tmp),i≠j→ops[i]? = some x→ops[j]? = some y→x.dst=some d→d∈looks ops y→k6 ops i j∨k6 ops j i
 back:∀ i j,qg ops i j→j<i
 own:∀ (i:Nat) (x:Oper) (d:Tmp),ops[i]? = some x→x.dst=some d→d∉looks ops x
inductive oA (P:Program) (Γ:cw) (N:Nat) (ops:Array Oper) (Q:b8→Env→ao→Prop):(ao→Prop)→(Nat→Bool)→Env→ao→Prop
 | congr {J:ao→Prop} {D:Nat→Bool} {env:Env} {s:ao} (e:Env) (he:∀ t,e.get? t=env.get? t) (h:oA P Γ N ops Q J D e s):oA P Γ N ops Q J D env s
 | fin {J:ao→Prop} {D:Nat→Bool} {env:Env} {s:ao} (e8:∀ i,i<ops.size→D i=true) (h:Q .normal env s):oA P Γ N ops Q J D env s
 | still {J:ao→Prop} {D:Nat→Bool} {env:Env} {s:ao} (cy:J s) (i:Nat) (o:Oper) (d:Tmp) (v:af) (aF:hf ops D i) (ah:ops[i]? = some o) (ax:o.dst=some d) (aU:d<N)
   (av:Still J P Γ N ops o (iw env (looks ops o)) v) (h:oA P Γ N ops Q J (ee D i) ((d,v)::env) s):oA P Γ N ops Q J D env s
 | split {J:ao→Prop} {D:Nat→Bool} {env:Env} {s:ao} (K X:Nat→af→ao→Prop) (vB:Nat→af→ao→ao→Prop) (cP:∃ i,i<ops.size∧D i=false)
   (aw:∀ i o,hf ops D i→ops[i]? = some o→guardOf ops (iw env (looks ops o)) o=some true∧aZ P N o (iw env (looks ops o)) s (K i) (X i)∧∀ d,o.dst=some d→d<N)
   (aK:∀ i o,hf ops D i→ops[i]? = some o→∀ x aj,K i x aj→(vB i x aj=J∧J aj)∨∀ j,j<ops.size→D j=true→j≠i→k6 ops i j)
   (aE:∀ i o d,hf ops D i→ops[i]? = some o→o.dst=some d→∀ x aj,K i x aj→oA P Γ N ops Q (vB i x aj) (ee D i) ((d,x)::env) aj)
   (k7:∀ i o,hf ops D i→ops[i]? = some o→o.dst=none→∀ x aj,K i x aj→oA P Γ N ops Q (vB i x aj) (ee D i) env aj)
   (ab:∀ i o,hf ops D i→ops[i]? = some o→∀ x aj,X i x aj→Q (.panic x) [] aj):oA P Γ N ops Q J D env s
abbrev bm (J:ao→Prop) (P:Program) (Γ:cw) (N:Nat) (ops:Array Oper) (Q:b8→Env→ao→Prop) (D:Nat→Bool) (env:Env) (s:ao):Prop:=oA P Γ N ops Q J D env s
section
variable {J:ao→Prop} {P:Program} {Γ:cw} {N:Nat} {ops:Array Oper} {Q:b8→Env→ao→Prop} {D:Nat→Bool} {env:Env} {s:ao}
theorem bm.congr (e:Env) (he:∀ t,e.get? t=env.get? t) (h:bm J P Γ N ops Q D e s):bm J P Γ N ops Q D env s:=oA.congr e he h
theorem bm.fin (e8:∀ i,i<ops.size→D i=true) (h:Q .normal env s):bm J P Γ N ops Q D env s:=oA.fin e8 h
theorem bm.still (cy:J s) (i:Nat) (o:Oper) (d:Tmp) (v:af) (aF:hf ops D i) (ah:ops[i]? = some o) (ax:o.dst=some d) (aU:d<N)
  (av:Still J P Γ N ops o (iw env (looks ops o)) v) (h:bm J P Γ N ops Q (ee D i) ((d,v)::env) s):bm J P Γ N ops Q D env s:=oA.still cy i o d v aF ah ax aU av h
theorem bm.split (K X:Nat→af→ao→Prop) (cP:∃ i,i<ops.size∧D i=false)
  (aw:∀ i o,hf ops D i→ops[i]? = some o→guardOf ops (iw env (looks ops o)) o=some true∧aZ P N o (iw env (looks ops o)) s (K i) (X i)∧∀ d,o.dst=some d→d<N)
  (aK:∀ i o,hf ops D i→ops[i]? = some o→∀ x aj,K i x aj→J aj∨∀ j,j<ops.size→j≠i→k6 ops i j)
  (aE:∀ i o d,hf ops D i→ops[i]? = some o→o.dst=some d→∀ x aj,K i x aj→bm J P Γ N ops Q (ee D i) ((d,x)::env) aj)
  (k7:∀ i o,hf ops D i→ops[i]? = some o→o.dst=none→∀ x aj,K i x aj→bm J P Γ N ops Q (ee D i) env aj)
  (ab:∀ i o,hf ops D i→ops[i]? = some o→∀ x aj,X i x aj→Q (.panic x) [] aj):bm J P Γ N ops Q D env s:=
 oA.split K X (fun _ _ _=>J) cP aw (fun i o U ad x aj al=>(aK i o U ad x aj al).imp (fun h=>⟨rfl,h⟩) (fun h j bd _ bD=>h j bd bD)) aE k7 ab
end
def nf:ao→Prop:=fun _=>True
abbrev bc (P:Program) (Γ:cw) (N:Nat) (ops:Array Oper) (Q:b8→Env→ao→Prop) (D:Nat→Bool) (env:Env) (s:ao):Prop:=bm nf P Γ N ops Q D env s
structure kL (J:ao→Prop) (P:Program) (Γ:cw) (N:Nat) (B:fL) (ro:Option Nat) (ops:Array Oper) (D L:Nat→Bool) (V:Nat→af) (E:Nat→Env) (env:Env) (s:ao) (a:Act) (w:World) (p:bR):Prop where
 sub:∀ i,L i=true→D i=true
 rh:vz ops D
 qi:vz ops L
 st:dw N B ro [] s a w p
 known:∀ t v,env.get? t=some v→(∃ k o,D k=true∧L k=false∧ops[k]? = some o∧o.dst=some t)∨Rel w p (a.tmps.getD t undef) v
 vC:∀ i o,D i=true→L i=false→ops[i]? = some o→∃ d,o.dst=some d∧d<N∧env.get? d=some (V i)∧Still J P Γ N ops o (E i) (V i) ∧
  (∀ t x,(E i).get? t=some x→t∈looks ops o∧(∀ k u,ops[k]? = some u→u.dst=some t→k6 ops i k→L k=false→x=V k) ∧
   ((∀ k u,ops[k]? = some u→u.dst=some t→k6 ops i k→L k=true)→Rel w p (a.tmps.getD t undef) x))
 bound:∀ i,D i=true→i<ops.size
 inv:(∀ i,D i=true→L i=true)∨J s
theorem dw.restrict {N:Nat} {B:fL} {ro:Option Nat} {env:Env} {s:ao} {a:Act} {w:World} {p:bR} (h:dw N B ro env s a w p) (e:Env) (he:∀ t v,e.get? t=some v→Rel w p (a.tmps.getD t undef) v) :
  dw N B ro e s a w p:=⟨h.size,he,h.wf,h.defs,h.round,h.base⟩
section
variable {J:ao→Prop} {P:Program} {Γ:cw} {N:Nat} {ops:Array Oper} {Q:b8→Env→ao→Prop}
theorem kL.ahead (dE:tR ops) {B:fL} {ro:Option Nat} {D L:Nat→Bool} {V:Nat→af} {E:Nat→Env} {env:Env} {s:ao} {a:Act} {w:World} {p:bR}
  (h:kL J P Γ N B ro ops D L V E env s a w p) {i:Nat} {o:Oper} {d:Tmp} {v:af} (aF:hf ops D i) (ah:ops[i]? = some o) (ax:o.dst=some d) (aU:d<N)
  (cy:J s) (av:Still J P Γ N ops o (iw env (looks ops o)) v) :
  kL J P Γ N B ro ops (ee D i) L (fun j=>if j=i then v else V j) (fun j=>if j=i then iw env (looks ops o) else E j) ((d,v)::env) s a w p:=by
 have Ro:L i=false:=by
  cases aB:L i with
  | false=>rfl
  | true=>have:=h.sub i aB;rw [aF.2.1] at this;cases this
 refine ⟨fun j aK=>vA (h.sub j aK),h.rh.ee aF,h.qi,h.st,fun t x ab=>?_,fun j u aK mB hu=>?_,fun j aK=>?_,.inr cy⟩
 ·simp only [Env.get?] at ab
  split at ab
  ·rename_i he
   have:=eq_of_beq_eq_true he;subst this;exact .inl ⟨i,o,mA _ _,Ro,ah,ax⟩
  ·rcases h.known t x ab with ⟨k,u,U,ad,al,bd⟩|eM
   ·exact .inl ⟨k,u,vA U,ad,al,bd⟩
   ·exact .inr eM
 ·by_cases e:j=i
  ·subst e
   rw [ah] at hu;cases hu;refine ⟨d,ax,aU,by simp [Env.get?],?_,?_⟩
   ·simpa using av
   ·intro t x ab
    simp only [if_true] at ab;obtain ⟨jo,qj⟩:=JA ab;refine ⟨qj,fun k u aE k8 h6 oB=>?_,fun fV=>?_⟩
    ·have cP:k≠j:=fun e'=>by
      subst e';rw [ah] at aE;cases aE;rw [ax] at k8;cases k8;exact dE.own _ _ _ ah ax qj
     rw [if_neg cP];have Rq:D k=true:=by
      have:=(h.rh.ee aF).qh (mA D j) h6;rwa [jQ _ cP] at this
     obtain ⟨c3,cg,bY,eR,-⟩:=h.vC k u Rq oB aE;rw [k8] at cg;cases cg;rw [jo] at eR;cases eR;rfl
    ·rcases h.known t x jo with ⟨k,u,U,ad,al,bd⟩|eM
     ·have cP:k≠j:=fun e'=>by subst e';rw [aF.2.1] at U;cases U
      rcases dE.apart k j u o t cP al ah bd qj with h6|h6
      ·have:=h.rh.qh U h6;rw [aF.2.1] at this;cases this
      ·have:=fV k u al bd h6;rw [ad] at this;cases this
     ·exact eM
  ·rw [jQ _ e] at aK
   obtain ⟨c3,cg,bY,eR,nF,sH⟩:=h.vC j u aK mB hu;have nb:d≠c3:=fun e'=>by subst e';exact e (dE.uniq j i u o d hu ah cg ax)
   refine ⟨c3,cg,bY,?_,?_,?_⟩
   ·simp only [Env.get?,if_neg e]
    have:Nat.beq d c3=false:=by
     cases aq:Nat.beq d c3 with
     | false=>rfl
     | true=>exact absurd (eq_of_beq_eq_true aq) nb
    simp [this,eR]
   ·simpa [e] using nF
   ·intro t x ab
    simp only [if_neg e] at ab;obtain ⟨f1,f2,f3⟩:=sH t x ab;refine ⟨f1,fun k jP aE k8 h6 oB=>?_,f3⟩;have cP:k≠i:=fun e'=>by
     subst e';have:=h.rh.qh aK h6;rw [aF.2.1] at this;cases this
    rw [if_neg cP];exact f2 k jP aE k8 h6 oB
 ·by_cases e:j=i
  ·subst e;exact aF.1
  ·rw [jQ _ e] at aK;exact h.bound j aK
theorem kL.Rr (dE:tR ops) {B:fL} {ro:Option Nat} {D L:Nat→Bool} {V:Nat→af} {E:Nat→Env} {env:Env} {s:ao} {a:Act} {w w':World} {p bj:bR}
  (h:kL J P Γ N B ro ops D L V E env s a w p) {i:Nat} {o:Oper} {d:Tmp} {val:Value} (aF:hf ops L i) (e8:D i=true) (ah:ops[i]? = some o) (ax:o.dst=some d)
  (hle:dc w p w' bj) (aE:Kept s s w p w' bj) (cc:dm w' bj s) (oy:Rel w' bj val (V i)):kL J P Γ N B ro ops D (ee L i) V E env s (a.put (some d) val) w' bj:=by
 obtain ⟨c3,cl,m1,Cf,JB,eJ⟩:=h.vC i o e8 aF.2.1 ah;rw [ax] at cl;cases cl;have hJ:=h.st.step hle aE cc;have zw:=hJ.put m1 oy;have j4:∀ t,t≠d→(a.put (some d) val).tmps.getD t undef=a.tmps.getD t undef:=fun t aM=>by
  simp only [Act.put,getD_eq_getD_getElem?,getElem?_setIfInBounds,if_neg (fun e:d=t=>aM e.symm)]
 have Cg:(a.put (some d) val).tmps.getD d undef=val:=by
  have:d<a.tmps.size:=by rw [h.st.size];exact m1
  simp [Act.put,getD_eq_getD_getElem?,getElem?_setIfInBounds,this]
 refine ⟨fun j aK=>?_,h.rh,h.qi.ee aF,zw.restrict [] (by simp [Env.get?]),fun t x ab=>?_,fun j u aK mB hu=>?_,h.bound,h.inv.imp (fun q j aK=>vA (q j aK)) id⟩
 ·by_cases e:j=i
  ·subst e;exact e8
  ·rw [jQ _ e] at aK;exact h.sub j aK
 ·by_cases e:t=d
  ·subst e
   rw [Cf] at ab;cases ab;exact .inr (by rw [Cg];exact oy)
  ·rcases h.known t x ab with ⟨k,u,U,ad,al,bd⟩|eM
   ·have cP:k≠i:=fun e'=>by subst e';rw [ah] at al;cases al;rw [ax] at bd;cases bd;exact e C
    exact .inl ⟨k,u,U,by rw [jQ _ cP];exact ad,al,bd⟩
   ·exact .inr (by rw [j4 t e];exact eM.mono hle)
 ·have cP:j≠i:=fun e=>by subst e;rw [mA] at mB;cases mB
  rw [jQ _ cP] at mB;obtain ⟨c3,cg,bY,eR,nF,sH⟩:=h.vC j u aK mB hu;refine ⟨c3,cg,bY,eR,nF,fun t x ab=>?_⟩;obtain ⟨f1,f2,f3⟩:=sH t x ab;refine ⟨f1,fun k jP eC k8 h6 oB=>?_,fun fV=>?_⟩
  ·have sI:k≠i:=fun e=>by subst e;rw [mA] at oB;cases oB
   rw [jQ _ sI] at oB;exact f2 k jP eC k8 h6 oB
  ·by_cases e:t=d
   ·subst e
    rcases dE.apart i j o u t (Ne.symm cP) ah hu ax f1 with h6|h6
    ·have:=h.qi.ee aF |>.qh (mA L i) h6
     rw [jQ _ cP] at this;rw [mB] at this;cases this
    ·have:=f2 i o ah ax h6 aF.2.1
     subst this;rw [Cg];exact oy
   ·rw [j4 t e]
    refine (f3 fun k jP eC k8 h6=>?_).mono hle;have sI:k≠i:=fun e'=>by subst e';rw [ah] at eC;cases eC;rw [ax] at k8;cases k8;exact e C
    have:=fV k jP eC k8 h6;rwa [jQ _ sI] at this
theorem kL.ready (dE:tR ops) {B:fL} {ro:Option Nat} {D L:Nat→Bool} {V:Nat→af} {E:Nat→Env} {env:Env} {s:ao} {a:Act} {w:World} {p:bR}
  (h:kL J P Γ N B ro ops D L V E env s a w p) {i:Nat} {o:Oper} (aF:hf ops L i) (e8:D i=false) (ah:ops[i]? = some o) :
  hf ops D i∧dw N B ro (iw env (looks ops o)) s a w p:=by
 refine ⟨⟨aF.1,e8,fun j aK=>h.sub j (aF.2.2 j aK)⟩,h.st.restrict _ fun t v av=>?_⟩;obtain ⟨U,ad⟩:=JA av;rcases h.known t v U with ⟨k,u,g1,g2,g3,g4⟩|eM
 ·have cP:k≠i:=fun e=>by subst e;rw [e8] at g1;cases g1
  rcases dE.apart k i u o t cP g3 ah g4 ad with h6|h6
  ·have:=h.rh.qh g1 h6;rw [e8] at this;cases this
  ·have:=(h.qi.ee aF).qh (mA L i) h6
   rw [jQ _ cP,g2] at this;cases this
 ·exact eM
theorem kL.both (dE:tR ops) {B:fL} {ro:Option Nat} {D L:Nat→Bool} {V:Nat→af} {E:Nat→Env} {env:Env} {s aj:ao} {a:Act} {w w':World} {p bj:bR}
  (h:kL J P Γ N B ro ops D L V E env s a w p) {i:Nat} {o:Oper} {val:Value} {x:af} (aF:hf ops L i) (pn:hf ops D i) (ah:ops[i]? = some o) (m1:∀ d,o.dst=some d→d<N)
  (hle:dc w p w' bj) (aE:Kept s aj w p w' bj) (cc:dm w' bj aj) (oy:Rel w' bj val x) (cy:J aj∨∀ j,j<ops.size→D j=true→j≠i→k6 ops i j) :
  kL J P Γ N B ro ops (ee D i) (ee L i) V E (match o.dst with|some d=>(d,x)::env|none=>env) aj (a.put o.dst val) w' bj:=by
 have hJ:=h.st.step hle aE cc;have j4:∀ t,o.dst≠some t→(a.put o.dst val).tmps.getD t undef=a.tmps.getD t undef:=fun t aM=>by
  cases ax:o.dst with
  | none=>rfl
  | some d=>
   have:d≠t:=fun e=>aM (by rw [ax,e])
   simp only [Act.put,getD_eq_getD_getElem?,getElem?_setIfInBounds,if_neg this]
 have Cg:∀ d,o.dst=some d→(a.put o.dst val).tmps.getD d undef=val:=fun d ax=>by
  have:d<a.tmps.size:=by rw [h.st.size];exact m1 d ax
  simp [ax,Act.put,getD_eq_getD_getElem?,getElem?_setIfInBounds,this]
 have zw:dw N B ro [] aj (a.put o.dst val) w' bj:=by
  cases ax:o.dst with
  | none=>exact hJ
  | some d=>exact (hJ.put (m1 d ax) oy).restrict [] (by simp [Env.get?])
 refine ⟨fun j aK=>?_,h.rh.ee pn,h.qi.ee aF,zw,fun t y ay=>?_,fun j u aK mB hu=>?_,fun j aK=>?_,cy.symm.imp (fun q j aK=>?_) id⟩
 ·by_cases e:j=i
  ·subst e;exact mA _ _
  ·rw [jQ _ e] at aK;exact vA (h.sub j aK)
 ·by_cases e:o.dst=some t
  ·simp only [e,Env.get?,Nat.beq_refl,if_true] at ay
   cases ay;exact .inr (by rw [Cg t e];exact oy)
  ·have da:env.get? t=some y:=by
    cases ax:o.dst with
    | none=>rw [ax] at ay;exact ay
    | some d=>
     rw [ax] at ay e;simp only [Env.get?] at ay;have:Nat.beq d t=false:=by
      cases aq:Nat.beq d t with
      | false=>rfl
      | true=>exact absurd (congrArg some (eq_of_beq_eq_true aq)) e
     rw [this] at ay;simpa using ay
   rcases h.known t y da with ⟨k,u,U,ad,al,bd⟩|eM
   ·have cP:k≠i:=fun e'=>by subst e';rw [ah] at al;cases al;exact e bd
    exact .inl ⟨k,u,vA U,by rw [jQ _ cP];exact ad,al,bd⟩
   ·exact .inr (by rw [j4 t e];exact eM.mono hle)
 ·have cP:j≠i:=fun e=>by subst e;rw [mA] at mB;cases mB
  rw [jQ _ cP] at mB aK;obtain ⟨c3,cg,bY,eR,nF,sH⟩:=h.vC j u aK mB hu;have zx:o.dst≠some c3:=fun e=>cP (dE.uniq j i u o c3 hu ah cg e)
  refine ⟨c3,cg,bY,?_,nF,fun t y ay=>?_⟩
  ·cases ax:o.dst with
   | none=>exact eR
   | some d=>
    simp only [Env.get?];have:Nat.beq d c3=false:=by
     cases aq:Nat.beq d c3 with
     | false=>rfl
     | true=>exact absurd (by rw [ax,eq_of_beq_eq_true aq]) zx
    rw [this];simpa using eR
  ·obtain ⟨f1,f2,f3⟩:=sH t y ay
   have JC:o.dst≠some t:=fun e=>by
    rcases dE.apart i j o u t (Ne.symm cP) ah hu e f1 with h6|h6
    ·have:=(h.qi.ee aF).qh (mA L i) h6
     rw [jQ _ cP,mB] at this;cases this
    ·have:=h.rh.qh aK h6;rw [pn.2.1] at this;cases this
   refine ⟨f1,fun k jP eC k8 h6 oB=>?_,fun fV=>?_⟩
   ·have sI:k≠i:=fun e=>by subst e;rw [mA] at oB;cases oB
    rw [jQ _ sI] at oB;exact f2 k jP eC k8 h6 oB
   ·rw [j4 t JC]
    refine (f3 fun k jP eC k8 h6=>?_).mono hle;have sI:k≠i:=fun e'=>by subst e';rw [ah] at eC;cases eC;exact JC k8
    have:=fV k jP eC k8 h6;rwa [jQ _ sI] at this
 ·by_cases e:j=i
  ·subst e;exact aF.1
  ·rw [jQ _ e] at aK;exact h.bound j aK
 ·by_cases e:j=i
  ·subst e;exact mA _ _
  ·rw [jQ _ e] at aK
   exact (h.qi.ee aF).qh (mA L i) (q j (h.bound j aK) aK e)
theorem kL.Rs (dE:tR ops) {B:fL} {ro:Option Nat} {D L:Nat→Bool} {V:Nat→af} {E:Nat→Env} {env:Env} {s aj:ao} {a:Act} {w w':World} {p bj:bR} {vB:ao→Prop}
  (h:kL J P Γ N B ro ops D L V E env s a w p) {i:Nat} {o:Oper} {val:Value} {x:af} (aF:hf ops L i) (pn:hf ops D i) (ah:ops[i]? = some o) (m1:∀ d,o.dst=some d→d<N)
  (hle:dc w p w' bj) (aE:Kept s aj w p w' bj) (cc:dm w' bj aj) (oy:Rel w' bj val x) (cy:(vB=J∧J aj)∨∀ j,j<ops.size→D j=true→j≠i→k6 ops i j) :
  kL vB P Γ N B ro ops (ee D i) (ee L i) V E (match o.dst with|some d=>(d,x)::env|none=>env) aj (a.put o.dst val) w' bj:=by
 rcases cy with ⟨rfl,cy⟩|fV
 ·exact h.both dE aF pn ah m1 hle aE cc oy (.inl cy)
 ·have eT:=h.both dE aF pn ah m1 hle aE cc oy (.inr fV)
  have left:∀ j,ee D i j=true→ee L i j=true:=fun j aK=>by
   by_cases e:j=i
   ·subst e;exact mA _ _
   ·rw [jQ _ e] at aK
    exact (h.qi.ee aF).qh (mA L i) (fV j (h.bound j aK) aK e)
  exact ⟨eT.sub,eT.rh,eT.qi,eT.st,eT.known,fun j u aK mB _=>(by rw [left j aK] at mB;cases mB),eT.bound,.inl left⟩
def jC (listed:Array Bool) (n:Nat):Nat→Bool:=fun i=>decide (i<n)&&listed.getD i true
theorem mem_ready {listed:Array Bool} (xC:∀ i j,qg ops i j→j<i) {i:Nat} (h:i∈Region.ready .any ops listed):hf ops (jC listed ops.size) i:=by
 unfold Region.ready at h;simp only [List.mem_filter,mem_range,and_eq_true,Bool.not_eq_true'] at h;obtain ⟨au,aB,fV⟩:=h;refine ⟨au,by simp only [jC,aB,Bool.and_false],fun j ⟨o,e,ah,he,aq,aK⟩=>?_⟩;have aa3:j<i:=xC i j ⟨o,e,ah,he,aq,aK⟩;rw [ah] at fV;simp only [map_some,getD_some,Array.all_eq_true'] at fV;have:=fV e he;simp only [aq,Bool.not_true,Bool.false_or] at this;rw [aK] at this;have sl:j<ops.size:=by omega
 simp only [jC,sl,decide_true,Bool.true_and];rw [getD_eq_getD_getElem?] at this ⊢;cases ab:listed[j]? with
 | none=>rfl
 | some b=>rw [ab] at this;simpa using this
theorem JD {listed:Array Bool} (xC:∀ i j,qg ops i j→j<i) (az:Region.ready .any ops listed=[]) (b':listed.size=ops.size):∀ i,i<ops.size→jC listed ops.size i=true:=by
 intro i
 induction i using Nat.strongRecOn with
 | _ i a1=>
  intro aQ;cases aB:listed.getD i true with
  | true=>simp [jC,aQ,aB]
  | false=>
   have fW:i∈Region.ready .any ops listed:=by
    unfold Region.ready;simp only [List.mem_filter,mem_range,and_eq_true,Bool.not_eq_true'];refine ⟨aQ,aB,?_⟩;have ah:ops[i]? = some ops[i]:=by simp
    rw [ah];simp only [map_some,getD_some,Array.all_eq_true'];intro e he;cases aq:Region.binds .any e with
    | false=>rfl
    | true=>
     simp only [Bool.not_true,Bool.false_or];have au:=xC i e.on ⟨_,e,ah,he,aq,rfl⟩;have:=a1 e.on au ag;have cz:e.on<listed.size:=by omega
     simp only [jC,and_eq_true] at this;rw [getD_eq_getD_getElem?] at this ⊢;have Rt:listed[e.on]? = some listed[e.on]:=by simp [cz]
     rw [Rt] at this ⊢;simpa using this.2
   rw [az] at fW;cases fW
theorem Fc {listed:Array Bool} {i:Nat} (aQ:i<ops.size) (b':listed.size=ops.size):jC (listed.setIfInBounds i true) ops.size=ee (jC listed ops.size) i:=by
 funext j;unfold jC ee;by_cases e:j=i
 ·subst e;simp [aQ,b']
 ·have e':¬ i=j:=fun h=>e h.symm
  simp only [if_neg e,getD_eq_getD_getElem?,getElem?_setIfInBounds,if_neg e']
theorem Ru (aP:bQ P Γ) {B:fL} {ro:Option Nat} {E:Env} {s:ao} {a:Act} {w:World} {p:bR} {o:Oper} {d:Tmp} {v:af} (ax:o.dst=some d) (aI:dw N B ro E s a w p) (cy:J s) (h:Still J P Γ N ops o E v) {R:Ending→World→Prop} {S:Act→World→Prop}
  (I:∀ val w' bj,Rel w' bj val v→dc w p w' bj→Kept s s w p w' bj→dm w' bj s→S (a.put (some d) val) w') :
  (if Region.wanted o (yielded ops a.tmps)=true then gE o=true∧o8 P ((execOp a.eval o).run P w) (fun e w'=>match e with
   | .returned v=>S (a.put o.dst v) w'
   | .panicked dB=>R (.panicked dB) w'
   | .outgrown=>False) else S (a.put o.dst undef) w):=by
 rcases h with ⟨aw,av⟩|⟨aw,rfl⟩|⟨aw,av⟩
 ·rw [if_pos (u7 aI aw)]
  refine ⟨av.gE,?_⟩;obtain ⟨val,w',bj,cO,aF,hle,aE⟩:=av.ok aP aI;rw [cO];obtain ⟨l4,ir⟩:=aE s aI.wf;rw [ax];exact I val w' bj aF hle l4 ir
 ·rw [if_neg (by rw [u7 aI aw];simp),ax]
  exact I undef w p EH (.refl w p) (.refl s w p) aI.wf
 ·rw [if_pos (u7 aI aw)]
  refine ⟨(av s cy).1,((av s cy).2 ro B a w p aI).mono ?_⟩;rintro e w' ⟨aj,bj,hle,aE,cc,he⟩;cases e with
  | returned val=>
   obtain ⟨x,⟨rfl,rfl⟩,aF⟩:=he;rw [ax];exact I val w' bj aF hle aE cc
  | panicked dB=>obtain ⟨v,x,-,a6,-⟩:=he;exact a6.elim
  | outgrown=>exact he
end
section
variable {J:ao→Prop} {P:Program} {Γ:cw} {N:Nat} {ops:Array Oper} {Q:b8→Env→ao→Prop}
def ri (listed:Array Bool) (n:Nat):Nat:=(range n).countP fun i => !jC listed n i
theorem JE {listed:Array Bool} {i:Nat} (aQ:i<ops.size) (b':listed.size=ops.size) (aB:jC listed ops.size i=false) :
  ri (listed.setIfInBounds i true) ops.size+1=ri listed ops.size:=by
 unfold ri;rw [Fc aQ b'];have key:∀ l:List Nat,l.Nodup→i∈l→l.countP (fun j => !ee (jC listed ops.size) i j)+1=l.countP (fun j => !jC listed ops.size j):=by
  intro l
  induction l with
  | nil=>intro _ h;cases h
  | cons x l a1=>
   intro az hm;have fX:=List.nodup_cons.1 az;simp only [List.countP_cons];by_cases e:x=i
   ·subst e
    have:l.countP (fun j => !ee (jC listed ops.size) x j)=l.countP (fun j => !jC listed ops.size j):=by
     apply List.countP_congr;intro y ay;have cP:y≠x:=fun e=>fX.1 (e ▸ ay)
     rw [jQ _ cP]
    rw [this,mA,aB];simp
   ·have Ch:i∈l:=by rcases mem_cons.1 hm with h|h;exact absurd h.symm e;exact h
    have:=a1 fX.2 Ch;rw [jQ _ e];omega
 exact key _ List.nodup_range (mem_range.2 aQ)
theorem JF {listed:Array Bool} (h:ri listed ops.size=0):∀ i,i<ops.size→jC listed ops.size i=true:=by
 intro i aQ;unfold ri at h;rw [List.countP_eq_zero] at h;have:=h i (mem_range.2 aQ);simpa using this
theorem JG {Q:gU→Act→World→Prop} {i:Nat} {rest:List Nat} {o:Oper} (ah:ops[i]? = some o) (a:Act) (w:World) :
  iU P ops Q (i::rest) a w=(if Region.wanted o (yielded ops a.tmps)=true then gE o=true∧o8 P ((execOp a.eval o).run P w) (fun e w'=>match e with
   | .returned v=>iU P ops Q rest (a.put o.dst v) w'
   | .panicked dB=>Q (.panic dB) a w'
   | .outgrown=>False) else iU P ops Q rest (a.put o.dst undef) w):=by
 simp only [iU,ah];split
 ·exact propext ⟨fun h=>⟨h.1,h.2.mono fun e w' h=>by cases e<;>exact h⟩,fun h=>⟨h.1,h.2.mono fun e w' h=>by cases e<;>exact h⟩⟩
 ·rfl
theorem JH (fuel t:Nat) (listed:Array Bool) :
  (Region.ready .any ops listed=[]∧Region.linearise.go .any ops (fuel+1) t listed []=[]) ∨
  ∃ i∈Region.ready .any ops listed,∃ bH,Region.linearise.go .any ops (fuel+1) t listed []=i::Region.linearise.go .any ops fuel bH (listed.setIfInBounds i true) []:=by
 simp only [Region.linearise.go]
 change (Region.ready .any ops listed=[]∧(match (Region.ready .any ops listed)[t % (Region.ready .any ops listed).length]? with
   | some i=>Region.linearise.go .any ops fuel (t / (Region.ready .any ops listed).length) (listed.setIfInBounds i true) [i]
   | none=>[].reverse)=[])∨∃ i∈Region.ready .any ops listed,∃ bH,(match (Region.ready .any ops listed)[t % (Region.ready .any ops listed).length]? with
   | some i=>Region.linearise.go .any ops fuel (t / (Region.ready .any ops listed).length) (listed.setIfInBounds i true) [i]
   | none=>[].reverse)=i::Region.linearise.go .any ops fuel bH (listed.setIfInBounds i true) []
 cases aQ:(Region.ready .any ops listed)[t % (Region.ready .any ops listed).length]? with
 | none=>
  have Rv:Region.ready .any ops listed=[]:=by
   cases aF:Region.ready .any ops listed with
   | nil=>rfl
   | cons x xs=>
    rw [aF] at aQ;have au:t % (x::xs).length<(x::xs).length:=Nat.mod_lt _ a';simp at aQ;simp at au;omega
  exact .inl ⟨Rv,rfl⟩
 | some i=>
  refine .inr ⟨i,List.mem_of_getElem? aQ,t / (Region.ready .any ops listed).length,?_⟩;simp only [];rw [linearise_go_acc];rfl
theorem kL.post {B:fL} {ro:Option Nat} {D L:Nat→Bool} {V:Nat→af} {E:Nat→Env} {env:Env} {s:ao} {a:Act} {w:World} {p:bR}
  (h:kL J P Γ N B ro ops D L V E env s a w p) (bN:∀ i,i<ops.size→L i=true):dw N B ro env s a w p:=
 h.st.restrict _ fun t v av=>by
  rcases h.known t v av with ⟨k,u,U,ad,al,-⟩|eM
  ·have:=bN k (h.bound k U);rw [ad] at this;cases this
  ·exact eM
theorem bm.sound (aP:bQ P Γ) (dE:tR ops) {D:Nat→Bool} {env:Env} {s:ao} (h:bm J P Γ N ops Q D env s):∀ (fuel t:Nat) (listed:Array Bool) (B:fL) (ro:Option Nat) (V:Nat→af) (E:Nat→Env) (a:Act) (w:World) (p:bR),
  listed.size=ops.size→ri listed ops.size≤fuel→kL J P Γ N B ro ops D (jC listed ops.size) V E env s a w p →
  iU P ops (kg N B ro s w p Q) (Region.linearise.go .any ops fuel t listed []) a w:=by
 have pending:∀ {J:ao→Prop} {D:Nat→Bool} {env:Env} {s:ao} (fuel:Nat),
   (∀ (t:Nat) (listed:Array Bool) (B:fL) (ro:Option Nat) (V:Nat→af) (E:Nat→Env) (a:Act) (w:World) (p:bR),listed.size=ops.size→ri listed ops.size≤fuel →
    kL J P Γ N B ro ops D (jC listed ops.size) V E env s a w p→iU P ops (kg N B ro s w p Q) (Region.linearise.go .any ops fuel t listed []) a w) →
   ∀ (bH:Nat) (listed:Array Bool) (B:fL) (ro:Option Nat) (V:Nat→af) (E:Nat→Env) (a:Act) (w:World) (p:bR) (i:Nat),listed.size=ops.size→ri listed ops.size≤fuel+1 →
    kL J P Γ N B ro ops D (jC listed ops.size) V E env s a w p→i∈Region.ready .any ops listed→D i=true →
    iU P ops (kg N B ro s w p Q) (i::Region.linearise.go .any ops fuel bH (listed.setIfInBounds i true) []) a w:=by
  intro J D env s fuel a1 bH listed B ro V E a w p i b' rj hU aQ e8;have aF:=mem_ready dE.back aQ;obtain ⟨o,ah⟩:∃ o,ops[i]? = some o:=⟨_,Array.getElem?_eq_getElem aF.1⟩;obtain ⟨d,ax,m1,Cf,JB,eJ⟩:=hU.vC i _ e8 aF.2.1 ah;have aI:dw N B ro (E i) s a w p:=hU.st.restrict _ fun t v av=>by
   obtain ⟨-,-,f3⟩:=eJ t v av;exact f3 fun k u aE k8 h6=>by
    have:=(hU.qi.ee aF).qh (mA (jC listed ops.size) i) h6;have cP:k≠i:=fun e=>by
     subst e;rw [ah] at aE;cases aE;rw [ax] at k8;cases k8;exact dE.own _ _ _ ah ax (eJ _ _ av).1
    rwa [jQ _ cP] at this
  rw [JG ah];have cy:J s:=hU.inv.elim (fun q=>by have:=q i e8;rw [aF.2.1] at this;cases this) id;refine Ru aP ax aI cy JB (R:=fun e w'=>match e with | .panicked dB=>kg N B ro s w p Q (.panic dB) a w'|_=>False) ?_;intro val w' bj eM hle aE cc;have tS:=hU.Rr dE aF e8 ah ax hle aE cc eM;rw [← Fc aF.1 b'] at tS;have Rw:=JE aF.1 b' aF.2.1;refine u9 (fun _ _ _ (q:kg N B ro s w' bj Q _ _ _)=>q.after hle aE) _ _ _ (a1 bH _ B ro V E _ w' bj (by simpa using b') ag tS)
 induction h with
 | @congr J D env s e he h a1=>
  intro fuel t listed B ro V E a w p b' rj hU;refine a1 fuel t listed B ro V E a w p b' rj ⟨hU.sub,hU.rh,hU.qi,hU.st,fun t v av=>hU.known t v ((he t).symm.trans av),fun i o U ad al=>?_,hU.bound,hU.inv⟩;obtain ⟨d,ef,di,dL,mw⟩:=hU.vC i o U ad al;exact ⟨d,ef,di,(he d).trans dL,mw⟩
 | @fin J D env s e8 bq=>
  intro fuel
  induction fuel with
  | zero=>
   intro t listed B ro V E a w p b' rj hU;have fV:=JF (ops:=ops) (listed:=listed) ag;exact .here .normal bq (hU.post fV)
  | succ fuel a1=>
   intro t listed B ro V E a w p b' rj hU;rcases JH (ops:=ops) fuel t listed with ⟨az,aw⟩|⟨i,aQ,bH,aw⟩
   ·rw [aw]
    exact .here .normal bq (hU.post (JD dE.back az b'))
   ·rw [aw]
    exact pending fuel a1 bH listed B ro V E a w p i b' rj hU aQ (e8 i (mem_ready dE.back aQ).1)
 | @still J D env s cy i o d v aF ah ax aU av h a1=>
  intro fuel t listed B ro V E a w p b' rj hU;exact a1 fuel t listed B ro _ _ a w p b' rj (hU.ahead dE aF ah ax aU cy av)
 | @split J D env s K X vB cP aw aK aE k7 ab Rx Ry=>
  intro fuel
  induction fuel with
  | zero=>
   intro t listed B ro V E a w p b' rj hU;have fV:=JF (ops:=ops) (listed:=listed) ag;obtain ⟨j,aK,Fe⟩:=cP;have:=hU.sub j (fV j aK);rw [Fe] at this;cases this
  | succ fuel a1=>
   intro t listed B ro V E a w p b' rj hU;rcases JH (ops:=ops) fuel t listed with ⟨az,vD⟩|⟨i,aQ,bH,vD⟩
   ·obtain ⟨j,aK,Fe⟩:=cP
    have:=hU.sub j (JD dE.back az b' j aK);rw [Fe] at this;cases this
   ·rw [vD]
    cases e8:D i with
    | true=>exact pending fuel a1 bH listed B ro V E a w p i b' rj hU aQ e8
    | false=>
     have aF:=mem_ready dE.back aQ;obtain ⟨o,ah⟩:∃ o,ops[i]? = some o:=⟨_,Array.getElem?_eq_getElem aF.1⟩;obtain ⟨pn,aI⟩:=hU.ready dE aF e8 ah;obtain ⟨j7,po,m1⟩:=aw i _ pn ah;have Rw:=JE aF.1 b' aF.2.1;rw [JG ah,if_pos (u7 aI j7)];refine ⟨po.1,(po.2 ro B a w p aI).mono ?_⟩;rintro e w' ⟨aj,bj,hle,ly,cc,he⟩;cases e with
     | returned val=>
      obtain ⟨x,bg,eM⟩:=he;have tS:=hU.Rs dE aF pn ah m1 hle ly cc eM (aK i _ pn ah x aj bg);rw [← Fc aF.1 b'] at tS;refine u9 (fun _ _ _ (q:kg N B ro aj w' bj Q _ _ _)=>q.after hle ly) _ _ _ ?_;cases ax:o.dst with
      | none=>
       rw [ax] at tS;exact Ry i _ pn ah ax x aj bg fuel bH _ B ro V E _ w' bj (by simpa using b') ag tS
      | some d=>
       rw [ax] at tS;exact Rx i _ d pn ah ax x aj bg fuel bH _ B ro V E _ w' bj (by simpa using b') ag tS
     | panicked dB=>
      obtain ⟨v,x,kI,iq,eM⟩:=he;exact ⟨.panic x,[],aj,bj,.panic v x _ kI eM,ab i _ pn ah x aj iq,hU.st.step hle ly cc,hle,ly⟩
     | outgrown=>exact he
theorem Rz (ops:Array Oper):ri (Array.replicate ops.size false) ops.size≤ops.size:=by
 unfold ri;have:=List.countP_le_length (p:=fun i => !jC (Array.replicate ops.size false) ops.size i) (l:=range ops.size);simpa using this
theorem ae.draw (aP:bQ P Γ) (hm:P.follows .mixedOrders=true) {id:Nat} (dE:tR ops) {env:Env} {s:ao} (h:bm J P Γ N ops Q (fun _=>false) env s):ae P N (.region id ops true) Q env s:=by
 intro b B a w p _ aI;refine PZ fun t=>?_
 simp only [Region.schedule,hm,Bool.true_or,if_true];have hJ:dw N B b.roundOf env s a w.drew p:=aI.step kJ va (xr aI.wf);have RA:jC (Array.replicate ops.size false) ops.size=fun _=>false:=by
  funext i;unfold jC;by_cases aQ:i<ops.size
  ·simp [aQ]
  ·simp [aQ]
 have hU:kL J P Γ N B b.roundOf ops (fun _=>false) (jC (Array.replicate ops.size false) ops.size) (fun _ => .any) (fun _=>[]) env s a w.drew p:=by
  rw [RA];exact ⟨fun i h=>h,fun i j h=>nA,fun i j h=>nA,hJ.restrict [] (by simp [Env.get?]),fun t v av => .inr (hJ.env t v av),fun i o h=>nA,fun i h=>nA,.inl fun i h=>nA⟩
 have:=bm.sound aP dE h ops.size t (Array.replicate ops.size false) B b.roundOf _ _ a w.drew p a' (Rz ops) hU;exact u9 (fun _ _ _ (q:kg N B b.roundOf s w.drew p Q _ _ _)=>q.after kJ va) _ _ _ this
end
def vE (o:Oper):List Nat:=o.after.toList.filterMap fun e=>if Region.binds .any e then some e.on else none
def qk (l:List Nat) (i:Nat):Nat:=match nth l i with|some x=>x|none=>0
def xD (acc:List Nat):List Nat→Nat
 | []=>0
 | j::vF=>(2^j|||qk acc j)|||xD acc vF
def vG:List Oper→List Nat→List Nat
  | [],acc=>acc
  | o::r,acc=>match xD acc (vE o) with
    | 0=>vG r (acc++[0])
    | m+1=>vG r (acc++[m+1])
def Ci (ops:Array Oper) (x y:Oper):Bool:=
 (match x.dst with|some d=>(looks ops y).contains d|none=>false)||(match y.dst with|some d=>(looks ops x).contains d|none=>false)
def rk (ops:Array Oper):Bool:=
  let ms:=vG ops.toList []
  (range ops.size).all fun j=>match ops[j]? with
    | none=>false
    | some y=>(vE y).all (fun k=>Nat.blt k j)&&(match y.dst with|some d => !(looks ops y).contains d|none=>true) &&
      (range j).all fun i=>match ops[i]? with
        | none=>false
        | some x=>(match x.dst,y.dst with|some d,some c3 => !Nat.beq d c3|_,_=>true)&&(!Ci ops x y||(qk ms j).testBit i)
theorem Cj {ops:Array Oper} {i j:Nat} {o:Oper} (ah:ops[i]? = some o):j∈vE o↔qg ops i j:=by
 unfold vE qg;simp only [List.mem_filterMap,Array.mem_toList_iff];constructor
 ·rintro ⟨e,he,h⟩
  split at h
  ·cases h;exact ⟨o,e,ah,he,‹_›,rfl⟩
  ·cases h
 ·rintro ⟨o',e,cC,he,aq,rfl⟩
  rw [ah] at cC;cases cC;exact ⟨e,he,by simp [aq]⟩
theorem RB {ops:Array Oper} {acc:List Nat} {k:Nat} (tT:∀ i j,(qk acc i).testBit j=true→k6 ops i j):∀ (vF:List Nat),(∀ j∈vF,qg ops k j)→∀ j,(xD acc vF).testBit j=true→k6 ops k j:=by
 intro vF
 induction vF with
 | nil=>intro _ j h;simp [xD] at h
 | cons x vF a1=>
  intro ax j h;simp only [xD,Nat.testBit_or,Bool.or_eq_true] at h;rcases h with (h|h)|h
  ·rw [Nat.testBit_two_pow] at h
   have:=of_decide_eq_true h;subst this;exact .dep (ax _ (mem_cons_self ..))
  ·exact .trans (ax _ (mem_cons_self ..)) (tT _ _ h)
  ·exact a1 (fun y ay=>ax y (mem_cons_of_mem _ ay)) j h
theorem JI {ops:Array Oper}:∀ (r:List Oper) (acc:List Nat),(∀ i,r[i]? = ops[acc.length+i]?)→(∀ i j,(qk acc i).testBit j=true→k6 ops i j) →
  ∀ i j,(qk (vG r acc) i).testBit j=true→k6 ops i j:=by
 intro r
 induction r with
 | nil=>intro acc _ h;exact h
 | cons o r a1=>
  intro acc aF tT;have ah:ops[acc.length]? = some o:=by simpa using (aF 0).symm
  have hm:=RB tT (k:=acc.length) (vE o) (fun j aK=>(Cj ah).1 aK);have key:∀ m,xD acc (vE o)=m→∀ i j,(qk (vG r (acc++[m])) i).testBit j=true→k6 ops i j:=by
   intro m xE;refine a1 (acc++[m]) (fun i=>?_) (fun i j h=>?_)
   ·have:=aF (i+1)
    simp only [List.getElem?_cons_succ] at this;rw [this];simp [add_assoc,Nat.add_comm 1 i]
   ·unfold qk at h
    rw [xt] at h;by_cases aQ:i<acc.length
    ·rw [List.getElem?_append_left aQ] at h
     exact tT i j (by unfold qk;rw [xt];exact h)
    ·rw [List.getElem?_append_right ag] at h
     by_cases he:i=acc.length
     ·subst he
      simp at h;rw [← xE] at h;exact hm j h
     ·have:i-acc.length≠0:=by omega
      cases ab:i-acc.length with
      | zero=>omega
      | succ n=>rw [ab] at h;simp at h
  simp only [vG];split
  ·rename_i bt;exact key _ bt
  ·rename_i m bt;exact key _ bt
theorem Ff {ops:Array Oper} (h:rk ops=true):tR ops:=by
 unfold rk at h;simp only [all_eq_true,mem_range] at h;have iZ:=JI (ops:=ops) ops.toList [] a' (by intro i j h;simp [qk,nth] at h);have one:∀ j y,ops[j]? = some y→(∀ k,qg ops j k→k<j)∧(∀ d,y.dst=some d→d∉looks ops y) ∧
   (∀ i x,i<j→ops[i]? = some x→(∀ d,x.dst=some d→y.dst≠some d)∧(Ci ops x y=true→k6 ops j i)):=by
  intro j y ay;have aK:j<ops.size:=(Array.getElem?_eq_some_iff.1 ay).1;have:=h j aK;simp only [ay,and_eq_true,all_eq_true,mem_range] at this;obtain ⟨⟨U,ad⟩,al⟩:=this;refine ⟨fun k aE=>?_,fun d ax=>?_,fun i x aQ ab=>?_⟩
  ·have:=U k ((Cj ay).2 aE)
   simpa [blt_eq] using this
  ·rw [ax] at ad;simpa using ad
  ·have:=al i aQ
   simp only [ab,and_eq_true] at this;obtain ⟨g1,g2⟩:=this;refine ⟨fun d ax cl=>?_,fun aC=>?_⟩
   ·rw [ax,cl] at g1;simp at g1
   ·rw [aC] at g2
    exact iZ j i (by simpa using g2)
 refine ⟨fun i j x y d ab ay zy JJ=>?_,fun i j x y d cP ab ay zy aB=>?_,fun i j ax=>?_,fun i x d ab ax=>(one i x ab).2.1 d ax⟩
 ·rcases Nat.lt_trichotomy i j with au|he|pb
  ·exact absurd JJ (((one j y ay).2.2 i x au ab).1 d zy)
  ·exact he
  ·exact absurd zy (((one i x ab).2.2 j y pb ay).1 d JJ)
 ·rcases Nat.lt_trichotomy i j with au|he|pb
  ·exact .inr (((one j y ay).2.2 i x au ab).2 (by simp [Ci,zy,aB]))
  ·exact absurd he cP
  ·exact .inl (((one i x ab).2.2 j y pb ay).2 (by simp [Ci,zy,aB]))
 ·obtain ⟨o,e,ah,-⟩:=id ax
  exact (one i o ah).1 j ax
def vH (Γ:cw) (N:Nat) (ops:Array Oper) (E:Env) (o:Oper):Option (Nat×af):=
  match o.dst with
  | none=>none
  | some d=>match Nat.blt d N with
    | false=>none
    | true=>match guardOf ops E o with
      | some true=>match o9 Γ o E with
        | some v=>some (d,v)
        | none=>none
      | some false=>some (d,.cp [])
      | none=>none
def zz (Γ:cw) (N:Nat) (ops:Array Oper):List Oper→Env→List Oper×Env
  | [],env=>([],env)
  | o::l,env=>match vH Γ N ops env o with
    | some (d,v)=>zz Γ N ops l ((d,v)::env)
    | none=>(o::l,env)
theorem Ck {J:ao→Prop} {P:Program} {Γ:cw} {N:Nat} {ops:Array Oper} {E:Env} {o:Oper} {d:Nat} {v:af} (h:vH Γ N ops E o=some (d,v)):o.dst=some d∧d<N∧Still J P Γ N ops o E v:=by
 unfold vH at h;split at h
 ·cases h
 ·rename_i c3 ax
  split at h
  ·cases h
  ·rename_i aU
   split at h
   ·rename_i aw
    split at h
    ·rename_i fu av;cases h;exact ⟨ax,by simpa [blt_eq] using aU,.inl ⟨aw,.a av⟩⟩
    ·cases h
   ·rename_i aw;cases h;exact ⟨ax,by simpa [blt_eq] using aU,.inr (.inl ⟨aw,rfl⟩)⟩
   ·cases h
section
variable {P:Program} {Γ:cw} {N:Nat} {ops:Array Oper} {Q:b8→Env→ao→Prop} {env:Env} {s:ao}
theorem aa.run (aP:bQ P Γ) {l k9:List Oper} {eP:Env} (h:zz Γ N ops l env=(k9,eP)) (aE:aa P N ops k9 Q eP s):aa P N ops l Q env s:=by
 induction l generalizing env with
 | nil=>simp only [zz,Prod.mk.injEq] at h;obtain ⟨rfl,rfl⟩:=h;exact aE
 | cons o l a1=>
  simp only [zz] at h;split at h
  ·rename_i d v aM
   obtain ⟨ax,aU,ar⟩:=Ck (J:=nf) (P:=P) aM;have pq:Nat.blt d N=true:=by simpa [blt_eq] using aU
   rcases ar with ⟨aw,av⟩|⟨aw,rfl⟩|⟨aw,av⟩
   ·exact aa.pure aP aw ax pq av (a1 h)
   ·exact aa.skip aw ax pq (a1 h)
   ·exact aa.op aw ax pq (av s trivial) (fun x aj ⟨U,ad⟩=>by subst U;subst ad;exact a1 h) (fun _ _ h=>h.elim)
  ·simp only [Prod.mk.injEq] at h;obtain ⟨rfl,rfl⟩:=h;exact aE
theorem aa.Cl {l:List Oper} (t:Nat) {v fu:af} (av:env.get? t=some v) (he:v=fu) (h:aa P N ops l Q ((t,fu)::env) s):aa P N ops l Q env s:=by
 subst he;intro k aE ro B a w p aI
 exact h k aE ro B a w p ⟨aI.size,fun u x ab=>by
  simp only [Env.get?] at ab
  split at ab
  ·rename_i aq;have:=eq_of_beq_eq_true aq;subst this;cases ab;exact aI.env _ _ av
  ·exact aI.env u x ab,aI.wf,aI.defs,aI.round,aI.base⟩
theorem aa.de {l:List Oper} (t:Nat) {b:Bool} (av:env.get? t=some (.bool b)) (he:b=true) (h:aa P N ops l Q ((t,.bool true)::env) s):aa P N ops l Q env s:=aa.Cl t av (congrArg af.bool he) h
theorem aa.cY {l:List Oper} (t:Nat) {b:Bool} (av:env.get? t=some (.bool b)) (he:b=false) (h:aa P N ops l Q ((t,.bool false)::env) s):aa P N ops l Q env s:=aa.Cl t av (congrArg af.bool he) h
theorem aa.sub {l:List Oper} (e:Env) (ar:Env.Sub e env) (h:aa P N ops l Q e s):aa P N ops l Q env s:=
 fun k aE ro B a w p aI=>h k aE ro B a w p (aI.sub ar)
theorem aa.drop {l:List Oper} (aj:ao) (ar:ao.Sub aj s) (h:aa P N ops l Q env aj):aa P N ops l Q env s:=
 fun k aE ro B a w p aI=>u9 (fun _ _ _ (q:kg N B ro aj w p Q _ _ _)=>let ⟨x,eP,eG,bj,U,ad,al,bd,bD⟩:=q;⟨x,eP,eG,bj,U,ad,al,bd,bD.xo ar⟩) _ _ _ (h k aE ro B a w p (aI.EE ar))
end
def bV (m:Nat):Nat→Bool:=fun i=>m.testBit i
theorem oC (m i:Nat):ee (bV m) i=bV (m|||2^i):=by
 funext j;unfold ee bV;rw [Nat.testBit_or,Nat.testBit_two_pow];by_cases e:j=i
 ·subst e;simp
 ·have e':¬ i=j:=fun h=>e h.symm
  simp [e,e']
def ix (ops:Array Oper) (m i:Nat):Bool:=match ops[i]? with
 | none=>false
 | some o => !(m.testBit i)&&(vE o).all fun j=>m.testBit j
theorem sJ {ops:Array Oper} {m i:Nat}:ix ops m i=true↔hf ops (bV m) i:=by
 unfold ix hf bV;constructor
 ·intro h
  split at h
  ·cases h
  ·rename_i o ah
   simp only [and_eq_true,Bool.not_eq_true',all_eq_true] at h;exact ⟨(Array.getElem?_eq_some_iff.1 ah).1,h.1,fun j aK=>h.2 j ((Cj ah).2 aK)⟩
 ·rintro ⟨U,ad,al⟩
  have ah:ops[i]? = some ops[i]:=Array.getElem?_eq_getElem U;rw [ah];simp only [ad,Bool.not_false,Bool.true_and,all_eq_true];exact fun j aK=>al j ((Cj ah).1 aK)
def eE (ops:Array Oper) (m:Nat):List Nat→List Nat
  | []=>[]
  | i::is=>match ix ops m i with
    | true=>i::eE ops m is
    | false=>eE ops m is
theorem zA {ops:Array Oper} {m i:Nat} {l:List Nat} (h:hf ops (bV m) i) (aQ:i∈l):i∈eE ops m l:=by
 induction l with
 | nil=>cases aQ
 | cons j l a1=>
  simp only [eE];rcases mem_cons.1 aQ with rfl|aQ
  ·rw [sJ.2 h];exact mem_cons_self ..
  ·split
   ·exact mem_cons_of_mem _ (a1 aQ)
   ·exact a1 aQ
def ql (Γ:cw) (N:Nat) (ops:Array Oper):List Nat→Nat→Env→Nat×Env
  | [],m,env=>(m,env)
  | i::is,m,env=>match ops[i]? with
    | none=>ql Γ N ops is m env
    | some o=>match ix ops m i with
      | false=>ql Γ N ops is m env
      | true=>match vH Γ N ops (iw env (looks ops o)) o with
        | some (d,v)=>match m|||2^i with
          | 0=>ql Γ N ops is 0 ((d,v)::env)
          | k+1=>ql Γ N ops is (k+1) ((d,v)::env)
        | none=>ql Γ N ops is m env
def idxs:Nat→List Oper→List Nat
 | _,[]=>[]
 | k,_::l=>k::idxs (k+1) l
theorem xF (k:Nat) (l:List Oper):idxs k l=range' k l.length:=by
 induction l generalizing k with
 | nil=>rfl
 | cons o l a1=>simp [idxs,a1,List.range'_succ]
section
variable {J:ao→Prop} {P:Program} {Γ:cw} {N:Nat} {l:List Oper} {Q:b8→Env→ao→Prop} {env:Env} {s:ao} {m:Nat}
theorem bm.runs (cy:J s) {is:List Nat} {jq:Nat} {eP:Env} (h:ql Γ N l.toArray is m env=(jq,eP)) (aE:bm J P Γ N l.toArray Q (bV jq) eP s):bm J P Γ N l.toArray Q (bV m) env s:=by
 induction is generalizing m env with
 | nil=>simp only [ql,Prod.mk.injEq] at h;obtain ⟨rfl,rfl⟩:=h;exact aE
 | cons i is a1=>
  simp only [ql] at h;split at h
  ·exact a1 h
  ·rename_i o ah
   split at h
   ·exact a1 h
   ·rename_i aF
    split at h
    ·rename_i d v aM
     obtain ⟨ax,aU,ar⟩:=Ck aM;refine bm.still cy i o d v (sJ.1 aF) ah ax aU ar ?_;rw [oC];split at h
     ·rename_i bt;rw [bt];exact a1 h
     ·rename_i k bt;rw [bt];exact a1 h
    ·exact a1 h
theorem bc.runs {is:List Nat} {jq:Nat} {eP:Env} (h:ql Γ N l.toArray is m env=(jq,eP)) (aE:bc P Γ N l.toArray Q (bV jq) eP s):bc P Γ N l.toArray Q (bV m) env s:=bm.runs trivial h aE
theorem bm.run (cy:J s) {jq:Nat} {eP:Env} (h:ql Γ N l.toArray (idxs 0 l) m env=(jq,eP)) (aE:bm J P Γ N l.toArray Q (bV jq) eP s):bm J P Γ N l.toArray Q (bV m) env s:=bm.runs cy h aE
theorem bc.run {jq:Nat} {eP:Env} (h:ql Γ N l.toArray (idxs 0 l) m env=(jq,eP)) (aE:bc P Γ N l.toArray Q (bV jq) eP s):bc P Γ N l.toArray Q (bV m) env s:=bm.runs trivial h aE
theorem bc.done (e8:(idxs 0 l).all (fun i=>m.testBit i)=true) (h:Q .normal env s):bm J P Γ N l.toArray Q (bV m) env s:=by
 refine bm.fin (fun i aQ=>?_) h;simp only [all_eq_true] at e8;refine e8 i ?_;rw [xF,List.mem_range'_1];have:i<l.length:=by simpa using aQ
 omega
def ko (ops:Array Oper) (i:Nat):Bool:=(range ops.size).all fun j=>Nat.beq j i||(qk (vG ops.toList []) i).testBit j
theorem Cm {ops:Array Oper} {i:Nat} (h:ko ops i=true):∀ j,j<ops.size→j≠i→k6 ops i j:=by
 intro j aK cP;simp only [ko,all_eq_true] at h;have:=h j (mem_range.2 aK);have aq:Nat.beq j i=false:=by
  cases aq:Nat.beq j i with
  | false=>rfl
  | true=>exact absurd (eq_of_beq_eq_true aq) cP
 rw [aq,Bool.false_or] at this;refine JI ops.toList [] (fun i=>by simp) (fun i j h=>?_) i j this;have:qk [] i=0:=by cases i<;>rfl
 rw [this] at h;simp at h
theorem bm.one {i:Nat} {o:Oper} {d:Nat} {K X:af→ao→Prop} (aF:eE l.toArray m (idxs 0 l)=[i]) (ah:l.toArray[i]? = some o) (ax:o.dst=some d) (aU:Nat.blt d N=true)
  (aw:c7 l env o) (h:aZ P N o (bZ l env o) s K X)
  (aK:∀ x aj,K x aj→J aj∨ko l.toArray i=true) (aE:∀ x aj,K x aj→bm J P Γ N l.toArray Q (bV (m|||2^i)) ((d,x)::env) aj) (ab:∀ x aj,X x aj→Q (.panic x) [] aj):bm J P Γ N l.toArray Q (bV m) env s:=by
 have fl:∀ j,hf l.toArray (bV m) j→j=i:=fun j aK=>by
  have:=zA aK (l:=idxs 0 l) (by rw [xF,List.mem_range'_1];have:=aK.1;simp at this;omega);rw [aF] at this;simpa using this
 have iX:hf l.toArray (bV m) i:=by
  have fW:i∈eE l.toArray m (idxs 0 l):=by rw [aF];exact mem_cons_self ..
  have:∀ is,i∈eE l.toArray m is→ix l.toArray m i=true:=by
   intro is
   induction is with
   | nil=>intro h;cases h
   | cons j is a1=>
    intro h;simp only [eE] at h;split at h
    ·rename_i aq
     rcases mem_cons.1 h with rfl|h
     ·exact aq
     ·exact a1 h
    ·exact a1 h
  exact sJ.1 (this _ fW)
 refine bm.split (fun _=>K) (fun _=>X) ⟨i,iX.1,iX.2.1⟩ (fun j o' aK cC=>?_) (fun j o' vI cC x aj bg=>by have:=fl j vI;subst this;exact (aK x aj bg).imp id Cm) (fun j o' c3 aK cC cl x aj bg=>?_) (fun j o' aK cC cl x aj bg=>?_) (fun j o' aK cC x aj iq=>ab x aj iq)
 ·have:=fl j aK;subst this
  rw [ah] at cC;cases cC;exact ⟨aw,h,fun c3 cl=>by rw [ax] at cl;cases cl;simpa [blt_eq] using aU⟩
 ·have:=fl j aK;subst this
  rw [ah] at cC;cases cC;rw [ax] at cl;cases cl;rw [oC];exact aE x aj bg
 ·have:=fl j aK;subst this
  rw [ah] at cC;cases cC;rw [ax] at cl;cases cl
theorem bm.xG {i:Nat} {o:Oper} {K X:af→ao→Prop} (aF:eE l.toArray m (idxs 0 l)=[i]) (ah:l.toArray[i]? = some o) (ax:o.dst=none)
  (aw:c7 l env o) (h:aZ P N o (bZ l env o) s K X)
  (aK:∀ x aj,K x aj→J aj∨ko l.toArray i=true) (aE:∀ x aj,K x aj→bm J P Γ N l.toArray Q (bV (m|||2^i)) env aj) (ab:∀ x aj,X x aj→Q (.panic x) [] aj):bm J P Γ N l.toArray Q (bV m) env s:=by
 have fl:∀ j,hf l.toArray (bV m) j→j=i:=fun j aK=>by
  have:=zA aK (l:=idxs 0 l) (by rw [xF,List.mem_range'_1];have:=aK.1;simp at this;omega);rw [aF] at this;simpa using this
 have au:i<l.toArray.size:=(Array.getElem?_eq_some_iff.1 ah).1;have oD:bV m i=false:=by
  cases aq:bV m i with
  | false=>rfl
  | true=>
   have fW:i∈eE l.toArray m (idxs 0 l):=by rw [aF];exact mem_cons_self ..
   have:∀ is,i∈eE l.toArray m is→ix l.toArray m i=true:=by
    intro is
    induction is with
    | nil=>intro h;cases h
    | cons j is a1=>
     intro h;simp only [eE] at h;split at h
     ·rename_i aq
      rcases mem_cons.1 h with rfl|h
      ·exact aq
      ·exact a1 h
     ·exact a1 h
   have:=(sJ.1 (this _ fW)).2.1;rw [aq] at this;cases this
 refine bm.split (fun _=>K) (fun _=>X) ⟨i,au,oD⟩ (fun j o' aK cC=>?_) (fun j o' vI cC x aj bg=>by have:=fl j vI;subst this;exact (aK x aj bg).imp id Cm) (fun j o' c3 aK cC cl x aj bg=>?_) (fun j o' aK cC cl x aj bg=>?_) (fun j o' aK cC x aj iq=>ab x aj iq)
 ·have:=fl j aK;subst this
  rw [ah] at cC;cases cC;exact ⟨aw,h,fun c3 cl=>by rw [ax] at cl;cases cl⟩
 ·have:=fl j aK;subst this
  rw [ah] at cC;cases cC;rw [ax] at cl;cases cl
 ·have:=fl j aK;subst this
  rw [ah] at cC;cases cC;rw [oC];exact aE x aj bg
theorem bc.one {i:Nat} {o:Oper} {d:Nat} {K X:af→ao→Prop} (aF:eE l.toArray m (idxs 0 l)=[i]) (ah:l.toArray[i]? = some o) (ax:o.dst=some d) (aU:Nat.blt d N=true)
  (aw:c7 l env o) (h:aZ P N o (bZ l env o) s K X)
  (aE:∀ x aj,K x aj→bc P Γ N l.toArray Q (bV (m|||2^i)) ((d,x)::env) aj) (ab:∀ x aj,X x aj→Q (.panic x) [] aj):bc P Γ N l.toArray Q (bV m) env s:=
 bm.one aF ah ax aU aw h (fun _ _ _ => .inl trivial) aE ab
theorem bc.xG {i:Nat} {o:Oper} {K X:af→ao→Prop} (aF:eE l.toArray m (idxs 0 l)=[i]) (ah:l.toArray[i]? = some o) (ax:o.dst=none)
  (aw:c7 l env o) (h:aZ P N o (bZ l env o) s K X)
  (aE:∀ x aj,K x aj→bc P Γ N l.toArray Q (bV (m|||2^i)) env aj) (ab:∀ x aj,X x aj→Q (.panic x) [] aj):bc P Γ N l.toArray Q (bV m) env s:=
 bm.xG aF ah ax aw h (fun _ _ _ => .inl trivial) aE ab
theorem bc.congr {ops:Array Oper} {D:Nat→Bool} (e:Env) (he:∀ t,e.get? t=env.get? t) (h:bc P Γ N ops Q D e s):bc P Γ N ops Q D env s:=bm.congr e he h
theorem ae.qm (J:ao→Prop) (aP:bQ P Γ) (hm:P.follows .mixedOrders=true) {id:Nat} (dE:rk l.toArray=true) (h:bm J P Γ N l.toArray Q (bV 0) env s):ae P N (.region id l.toArray true) Q env s:=by
 refine ae.draw (J:=J) aP hm (Ff dE) ?_;have:bV 0=fun _=>false:=by funext i;simp [bV]
 rw [this] at h;exact h
theorem ae.qn (aP:bQ P Γ) (hm:P.follows .mixedOrders=true) {id:Nat} (dE:rk l.toArray=true) (h:bc P Γ N l.toArray Q (bV 0) env s):ae P N (.region id l.toArray true) Q env s:=by
 refine ae.draw (J:=nf) aP hm (Ff dE) ?_;have:bV 0=fun _=>false:=by funext i;simp [bV]
 rw [this] at h;exact h
end
end Go.cU
