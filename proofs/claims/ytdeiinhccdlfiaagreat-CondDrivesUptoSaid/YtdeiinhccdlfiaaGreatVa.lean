import Derived.AtR
import Derived.Defers
import Derived.Laws.Sem
import Derived.Laws.World
import Derived.Laws.NewBlocks
import Derived.Laws.Cells
import Derived.Laws.Strings
import Derived.Laws.Tables
import Derived.Laws.Small
import Derived.LaidEql
import Derived.Laws.Append
import Derived.Laws.CopyRow
import Derived.Laws.Slices
import Derived.Laws.IdiomStrings
import Derived.Orders
set_option linter.unusedVariables false
set_option linter.unusedSimpArgs false
/- The concrete half of the abstract walk: how pieces of code, single operations, calls, rounds of a range over a function and a function's end move the machine; over any program. -/
namespace Go.AE

inductive CEx where
 | normal
 | exit (id : Nat)
 | ret
 | panic (chain : List PanicEntry)

def ArrR (P : Program) (m : Machine) (b : Frame) (k : List Item) (cs : List Frame) : CEx → Act → World → Prop
  | .normal, a, w => Steps P m (lone (b.atR a k) cs w)
  | .exit id, a, w => (∀ k', exitTo id k = some k' → Steps P m (lone (b.atR a k') cs w)) ∧
      (exitTo id k = none → ∃ k₁, exitTo id k₁ = none ∧ Steps P m (lone (b.atR a (.code (.exit id) :: k₁)) cs w))
  | .ret, a, w => ∃ k₁, Steps P m (lone (b.atR a (.code .ret :: k₁)) cs w)
  | .panic ch, a, w => ∃ k₁, Steps P m (lone { b.atR a k₁ with mode := .panicking ch } cs w)

theorem ArrR.of_steps {P : Program} {m m₁ : Machine} {b : Frame} {k : List Item} {cs : List Frame} {e : CEx} {a : Act} {w : World}
  (h : Steps P m m₁) (h' : ArrR P m₁ b k cs e a w) : ArrR P m b k cs e a w := by
 cases e with
 | normal => exact h.trans h'
 | exit id => exact ⟨fun k' hk => h.trans (h'.1 k' hk), fun hk => let ⟨k₁, h1, h2⟩ := h'.2 hk; ⟨k₁, h1, h.trans h2⟩⟩
 | ret => obtain ⟨k₁, hs⟩ := h'; exact ⟨k₁, h.trans hs⟩
 | panic ch => obtain ⟨k₁, hs⟩ := h'; exact ⟨k₁, h.trans hs⟩

def cwp (P : Program) (b : Frame) (c : Code) (Q : CEx → Act → World → Prop) (a : Act) (w : World) : Prop :=
 ∀ (k : List Item) (cs : List Frame), ∃ e a' w', Q e a' w' ∧ ArrR P (lone (b.atR a (.code c :: k)) cs w) b k cs e a' w'

section rules
variable {P : Program} {b : Frame} {Q : CEx → Act → World → Prop} {a : Act} {w : World}

theorem cwp_mono {c : Code} {Q' : CEx → Act → World → Prop} (h : cwp P b c Q a w) (hq : ∀ e a w, Q e a w → Q' e a w) : cwp P b c Q' a w :=
 fun k cs => let ⟨e, a', w', q, r⟩ := h k cs; ⟨e, a', w', hq _ _ _ q, r⟩

theorem cwp_skip (h : Q .normal a w) : cwp P b .skip Q a w := fun _ _ => ⟨.normal, a, w, h, .one stepR_skip⟩

theorem cwp_ret (h : Q .ret a w) : cwp P b .ret Q a w := fun k _ => ⟨.ret, a, w, h, k, .refl P _⟩

theorem cwp_exit {id : Nat} (h : Q (.exit id) a w) : cwp P b (.exit id) Q a w :=
 fun k _ => ⟨.exit id, a, w, h, fun _ hk => .one (stepR_exit hk), fun hk => ⟨k, hk, .refl P _⟩⟩

def CEx.andThen (next : Act → World → Prop) (Q : CEx → Act → World → Prop) : CEx → Act → World → Prop
 | .normal, a, w => next a w
 | e, a, w => Q e a w

theorem ArrR.pass_code {m : Machine} {c : Code} {k : List Item} {cs : List Frame} {e : CEx} {a : Act} {w : World} (x : Item) (hx : x.plain = true)
  (he : e ≠ .normal) (h : ArrR P m b (x :: k) cs e a w) : ArrR P m b k cs e a w := by
 cases e with
 | normal => exact absurd rfl he
 | exit id => exact ⟨fun k' hk => h.1 k' (by cases x <;> simp_all [exitTo, Item.plain]), fun hk => h.2 (by cases x <;> simp_all [exitTo, Item.plain])⟩
 | ret => exact h
 | panic ch => exact h

theorem cwp_seq {x y : Code} (h : cwp P b x (CEx.andThen (cwp P b y Q) Q) a w) : cwp P b (.seq x y) Q a w := by
 intro k cs
 obtain ⟨e, a₁, w₁, hq, harr⟩ := h (.code y :: k) cs
 by_cases he : e = .normal
 ·subst he
  obtain ⟨e₂, a₂, w₂, hq₂, harr₂⟩ := hq k cs
  exact ⟨e₂, a₂, w₂, hq₂, .of_steps (.head stepR_seq harr) harr₂⟩
 ·have hq' : Q e a₁ w₁ := by cases e <;> first | exact absurd rfl he | exact hq
  exact ⟨e, a₁, w₁, hq', .of_steps (.one stepR_seq) (ArrR.pass_code (c := y) (.code y) rfl he harr)⟩

theorem cwp_cond {c : Operand} {x y : Code} {t : Bool} (hc : a.eval c = .bool t) (h : cwp P b (if t then x else y) Q a w) : cwp P b (.cond c x y) Q a w :=
 fun k cs => let ⟨e, a', w', q, r⟩ := h k cs; ⟨e, a', w', q, .of_steps (.one (stepR_cond hc)) r⟩

def CEx.inBlock (id : Nat) (Q : CEx → Act → World → Prop) : CEx → Act → World → Prop
 | .exit id', a, w => if id' = id then Q .normal a w else Q (.exit id') a w
 | e, a, w => Q e a w

theorem cwp_block {id : Nat} {c : Code} (h : cwp P b c (CEx.inBlock id Q) a w) : cwp P b (.block id c) Q a w := by
 intro k cs
 obtain ⟨e, a₁, w₁, hq, harr⟩ := h (.inBlock id :: k) cs
 cases e with
 | normal => exact ⟨.normal, a₁, w₁, hq, .head stepR_block (Steps.trans harr (.one stepR_inBlock))⟩
 | exit id' =>
  by_cases hid : id' = id
  ·simp only [CEx.inBlock, hid, if_true] at hq
   exact ⟨.normal, a₁, w₁, hq, .head stepR_block (harr.1 k (by simp [exitTo, hid]))⟩
  ·simp only [CEx.inBlock, hid, if_false] at hq
   have hne : (id == id') = false := by simp; exact fun h => hid h.symm
   refine ⟨.exit id', a₁, w₁, hq, fun k' hk => .head stepR_block (harr.1 k' (by simp [exitTo, hne, hk])), fun hk => ?_⟩
   obtain ⟨k₁, h1, h2⟩ := harr.2 (by simp [exitTo, hne, hk])
   exact ⟨k₁, h1, .head stepR_block h2⟩
 | ret => obtain ⟨k₁, hs⟩ := harr; exact ⟨.ret, a₁, w₁, hq, k₁, .head stepR_block hs⟩
 | panic ch => obtain ⟨k₁, hs⟩ := harr; exact ⟨.panic ch, a₁, w₁, hq, k₁, .head stepR_block hs⟩

end rules

/-! ### Rounds and single operations -/

def Round (P : Program) (l : Nat) (f : FuncId) (tmps : Array Value) (asg body : Code) (w : World) (R : Ending → World → Prop) : Prop :=
 ∀ (c : Frame) (cs : List Frame), ∃ e w', R e w' ∧
  match e with
  | .returned v => Steps P (lone (Frame.round l f tmps asg body .normal) (c :: cs) w) (lone (c.finish v) cs w')
  | .panicked ch => Steps P (lone (Frame.round l f tmps asg body .normal) (c :: cs) w) (lone (c.raise ch) cs w')
  | .outgrown => False

def CallsX (P : Program) (f : FuncId) (args : Array Value) (w : World) (R : Ending → World → Prop) : Prop :=
 Calls P f args w fun e w' => e ≠ .outgrown ∧ R e w'

theorem CallsX.mono {P : Program} {f : FuncId} {args : Array Value} {w : World} {R R' : Ending → World → Prop} (h : CallsX P f args w R)
  (hr : ∀ e w', R e w' → R' e w') : CallsX P f args w R' := Calls.mono h fun e w' ⟨h1, h2⟩ => ⟨h1, hr e w' h2⟩

def NextDoes (P : Program) (nx : Next) (w : World) (R : Ending → World → Prop) : Prop :=
 match nx with
 | .value v => R (.returned v) w
 | .skip => R (.returned undef) w
 | .enter f args => CallsX P f args w R
 | .round l f tmps asg body => Round P l f tmps asg body w R
 | _ => False

def ResDoes (P : Program) (r : Result Next) (R : Ending → World → Prop) : Prop :=
 match r with
 | .ok nx w' => NextDoes P nx w' R
 | .halt (.panic v) w' => R (.panicked [{ v, recovered := false }]) w'
 | _ => False

theorem Round.mono {P : Program} {l : Nat} {f : FuncId} {tmps : Array Value} {asg body : Code} {w : World} {R R' : Ending → World → Prop}
  (h : Round P l f tmps asg body w R) (hr : ∀ e w', R e w' → R' e w') : Round P l f tmps asg body w R' :=
 fun c cs => let ⟨e, w', r, s⟩ := h c cs; ⟨e, w', hr _ _ r, s⟩

theorem NextDoes.mono {P : Program} {nx : Next} {w : World} {R R' : Ending → World → Prop} (h : NextDoes P nx w R)
  (hr : ∀ e w', R e w' → R' e w') : NextDoes P nx w R' := by
 cases nx <;> first | exact hr _ _ h | exact CallsX.mono h hr | exact Round.mono h hr | exact h.elim

theorem ResDoes.mono {P : Program} {r : Result Next} {R R' : Ending → World → Prop} (h : ResDoes P r R) (hr : ∀ e w', R e w' → R' e w') : ResDoes P r R' := by
 unfold ResDoes at h ⊢
 split at h
 ·exact NextDoes.mono h hr
 ·exact hr _ _ h
 ·exact h.elim

def noDefer (o : Oper) : Bool := match o.op with | .defer _ => false | _ => true

section ops
variable {P : Program} {b : Frame} {a : Act} {k : List Item} {cs : List Frame} {w : World} {ops : Array Oper}

theorem op_steps {i : Nat} {rest : List Nat} {o : Oper} {R : Ending → World → Prop} (ho : ops[i]? = some o) (hw : Region.wanted o (yielded ops a.tmps) = true)
  (hd : noDefer o = true) (h : ResDoes P ((execOp a.eval o).run P w) R) :
  ∃ e w', R e w' ∧
   match e with
   | .returned v => Steps P (lone (b.atR a (.inRegion ops (i :: rest) :: k)) cs w) (lone (b.atR (a.put o.dst v) (.inRegion ops rest :: k)) cs w')
   | .panicked ch => ∃ k₁, Steps P (lone (b.atR a (.inRegion ops (i :: rest) :: k)) cs w) (lone { b.atR a k₁ with mode := .panicking ch } cs w')
   | .outgrown => False := by
 have hg := stepGR_op (P := P) (b := b) (k := k) (cs := cs) (w := w) (rest := rest) ho hw
 have hsem : o.semAt b.roundOf a.eval = execOp a.eval o := Oper.semAt_eq _ _ _ (fun c hc => by simp [noDefer, hc] at hd)
 rw [hsem] at hg
 have hfin : ∀ v, (b.atR a (.inRegion ops (i :: rest) :: k)).finish v = b.atR (a.put o.dst v) (.inRegion ops rest :: k) := by
  intro v; rw [Frame.finish_atR, ho]; rfl
 unfold ResDoes at h
 split at h
 ·rename_i nx w' hr
  cases nx with
  | value v =>
   refine ⟨.returned v, w', h, .one (step_lone_go ?_)⟩
   rw [hg, ← hfin]; simp [stepG.apply, hr]
  | skip =>
   refine ⟨.returned undef, w', h, .one (step_lone_go ?_)⟩
   rw [hg, ← hfin]; simp [stepG.apply, hr]
  | enter f args =>
   obtain ⟨e, w'', fr, ⟨hno, hR⟩, hsteps, _, hleave⟩ := h (b.atR a (.inRegion ops (i :: rest) :: k) :: cs)
   have henter : step P (lone (b.atR a (.inRegion ops (i :: rest) :: k)) cs w) =
     .next (lone (Frame.enter P f args .normal) (b.atR a (.inRegion ops (i :: rest) :: k) :: cs) w') :=
    step_lone_go (by rw [hg]; simp [stepG.apply, hr, Frame.atR])
   cases e with
   | returned v =>
    refine ⟨.returned v, w'', hR, .head henter (hsteps.trans (.one ?_))⟩
    rw [← hfin]; exact step_leave_returned hleave
   | panicked ch =>
    refine ⟨.panicked ch, w'', hR, .inRegion ops (i :: rest) :: k, .head henter (hsteps.trans (.one ?_))⟩
    rw [← Frame.raise_atR]; exact step_leave_panicked hleave
   | outgrown => exact absurd rfl hno
  | round l f tmps asg body =>
   obtain ⟨e, w'', hR, hsteps⟩ := h (b.atR a (.inRegion ops (i :: rest) :: k)) cs
   have henter : step P (lone (b.atR a (.inRegion ops (i :: rest) :: k)) cs w) =
     .next (lone (Frame.round l f tmps asg body .normal) (b.atR a (.inRegion ops (i :: rest) :: k) :: cs) w') :=
    step_lone_go (by rw [hg]; simp [stepG.apply, hr, Frame.atR])
   cases e with
   | returned v => exact ⟨.returned v, w'', hR, .head henter (by rw [← hfin]; exact hsteps)⟩
   | panicked ch => exact ⟨.panicked ch, w'', hR, .inRegion ops (i :: rest) :: k, .head henter (by rw [← Frame.raise_atR]; exact hsteps)⟩
   | outgrown => exact hsteps.elim
  | _ => exact h.elim
 ·rename_i v w' hr
  refine ⟨.panicked [{ v, recovered := false }], w', h, .inRegion ops (i :: rest) :: k, .one (step_lone_go ?_)⟩
  rw [hg, ← Frame.raise_atR]; simp [stepG.apply, hr]
 ·exact h.elim
end ops

def cops (P : Program) (ops : Array Oper) (Q : CEx → Act → World → Prop) : List Nat → Act → World → Prop
 | [], a, w => Q .normal a w
 | i :: rest, a, w =>
  match ops[i]? with
  | none => cops P ops Q rest a w
  | some o =>
   if Region.wanted o (yielded ops a.tmps) then
    noDefer o = true ∧ ResDoes P ((execOp a.eval o).run P w) fun
     | .returned v, w' => cops P ops Q rest (a.put o.dst v) w'
     | .panicked ch, w' => Q (.panic ch) a w'
     | .outgrown, _ => False
   else cops P ops Q rest (a.put o.dst undef) w

theorem cops_arr {P : Program} {ops : Array Oper} {Q : CEx → Act → World → Prop} (b : Frame) (k : List Item) (cs : List Frame) (l : List Nat) :
  ∀ (a : Act) (w : World), cops P ops Q l a w → ∃ e a' w', Q e a' w' ∧ ArrR P (lone (b.atR a (.inRegion ops l :: k)) cs w) b k cs e a' w' := by
 induction l with
 | nil => exact fun a w h => ⟨.normal, a, w, h, .one stepR_region_end⟩
 | cons i rest ih =>
  intro a w h
  simp only [cops] at h
  cases ho : ops[i]? with
  | none =>
   simp only [ho] at h
   obtain ⟨e, a', w', hq, harr⟩ := ih a w h
   have hs := stepR_op_skip (P := P) (b := b) (a := a) (k := k) (cs := cs) (w := w) (ops := ops) (i := i) (rest := rest) (by simp [ho])
   simp only [ho, Option.bind_none, Act.put] at hs
   exact ⟨e, a', w', hq, .of_steps (.one hs) harr⟩
  | some o =>
   simp only [ho] at h
   by_cases hw : Region.wanted o (yielded ops a.tmps) = true
   ·simp only [hw, if_true] at h
    obtain ⟨e, w', hR, hst⟩ := op_steps (b := b) (k := k) (cs := cs) (rest := rest) ho hw h.1 h.2
    cases e with
    | returned v =>
     obtain ⟨e, a', w'', hq, harr⟩ := ih _ _ hR
     exact ⟨e, a', w'', hq, .of_steps hst harr⟩
    | panicked ch => exact ⟨.panic ch, a, w', hR, hst⟩
    | outgrown => exact hst.elim
   ·simp only [hw, if_false, Bool.false_eq_true] at h
    obtain ⟨e, a', w', hq, harr⟩ := ih _ _ h
    have hs := stepR_op_skip (P := P) (b := b) (a := a) (k := k) (cs := cs) (w := w) (ops := ops) (i := i) (rest := rest)
     (by simp [ho]; simpa using hw)
    simp only [ho, Option.bind_some] at hs
    exact ⟨e, a', w', hq, .of_steps (.one hs) harr⟩

theorem cwp_region {P : Program} {b : Frame} {id : Nat} {ops : Array Oper} {Q : CEx → Act → World → Prop} {a : Act} {w : World}
  (h : cops P ops Q (List.range ops.size) a w) : cwp P b (.region id ops false) Q a w :=
 fun k cs => let ⟨e, a', w', q, r⟩ := cops_arr b k cs _ a w h; ⟨e, a', w', q, .of_steps (.one stepR_region) r⟩

theorem cwp_region_draw {P : Program} {b : Frame} {id : Nat} {ops : Array Oper} {Q : CEx → Act → World → Prop} {a : Act} {w : World}
  (h : ∀ t, cops P ops Q (Region.schedule (P.follows .mixedOrders) ops t) a { w with drawn := w.drawn + 1 }) : cwp P b (.region id ops true) Q a w :=
 fun k cs => let ⟨e, a', w', q, r⟩ := cops_arr b k cs _ a _ (h _); ⟨e, a', w', q, .of_steps (.one stepR_region_draw) r⟩

/-! ### A function's end: the marks of ranges over functions are taken away; a call out of its body's walk -/

def emptied (w : World) : List Nat → World
 | [] => w
 | d :: ds => emptied { w with heap := w.heap.setIfInBounds d (.deferred none) } ds

def marksOf (ds : List Nat) : List Deferred := ds.map fun d => { target := .collected d, args := #[] }

theorem unwind_steps {P : Program} {cs : List Frame} : ∀ (ds : List Nat) (fr : Frame) (w : World), fr.mode ≠ .run → fr.defers = marksOf ds →
  (∀ d ∈ ds, w.heap[d]? = some (.deferred (some []))) → ds.Nodup → Steps P (lone fr cs w) (lone { fr with defers := [] } cs (emptied w ds)) := by
 intro ds
 induction ds with
 | nil =>
  intro fr w _ hd _ _
  have : ({ fr with defers := [] } : Frame) = fr := by cases fr; simp_all [marksOf]
  rw [this]; exact .refl P _
 | cons d ds ih =>
  intro fr w hm hd hb hn
  have hd0 : w.heap[d]? = some (.deferred (some [])) := hb d (List.mem_cons_self ..)
  have ht : (Instr.takeDeferred d).run P w = .ok [] { w with heap := w.heap.setIfInBounds d (.deferred none) } := by
   unfold Instr.takeDeferred
   simp only [Sem.run_bind, getObj, setObj, Sem.run, hd0, Result.andThen]
   rfl
  have h1 : step P (lone fr cs w) = .next (lone { fr with defers := marksOf ds } cs { w with heap := w.heap.setIfInBounds d (.deferred none) }) := by
   refine step_lone_go ?_
   cases hmode : fr.mode with
   | run => exact absurd hmode hm
   | returning => simp [stepG, unwind, hmode, hd, marksOf, Sem.runT_eq, ht]
   | panicking chain => simp [stepG, unwind, hmode, hd, marksOf, Sem.runT_eq, ht]
  have hnd := List.nodup_cons.1 hn
  refine .head h1 (ih { fr with defers := marksOf ds } _ hm rfl ?_ hnd.2)
  intro d' hd'
  have hne : d ≠ d' := fun e => hnd.1 (e ▸ hd')
  simp only [Array.getElem?_setIfInBounds, hne, if_false]
  exact hb d' (List.mem_cons_of_mem _ hd')

def endPost (P : Program) (fn : Func) (R : Ending → World → Prop) : CEx → Act → World → Prop
  | .normal, a, w | .ret, a, w => ∃ ds, a.defers = marksOf ds ∧ ds.Nodup ∧ (∀ d ∈ ds, w.heap[d]? = some (.deferred (some []))) ∧
      ∃ v, (results fn a.tmps).run P (emptied w ds) = .ok v (emptied w ds) ∧ R (.returned v) (emptied w ds)
  | .panic ch, a, w => ∃ ds, a.defers = marksOf ds ∧ ds.Nodup ∧ (∀ d ∈ ds, w.heap[d]? = some (.deferred (some []))) ∧ R (.panicked ch) (emptied w ds)
  | .exit _, _, _ => False

theorem calls_of_cwp {P : Program} {f : FuncId} {fn : Func} {c : Code} {args : Array Value} {w : World} {R : Ending → World → Prop}
    (hf : P.funcs[f]? = some fn) (hb : fn.body = some c)
    (h : ∀ b : Frame, b.roundOf = none → (P.funcs[b.fn]?).isSome = true → cwp P b c (endPost P fn R) { tmps := args ++ Array.replicate (fn.ntmps - args.size) undef, defers := [] } w) :
    CallsX P f args w R := by
  intro cs
  let b : Frame := { (default : Frame) with fn := f, kind := .normal, roundOf := none }
  have henter : Frame.enter P f args .normal =
      b.atR { tmps := args ++ Array.replicate (fn.ntmps - args.size) undef, defers := [] } [.code c] := by
    simp [Frame.enter, Frame.atR, hf, hb, b]
  obtain ⟨e, a', w', hq, harr⟩ := h b rfl (by simp [b, hf]) [] cs
  rw [← henter] at harr
  cases e with
  | normal =>
    obtain ⟨ds, hd, hn, hbl, v, hr, hR⟩ := hq
    exact ⟨.returned v, _, _, ⟨by simp, hR⟩, Steps.trans (Steps.trans harr (.one (stepR_end rfl)))
      (unwind_steps ds { b.atR a' [] with mode := .returning } w' (by simp) hd hbl hn), rfl, rfl, rfl, rfl, fn, hf, hr⟩
  | ret =>
    obtain ⟨ds, hd, hn, hbl, v, hr, hR⟩ := hq
    obtain ⟨k₁, hs⟩ := harr
    exact ⟨.returned v, _, _, ⟨by simp, hR⟩, Steps.trans (Steps.trans hs (.one (stepR_ret rfl)))
      (unwind_steps ds { b.atR a' (.code .ret :: k₁) with mode := .returning } w' (by simp) hd hbl hn), rfl, rfl, rfl, rfl, fn, hf, hr⟩
  | panic ch =>
    obtain ⟨ds, hd, hn, hbl, hR⟩ := hq
    obtain ⟨k₁, hs⟩ := harr
    exact ⟨.panicked ch, _, _, ⟨by simp, hR⟩, Steps.trans hs (unwind_steps ds { b.atR a' k₁ with mode := .panicking ch } w' (by simp) hd hbl hn), rfl, rfl, rfl, fn, hf⟩
  | exit id => exact hq.elim

def roundEnd (P : Program) (l : Nat) (R : Ending → World → Prop) : CEx → Act → World → Prop
 | .normal, _, w => ∃ v w', (Instr.endRound l none).run P w = .ok v w' ∧ R (.returned v) w'
 | .ret, _, w => ∃ v w', (Instr.endRound l (some .ret)).run P w = .ok v w' ∧ R (.returned v) w'
 | .exit id, _, w => ∃ v w', (Instr.endRound l (some (.exit id))).run P w = .ok v w' ∧ R (.returned v) w'
 | .panic ch, a, w => a.defers = [] ∧ R (.panicked ch) w

theorem round_of_cwp {P : Program} {l : Nat} {f : FuncId} {fn : Func} {tmps : Array Value} {asg body : Code} {w : World} {R : Ending → World → Prop}
  (hf : P.funcs[f]? = some fn)
  (h : ∀ b : Frame, b.roundOf = some l → b.fn = f → cwp P b asg (CEx.andThen (fun a₁ w₁ => ∃ w₂, (Instr.beginRound l).run P w₁ = .ok () w₂ ∧ cwp P b body (roundEnd P l R) a₁ w₂) (fun _ _ _ => False))
   { tmps := tmps, defers := [] } w) : Round P l f tmps asg body w R := by
 intro c cs
 let b : Frame := { (default : Frame) with fn := f, kind := .normal, roundOf := some l }
 have hb0 : Frame.round l f tmps asg body .normal = b.atR { tmps := tmps, defers := [] } [.code asg, .beginRound, .code body] := by
  simp [Frame.round, Frame.atR, b]
 obtain ⟨e, a₁, w₁, hq, harr⟩ := h b rfl rfl [.beginRound, .code body] (c :: cs)
 rw [← hb0] at harr
 by_cases he : e = .normal
 ·subst he
  obtain ⟨w₂, hbr, hbody⟩ := hq
  have s1 := Steps.one (stepR_beginRound (P := P) (b := b) (a := a₁) (k := [.code body]) (cs := c :: cs) rfl hbr)
  obtain ⟨e₂, a₂, w₃, hq₂, harr₂⟩ := hbody [] (c :: cs)
  cases e₂ with
  | normal =>
   obtain ⟨v, w₄, hend, hR⟩ := hq₂
   exact ⟨.returned v, w₄, hR, (Steps.trans harr s1).trans (Steps.trans harr₂ (.one (stepR_round_end rfl rfl hend)))⟩
  | ret =>
   obtain ⟨v, w₄, hend, hR⟩ := hq₂
   obtain ⟨k₁, hs⟩ := harr₂
   exact ⟨.returned v, w₄, hR, (Steps.trans harr s1).trans (Steps.trans hs (.one (stepR_round_ret rfl rfl hend)))⟩
  | exit id =>
   obtain ⟨v, w₄, hend, hR⟩ := hq₂
   obtain ⟨k₁, hk, hs⟩ := harr₂.2 rfl
   exact ⟨.returned v, w₄, hR, (Steps.trans harr s1).trans (Steps.trans hs (.one (stepR_round_exit rfl rfl hk hend)))⟩
  | panic ch =>
   obtain ⟨hd, hR⟩ := hq₂
   obtain ⟨k₁, hs⟩ := harr₂
   refine ⟨.panicked ch, w₃, hR, (Steps.trans harr s1).trans (Steps.trans hs (.one ?_))⟩
   exact step_lone_go (by simp [stepG, unwind, Frame.catches, Frame.atR, hd, b, hf])
 ·cases e <;> first | exact absurd rfl he | exact hq.elim

end Go.AE

/- The abstract walk: values as trees, a store of the mutable objects, an environment of the known slots; how they stand for a frame and a world; the rules for code. -/
namespace Go.AE

inductive Own where
 | nil
 | clip
 | fro
 | own (b : Nat)
 deriving DecidableEq

inductive AV where
 | any
 | bool (b : Bool)
 | int (k : IntKind) (n : Int)
 | str (s : List UInt8)
 | pnil
 | ptr (b o : Nat)
 | fptr (cells : List AV) (off : Nat)
 | kptr (b : Nat) (cells : List AV)
 | slc (sz : Nat) (xs : List AV) (own : Own)
 | mslc (b n : Nat)
 | mnil
 | map (b : Nat)
 | func (f : FuncId) (first cap : List AV)
 | conc (v : Value)
 | fnil
 | iface (t : TypeId) (v : AV)
 | inil
 | agg (cells : List AV)
 | tup (vs : List AV)

abbrev Prot := Nat → Nat → Prop

def flat (vs : List Value) : List Value := vs.flatMap fun v => v.cells.toList

def CellsAt (w : World) (p : Prot) (b o : Nat) (vs : List Value) : Prop := ∀ i v, vs[i]? = some v → p b (o + i) ∧ w.cell? ⟨b, o + i, none⟩ = some v

def _root_.Go.World.shp? (w : World) (r : Nat) : Option (TypeId × Nat) :=
 match w.heap[r]? with
 | some (.cells c elem (0, 0)) => some (elem, c.size)
 | _ => none

mutual
inductive Rel (w : World) (p : Prot) : Value → AV → Prop
 | any (v : Value) : Rel w p v .any
 | bool (b : Bool) : Rel w p (.bool b) (.bool b)
 | int (k : IntKind) (n : Int) : Rel w p (.int k n) (.int k n)
 | str (b : ByteArray) (s : List UInt8) (h : b.data.toList = s) : Rel w p (.string b) (.str s)
 | pnil : Rel w p (.pointer none) .pnil
 | ptr (b o : Nat) : Rel w p (.pointer (some ⟨b, o, none⟩)) (.ptr b o)
 | fptr (b base o off : Nat) (vs : List Value) (cells : List AV) (ho : o = base + off) (hc : CellsAt w p b base vs) (hr : RelL w p vs cells) :
   Rel w p (.pointer (some ⟨b, o, none⟩)) (.fptr cells off)
 | kptr (b : Nat) (vs : List Value) (cells : List AV) (hn : vs ≠ []) (hs : ∃ x, w.shp? b = some x) (hc : CellsAt w p b 0 vs) (hr : RelL w p vs cells) : Rel w p (.pointer (some ⟨b, 0, none⟩)) (.kptr b cells)
 | slcNil (sz : Nat) (own : Own) (h : ∀ b, own ≠ .own b) : Rel w p (.slice none 0 0) (.slc sz [] own)
 | slcZ (a : Addr) (sz : Nat) (own : Own) (h : own = .fro ∨ own = .clip) : Rel w p (.slice (some a) 0 0) (.slc sz [] own)
 | slc (g off n cap sz : Nat) (vs : List Value) (xs : List AV) (own : Own) (hn : own ≠ .nil) (hl : n = xs.length) (hc : CellsAt w p g off (flat vs)) (hr : RelL w p vs xs)
   (hs : ∀ v ∈ vs, v.cells.size = sz) (hm : n ≤ 9223372036854775807) (hk : n ≤ cap) (hcl : own = .clip → cap = n)
   (ho : ∀ b, own = .own b → b = g ∧ off = 0 ∧ ∃ e, w.shp? g = some (e, cap * sz)) : Rel w p (.slice (some ⟨g, off, none⟩) n cap) (.slc sz xs own)
 | mslc (b n cap : Nat) (hm : n ≤ 9223372036854775807) (hk : n ≤ cap) : Rel w p (.slice (some ⟨b, 0, none⟩) n cap) (.mslc b n)
 | mnil : Rel w p (.map none) .mnil
 | map (b : Nat) : Rel w p (.map (some b)) (.map b)
 | func (f : FuncId) (as cs : Array Value) (first cap : List AV) (ha : RelL w p as.toList first) (hc : RelL w p cs.toList cap) : Rel w p (.func (.func f) as cs) (.func f first cap)
 | conc (v : Value) : Rel w p v (.conc v)
 | fnil : Rel w p .nilFunc .fnil
 | iface (t : TypeId) (v : Value) (x : AV) (h : Rel w p v x) : Rel w p (.iface t v) (.iface t x)
 | inil : Rel w p .nilIface .inil
 | agg (cs : Array Value) (xs : List AV) (h : RelL w p cs.toList xs) : Rel w p (.agg cs) (.agg xs)
 | tup (vs : Array Value) (xs : List AV) (h : RelL w p vs.toList xs) : Rel w p (.tuple vs) (.tup xs)
inductive RelL (w : World) (p : Prot) : List Value → List AV → Prop
 | nil : RelL w p [] []
 | cons (v : Value) (x : AV) (vs : List Value) (xs : List AV) (h : Rel w p v x) (t : RelL w p vs xs) : RelL w p (v :: vs) (x :: xs)
end

structure Le (w : World) (p : Prot) (w' : World) (p' : Prot) : Prop where
 os : w'.os = w.os
 tape : w'.tape = w.tape
 output : w'.output = w.output
 size : w.heap.size ≤ w'.heap.size
 prot : ∀ b o, p b o → p' b o
 same : ∀ b o, p b o → w'.cell? ⟨b, o, none⟩ = w.cell? ⟨b, o, none⟩
 shape : ∀ b x, w.shp? b = some x → w'.shp? b = some x

theorem Le.refl (w : World) (p : Prot) : Le w p w p := ⟨rfl, rfl, rfl, Nat.le_refl _, fun _ _ h => h, fun _ _ _ => rfl, fun _ _ h => h⟩

theorem Le.trans {w w₁ w₂ : World} {p p₁ p₂ : Prot} (h : Le w p w₁ p₁) (k : Le w₁ p₁ w₂ p₂) : Le w p w₂ p₂ :=
 ⟨k.os.trans h.os, k.tape.trans h.tape, k.output.trans h.output, Nat.le_trans h.size k.size, fun b o hp => k.prot b o (h.prot b o hp),
  fun b o hp => (k.same b o (h.prot b o hp)).trans (h.same b o hp), fun b x hx => k.shape b x (h.shape b x hx)⟩

theorem CellsAt.mono {w w' : World} {p p' : Prot} (hle : Le w p w' p') {b o : Nat} {vs : List Value} (h : CellsAt w p b o vs) : CellsAt w' p' b o vs :=
 fun i v hv => let ⟨h1, h2⟩ := h i v hv; ⟨hle.prot _ _ h1, (hle.same _ _ h1).trans h2⟩

mutual
theorem Rel.mono {w w' : World} {p p' : Prot} (hle : Le w p w' p') {v : Value} {x : AV} (h : Rel w p v x) : Rel w' p' v x := by
 cases h with
 | any v => exact .any v
 | bool b => exact .bool b
 | int k n => exact .int k n
 | str b s h => exact .str b s h
 | pnil => exact .pnil
 | ptr b o => exact .ptr b o
 | fptr b base o off vs cells ho hc hr => exact .fptr b base o off vs cells ho (hc.mono hle) (hr.mono hle)
 | kptr b vs cells hn hs hc hr => exact .kptr b vs cells hn (hs.imp fun x h => hle.shape _ _ h) (hc.mono hle) (hr.mono hle)
 | slcNil sz own h => exact .slcNil sz own h
 | slcZ a sz own h => exact .slcZ a sz own h
 | slc g off n cap sz vs xs own hn hl hc hr hs hm hk hcl ho =>
  exact .slc g off n cap sz vs xs own hn hl (hc.mono hle) (hr.mono hle) hs hm hk hcl (fun b hb => let ⟨h1, h2, e, h3⟩ := ho b hb; ⟨h1, h2, e, hle.shape _ _ h3⟩)
 | mslc b n cap hm hk => exact .mslc b n cap hm hk
 | mnil => exact .mnil
 | map b => exact .map b
 | func f as cs first cap ha hc => exact .func f as cs first cap (ha.mono hle) (hc.mono hle)
 | conc v => exact .conc v
 | fnil => exact .fnil
 | iface t v x h => exact .iface t v x (h.mono hle)
 | inil => exact .inil
 | agg cs xs h => exact .agg cs xs (h.mono hle)
 | tup vs xs h => exact .tup vs xs (h.mono hle)
theorem RelL.mono {w w' : World} {p p' : Prot} (hle : Le w p w' p') {vs : List Value} {xs : List AV} (h : RelL w p vs xs) : RelL w' p' vs xs := by
 cases h with
 | nil => exact .nil
 | cons v x vs xs h t => exact .cons v x vs xs (h.mono hle) (t.mono hle)
end

section relL
variable {w : World} {p : Prot}
theorem RelL.length {vs : List Value} {xs : List AV} (h : RelL w p vs xs) : vs.length = xs.length := by
 induction vs generalizing xs with
 | nil => cases h; rfl
 | cons v vs ih => cases h with | cons _ x _ xs h t => simp [ih t]

theorem RelL.get {vs : List Value} {xs : List AV} (h : RelL w p vs xs) {i : Nat} {x : AV} (hx : xs[i]? = some x) : ∃ v, vs[i]? = some v ∧ Rel w p v x := by
 induction vs generalizing xs i with
 | nil => cases h; simp at hx
 | cons v vs ih =>
  cases h with
  | cons _ y _ ys h t =>
   cases i with
   | zero => simp at hx; subst hx; exact ⟨v, rfl, h⟩
   | succ i => simp at hx; obtain ⟨u, h1, h2⟩ := ih t hx; exact ⟨u, by simpa using h1, h2⟩

theorem RelL.append {vs us : List Value} {xs ys : List AV} (h : RelL w p vs xs) (k : RelL w p us ys) : RelL w p (vs ++ us) (xs ++ ys) := by
 induction vs generalizing xs with
 | nil => cases h; exact k
 | cons v vs ih => cases h with | cons _ x _ xs h t => exact .cons _ _ _ _ h (ih t)

theorem RelL.take {vs : List Value} {xs : List AV} (h : RelL w p vs xs) (n : Nat) : RelL w p (vs.take n) (xs.take n) := by
  induction vs generalizing xs n with
  | nil => cases h; simp; exact .nil
  | cons v vs ih =>
    cases h with
    | cons _ x _ xs h t => cases n with
      | zero => exact .nil
      | succ n => exact .cons _ _ _ _ h (ih t n)

theorem RelL.drop {vs : List Value} {xs : List AV} (h : RelL w p vs xs) (n : Nat) : RelL w p (vs.drop n) (xs.drop n) := by
  induction vs generalizing xs n with
  | nil => cases h; simp; exact .nil
  | cons v vs ih =>
    cases h with
    | cons _ x _ xs h t => cases n with
      | zero => exact .cons _ _ _ _ h t
      | succ n => exact ih t n

theorem RelL.set {vs : List Value} {xs : List AV} (h : RelL w p vs xs) (i : Nat) {v : Value} {x : AV} (hv : Rel w p v x) : RelL w p (vs.set i v) (xs.set i x) := by
  induction vs generalizing xs i with
  | nil => cases h; exact .nil
  | cons u vs ih =>
    cases h with
    | cons _ y _ ys h t => cases i with
      | zero => exact .cons _ _ _ _ hv t
      | succ i => exact .cons _ _ _ _ h (ih t i)

theorem RelL.replicate {v : Value} {x : AV} (h : Rel w p v x) (n : Nat) : RelL w p (List.replicate n v) (List.replicate n x) := by
 induction n with
 | zero => exact .nil
 | succ n ih => exact .cons _ _ _ _ h ih
end relL

/-! ### Environments; the store -/

abbrev Env := List (Nat × AV)

def Env.get? : Env → Nat → Option AV
 | [], _ => none
 | (t, v) :: e, n => if Nat.beq t n then some v else Env.get? e n

inductive AObj where
 | box (t : TypeId) (cells : List AV)
 | row (t : TypeId) (sz n : Nat)
 | map (es : List (AV × AV))
 | ranged (es : List (AV × AV)) (it : Nat) (left : List (AV × AV)) (cur : Option (AV × AV))
 | tick (m : Nat)
 | loop (r : Loop) (env : Env)

abbrev Store := Nat → Option AObj

def RelM (w : World) (p : Prot) (mes : List MapEntry) (es : List (AV × AV)) : Prop :=
 RelL w p (mes.map (·.key)) (es.map (·.1)) ∧ RelL w p (mes.map (·.val)) (es.map (·.2))

def ObjOk (w : World) (p : Prot) (b : Nat) : AObj → Prop
  | .box t cs => ∃ vs : Array Value, w.heap[b]? = some (.cells vs t (0, 0)) ∧ RelL w p vs.toList cs ∧ ∀ o, ¬ p b o
  | .row t sz n => ∃ cur : Array Value, w.heap[b]? = some (.cells cur t (0, 0)) ∧ n * sz ≤ cur.size ∧ (∃ cap, cur.size = cap * sz) ∧ ∀ o, p b o ↔ o < n * sz
  | .map es => ∃ mes clock, w.heap[b]? = some (.map mes clock) ∧ RelM w p mes.toList es ∧ (∀ e ∈ mes.toList, e.born < clock) ∧ (mes.toList.map (·.born)).Nodup
  | .ranged es it left cur => ∃ (mes : Array MapEntry) (clock : Nat) (seen : Array Nat), w.heap[b]? = some (.map mes clock) ∧ w.heap[it]? = some (.mapIter (some b) clock seen clock) ∧ RelM w p mes.toList es ∧
      (∀ e ∈ mes.toList, e.born < clock) ∧ (mes.toList.map (·.born)).Nodup ∧ RelM w p (mes.toList.filter fun e => !seen.contains e.born) left ∧
      ∀ k v, cur = some (k, v) → ∃ stamp e, seen.back? = some stamp ∧ mes.find? (·.born == stamp) = some e ∧ Rel w p e.key k ∧ Rel w p e.val v
  | .tick m => ∃ since seen last, w.heap[b]? = some (.mapIter (some m) since seen last)
  | .loop r env => w.heap[b]? = some (.loop r) ∧ ∀ t v, env.get? t = some v → Rel w p (r.tmps.getD t undef) v

structure Wf (w : World) (p : Prot) (s : Store) : Prop where
 obj : ∀ b o, s b = some o → ObjOk w p b o
 lt : ∀ b o, p b o → b < w.heap.size

theorem ObjOk.ranged_move {w w' : World} {p p' : Prot} {b it : Nat} {es left : List (AV × AV)} {cur : Option (AV × AV)} (h : ObjOk w p b (.ranged es it left cur)) (hle : Le w p w' p') (hb : w'.heap[b]? = w.heap[b]?) (hi : w'.heap[it]? = w.heap[it]?) :
  ObjOk w' p' b (.ranged es it left cur) := by
 obtain ⟨mes, clock, seen, h1, h2, h3, h4, h5, h6, h7⟩ := h
 exact ⟨mes, clock, seen, hb.trans h1, hi.trans h2, ⟨h3.1.mono hle, h3.2.mono hle⟩, h4, h5, ⟨h6.1.mono hle, h6.2.mono hle⟩, fun k v hc => let ⟨st, e, a1, a2, a3, a4⟩ := h7 k v hc; ⟨st, e, a1, a2, a3.mono hle, a4.mono hle⟩⟩

theorem ObjOk.ranged_ne {w : World} {p : Prot} {b it d : Nat} {es left : List (AV × AV)} {cur : Option (AV × AV)} (h : ObjOk w p b (.ranged es it left cur)) {o : Obj} (hd : w.heap[d]? = some o) (ho : ∀ m a s l, o ≠ .mapIter m a s l) : it ≠ d := by
 obtain ⟨mes, clock, seen, h1, h2, h3⟩ := h
 intro e; subst e; rw [hd] at h2; cases h2; exact ho _ _ _ _ rfl

structure Kept (s s' : Store) (w : World) (p : Prot) (w' : World) (p' : Prot) : Prop where
 heap : ∀ b, b < w.heap.size → s b = none → w'.heap[b]? = w.heap[b]?
 dom : ∀ b, b < w.heap.size → s b = none → s' b = none
 prot : ∀ b o, b < w.heap.size → s b = none → p' b o → p b o

theorem Kept.refl (s : Store) (w : World) (p : Prot) : Kept s s w p w p := ⟨fun _ _ _ => rfl, fun _ _ h => h, fun _ _ _ _ h => h⟩

theorem Kept.trans {s s₁ s₂ : Store} {w w₁ w₂ : World} {p p₁ p₂ : Prot} (hs : w.heap.size ≤ w₁.heap.size) (h : Kept s s₁ w p w₁ p₁) (k : Kept s₁ s₂ w₁ p₁ w₂ p₂) : Kept s s₂ w p w₂ p₂ :=
  ⟨fun b hb hn => (k.heap b (Nat.lt_of_lt_of_le hb hs) (h.dom b hb hn)).trans (h.heap b hb hn),
   fun b hb hn => k.dom b (Nat.lt_of_lt_of_le hb hs) (h.dom b hb hn),
   fun b o hb hn hp => h.prot b o hb hn (k.prot b o (Nat.lt_of_lt_of_le hb hs) (h.dom b hb hn) hp)⟩

def constAV : Value → Option AV
 | .bool b => some (.bool b)
 | .int k n => some (.int k n)
 | .string s => some (.str s.data.toList)
 | .pointer none => some .pnil
 | .slice none 0 0 => some (.slc 0 [] .nil)
 | .map none => some .mnil
 | .nilFunc => some .fnil
 | .nilIface => some .inil
 | .tuple vs => if vs.isEmpty then some (.tup []) else none
 | _ => none

def ev (env : Env) : Operand → Option AV
 | .tmp t => env.get? t
 | .const v => constAV v
 | .func f => some (.func f [] [])
 | .global _ => none

theorem constAV_rel {w : World} {p : Prot} {v : Value} {x : AV} (h : constAV v = some x) : Rel w p v x := by
 unfold constAV at h
 split at h <;> first | (cases h; done) | (cases h; first | exact .bool _ | exact .int _ _ | exact .str _ _ rfl | exact .pnil | exact .slcNil _ _ (fun _ => by simp) | exact .mnil | exact .fnil | exact .inil) | skip
 rename_i vs
 split at h
 ·rename_i he
  cases h
  have : vs = #[] := by simpa using he
  subst this
  exact .tup _ _ .nil
 ·cases h

abbrev Base := Nat × List Deferred
structure St (N : Nat) (B : Base) (ro : Option Nat) (env : Env) (s : Store) (a : Act) (w : World) (p : Prot) : Prop where
 size : a.tmps.size = N
 env : ∀ t v, env.get? t = some v → Rel w p (a.tmps.getD t undef) v
 wf : Wf w p s
 defs : ∃ ds, a.defers = marksOf ds ++ B.2 ∧ ds.Nodup ∧ ∀ d ∈ ds, B.1 ≤ d ∧ w.heap[d]? = some (.deferred (some [])) ∧ s d = none
 round : ∀ l, ro = some l → a.defers = [] ∧ (∃ r, w.heap[l]? = some (.loop r)) ∧ s l = none
 base : B.1 ≤ w.heap.size

theorem St.ev {N : Nat} {B : Base} {ro : Option Nat} {env : Env} {s : Store} {a : Act} {w : World} {p : Prot} (h : St N B ro env s a w p) {o : Operand} {x : AV} (hx : ev env o = some x) :
  Rel w p (a.eval o) x := by
 cases o with
 | tmp t => exact h.env t x hx
 | const v => exact constAV_rel hx
 | func f => simp [AE.ev] at hx; subst hx; exact .func f #[] #[] [] [] .nil .nil
 | global g => simp [AE.ev] at hx

theorem St.step {N : Nat} {B : Base} {ro : Option Nat} {env : Env} {s s' : Store} {a : Act} {w w' : World} {p p' : Prot} (h : St N B ro env s a w p)
  (hle : Le w p w' p') (hk : Kept s s' w p w' p') (hwf : Wf w' p' s') : St N B ro env s' a w' p' := by
 obtain ⟨ds, h1, h2, h3⟩ := h.defs
 refine ⟨h.size, fun t v hv => (h.env t v hv).mono hle, hwf, ⟨ds, h1, h2, fun d hd => ?_⟩, fun l hl => ?_, Nat.le_trans h.base hle.size⟩
 ·obtain ⟨hB, hd0, hs⟩ := h3 d hd
  have hlt : d < w.heap.size := (Array.getElem?_eq_some_iff.1 hd0).1
  exact ⟨hB, (hk.heap d hlt hs).trans hd0, hk.dom d hlt hs⟩
 ·obtain ⟨hd, ⟨r, hr⟩, hs⟩ := h.round l hl
  have hlt : l < w.heap.size := (Array.getElem?_eq_some_iff.1 hr).1
  exact ⟨hd, ⟨r, (hk.heap l hlt hs).trans hr⟩, hk.dom l hlt hs⟩

theorem St.put {N : Nat} {B : Base} {ro : Option Nat} {env : Env} {s : Store} {a : Act} {w : World} {p : Prot} (h : St N B ro env s a w p) {d : Nat} (hd : d < N) {v : Value} {x : AV}
  (hv : Rel w p v x) : St N B ro ((d, x) :: env) s (a.put (some d) v) w p := by
 refine ⟨by simp [Act.put, h.size], fun t y hy => ?_, h.wf, h.defs, h.round, h.base⟩
 simp only [Env.get?] at hy
 split at hy
 ·rename_i he
  have he' : d = t := Nat.eq_of_beq_eq_true he
  cases hy
  subst he'
  have hd' : d < a.tmps.size := h.size.symm ▸ hd
  simpa [Act.put, Array.getD_eq_getD_getElem?, Array.getElem?_setIfInBounds, hd'] using hv
 ·rename_i he
  have he' : d ≠ t := fun e => he (by subst e; simp)
  have := h.env t y hy
  simpa [Act.put, Array.getD_eq_getD_getElem?, Array.getElem?_setIfInBounds, he'] using this

/-! ### Code -/

inductive AEx where
 | normal
 | exit (id : Nat)
 | ret
 | panic (v : AV)

def Chain (v : Value) (ch : List PanicEntry) : Prop := ∃ rest, ch = { v, recovered := false } :: rest ∧ ∀ e ∈ rest, e.goexit = false
theorem Chain.one (v : Value) : Chain v [{ v, recovered := false }] := ⟨[], rfl, fun _ h => by cases h⟩

inductive ExRel (w : World) (p : Prot) : CEx → AEx → Prop
 | normal : ExRel w p .normal .normal
 | exit (id : Nat) : ExRel w p (.exit id) (.exit id)
 | ret : ExRel w p .ret .ret
 | panic (v : Value) (x : AV) (ch : List PanicEntry) (hc : Chain v ch) (h : Rel w p v x) : ExRel w p (.panic ch) (.panic x)

def Post (N : Nat) (B : Base) (ro : Option Nat) (s : Store) (w : World) (p : Prot) (Q : AEx → Env → Store → Prop) (e : CEx) (a' : Act) (w' : World) : Prop :=
 ∃ x env' s' p', ExRel w' p' e x ∧ Q x env' s' ∧ St N B ro env' s' a' w' p' ∧ Le w p w' p' ∧ Kept s s' w p w' p'

theorem Post.after {N : Nat} {B : Base} {ro : Option Nat} {s s₁ : Store} {w w₁ w' : World} {p p₁ : Prot} {Q : AEx → Env → Store → Prop} {e : CEx} {a' : Act}
  (hle : Le w p w₁ p₁) (hk : Kept s s₁ w p w₁ p₁) (h : Post N B ro s₁ w₁ p₁ Q e a' w') : Post N B ro s w p Q e a' w' :=
 let ⟨x, env', s', p', h1, h2, h3, h4, h5⟩ := h
 ⟨x, env', s', p', h1, h2, h3, hle.trans h4, hk.trans hle.size h5⟩

def CW (P : Program) (N : Nat) (c : Code) (Q : AEx → Env → Store → Prop) (env : Env) (s : Store) : Prop :=
 ∀ (b : Frame) (B : Base) (a : Act) (w : World) (p : Prot), (P.funcs[b.fn]?).isSome = true → St N B b.roundOf env s a w p → cwp P b c (Post N B b.roundOf s w p Q) a w

section cw
variable {P : Program} {N : Nat} {Q : AEx → Env → Store → Prop} {env : Env} {s : Store}

theorem CW.mono {c : Code} {Q' : AEx → Env → Store → Prop} (h : CW P N c Q env s) (hq : ∀ e env s, Q e env s → Q' e env s) : CW P N c Q' env s :=
 fun b B a w p hfn hst => cwp_mono (h b B a w p hfn hst) fun _ _ _ ⟨x, env', s', p', h1, h2, h3⟩ => ⟨x, env', s', p', h1, hq _ _ _ h2, h3⟩

theorem Post.here {B : Base} {ro : Option Nat} {a : Act} {w : World} {p : Prot} {e : CEx} {x : AEx} (hx : ExRel w p e x) (hq : Q x env s) (h : St N B ro env s a w p) :
  Post N B ro s w p Q e a w := ⟨x, env, s, p, hx, hq, h, .refl w p, .refl s w p⟩

theorem CW.skip (h : Q .normal env s) : CW P N .skip Q env s := fun _ _ _ _ _ _ hst => cwp_skip (.here .normal h hst)
theorem CW.ret (h : Q .ret env s) : CW P N .ret Q env s := fun _ _ _ _ _ _ hst => cwp_ret (.here .ret h hst)
theorem CW.exit {id : Nat} (h : Q (.exit id) env s) : CW P N (.exit id) Q env s := fun _ _ _ _ _ _ hst => cwp_exit (.here (.exit id) h hst)

def AEx.andThen (next : Env → Store → Prop) (Q : AEx → Env → Store → Prop) : AEx → Env → Store → Prop
 | .normal, e, s => next e s
 | x, e, s => Q x e s

theorem CW.seq {x y : Code} (h : CW P N x (AEx.andThen (CW P N y Q) Q) env s) : CW P N (.seq x y) Q env s := by
 intro b B a w p hfn hst
 refine cwp_seq (cwp_mono (h b B a w p hfn hst) ?_)
 rintro e a₁ w₁ ⟨x₁, env₁, s₁, p₁, hx, hq, hst₁, hle, hk⟩
 cases hx with
 | normal => exact cwp_mono (hq b B a₁ w₁ p₁ hfn hst₁) fun _ _ _ h => h.after hle hk
 | exit id => exact ⟨_, env₁, s₁, p₁, .exit id, hq, hst₁, hle, hk⟩
 | ret => exact ⟨_, env₁, s₁, p₁, .ret, hq, hst₁, hle, hk⟩
 | panic v x ch hc hv => exact ⟨_, env₁, s₁, p₁, .panic v x ch hc hv, hq, hst₁, hle, hk⟩

theorem rel_bool {w : World} {p : Prot} {v : Value} {t : Bool} (h : Rel w p v (.bool t)) : v = .bool t := by cases h; rfl

theorem CW.cond {c : Operand} {x y : Code} {t : Bool} (hc : ev env c = some (.bool t)) (ht : t = true → CW P N x Q env s) (hf : t = false → CW P N y Q env s) :
  CW P N (.cond c x y) Q env s := by
 intro b B a w p hfn hst
 refine cwp_cond (rel_bool (hst.ev hc)) ?_
 cases t
 ·exact hf rfl b B a w p hfn hst
 ·exact ht rfl b B a w p hfn hst

theorem CW.condT {c : Operand} {x y : Code} (hc : ev env c = some (.bool true)) (h : CW P N x Q env s) : CW P N (.cond c x y) Q env s := CW.cond hc (fun _ => h) (by simp)
theorem CW.condF {c : Operand} {x y : Code} (hc : ev env c = some (.bool false)) (h : CW P N y Q env s) : CW P N (.cond c x y) Q env s := CW.cond hc (by simp) (fun _ => h)

def AEx.inBlock (id : Nat) (Q : AEx → Env → Store → Prop) : AEx → Env → Store → Prop
 | .exit id', a, w => if Nat.beq id' id then Q .normal a w else Q (.exit id') a w
 | e, a, w => Q e a w

theorem CW.block {id : Nat} {c : Code} (h : CW P N c (AEx.inBlock id Q) env s) : CW P N (.block id c) Q env s := by
 intro b B a w p hfn hst
 refine cwp_block (cwp_mono (h b B a w p hfn hst) ?_)
 rintro e a₁ w₁ ⟨x₁, env₁, s₁, p₁, hx, hq, hst₁, hle, hk⟩
 cases hx with
 | normal => exact ⟨_, env₁, s₁, p₁, .normal, hq, hst₁, hle, hk⟩
 | exit id' =>
  by_cases hid : id' = id
  ·simp only [AEx.inBlock, hid, Nat.beq_refl, if_true] at hq
   simp only [CEx.inBlock, hid, if_true]
   exact ⟨_, env₁, s₁, p₁, .normal, hq, hst₁, hle, hk⟩
  ·have hb : Nat.beq id' id = false := by
    cases hbq : Nat.beq id' id with
    | false => rfl
    | true => exact absurd (Nat.eq_of_beq_eq_true hbq) hid
   simp only [AEx.inBlock, hb, if_false, Bool.false_eq_true] at hq
   simp only [CEx.inBlock, hid, if_false]
   exact ⟨_, env₁, s₁, p₁, .exit id', hq, hst₁, hle, hk⟩
 | ret => exact ⟨_, env₁, s₁, p₁, .ret, hq, hst₁, hle, hk⟩
 | panic v x ch hc hv => exact ⟨_, env₁, s₁, p₁, .panic v x ch hc hv, hq, hst₁, hle, hk⟩

def AVle (x y : AV) : Prop := ∀ w p v, Rel w p v x → Rel w p v y
theorem AVle.refl (x : AV) : AVle x x := fun _ _ _ h => h

def Env.Sub : Env → Env → Prop
 | [], _ => True
 | (t, v) :: e, env => (∃ v', env.get? t = some v' ∧ AVle v' v) ∧ Env.Sub e env

theorem Env.Sub.get {e env : Env} (h : Env.Sub e env) {t : Nat} {v : AV} (hv : e.get? t = some v) : ∃ v', env.get? t = some v' ∧ AVle v' v := by
 induction e with
 | nil => simp [Env.get?] at hv
 | cons x e ih =>
  obtain ⟨t', v'⟩ := x
  simp only [Env.get?] at hv
  split at hv
  ·rename_i he
   have he' : t' = t := Nat.eq_of_beq_eq_true he
   cases hv; subst he'
   exact h.1
  ·exact ih h.2 hv

theorem St.sub {B : Base} {ro : Option Nat} {e : Env} {a : Act} {w : World} {p : Prot} (hs : Env.Sub e env) (h : St N B ro env s a w p) : St N B ro e s a w p :=
 ⟨h.size, fun t v hv => let ⟨v', h1, h2⟩ := hs.get hv; h2 _ _ _ (h.env t v' h1), h.wf, h.defs, h.round, h.base⟩

theorem CW.sub {c : Code} (e : Env) (hs : Env.Sub e env) (h : CW P N c Q e s) : CW P N c Q env s :=
 fun b B a w p hfn hst => h b B a w p hfn (hst.sub hs)

def Store.Sub (s' s : Store) : Prop := ∀ b, s' b = s b ∨ s' b = none

theorem Wf.sub {s' : Store} {w : World} {p : Prot} (hs : Store.Sub s' s) (h : Wf w p s) : Wf w p s' :=
 ⟨fun b o hb => h.obj b o (by rcases hs b with e | e <;> simp_all), h.lt⟩

theorem Store.Sub.none {s' : Store} (hs : Store.Sub s' s) {b : Nat} (h : s b = none) : s' b = none := by rcases hs b with e | e <;> simp_all

theorem Kept.subL {s' s'' : Store} (hs : Store.Sub s' s) {w w' : World} {p p' : Prot} (h : Kept s' s'' w p w' p') : Kept s s'' w p w' p' :=
 ⟨fun b hb hn => h.heap b hb (hs.none hn), fun b hb hn => h.dom b hb (hs.none hn), fun b o hb hn => h.prot b o hb (hs.none hn)⟩

theorem St.subS {B : Base} {ro : Option Nat} {s' : Store} {a : Act} {w : World} {p : Prot} (hs : Store.Sub s' s) (h : St N B ro env s a w p) : St N B ro env s' a w p := by
 obtain ⟨ds, h1, h2, h3⟩ := h.defs
 exact ⟨h.size, h.env, h.wf.sub hs, ⟨ds, h1, h2, fun d hd => let ⟨a, b, c⟩ := h3 d hd; ⟨a, b, hs.none c⟩⟩, fun l hl => let ⟨a, b, c⟩ := h.round l hl; ⟨a, b, hs.none c⟩, h.base⟩

theorem CW.drop {c : Code} (s' : Store) (hs : Store.Sub s' s) (h : CW P N c Q env s') : CW P N c Q env s :=
 fun b B a w p hfn hst => cwp_mono (h b B a w p hfn (hst.subS hs)) fun _ _ _ ⟨x, env', s'', p', h1, h2, h3, h4, h5⟩ => ⟨x, env', s'', p', h1, h2, h3, h4, h5.subL hs⟩

theorem CW.loop {σ : Type} {c : Code} (E : σ → Env) (S : σ → Store) (I : σ → Prop) (μ : σ → Nat) (x₀ : σ) (hI : I x₀) (hE : Env.Sub (E x₀) env) (hS : Store.Sub (S x₀) s)
  (round : ∀ x, I x → CW P N c (AEx.andThen (fun env' s' => ∃ y, I y ∧ Env.Sub (E y) env' ∧ Store.Sub (S y) s' ∧ μ y < μ x) Q) (E x) (S x)) : CW P N (.loop c) Q env s := by
 refine CW.sub _ hE (CW.drop _ hS ?_)
 intro b B a w p hfn hst
 have key : ∀ n x a w p, μ x = n → I x → St N B b.roundOf (E x) (S x) a w p → ∀ k cs, ∃ e a' w', Post N B b.roundOf (S x) w p Q e a' w' ∧
   ArrR P (lone (b.atR a (.code c :: .inLoop c :: k)) cs w) b k cs e a' w' := by
  intro n
  induction n using Nat.strongRecOn with
  | _ n ih =>
   intro x a w p hn hx hst k cs
   obtain ⟨e, a₁, w₁, ⟨x₁, env₁, s₁, p₁, hxr, hq, hst₁, hle, hk⟩, harr⟩ := round x hx b B a w p hfn hst (.inLoop c :: k) cs
   by_cases he : e = .normal
   ·subst he
    cases hxr
    obtain ⟨y, hy, hsub, hsubS, hlt⟩ := hq
    obtain ⟨e₂, a₂, w₂, hq₂, harr₂⟩ := ih (μ y) (hn ▸ hlt) y a₁ w₁ p₁ rfl hy ((hst₁.sub hsub).subS hsubS) k cs
    refine ⟨e₂, a₂, w₂, Post.after hle hk ?_, .of_steps (Steps.trans harr (.one stepR_inLoop)) harr₂⟩
    obtain ⟨x', env', s'', p', h1, h2, h3, h4, h5⟩ := hq₂
    exact ⟨x', env', s'', p', h1, h2, h3, h4, h5.subL hsubS⟩
   ·have hq' : Post N B b.roundOf (S x) w p Q e a₁ w₁ := by
     refine ⟨x₁, env₁, s₁, p₁, hxr, ?_, hst₁, hle, hk⟩
     cases hxr <;> first | exact absurd rfl he | exact hq
    exact ⟨e, a₁, w₁, hq', ArrR.pass_code (c := c) (.inLoop c) rfl he harr⟩
 intro k cs
 obtain ⟨e, a', w', hq, harr⟩ := key _ x₀ a w p rfl hI hst k cs
 exact ⟨e, a', w', hq, .of_steps (.one stepR_loop) harr⟩
end cw
end Go.AE

/- The abstract walk: regions of operations, operation by operation; what new blocks do to the state. -/
namespace Go.AE

def OW (P : Program) (N : Nat) (o : Oper) (env : Env) (s : Store) (K X : AV → Store → Prop) : Prop :=
 noDefer o = true ∧ ∀ ro B a w p, St N B ro env s a w p → ResDoes P ((execOp a.eval o).run P w) fun e w' => ∃ s' p', Le w p w' p' ∧ Kept s s' w p w' p' ∧ Wf w' p' s' ∧
  match e with
  | .returned v => ∃ x, K x s' ∧ Rel w' p' v x
  | .panicked ch => ∃ v x, Chain v ch ∧ X x s' ∧ Rel w' p' v x
  | .outgrown => False

theorem OW.mono {P : Program} {N : Nat} {o : Oper} {env : Env} {s : Store} {K X K' X' : AV → Store → Prop} (h : OW P N o env s K X)
  (hk : ∀ x s, K x s → K' x s) (hx : ∀ x s, X x s → X' x s) : OW P N o env s K' X' :=
 ⟨h.1, fun ro B a w p hst => (h.2 ro B a w p hst).mono fun e w' ⟨s', p', h1, h2, h3, h4⟩ => ⟨s', p', h1, h2, h3, by
  cases e with
  | returned v => obtain ⟨x, hx, hr⟩ := h4; exact ⟨x, hk _ _ hx, hr⟩
  | panicked ch => obtain ⟨v, x, hc, hX, hr⟩ := h4; exact ⟨v, x, hc, hx _ _ hX, hr⟩
  | outgrown => exact h4⟩⟩

def guardOf (ops : Array Oper) (env : Env) (o : Oper) : Option Bool :=
  match o.guard with
  | none => some true
  | some (j, want) =>
    match (ops[j]?).bind (·.dst) with
    | none => some false
    | some d => match env.get? d with
      | some (.bool b) => some (match want with | true => b | false => !b)
      | some (.tup []) => some false
      | _ => none

theorem rel_tup_nil {w : World} {p : Prot} {v : Value} (h : Rel w p v (.tup [])) : v = .tuple #[] := by
 cases h with
 | tup vs _ h => have := h.length; simp at this; rw [this]

theorem guardOf_ok {N : Nat} {B : Base} {ro : Option Nat} {env : Env} {s : Store} {a : Act} {w : World} {p : Prot} (hst : St N B ro env s a w p) {ops : Array Oper} {o : Oper} {g : Bool}
  (h : guardOf ops env o = some g) : Region.wanted o (yielded ops a.tmps) = g := by
 unfold guardOf at h
 unfold Region.wanted
 split at h
 ·rename_i hg; simp only [hg]; cases h; rfl
 ·rename_i j want hg
  simp only [hg]
  split at h
  ·rename_i hd
   cases h
   simp [yielded, hd]
  ·rename_i d hd
   split at h
   ·rename_i b hb
    have hr := hst.env d _ hb
    have hv := rel_bool hr
    cases h
    have hy : yielded ops a.tmps j = some b := by
     unfold yielded
     have : a.tmps[d]? = some (.bool b) := by
      rw [Array.getD_eq_getD_getElem?] at hv
      cases hx : a.tmps[d]? with
      | none => rw [hx] at hv; simp [undef] at hv
      | some v => rw [hx] at hv; simpa using hv
     simp [hd, this]
    rw [hy]; cases want <;> cases b <;> rfl
   ·rename_i hb
    cases h
    have hr := hst.env d _ hb
    have hv : a.tmps.getD d undef = .tuple #[] := by
     generalize hvv : a.tmps.getD d undef = v at hr
     exact rel_tup_nil hr
    have hy : yielded ops a.tmps j = none := by
     unfold yielded
     rw [Array.getD_eq_getD_getElem?] at hv
     simp only [hd, Option.bind_some]
     cases hx : a.tmps[d]? with
     | none => rfl
     | some v => rw [hx] at hv; simp at hv; subst hv; rfl
    rw [hy]; rfl
   ·cases h

def RW (P : Program) (N : Nat) (ops : Array Oper) (l : List Nat) (Q : AEx → Env → Store → Prop) (env : Env) (s : Store) : Prop :=
 ∀ ro B a w p, St N B ro env s a w p → cops P ops (Post N B ro s w p Q) l a w

section rw
variable {P : Program} {N : Nat} {ops : Array Oper} {Q : AEx → Env → Store → Prop} {env : Env} {s : Store}

theorem CW.region {id : Nat} (h : RW P N ops (List.range ops.size) Q env s) : CW P N (.region id ops false) Q env s :=
 fun b B a w p _ hst => cwp_region (h b.roundOf B a w p hst)

theorem RW.nil (h : Q .normal env s) : RW P N ops [] Q env s := fun _ _ _ _ _ hst => .here .normal h hst

theorem cops_mono {Q Q' : CEx → Act → World → Prop} (hq : ∀ e a w, Q e a w → Q' e a w) : ∀ (l : List Nat) (a : Act) (w : World), cops P ops Q l a w → cops P ops Q' l a w := by
 intro l
 induction l with
 | nil => exact fun a w h => hq _ _ _ h
 | cons i rest ih =>
  intro a w h
  simp only [cops] at h ⊢
  split at h
  ·rename_i ho; exact ih _ _ h
  ·rename_i o ho
   split at h
   ·rename_i hw
    rw [if_pos hw]
    exact ⟨h.1, h.2.mono fun e w' he => by cases e <;> first | exact ih _ _ he | exact hq _ _ _ he | exact he⟩
   ·rename_i hw
    rw [if_neg hw]
    exact ih _ _ h

theorem RW.after {l : List Nat} {s₁ : Store} {ro : Option Nat} {B : Base} {a : Act} {w w₁ : World} {p p₁ : Prot} {e₁ : Env}
  (hle : Le w p w₁ p₁) (hk : Kept s s₁ w p w₁ p₁) (h : RW P N ops l Q e₁ s₁) (hst : St N B ro e₁ s₁ a w₁ p₁) : cops P ops (Post N B ro s w p Q) l a w₁ :=
 cops_mono (fun _ _ _ q => q.after hle hk) l a w₁ (h ro B a w₁ p₁ hst)

theorem RW.op {i : Nat} {l : List Nat} {o : Oper} {d : Nat} {K X : AV → Store → Prop} (ho : ops[i]? = some o) (hg : guardOf ops env o = some true) (hd : o.dst = some d)
  (hN : Nat.blt d N = true) (h : OW P N o env s K X) (hk : ∀ x s', K x s' → RW P N ops l Q ((d, x) :: env) s') (hx : ∀ x s', X x s' → Q (.panic x) env s') :
  RW P N ops (i :: l) Q env s := by
 intro ro B a w p hst
 have hdN : d < N := by simpa [Nat.blt_eq] using hN
 simp only [cops, ho, guardOf_ok hst hg, if_true]
 refine ⟨h.1, (h.2 ro B a w p hst).mono ?_⟩
 rintro e w' ⟨s', p', hle, hkk, hwf, he⟩
 cases e with
 | returned v =>
  obtain ⟨x, hK, hr⟩ := he
  rw [hd]
  exact RW.after hle hkk (hk x s' hK) ((hst.step hle hkk hwf).put hdN hr)
 | panicked ch =>
  obtain ⟨v, x, hch, hX, hr⟩ := he
  exact ⟨.panic x, env, s', p', .panic v x ch hch hr, hx x s' hX, hst.step hle hkk hwf, hle, hkk⟩
 | outgrown => exact he

theorem RW.opN {i : Nat} {l : List Nat} {o : Oper} {K X : AV → Store → Prop} (ho : ops[i]? = some o) (hg : guardOf ops env o = some true) (hd : o.dst = none)
  (h : OW P N o env s K X) (hk : ∀ x s', K x s' → RW P N ops l Q env s') (hx : ∀ x s', X x s' → Q (.panic x) env s') :
  RW P N ops (i :: l) Q env s := by
 intro ro B a w p hst
 simp only [cops, ho, guardOf_ok hst hg, if_true]
 refine ⟨h.1, (h.2 ro B a w p hst).mono ?_⟩
 rintro e w' ⟨s', p', hle, hkk, hwf, he⟩
 cases e with
 | returned v =>
  obtain ⟨x, hK, hr⟩ := he
  rw [hd]
  exact RW.after hle hkk (hk x s' hK) (hst.step hle hkk hwf)
 | panicked ch =>
  obtain ⟨v, x, hch, hX, hr⟩ := he
  exact ⟨.panic x, env, s', p', .panic v x ch hch hr, hx x s' hX, hst.step hle hkk hwf, hle, hkk⟩
 | outgrown => exact he

theorem rel_undef {w : World} {p : Prot} : Rel w p undef (.tup []) := .tup #[] [] .nil

theorem RW.skip {i : Nat} {l : List Nat} {o : Oper} {d : Nat} (ho : ops[i]? = some o) (hg : guardOf ops env o = some false) (hd : o.dst = some d) (hN : Nat.blt d N = true)
  (h : RW P N ops l Q ((d, .tup []) :: env) s) : RW P N ops (i :: l) Q env s := by
 intro ro B a w p hst
 have hdN : d < N := by simpa [Nat.blt_eq] using hN
 simp only [cops, ho, guardOf_ok hst hg, if_false, Bool.false_eq_true, hd]
 exact h ro B _ w p (hst.put hdN rel_undef)

end rw

/-! ### New blocks -/

theorem Wf.grow {w w' : World} {p p' : Prot} {s : Store} (hle : Le w p w' p') (hh : ∀ b, b < w.heap.size → w'.heap[b]? = w.heap[b]?)
  (hp : ∀ b o, b < w.heap.size → p' b o → p b o) (hlt : ∀ b o, p' b o → b < w'.heap.size) (h : Wf w p s) : Wf w' p' s := by
 refine ⟨fun b o hb => ?_, hlt⟩
 have ho := h.obj b o hb
 cases o with
 | box t cs =>
  obtain ⟨vs, h1, h2, h3⟩ := ho
  have hlt' : b < w.heap.size := (Array.getElem?_eq_some_iff.1 h1).1
  exact ⟨vs, (hh b hlt').trans h1, h2.mono hle, fun o hp' => h3 o (hp b o hlt' hp')⟩
 | row t sz n =>
  obtain ⟨cur, h1, h2, h3, h4⟩ := ho
  have hlt' : b < w.heap.size := (Array.getElem?_eq_some_iff.1 h1).1
  exact ⟨cur, (hh b hlt').trans h1, h2, h3, fun o => ⟨fun hp' => (h4 o).1 (hp b o hlt' hp'), fun hn => hle.prot _ _ ((h4 o).2 hn)⟩⟩
 | map es =>
  obtain ⟨mes, clock, h1, h2, h3, h4⟩ := ho
  have hlt' : b < w.heap.size := (Array.getElem?_eq_some_iff.1 h1).1
  exact ⟨mes, clock, (hh b hlt').trans h1, ⟨h2.1.mono hle, h2.2.mono hle⟩, h3, h4⟩
 | ranged es it left cur =>
  obtain ⟨mes, clock, seen, h1, h2, -⟩ := id ho
  exact ho.ranged_move hle (hh b (Array.getElem?_eq_some_iff.1 h1).1) (hh it (Array.getElem?_eq_some_iff.1 h2).1)
 | tick m => obtain ⟨a1, a2, a3, h1⟩ := ho; exact ⟨a1, a2, a3, (hh b (Array.getElem?_eq_some_iff.1 h1).1).trans h1⟩
 | loop r env => exact ⟨(hh b (Array.getElem?_eq_some_iff.1 ho.1).1).trans ho.1, fun t v h => (ho.2 t v h).mono hle⟩

theorem heap_alloc_lt (w : World) (o : Obj) (b : Nat) (h : b < w.heap.size) : (w.alloc o).heap[b]? = w.heap[b]? := by
 show (w.heap.push o)[b]? = _
 rw [Array.getElem?_push, if_neg (by omega)]

theorem heap_alloc_here (w : World) (o : Obj) : (w.alloc o).heap[w.heap.size]? = some o := by
 show (w.heap.push o)[w.heap.size]? = _
 rw [Array.getElem?_push, if_pos rfl]

theorem shape_of_heap {w w' : World} {b : Nat} (h : w'.heap[b]? = w.heap[b]?) : w'.shp? b = w.shp? b := by simp [World.shp?, h]
theorem cell_of_heap {w w' : World} {b o : Nat} (h : w'.heap[b]? = w.heap[b]?) : w'.cell? ⟨b, o, none⟩ = w.cell? ⟨b, o, none⟩ := by simp [World.cell?, h]

theorem shape_lt {w : World} {b : Nat} {x : TypeId × Nat} (h : w.shp? b = some x) : b < w.heap.size := by
 unfold World.shp? at h
 split at h
 ·rename_i hh; exact (Array.getElem?_eq_some_iff.1 hh).1
 ·cases h

theorem Le.of_heap {w w' : World} {p p' : Prot} (ho : w'.os = w.os) (ht : w'.tape = w.tape) (hu : w'.output = w.output) (hs : w.heap.size ≤ w'.heap.size)
  (hp : ∀ b o, p b o → p' b o) (hlt : ∀ b o, p b o → b < w.heap.size) (hh : ∀ b, b < w.heap.size → w'.heap[b]? = w.heap[b]?) : Le w p w' p' :=
 ⟨ho, ht, hu, hs, hp, fun b o hb => cell_of_heap (hh b (hlt b o hb)), fun b x hx => by rw [shape_of_heap (hh b (shape_lt hx))]; exact hx⟩

def Prot.also (p : Prot) (b : Nat) (c : Prop) : Prot := fun b' o => p b' o ∨ (b' = b ∧ c)

section alloc
variable {w : World} {p : Prot} {s : Store}
theorem alloc_le (hlt : ∀ b o, p b o → b < w.heap.size) (o : Obj) (c : Prop) : Le w p (w.alloc o) (p.also w.heap.size c) :=
 Le.of_heap rfl rfl rfl (by simp) (fun _ _ h => .inl h) hlt (fun b hb => heap_alloc_lt w o b hb)

theorem alloc_wf (h : Wf w p s) (o : Obj) (c : Prop) : Wf (w.alloc o) (p.also w.heap.size c) s :=
  h.grow (alloc_le h.lt o c) (fun b hb => heap_alloc_lt w o b hb) (fun b o hb hp => by rcases hp with hp | ⟨rfl, _⟩; exact hp; omega)
    (fun b o hp => by rcases hp with hp | ⟨rfl, _⟩; have := h.lt b o hp; simp; omega; simp)

theorem alloc_kept (o : Obj) (c : Prop) : Kept s s w p (w.alloc o) (p.also w.heap.size c) :=
 ⟨fun b hb _ => heap_alloc_lt w o b hb, fun _ _ h => h, fun b o hb _ hp => by rcases hp with hp | ⟨rfl, _⟩; exact hp; omega⟩

theorem alloc_cells (vs : List Value) (t : TypeId) : CellsAt (w.alloc (.cells vs.toArray t)) (p.also w.heap.size True) w.heap.size 0 vs := by
 intro i v hv
 refine ⟨.inr ⟨rfl, trivial⟩, ?_⟩
 rw [Nat.zero_add]
 simp only [World.cell?, heap_alloc_here, Option.isSome_none, Bool.false_eq_true, if_false]
 simpa using hv

theorem drew_le : Le w p w.drew p := ⟨rfl, rfl, rfl, Nat.le_refl _, fun _ _ h => h, fun _ _ _ => rfl, fun _ _ h => h⟩
theorem drew_wf (h : Wf w p s) : Wf w.drew p s := h.grow drew_le (fun _ _ => rfl) (fun _ _ _ h => h) h.lt
theorem drew_kept : Kept s s w p w.drew p := ⟨fun _ _ _ => rfl, fun _ _ h => h, fun _ _ _ _ h => h⟩
end alloc

end Go.AE

/- The abstract walk: the evaluator of the operations that only compute, and that it is right. -/
namespace Go.AE

/-! ### What is known of types -/

inductive TD where
 | bool
 | int (k : IntKind)
 | str
 | ptr (e : TypeId)
 | slc (e : TypeId)
 | map (k e : TypeId)
 | struct (fs : List (Nat × TypeId))
 | iface (bare : Bool)
 | func
 | other

structure TI where
 td : TD
 size : Nat
 bytes : Nat
 zero : Value

def tdOf : TypeDesc → TD
 | .bool => .bool
 | .int k => .int k
 | .string => .str
 | .pointer e => .ptr e
 | .slice e => .slc e
 | .map k e => .map k e
 | .struct fs => .struct (fs.toList.map fun f => (f.offset, f.type))
 | .interface ms => .iface ms.isEmpty
 | .func .. => .func
 | _ => .other

abbrev Tys := List (Nat × TI)

def Tys.get? : Tys → Nat → Option TI
 | [], _ => none
 | (t, v) :: e, n => if Nat.beq t n then some v else Tys.get? e n

def tiOf (P : Program) (t : TypeId) : Option TI :=
  match P.info? t, P.underlying t with
  | some i, some d => match i.zero with
    | some z => some { td := tdOf d, size := i.size, bytes := i.bytes, zero := z }
    | none => none
  | _, _ => none

def TysOk (P : Program) (Γ : Tys) : Prop := ∀ t i, Γ.get? t = some i → tiOf P t = some i

theorem tysOk_of (P : Program) (Γ : Tys) (h : Γ.map (fun x => tiOf P x.1) = Γ.map (fun x => some x.2)) : TysOk P Γ := by
 induction Γ with
 | nil => intro t i h; simp [Tys.get?] at h
 | cons x Γ ih =>
  obtain ⟨t', i'⟩ := x
  simp only [List.map_cons, List.cons.injEq] at h
  intro t i hg
  simp only [Tys.get?] at hg
  split at hg
  ·rename_i he
   have := Nat.eq_of_beq_eq_true he
   subst this; cases hg; exact h.1
  ·exact ih h.2 t i hg

theorem TysOk.parts {P : Program} {Γ : Tys} (h : TysOk P Γ) {t : TypeId} {i : TI} (hi : Γ.get? t = some i) :
  ∃ info d, P.info? t = some info ∧ P.underlying t = some d ∧ tdOf d = i.td ∧ info.size = i.size ∧ info.bytes = i.bytes ∧ info.zero = some i.zero := by
 have := h t i hi
 unfold tiOf at this
 split at this
 ·rename_i info d h1 h2
  split at this
  ·rename_i z hz
   cases this
   exact ⟨info, d, h1, h2, rfl, rfl, rfl, hz⟩
  ·cases this
 ·cases this

/-! ### Cells of values -/

def cellsOf : AV → Option (List AV)
 | .agg cs => some cs
 | .any => none
 | .conc (.func f a c) => some [.conc (.func f a c)]
 | .conc (.slice a n c) => some [.conc (.slice a n c)]
 | .conc _ => none
 | .tup _ => none
 | v => some [v]

theorem cellsOf_rel {w : World} {p : Prot} {v : Value} {x : AV} {cs : List AV} (hr : Rel w p v x) (h : cellsOf x = some cs) : RelL w p v.cells.toList cs := by
 cases hr with
 | conc v =>
  cases v <;> simp [cellsOf] at h
  all_goals
   subst h
   exact .cons _ _ _ _ (.conc _) .nil
 | any => cases h
 | tup => cases h
 | agg cs xs h' => cases h; exact h'
 | _ => simp only [cellsOf] at h; cases h; simp only [Value.cells]; refine .cons _ _ _ _ ?_ .nil; constructor <;> assumption

def takeC : Nat → List AV → Option (List AV)
  | 0, _ => some []
  | n + 1, v :: r => match takeC n r with
    | some s => some (v :: s)
    | none => none
  | _ + 1, [] => none

def dropC : Nat → List AV → Option (List AV)
 | 0, r => some r
 | n + 1, _ :: r => dropC n r
 | _ + 1, [] => none

def nth {α : Type} : List α → Nat → Option α
 | [], _ => none
 | x :: _, 0 => some x
 | _ :: r, n + 1 => nth r n

theorem nth_eq {α : Type} (l : List α) (n : Nat) : nth l n = l[n]? := by
  induction l generalizing n with
  | nil => rfl
  | cons x l ih => cases n with
    | zero => rfl
    | succ n => simp only [nth, List.getElem?_cons_succ]; exact ih n

theorem takeC_eq {n : Nat} {l r : List AV} (h : takeC n l = some r) : r = l.take n ∧ n ≤ l.length := by
 induction n generalizing l r with
 | zero => cases h; simp
 | succ n ih =>
  cases l with
  | nil => simp [takeC] at h
  | cons v l =>
   simp only [takeC] at h
   split at h
   ·rename_i s hs; cases h; obtain ⟨h1, h2⟩ := ih hs; subst h1; simp; omega
   ·cases h

theorem dropC_eq {n : Nat} {l r : List AV} (h : dropC n l = some r) : r = l.drop n := by
  induction n generalizing l with
  | zero => cases h; rfl
  | succ n ih => cases l with
    | nil => simp [dropC] at h
    | cons v l => simpa [dropC] using ih (by simpa [dropC] using h)

def loadC (i : TI) (cells : List AV) (off : Nat) : Option AV :=
  match dropC off cells with
  | none => none
  | some r => match i.td with
    | .struct _ => match takeC i.size r with
      | some cs => some (.agg cs)
      | none => none
    | .other => none
    | _ => match r with
      | v :: _ => some v
      | [] => none

def constAV2 : Value → Option AV
  | .agg cs => match cs.toList.mapM constAV with
    | some xs => some (.agg xs)
    | none => none
  | v => constAV v

theorem mapM_const_rel {w : World} {p : Prot} {vs : List Value} {xs : List AV} (h : vs.mapM constAV = some xs) : RelL w p vs xs := by
 induction vs generalizing xs with
 | nil => simp at h; subst h; exact .nil
 | cons v vs ih =>
  simp only [List.mapM_cons, Option.bind_eq_bind, Option.pure_def, Option.bind_eq_some_iff, Option.some.injEq] at h
  obtain ⟨x, hx, ys, hys, rfl⟩ := h
  exact .cons _ _ _ _ (constAV_rel hx) (ih hys)

theorem constAV2_rel {w : World} {p : Prot} {v : Value} {x : AV} (h : constAV2 v = some x) : Rel w p v x := by
 unfold constAV2 at h
 split at h
 ·split at h
  ·rename_i cs xs hx; cases h; exact .agg _ _ (mapM_const_rel hx)
  ·cases h
 ·exact constAV_rel h

def isAggD (d : TypeDesc) : Bool := match d with | .struct _ | .array _ _ => true | _ => false

theorem run_isAgg {P : Program} {t : TypeId} {d : TypeDesc} (h : P.underlying t = some d) (w : World) : (isAgg t).run P w = .ok (isAggD d) w := by
 unfold isAgg
 rw [Sem.run_bind, run_underlying h, Result.andThen_ok]
 cases d <;> rfl

theorem tdOf_struct {d : TypeDesc} {fs : List (Nat × TypeId)} (h : tdOf d = .struct fs) : ∃ f : Array Field, d = .struct f ∧ fs = f.toList.map fun x => (x.offset, x.type) := by
 cases d <;> simp [tdOf] at h; rename_i f; exact ⟨f, rfl, h.symm⟩

theorem isAggD_of {d : TypeDesc} (h1 : ∀ fs, tdOf d ≠ .struct fs) (h2 : tdOf d ≠ .other) : isAggD d = false := by
 cases d <;> simp_all [tdOf, isAggD]

/-! ### The abstract operators -/

def aint (op : BinOp) (k : IntKind) (a b : Int) : Option AV :=
 match op with
 | .add => some (.int k (k.wrap (a + b)))
 | .sub => some (.int k (k.wrap (a - b)))
 | .mul => some (.int k (k.wrap (a * b)))
 | .eql => some (.bool (a == b))
 | .neq => some (.bool (a != b))
 | .lss => some (.bool (decide (a < b)))
 | .leq => some (.bool (decide (a ≤ b)))
 | .gtr => some (.bool (decide (a > b)))
 | .geq => some (.bool (decide (a ≥ b)))
 | _ => none

def astr (op : BinOp) (a b : List UInt8) : Option AV :=
 match op with
 | .eql => some (.bool (a == b))
 | .neq => some (.bool (!(a == b)))
 | .lss => some (.bool (Op.bytesLess a b))
 | .gtr => some (.bool (!(Op.bytesLess a b || a == b)))
 | .leq => some (.bool (Op.bytesLess a b || a == b))
 | .geq => some (.bool (!(Op.bytesLess a b)))
 | _ => none

def nilQ : AV → Option Bool
 | .pnil | .mnil | .fnil | .inil => some true
 | .ptr _ _ | .fptr _ _ | .kptr _ _ | .map _ | .func _ _ _ | .iface _ _ => some false
 | .slc _ _ .nil => some true
 | .slc _ (_ :: _) _ => some false
 | .slc _ _ (.own _) => some false
 | _ => none

inductive NilK where | ptr | slc | map | func | iface

def nilConst : Operand → Option NilK
 | .const (.pointer none) => some .ptr
 | .const (.slice none 0 0) => some .slc
 | .const (.map none) => some .map
 | .const .nilFunc => some .func
 | .const .nilIface => some .iface
 | _ => none

def TD.nilOk : TD → NilK → Bool
 | .ptr _, .ptr => true
 | .slc _, .slc => true
 | .map _ _, .map => true
 | .func, .func => true
 | .iface _, .iface => true
 | _, _ => false

def AV.nilFits : AV → NilK → Bool
 | .pnil, .ptr | .ptr _ _, .ptr | .fptr _ _, .ptr | .kptr _ _, .ptr => true
 | .slc _ _ _, .slc => true
 | .mnil, .map | .map _, .map => true
 | .fnil, .func | .func _ _ _, .func => true
 | .inil, .iface | .iface _ _, .iface => true
 | _, _ => false

def abin (Γ : Tys) (op : BinOp) (t : TypeId) (y : Operand) (a b : AV) : Option AV :=
  match nilConst y with
  | some k => match Γ.get? t with
    | some i => match i.td.nilOk k, a.nilFits k, nilQ a, op with
      | true, true, some q, .eql => some (.bool q)
      | true, true, some q, .neq => some (.bool (!q))
      | _, _, _, _ => none
    | none => none
  | none => match a, b with
    | .int k x, .int k' z => if k = k' then aint op k x z else none
    | .str x, .str z => astr op x z
    | .bool x, .bool z => match Γ.get? t, op with
      | some ⟨.bool, _, _, _⟩, .eql => some (.bool (x == z))
      | some ⟨.bool, _, _, _⟩, .neq => some (.bool (!(x == z)))
      | _, _ => none
    | .kptr x _, .kptr z _ => match Γ.get? t, op with
      | some ⟨.ptr e, _, _, _⟩, .eql => match Γ.get? e with
        | some ⟨_, _ + 1, _, _⟩ => some (.bool (x == z))
        | _ => none
      | some ⟨.ptr e, _, _, _⟩, .neq => match Γ.get? e with
        | some ⟨_, _ + 1, _, _⟩ => some (.bool (!(x == z)))
        | _ => none
      | _, _ => none
    | _, _ => none

/-! ### That they are right -/

theorem aint_ok {P : Program} {op : BinOp} {t : TypeId} {k : IntKind} {a b : Int} {x : AV} (h : aint op k a b = some x) (w : World) (p : Prot) :
  ∃ v, (binOp op t (.int k a) (.int k b)).run P w = .ok v w ∧ Rel w p v x := by
 cases op <;> simp only [aint] at h <;> cases h <;> simp only [binOp, ne_eq, not_true_eq_false, if_false, Op.intArith, Op.intCmp, Sem.run_pure] <;>
  first | exact ⟨_, rfl, .int _ _⟩ | exact ⟨_, rfl, .bool _⟩

theorem astr_ok {P : Program} {op : BinOp} {t : TypeId} {a b : ByteArray} {x : AV} (h : astr op a.data.toList b.data.toList = some x) (w : World) (p : Prot) :
  ∃ v, (binOp op t (.string a) (.string b)).run P w = .ok v w ∧ Rel w p v x := by
 cases op <;> simp only [astr] at h <;> cases h <;> simp only [binOp, Op.stringOp, Sem.run_pure, ByteArray.toList_eq] <;> exact ⟨_, rfl, .bool _⟩

theorem shp_heap {w : World} {b : Nat} {x : TypeId × Nat} (h : w.shp? b = some x) : ∃ c T, w.heap[b]? = some (.cells c T (0, 0)) := by
 unfold World.shp? at h
 split at h
 ·rename_i c T hh; exact ⟨c, T, hh⟩
 ·cases h

theorem eqGuard_ok {P : Program} {op : BinOp} {t : TypeId} {x y : Operand} {a b : Value} (w : World) (h : (a = .nilIface ∧ b = .nilIface → ∃ c, y = .const c) ∧ (∀ c, a ≠ .agg c)) :
  (eqGuard op t x y a b).run P w = .ok () w := by
 cases a with
 | nilIface =>
  cases b with
  | nilIface =>
   obtain ⟨c, rfl⟩ := h.1 ⟨rfl, rfl⟩
   cases x <;> cases op <;> rfl
  | _ => cases op <;> rfl
 | agg c => exact absurd rfl (h.2 c)
 | _ => cases op <;> rfl

theorem run_eqneq {P : Program} {t : TypeId} {x y : Value} {q : Bool} {w : World} (hb : binOp .eql t x y = (do pure (.bool (← Op.equal t x y)))) (hn : binOp .neq t x y = (do pure (.bool (!(← Op.equal t x y)))))
  (h : ∀ d, (Op.equalIn (d + 1) t x y).run P w = .ok q w) : (binOp .eql t x y).run P w = .ok (.bool q) w ∧ (binOp .neq t x y).run P w = .ok (.bool (!q)) w := by
 have he : (Op.equal t x y).run P w = .ok q w := h 9999
 rw [hb, hn]
 simp only [Sem.run_bind, he, Result.andThen_ok, Sem.run_pure, and_self]

theorem nilQ_slc {w : World} {p : Prot} {v : Value} {sz : Nat} {xs : List AV} {own : Own} {q : Bool} (h : Rel w p v (.slc sz xs own)) (hq : nilQ (.slc sz xs own) = some q) :
  (v = .slice none 0 0 ∧ q = true) ∨ (∃ a n c, v = .slice (some a) n c ∧ q = false) := by
 cases h with
 | slcNil _ _ ho =>
  cases own <;> simp [nilQ] at hq
  ·exact .inl ⟨rfl, by simp [hq]⟩
  ·exact absurd rfl (ho _)
 | slcZ a _ _ ho => rcases ho with rfl | rfl <;> simp [nilQ] at hq
 | slc g off n cap _ vs _ _ hn hl hc hr hs hm hk hcl ho =>
  refine .inr ⟨_, _, _, rfl, ?_⟩
  cases own <;> cases xs <;> simp [nilQ] at hq hn <;> simp [hq]

theorem abin_ok {P : Program} {Γ : Tys} (hΓ : TysOk P Γ) {N : Nat} {B : Base} {ro : Option Nat} {env : Env} {s : Store} {a : Act} {w : World} {p : Prot} (hst : St N B ro env s a w p)
  {op : BinOp} {t yt : TypeId} {x y : Operand} {u v r : AV} (hx : ev env x = some u) (hy : ev env y = some v) (h : abin Γ op t y u v = some r) :
  ∃ val, (do eqGuard op t x y (a.eval x) (a.eval y); binOp op t (a.eval x) (a.eval y) : Sem Value).run P w = .ok val w ∧ Rel w p val r := by
 have hu := hst.ev hx
 have hv := hst.ev hy
 unfold abin at h
 split at h
 ·rename_i k hk
  have hyv : ∃ c, y = .const c ∧ a.eval y = c ∧ ((k = .ptr ∧ c = .pointer none) ∨ (k = .slc ∧ c = .slice none 0 0) ∨ (k = .map ∧ c = .map none) ∨ (k = .func ∧ c = .nilFunc) ∨ (k = .iface ∧ c = .nilIface)) := by
   unfold nilConst at hk
   split at hk <;> cases hk <;> exact ⟨_, rfl, rfl, by simp⟩
  obtain ⟨c, rfl, hc, hkc⟩ := hyv
  rw [hc]
  split at h
  ·rename_i i hi
   obtain ⟨info, d, h1, h2, h3, -⟩ := hΓ.parts hi
   have key : ∀ q, nilQ u = some q → u.nilFits k = true → i.td.nilOk k = true → (∀ cs, a.eval x ≠ .agg cs) ∧ (binOp .eql t (a.eval x) c).run P w = .ok (.bool q) w ∧ (binOp .neq t (a.eval x) c).run P w = .ok (.bool (!q)) w := by
    intro q hq hf ho
    generalize a.eval x = vx at hu
    rw [← h3] at ho
    have hs : ∀ (g n cap : Nat) (o : Nat), True := fun _ _ _ _ => trivial
    have hsl : ∀ e sz xs own, d = .slice e → u = .slc sz xs own → (∀ cs, vx ≠ .agg cs) ∧ (binOp .eql t vx (.slice none 0 0)).run P w = .ok (.bool q) w ∧ (binOp .neq t vx (.slice none 0 0)).run P w = .ok (.bool (!q)) w := by
     rintro e sz xs own rfl rfl
     rcases nilQ_slc hu hq with ⟨rfl, rfl⟩ | ⟨a, n, c, rfl, rfl⟩ <;> (refine ⟨by simp, run_eqneq rfl rfl (fun d => ?_)⟩ <;> simp [Op.equalIn, run_underlying h2])
    rcases hkc with ⟨rfl, rfl⟩ | ⟨rfl, rfl⟩ | ⟨rfl, rfl⟩ | ⟨rfl, rfl⟩ | ⟨rfl, rfl⟩ <;>
    (try (cases d <;> simp only [tdOf, TD.nilOk] at ho <;> (try (simp at ho; done)) <;> cases u <;> simp only [AV.nilFits] at hf <;> (try (simp at hf; done)) <;> exact hsl _ _ _ _ rfl rfl)) <;>
    cases d <;> simp only [tdOf, TD.nilOk] at ho <;> (try (simp at ho; done)) <;>
    cases hu <;> simp only [AV.nilFits, nilQ] at hf hq <;> (try (simp at hf; done)) <;>
    (try (cases hq)) <;>
    (refine ⟨by simp, run_eqneq rfl rfl (fun d => ?_)⟩ <;> simp [Op.equalIn, run_underlying h2] <;> done)
   split at h
   ·rename_i q ho hf hq
    cases h
    obtain ⟨k1, k2, k3⟩ := key q hq hf ho
    exact ⟨_, by rw [Sem.run_bind, eqGuard_ok w ⟨fun _ => ⟨_, rfl⟩, k1⟩, Result.andThen_ok, k2], .bool _⟩
   ·rename_i q ho hf hq
    cases h
    obtain ⟨k1, k2, k3⟩ := key q hq hf ho
    exact ⟨_, by rw [Sem.run_bind, eqGuard_ok w ⟨fun _ => ⟨_, rfl⟩, k1⟩, Result.andThen_ok, k3], .bool _⟩
   ·cases h
  ·cases h
 ·split at h
  ·rename_i k z k' z'
   split at h
   ·rename_i hkk
    subst hkk
    generalize a.eval x = vx at hu; generalize a.eval y = vy at hv
    cases hu; cases hv
    obtain ⟨val, h1, h2⟩ := aint_ok (P := P) (t := t) h w p
    exact ⟨val, by rw [Sem.run_bind, eqGuard_ok w ⟨by simp, by simp⟩, Result.andThen_ok, h1], h2⟩
   ·cases h
  ·generalize a.eval x = vx at hu; generalize a.eval y = vy at hv
   cases hu with | str b1 _ e1 => cases hv with | str b2 _ e2 =>
   subst e1; subst e2
   obtain ⟨val, h1, h2⟩ := astr_ok (P := P) (t := t) h w p
   exact ⟨val, by rw [Sem.run_bind, eqGuard_ok w ⟨by simp, by simp⟩, Result.andThen_ok, h1], h2⟩
  ·generalize a.eval x = vx at hu; generalize a.eval y = vy at hv
   cases hu; cases hv
   split at h
   ·rename_i hi
    obtain ⟨info, d, h1, h2, h3, -⟩ := hΓ.parts hi
    have hd : d = .bool := by cases d <;> simp [tdOf] at h3; rfl
    subst hd
    cases h
    exact ⟨_, by rw [Sem.run_bind, eqGuard_ok w ⟨by simp, by simp⟩, Result.andThen_ok]; exact run_eql_bool w t _ _ h2, .bool _⟩
   ·rename_i hi
    obtain ⟨info, d, h1, h2, h3, -⟩ := hΓ.parts hi
    have hd : d = .bool := by cases d <;> simp [tdOf] at h3; rfl
    subst hd
    cases h
    exact ⟨_, by rw [Sem.run_bind, eqGuard_ok w ⟨by simp, by simp⟩, Result.andThen_ok]; exact run_neq_bool w t _ _ h2, .bool _⟩
   ·cases h
  ·rename_i b1 cs1 b2 cs2
   generalize a.eval x = vx at hu; generalize a.eval y = vy at hv
   cases hu; cases hv
   rename_i v1 n1 s1 c1 r1 v2 n2 s2 c2 r2
   have key : ∀ e d i, P.underlying t = some (.pointer e) → Γ.get? e = some i → i.size ≠ 0 → (Op.equalIn (d + 1) t (.pointer (some ⟨b1, 0, none⟩)) (.pointer (some ⟨b2, 0, none⟩))).run P w = .ok (b1 == b2) w := by
    intro e d i he hi h0
    obtain ⟨info', d', h1', h2', h3', h4', -⟩ := hΓ.parts hi
    have hsz : info'.size ≠ 0 := by rw [h4']; exact h0
    have hs : (sameAddr ⟨b1, 0, none⟩ ⟨b2, 0, none⟩).run P w = .ok (b1 == b2) w := by
     by_cases hb : b1 = b2
     ·subst hb; rw [beq_self_eq_true]; exact run_sameAddr_same w _
     ·rw [beq_eq_false_iff_ne.2 hb]
      obtain ⟨u1, T1, k1⟩ := shp_heap s1.choose_spec
      obtain ⟨u2, T2, k2⟩ := shp_heap s2.choose_spec
      exact run_sameAddr_other w (fun e => hb (congrArg Addr.block e)) k1 k2
    simp only [Op.equalIn, Sem.run_bind, run_underlying he, Result.andThen_ok, sizeOf, typeInfo, run_program, h1', Sem.run_pure]
    rw [if_pos (by simpa using hsz)]
    exact hs
   split at h
   ·rename_i hi
    obtain ⟨info, d, h1, h2, h3, -⟩ := hΓ.parts hi
    obtain ⟨e, rfl⟩ : ∃ e, d = .pointer e := by cases d <;> simp [tdOf] at h3; exact ⟨_, rfl⟩
    simp only [tdOf, TD.ptr.injEq] at h3
    subst h3
    split at h
    ·rename_i he
     cases h
     exact ⟨_, by rw [Sem.run_bind, eqGuard_ok w ⟨by simp, by simp⟩, Result.andThen_ok]; exact (run_eqneq rfl rfl fun d => key e d _ h2 he (by simp)).1, .bool _⟩
    ·cases h
   ·rename_i hi
    obtain ⟨info, d, h1, h2, h3, -⟩ := hΓ.parts hi
    obtain ⟨e, rfl⟩ : ∃ e, d = .pointer e := by cases d <;> simp [tdOf] at h3; exact ⟨_, rfl⟩
    simp only [tdOf, TD.ptr.injEq] at h3
    subst h3
    split at h
    ·rename_i he
     cases h
     exact ⟨_, by rw [Sem.run_bind, eqGuard_ok w ⟨by simp, by simp⟩, Result.andThen_ok]; exact (run_eqneq rfl rfl fun d => key e d _ h2 he (by simp)).2, .bool _⟩
    ·cases h
   ·cases h
  ·cases h

end Go.AE

/- The abstract walk: the evaluator, whole; an operation that it reckons is one that is carried out so. -/
namespace Go.AE

def evs (env : Env) : List Operand → Option (List AV)
  | [] => some []
  | o :: r => match ev env o with
    | some v => match evs env r with
      | some vs => some (v :: vs)
      | none => none
    | none => none

theorem evs_rel {N : Nat} {B : Base} {ro : Option Nat} {env : Env} {s : Store} {a : Act} {w : World} {p : Prot} (hst : St N B ro env s a w p) {l : List Operand} {vs : List AV}
  (h : evs env l = some vs) : RelL w p (l.map a.eval) vs := by
 induction l generalizing vs with
 | nil => cases h; exact .nil
 | cons o r ih =>
  simp only [evs] at h
  split at h
  ·rename_i v hv
   split at h
   ·rename_i us hu; cases h; exact .cons _ _ _ _ (hst.ev hv) (ih hu)
   ·cases h
  ·cases h

def setL : Nat → List AV → List AV → List AV
 | _, [], cells => cells
 | off, c :: cs, cells => setL (off + 1) cs (cells.set off c)

def fillA (place : Nat → Option (Nat × Nat)) : List AV → List (Nat × AV) → Option (List AV)
  | cells, [] => some cells
  | cells, (i, v) :: rest => match place i, cellsOf v with
    | some (off, size), some cs => match Nat.beq cs.length size && Nat.ble (off + size) cells.length with
      | true => fillA place (setL off cs cells) rest
      | false => none
    | _, _ => none

def placesOf (Γ : Tys) : List (Nat × TypeId) → Option (List (Nat × Nat))
  | [] => some []
  | (off, t) :: r => match Γ.get? t with
    | some i => match placesOf Γ r with
      | some l => some ((off, i.size) :: l)
      | none => none
    | none => none

def evParts (env : Env) : List (Nat × Operand) → Option (List (Nat × AV))
  | [] => some []
  | (i, o) :: r => match ev env o with
    | some v => match evParts env r with
      | some l => some ((i, v) :: l)
      | none => none
    | none => none

def evElems (env : Env) (sz : Nat) : Nat → List (Nat × Operand) → Option (List AV)
  | _, [] => some []
  | k, (i, o) :: r => match Nat.beq i k with
    | true => match ev env o with
      | some v => match cellsOf v with
        | some cs => match Nat.beq cs.length sz with
          | true => match evElems env sz (k + 1) r with
            | some l => some (v :: l)
            | none => none
          | false => none
        | none => none
      | none => none
    | false => none

def aop (Γ : Tys) (o : Oper) (env : Env) : Option AV :=
  match o.op with
  | .move x => ev env x
  | .assign x => ev env x
  | .pick c a b => match ev env c with
    | some (.bool true) => ev env a
    | some (.bool false) => ev env b
    | _ => none
  | .binOp op t x y _ => match ev env x, ev env y with
    | some a, some b => abin Γ op t y a b
    | _, _ => none
  | .unOp .not _ x => match ev env x with
    | some (.bool b) => some (.bool (!b))
    | _ => none
  | .extract x i => match ev env x with
    | some (.tup vs) => nth vs i
    | _ => none
  | .fieldAddr s x f => match Γ.get? s with
    | some ⟨.struct fs, _, _, _⟩ => match nth fs f with
      | some (off, t) => match Γ.get? t with
        | some ⟨_, _ + 1, _, _⟩ => match ev env x with
          | some (.ptr b o) => some (.ptr b (o + off))
          | some (.fptr cs o) => some (.fptr cs (o + off))
          | some (.kptr _ cs) => some (.fptr cs off)
          | _ => none
        | _ => none
      | none => none
    | _ => none
  | .field s x f => match Γ.get? s with
    | some ⟨.struct fs, _, _, _⟩ => match nth fs f with
      | some (off, t) => match Γ.get? t with
        | some i => match ev env x with
          | some (.agg cs) => loadC i cs off
          | _ => none
        | none => none
      | none => none
    | _ => none
  | .load t x => match Γ.get? t with
    | some i => match ev env x with
      | some (.fptr cs o) => loadC i cs o
      | some (.kptr _ cs) => loadC i cs 0
      | _ => none
    | none => none
  | .makeInterface t x => match Γ.get? t with
    | some ⟨.iface _, _, _, _⟩ => none
    | some _ => match ev env x with
      | some v => some (.iface t v)
      | none => none
    | none => none
  | .makeFunc (.func f) first cap => match evs env first.toList, evs env cap.toList with
    | some a, some c => some (.func f a c)
    | _, _ => none
  | .nilCheck x => match ev env x with
    | some (.ptr b o) => some (.ptr b o)
    | some (.fptr cs o) => some (.fptr cs o)
    | some (.kptr b cs) => some (.kptr b cs)
    | some (.func f a c) => some (.func f a c)
    | _ => none
  | .typeAssert x _ t ok => match Γ.get? t with
    | some ⟨.iface _, _, _, _⟩ => none
    | some i => match ev env x with
      | some (.iface t' v) => match Nat.beq t' t, ok with
        | true, true => some (.tup [v, .bool true])
        | true, false => some v
        | false, true => match constAV2 i.zero with
          | some z => some (.tup [z, .bool false])
          | none => none
        | false, false => none
      | some .inil => match ok with
        | true => match constAV2 i.zero with
          | some z => some (.tup [z, .bool false])
          | none => none
        | false => none
      | _ => none
    | none => none
  | .call { callee := .builtin .len, args, argTypes } => match args.toList, argTypes.toList with
    | [x], [t] => match Γ.get? t with
      | some ⟨.slc _, _, _, _⟩ => match ev env x with
        | some (.slc _ xs _) => some (.int .i64 xs.length)
        | _ => none
      | some ⟨.str, _, _, _⟩ => match ev env x with
        | some (.str l) => some (.int .i64 l.length)
        | _ => none
      | _ => none
    | _, _ => none
  | .box _ x => match ev env x with
    | some v => match cellsOf v with
      | some cs => some (.fptr cs 0)
      | none => none
    | none => none
  | .build t parts => match Γ.get? t with
    | some ⟨.struct fs, _, _, z⟩ => match placesOf Γ fs, constAV2 z, evParts env parts.toList with
      | some pl, some (.agg zs), some ps => match fillA (nth pl) zs ps with
        | some cs => some (.agg cs)
        | none => none
      | _, _, _ => none
    | _ => none
  | .buildSlice t len parts => match Γ.get? t with
    | some ⟨.slc e, _, _, _⟩ => match Γ.get? e with
      | some ie => match Nat.beq parts.size len && (Nat.ble (len * ie.size) 16777216 && Nat.ble len 16777216) with
        | true => match evElems env ie.size 0 parts.toList with
          | some xs => some (.slc ie.size xs .clip)
          | none => none
        | false => none
      | none => none
    | _ => none
  | _ => none

/-! ### That it is right -/

def PureRes (P : Program) (o : Oper) (a : Act) (w : World) (p : Prot) (v : AV) : Prop :=
 ∃ val w' p', (execOp a.eval o).run P w = .ok (.value val) w' ∧ Rel w' p' val v ∧ Le w p w' p' ∧ (∀ s, Wf w p s → Kept s s w p w' p' ∧ Wf w' p' s)

theorem PureRes.same {P : Program} {o : Oper} {a : Act} {w : World} {p : Prot} {v : AV} {val : Value} (h : (execOp a.eval o).run P w = .ok (.value val) w) (hr : Rel w p val v) :
  PureRes P o a w p v := ⟨val, w, p, h, hr, .refl w p, fun s hs => ⟨.refl s w p, hs⟩⟩

theorem PureRes.alloc {P : Program} {o : Oper} {a : Act} {w : World} {p : Prot} {v : AV} {val : Value} (vs : Array Value) (t : TypeId) (hlt : ∀ b o, p b o → b < w.heap.size)
  (h : (execOp a.eval o).run P w = .ok (.value val) (w.alloc (.cells vs t))) (hr : Rel (w.alloc (.cells vs t)) (p.also w.heap.size True) val v) :
  PureRes P o a w p v :=
 ⟨val, _, _, h, hr, alloc_le hlt _ _, fun _ hs => ⟨alloc_kept _ _, alloc_wf hs _ _⟩⟩

theorem OW.ofPure {P : Program} {N : Nat} {o : Oper} {env : Env} {s : Store} {v : AV} (hd : noDefer o = true)
  (h : ∀ ro B a w p, St N B ro env s a w p → PureRes P o a w p v) : OW P N o env s (fun x s' => x = v ∧ s' = s) (fun _ _ => False) := by
 refine ⟨hd, fun ro B a w p hst => ?_⟩
 obtain ⟨val, w', p', hrun, hr, hle, hk⟩ := h ro B a w p hst
 rw [hrun]
 obtain ⟨hk1, hk2⟩ := hk s hst.wf
 exact ⟨s, p', hle, hk1, hk2, v, ⟨rfl, rfl⟩, hr⟩

theorem run_v {P : Program} {x : Sem Value} {v : Value} {w w' : World} (h : x.run P w = .ok v w') : (do pure (.value (← x)) : Sem Next).run P w = .ok (.value v) w' := by
 simp only [Sem.run_bind, h, Result.andThen_ok, Sem.run_pure]

theorem add_none (b o n : Nat) : (⟨b, o, none⟩ : Addr).add n = ⟨b, o + n, none⟩ := by
 unfold Addr.add; split <;> simp_all

theorem relL_drop_cells {w : World} {p : Prot} {vs : List Value} {cells r : List AV} {off : Nat} (hr : RelL w p vs cells) (h : dropC off cells = some r) : RelL w p (vs.drop off) r := by
 rw [dropC_eq h]; exact hr.drop off

theorem loadVar_ok {P : Program} {Γ : Tys} (hΓ : TysOk P Γ) {t : TypeId} {i : TI} (hi : Γ.get? t = some i) {w : World} {p : Prot} {b base off : Nat} {vs : List Value} {cells : List AV} {v : AV}
  (hc : ∀ j u, vs[j]? = some u → w.cell? ⟨b, base + j, none⟩ = some u) (hr : RelL w p vs cells) (h : loadC i cells off = some v) :
  ∃ val, (loadVar t ⟨b, base + off, none⟩).run P w = .ok val w ∧ Rel w p val v := by
 obtain ⟨info, d, h1, h2, h3, h4, -⟩ := hΓ.parts hi
 unfold loadC at h
 split at h
 ·cases h
 ·rename_i r hd
  have hr' := relL_drop_cells hr hd
  have hcell : ∀ j u, (vs.drop off)[j]? = some u → w.cell? ((⟨b, base + off, none⟩ : Addr).add j) = some u := by
   intro j u hu
   rw [add_none, Nat.add_assoc]
   exact hc _ _ (by simpa using hu)
  split at h
  ·rename_i fs htd
   split at h
   ·rename_i cs hcs
    cases h
    obtain ⟨rfl, hlen⟩ := takeC_eq hcs
    obtain ⟨f, rfl, -⟩ := tdOf_struct (h3.trans htd)
    have hl : ((vs.drop off).take i.size).length = info.size := by rw [List.length_take, hr'.length, h4]; omega
    have hload := run_loadCells_list (P := P) w ⟨b, base + off, none⟩ ((vs.drop off).take i.size) (fun j u hu => hcell j u (by
     rw [List.getElem?_take] at hu; split at hu; exact hu; cases hu))
    rw [hl] at hload
    refine ⟨_, ?_, .agg _ _ (by simpa using hr'.take i.size)⟩
    simp only [loadVar, Sem.run_bind, run_isAgg h2, Result.andThen_ok, isAggD, if_true, sizeOf, typeInfo, run_program, h1, Sem.run_pure, hload]
   ·cases h
  ·cases h
  ·rename_i hs ho
   split at h
   ·rename_i x xs
    cases h
    generalize hdv : vs.drop off = dv at hr' hcell
    cases hr' with
    | cons u _ us _ hx ht =>
    have hc0 := hcell 0 u rfl
    rw [add_none, Nat.add_zero] at hc0
    refine ⟨u, ?_, hx⟩
    have hag := isAggD_of (d := d) (fun fs => by rw [h3]; exact hs fs) (by rw [h3]; exact ho)
    simp [loadVar, run_isAgg h2, hag, hc0]
   ·cases h

theorem part_ok {P : Program} {Γ : Tys} (hΓ : TysOk P Γ) {t : TypeId} {i : TI} (hi : Γ.get? t = some i) {w : World} {p : Prot} {off : Nat} {vs : Array Value} {cells : List AV} {v : AV}
  (hr : RelL w p vs.toList cells) (h : loadC i cells off = some v) : ∃ val, (part t vs off).run P w = .ok val w ∧ Rel w p val v := by
 obtain ⟨info, d, h1, h2, h3, h4, -⟩ := hΓ.parts hi
 unfold loadC at h
 split at h
 ·cases h
 ·rename_i r hd
  have hr' := relL_drop_cells hr hd
  split at h
  ·rename_i fs htd
   split at h
   ·rename_i cs hcs
    cases h
    obtain ⟨rfl, hlen⟩ := takeC_eq hcs
    obtain ⟨f, rfl, -⟩ := tdOf_struct (h3.trans htd)
    refine ⟨.agg (vs.extract off (off + info.size)), ?_, .agg _ _ ?_⟩
    ·simp only [part, Sem.run_bind, run_isAgg h2, Result.andThen_ok, isAggD, if_true, sizeOf, typeInfo, run_program, h1, Sem.run_pure]
    ·have : (vs.extract off (off + info.size)).toList = (vs.toList.drop off).take i.size := by simp [Array.toList_extract, h4]
     rw [this]; exact hr'.take i.size
   ·cases h
  ·cases h
  ·rename_i hs ho
   split at h
   ·rename_i x xs
    cases h
    generalize hdv : vs.toList.drop off = dv at hr'
    cases hr' with
    | cons u _ us _ hx ht =>
    have h0 : vs[off]? = some u := by
     have := congrArg (fun l => l[0]?) hdv
     simpa using this
    refine ⟨u, ?_, hx⟩
    have hag := isAggD_of (d := d) (fun fs => by rw [h3]; exact hs fs) (by rw [h3]; exact ho)
    simp [part, run_isAgg h2, hag, h0]
   ·cases h

theorem setL_rel {w : World} {p : Prot} : ∀ (us : List Value) (cs : List AV) (off : Nat) (vs : List Value) (xs : List AV), RelL w p us cs → RelL w p vs xs →
  RelL w p ((us.zipIdx).foldl (fun l (c, j) => l.set (off + j) c) vs) (setL off cs xs) := by
 have key : ∀ (us : List Value) (cs : List AV) (off k : Nat) (vs : List Value) (xs : List AV), RelL w p us cs → RelL w p vs xs →
   RelL w p ((us.zipIdx k).foldl (fun l (c, j) => l.set (off + j) c) vs) (setL (off + k) cs xs) := by
  intro us
  induction us with
  | nil => intro cs off k vs xs h hv; cases h; exact hv
  | cons u us ih =>
   intro cs off k vs xs h hv
   cases h with
   | cons _ c _ cs hc ht =>
    simp only [List.zipIdx_cons, List.foldl_cons, setL]
    have := ih cs off (k + 1) _ _ ht (hv.set (off + k) hc)
    rwa [← Nat.add_assoc] at this
 intro us cs off vs xs h hv
 simpa using key us cs off 0 vs xs h hv

theorem foldl_set_toList (l : List (Value × Nat)) (off : Nat) : ∀ (vs : Array Value), (l.foldl (fun cs (c, j) => cs.setIfInBounds (off + j) c) vs).toList = l.foldl (fun cs (c, j) => cs.set (off + j) c) vs.toList := by
 induction l with
 | nil => intro vs; rfl
 | cons x l ih => intro vs; simp only [List.foldl_cons, ih, Array.toList_setIfInBounds]

theorem fill_ok {w : World} {p : Prot} {place : Nat → Option (Nat × Nat)} : ∀ (ps : List (Nat × Value)) (qs : List (Nat × AV)) (vs : Array Value) (xs r : List AV),
  ps.map (·.1) = qs.map (·.1) → RelL w p (ps.map (·.2)) (qs.map (·.2)) → RelL w p vs.toList xs → fillA place xs qs = some r →
  ∃ cs, Instr.fill place vs ps = some cs ∧ RelL w p cs.toList r := by
 intro ps
 induction ps with
 | nil =>
  intro qs vs xs r h1 h2 h3 h
  cases qs with
  | nil => cases h; exact ⟨vs, rfl, h3⟩
  | cons q qs => simp at h1
 | cons x ps ih =>
  intro qs vs xs r h1 h2 h3 h
  cases qs with
  | nil => simp at h1
  | cons q qs =>
   obtain ⟨i, v⟩ := x
   obtain ⟨i', u⟩ := q
   simp only [List.map_cons, List.cons.injEq] at h1
   obtain ⟨rfl, h1⟩ := h1
   simp only [List.map_cons] at h2
   cases h2 with
   | cons _ _ _ _ hv ht =>
   simp only [fillA] at h
   split at h
   ·rename_i off size cs hp hcs
    split at h
    ·rename_i hchk
     simp only [Bool.and_eq_true] at hchk
     have hsz := Nat.eq_of_beq_eq_true hchk.1
     have hle := Nat.le_of_ble_eq_true hchk.2
     have hcr := cellsOf_rel hv hcs
     have hvs : v.cells.size = size := by rw [← hsz, ← hcr.length, Array.length_toList]
     have hxs : vs.size = xs.length := by rw [← h3.length, Array.length_toList]
     have hsr := setL_rel _ _ off _ _ hcr h3
     have hz : v.cells.toList.zipIdx = (v.cells.zipIdx).toList := by simp
     rw [hz, ← foldl_set_toList] at hsr
     obtain ⟨out, ho, hor⟩ := ih qs _ _ r h1 ht hsr h
     refine ⟨out, ?_, hor⟩
     simp only [Instr.fill, hp]
     rw [if_neg (by simp [hvs]; omega), ← ho, ← Array.foldl_toList]
    ·cases h
   ·cases h

theorem evParts_ok {N : Nat} {B : Base} {ro : Option Nat} {env : Env} {s : Store} {a : Act} {w : World} {p : Prot} (hst : St N B ro env s a w p) {l : List (Nat × Operand)} {qs : List (Nat × AV)}
  (h : evParts env l = some qs) : (l.map fun x => (x.1, a.eval x.2)).map (·.1) = qs.map (·.1) ∧ RelL w p ((l.map fun x => (x.1, a.eval x.2)).map (·.2)) (qs.map (·.2)) := by
 induction l generalizing qs with
 | nil => cases h; exact ⟨rfl, .nil⟩
 | cons x l ih =>
  obtain ⟨i, o⟩ := x
  simp only [evParts] at h
  split at h
  ·rename_i v hv
   split at h
   ·rename_i r hr
    cases h
    obtain ⟨h1, h2⟩ := ih hr
    exact ⟨by simp only [List.map_cons, h1], .cons _ _ _ _ (hst.ev hv) h2⟩
   ·cases h
  ·cases h

theorem places_ok {P : Program} {Γ : Tys} (hΓ : TysOk P Γ) (fs : List Field) : ∀ {pl : List (Nat × Nat)}, placesOf Γ (fs.map fun x => (x.offset, x.type)) = some pl →
  fs.mapM (fun f => (P.info? f.type).map fun i => (f.offset, i.size)) = some pl := by
 induction fs with
 | nil => intro pl h; cases h; rfl
 | cons f fs ih =>
  intro pl h
  simp only [List.map_cons, placesOf] at h
  split at h
  ·rename_i i hi
   split at h
   ·rename_i l hl
    cases h
    obtain ⟨info, d, h1, -, -, h4, -⟩ := hΓ.parts hi
    simp [List.mapM_cons, h1, ih hl, h4]
   ·cases h
  ·cases h

theorem fill_seq (sz : Nat) : ∀ (vs : List Value) (k : Nat) (pre post : List Value), pre.length = k * sz → post.length = vs.length * sz → (∀ v ∈ vs, v.cells.size = sz) →
  Instr.fill (fun i => some (i * sz, sz)) (pre ++ post).toArray ((vs.zipIdx k).map fun x => (x.2, x.1)) = some (pre ++ flat vs).toArray := by
 intro vs
 induction vs with
 | nil => intro k pre post h1 h2 h3; have : post = [] := List.eq_nil_of_length_eq_zero (by simpa using h2); subst this; simp [Instr.fill, flat]
 | cons v vs ih =>
  intro k pre post h1 h2 h3
  have hv := h3 v (List.mem_cons_self ..)
  simp only [List.zipIdx_cons, List.map_cons, Instr.fill]
  have hlen : post.length = sz + vs.length * sz := by rw [h2, List.length_cons, Nat.add_mul]; omega
  rw [if_neg (by simp [hv]; omega)]
  have hset : (Array.foldl (fun cs x => cs.setIfInBounds (k * sz + x.2) x.1) (pre ++ post).toArray v.cells.zipIdx) = ((pre ++ v.cells.toList) ++ post.drop sz).toArray := by
   apply Array.ext'
   rw [← Array.foldl_toList]
   have := foldl_set_toList v.cells.zipIdx.toList (k * sz) (pre ++ post).toArray
   simp only at this ⊢
   rw [this]
   have hz : v.cells.zipIdx.toList = v.cells.toList.zipIdx := by simp
   rw [hz]
   have gen : ∀ (us : List Value) (j : Nat) (a b : List Value), a.length = k * sz + j → us.length ≤ b.length →
     (us.zipIdx j).foldl (fun cs (x : Value × Nat) => cs.set (k * sz + x.2) x.1) (a ++ b) = a ++ us ++ b.drop us.length := by
    intro us
    induction us with
    | nil => intro j a b _ _; simp
    | cons u us ihu =>
     intro j a b ha hb
     cases b with
     | nil => simp at hb
     | cons c b =>
      simp only [List.zipIdx_cons, List.foldl_cons, List.length_cons, List.drop_succ_cons]
      have : (a ++ c :: b).set (k * sz + j) u = (a ++ [u]) ++ b := by
       rw [List.set_append_right _ _ (by omega)]
       have : k * sz + j - a.length = 0 := by omega
       rw [this]; simp
      rw [this, ihu (j + 1) (a ++ [u]) b (by simp; omega) (by simpa using hb)]
      simp
   have hvl : v.cells.toList.length = sz := by rw [Array.length_toList, hv]
   have := gen v.cells.toList 0 pre post (by omega) (by rw [hvl]; omega)
   rw [hvl] at this
   simpa using this
  rw [hset]
  have := ih (k + 1) (pre ++ v.cells.toList) (post.drop sz) (by simp [h1, hv, Nat.add_mul]) (by rw [List.length_drop, hlen]; omega) (fun u hu => h3 u (List.mem_cons_of_mem _ hu))
  rw [this]
  simp [flat, List.flatMap_cons]

theorem evElems_ok {N : Nat} {B : Base} {ro : Option Nat} {env : Env} {s : Store} {a : Act} {w : World} {p : Prot} (hst : St N B ro env s a w p) {sz : Nat} : ∀ {l : List (Nat × Operand)} {k : Nat} {xs : List AV},
    evElems env sz k l = some xs → ∃ vs : List Value, (l.map fun x => (x.1, a.eval x.2)) = (vs.zipIdx k).map (fun x => (x.2, x.1)) ∧ RelL w p vs xs ∧ (∀ v ∈ vs, v.cells.size = sz) ∧ vs.length = l.length := by
  intro l
  induction l with
  | nil => intro k xs h; cases h; exact ⟨[], rfl, .nil, by simp, rfl⟩
  | cons x l ih =>
    intro k xs h
    obtain ⟨i, o⟩ := x
    simp only [evElems] at h
    split at h
    · rename_i hb
      split at h
      · rename_i v hv
        split at h
        · rename_i cs hcs
          split at h
          · rename_i hl
            split at h
            · rename_i r hr
              cases h
              have := Nat.eq_of_beq_eq_true hb
              subst this
              obtain ⟨vs, h1, h2, h3, h4⟩ := ih hr
              have hrel := hst.ev hv
              have hsz : (a.eval o).cells.size = sz := by
                rw [← Nat.eq_of_beq_eq_true hl, ← (cellsOf_rel hrel hcs).length, Array.length_toList]
              exact ⟨a.eval o :: vs, by simp [h1], .cons _ _ _ _ hrel h2, by
                intro u hu; rcases List.mem_cons.1 hu with rfl | hu; exact hsz; exact h3 u hu, by simp [h4]⟩
            · cases h
          · cases h
        · cases h
      · cases h
    · cases h

end Go.AE

/- The abstract walk: an operation that the evaluator reckons is carried out so. -/
namespace Go.AE

section
variable {P : Program} {Γ : Tys} (hΓ : TysOk P Γ) {N : Nat} {B : Base} {ro : Option Nat} {env : Env} {s : Store} {a : Act} {w : World} {p : Prot} (hst : St N B ro env s a w p)
include hst

theorem pure_val {o : Oper} {x : Operand} {v : AV} (ho : o.op = .move x ∨ o.op = .assign x) (h : ev env x = some v) : PureRes P o a w p v := by
 refine .same (val := a.eval x) ?_ (hst.ev h)
 unfold execOp
 rcases ho with ho | ho <;> rw [ho] <;> rfl

theorem pure_pick {o : Oper} {c x y : Operand} {v : AV} {t : Bool} (ho : o.op = .pick c x y) (hc : ev env c = some (.bool t)) (h : ev env (if t then x else y) = some v) : PureRes P o a w p v := by
 refine .same (val := a.eval (if t then x else y)) ?_ (hst.ev h)
 unfold execOp
 rw [ho]
 simp only [rel_bool (hst.ev hc), asBool, Sem.run_bind, Sem.run_pure, Result.andThen_ok]
 cases t <;> rfl

include hΓ

theorem pure_bin {o : Oper} {op : BinOp} {t yt : TypeId} {x y : Operand} {u v r : AV} (ho : o.op = .binOp op t x y yt) (hx : ev env x = some u) (hy : ev env y = some v)
  (h : abin Γ op t y u v = some r) : PureRes P o a w p r := by
 obtain ⟨val, h1, h2⟩ := abin_ok hΓ hst (yt := yt) hx hy h
 refine .same (val := val) ?_ h2
 unfold execOp
 rw [ho]
 exact run_v h1

omit hΓ in
theorem pure_not {o : Oper} {t : TypeId} {x : Operand} {b : Bool} (ho : o.op = .unOp .not t x) (hx : ev env x = some (.bool b)) : PureRes P o a w p (.bool (!b)) := by
 refine .same (val := .bool (!b)) ?_ (.bool _)
 unfold execOp
 rw [ho]
 simp only [rel_bool (hst.ev hx)]
 exact run_v (by simp [Op.unary])

omit hΓ in
theorem pure_extract {o : Oper} {x : Operand} {i : Nat} {vs : List AV} {v : AV} (ho : o.op = .extract x i) (hx : ev env x = some (.tup vs)) (h : nth vs i = some v) : PureRes P o a w p v := by
 have hr := hst.ev hx
 generalize hv : a.eval x = vx at hr
 cases hr with
 | tup us _ hl =>
 rw [nth_eq] at h
 obtain ⟨u, hu, hur⟩ := hl.get h
 refine .same (val := u) ?_ hur
 unfold execOp
 rw [ho]
 simp only [hv]
 exact run_v (by
  have : us[i]? = some u := by simpa using hu
  simp [Instr.extract, this])

theorem pure_fieldAddr {o : Oper} {S : TypeId} {x : Operand} {f sz by_ : Nat} {fs : List (Nat × TypeId)} {z : Value} {off : Nat} {t : TypeId} {ti : TI} {v : AV} (ho : o.op = .fieldAddr S x f)
  (hS : Γ.get? S = some ⟨.struct fs, sz, by_, z⟩) (hf : nth fs f = some (off, t)) (ht : Γ.get? t = some ti) (h0 : ti.size ≠ 0)
  (h : (∃ b o, ev env x = some (.ptr b o) ∧ v = .ptr b (o + off)) ∨ (∃ cs o, ev env x = some (.fptr cs o) ∧ v = .fptr cs (o + off)) ∨ (∃ b cs, ev env x = some (.kptr b cs) ∧ v = .fptr cs off)) : PureRes P o a w p v := by
 obtain ⟨info, d, h1, h2, h3, -⟩ := hΓ.parts hS
 obtain ⟨info', d', h1', h2', h3', h4', -⟩ := hΓ.parts ht
 obtain ⟨fl, rfl, hfl⟩ := tdOf_struct h3
 rw [nth_eq, hfl, List.getElem?_map] at hf
 obtain ⟨fd, hfd, hfd'⟩ := Option.map_eq_some_iff.1 hf
 cases hfd'
 have hfd2 : fl[f]? = some fd := by simpa using hfd
 have hsz : info'.size ≠ 0 := by rw [h4']; exact h0
 have key : ∀ b o', a.eval x = .pointer (some ⟨b, o', none⟩) → (execOp a.eval o).run P w = .ok (.value (.pointer (some ⟨b, o' + fd.offset, none⟩))) w := by
  intro b o' hx
  unfold execOp
  rw [ho]
  simp only [hx]
  refine run_v ?_
  simp [Instr.fieldAt, run_underlying h2, hfd2, Instr.sureAddr, fieldPlace, sizeOf, typeInfo, h1', hsz, add_none]
 rcases h with ⟨b, o', hx, rfl⟩ | ⟨cs, o', hx, rfl⟩ | ⟨b, cs, hx, rfl⟩
 ·have hr := hst.ev hx
  generalize hv : a.eval x = vx at hr
  cases hr
  exact .same (key _ _ hv) (.ptr _ _)
 ·have hr := hst.ev hx
  generalize hv : a.eval x = vx at hr
  cases hr with
  | fptr b base oo off vs _ hoo hc hrl =>
  exact .same (key _ _ hv) (.fptr b base _ _ vs _ (by omega) hc hrl)
 ·have hr := hst.ev hx
  generalize hv : a.eval x = vx at hr
  cases hr with
  | kptr b vs _ _ _ hc hrl =>
  exact .same (key _ _ hv) (.fptr b 0 _ _ vs _ rfl hc hrl)

theorem pure_field {o : Oper} {S : TypeId} {x : Operand} {f sz by_ : Nat} {fs : List (Nat × TypeId)} {z : Value} {off : Nat} {t : TypeId} {ti : TI} {cs : List AV} {v : AV} (ho : o.op = .field S x f)
  (hS : Γ.get? S = some ⟨.struct fs, sz, by_, z⟩) (hf : nth fs f = some (off, t)) (ht : Γ.get? t = some ti) (hx : ev env x = some (.agg cs)) (h : loadC ti cs off = some v) : PureRes P o a w p v := by
 obtain ⟨info, d, h1, h2, h3, -⟩ := hΓ.parts hS
 obtain ⟨fl, rfl, hfl⟩ := tdOf_struct h3
 rw [nth_eq, hfl, List.getElem?_map] at hf
 obtain ⟨fd, hfd, hfd'⟩ := Option.map_eq_some_iff.1 hf
 cases hfd'
 have hfd2 : fl[f]? = some fd := by simpa using hfd
 have hr := hst.ev hx
 generalize hv : a.eval x = vx at hr
 cases hr with
 | agg us _ hl =>
 obtain ⟨val, hrun, hrel⟩ := part_ok hΓ ht hl h
 refine .same (val := val) ?_ hrel
 unfold execOp
 rw [ho]
 simp only [hv]
 refine run_v ?_
 simp [Instr.field, run_underlying h2, hfd2, asAgg, hrun]

theorem pure_load {o : Oper} {t : TypeId} {x : Operand} {i : TI} {cs : List AV} {off : Nat} {v : AV} (ho : o.op = .load t x) (ht : Γ.get? t = some i) (hx : ev env x = some (.fptr cs off))
  (h : loadC i cs off = some v) : PureRes P o a w p v := by
 have hr := hst.ev hx
 generalize hv : a.eval x = vx at hr
 cases hr with
 | fptr b base oo _ vs _ hoo hc hrl =>
 subst hoo
 obtain ⟨val, hrun, hrel⟩ := loadVar_ok hΓ ht (b := b) (base := base) (fun j u hu => (hc j u hu).2) hrl h
 refine .same (val := val) ?_ hrel
 unfold execOp
 rw [ho]
 simp only [hv]
 refine run_v ?_
 simp only [Instr.loadAt, Instr.sureAddr, Sem.run_bind, Sem.run_pure, Result.andThen_ok, hrun]

theorem pure_loadK {o : Oper} {t : TypeId} {x : Operand} {i : TI} {cs : List AV} {b : Nat} {v : AV} (ho : o.op = .load t x) (ht : Γ.get? t = some i) (hx : ev env x = some (.kptr b cs))
  (h : loadC i cs 0 = some v) : PureRes P o a w p v := by
 have hr := hst.ev hx
 generalize hv : a.eval x = vx at hr
 cases hr with
 | kptr b vs _ _ _ hc hrl =>
 obtain ⟨val, hrun, hrel⟩ := loadVar_ok hΓ ht (b := b) (base := 0) (fun j u hu => (hc j u hu).2) hrl h
 refine .same (val := val) ?_ hrel
 unfold execOp
 rw [ho]
 simp only [hv]
 refine run_v ?_
 simp only [Instr.loadAt, Instr.sureAddr, Sem.run_bind, Sem.run_pure, Result.andThen_ok]
 simpa using hrun

theorem pure_iface {o : Oper} {t : TypeId} {x : Operand} {i : TI} {v : AV} (ho : o.op = .makeInterface t x) (ht : Γ.get? t = some i) (hi : ∀ b, i.td ≠ .iface b) (hx : ev env x = some v) :
  PureRes P o a w p (.iface t v) := by
 obtain ⟨info, d, h1, h2, h3, -⟩ := hΓ.parts ht
 refine .same (val := .iface t (a.eval x)) ?_ (.iface _ _ _ (hst.ev hx))
 unfold execOp
 rw [ho]
 refine run_v ?_
 have hd : ∀ ms, d ≠ .interface ms := fun ms e => by subst e; exact hi _ h3.symm
 simp only [Instr.makeInterface, Sem.run_bind, run_underlying h2, Result.andThen_ok]
 cases d <;> first | rfl | exact absurd rfl (hd _)

omit hΓ in
theorem pure_func {o : Oper} {f : FuncId} {first cap : Array Operand} {fa ca : List AV} (ho : o.op = .makeFunc (.func f) first cap) (hf : evs env first.toList = some fa) (hc : evs env cap.toList = some ca) :
  PureRes P o a w p (.func f fa ca) := by
 refine .same (val := .func (.func f) (first.map a.eval) (cap.map a.eval)) ?_ (.func _ _ _ _ _ (by simpa using evs_rel hst hf) (by simpa using evs_rel hst hc))
 unfold execOp
 rw [ho]
 exact run_v rfl

omit hΓ in
theorem pure_nilCheck {o : Oper} {x : Operand} {v : AV} (ho : o.op = .nilCheck x) (hx : ev env x = some v) (h : (∃ b o, v = .ptr b o) ∨ (∃ cs o, v = .fptr cs o) ∨ (∃ b cs, v = .kptr b cs) ∨ (∃ f a c, v = .func f a c)) : PureRes P o a w p v := by
 have hr := hst.ev hx
 refine .same (val := a.eval x) ?_ hr
 unfold execOp
 rw [ho]
 simp only []
 rcases h with ⟨b, o', rfl⟩ | ⟨cs, o', rfl⟩ | ⟨b, cs, rfl⟩ | ⟨f, as, cs, rfl⟩ <;> generalize hv : a.eval x = vx at hr <;> cases hr <;> rfl

theorem pure_assert {o : Oper} {x : Operand} {xt t : TypeId} {i : TI} {ok : Bool} {u v : AV} (ho : o.op = .typeAssert x xt t ok) (ht : Γ.get? t = some i) (hi : ∀ b, i.td ≠ .iface b) (hx : ev env x = some u)
  (h : (∃ y, u = .iface t y ∧ v = if ok then .tup [y, .bool true] else y) ∨
   (ok = true ∧ (u = .inil ∨ ∃ t' y, t' ≠ t ∧ u = .iface t' y) ∧ ∃ z, constAV2 i.zero = some z ∧ v = .tup [z, .bool false])) : PureRes P o a w p v := by
 obtain ⟨info, d, h1, h2, h3, h4, h5, h6⟩ := hΓ.parts ht
 have hd : ∀ ms, d ≠ .interface ms := fun ms e => by subst e; exact hi _ h3.symm
 have hr := hst.ev hx
 generalize hv : a.eval x = vx at hr
 have hz : (zeroValue t).run P w = .ok i.zero w := by simp [zeroValue, typeInfo, h1, h6]
 rcases h with ⟨y, rfl, rfl⟩ | ⟨rfl, hu, z, hz2, rfl⟩
 ·cases hr with
  | iface _ val _ hy =>
  have hrun : (Instr.typeAssert (.iface t val) xt t ok).run P w = .ok (if ok then .tuple #[val, .bool true] else val) w := by
   cases d <;> first | exact absurd rfl (hd _) | (simp only [Instr.typeAssert, Sem.run_bind, run_underlying h2, Result.andThen_ok, if_true, Sem.run_pure])
  refine .same (val := if ok then .tuple #[val, .bool true] else val) ?_ (by cases ok; exact hy; exact .tup _ _ (.cons _ _ _ _ hy (.cons _ _ _ _ (.bool _) .nil)))
  unfold execOp
  rw [ho]
  simp only [hv]
  exact run_v hrun
 ·have hrun : (Instr.typeAssert vx xt t true).run P w = .ok (.tuple #[i.zero, .bool false]) w := by
   rcases hu with rfl | ⟨t', y, hne, rfl⟩
   ·cases hr
    cases d <;> first | exact absurd rfl (hd _) | (simp only [Instr.typeAssert, Sem.run_bind, run_underlying h2, Result.andThen_ok, if_true, hz, Sem.run_pure])
   ·cases hr
    cases d <;> first | exact absurd rfl (hd _) | (simp only [Instr.typeAssert, Sem.run_bind, run_underlying h2, Result.andThen_ok, if_true, if_neg hne, hz, Sem.run_pure])
  refine .same (val := .tuple #[i.zero, .bool false]) ?_ (.tup _ _ (.cons _ _ _ _ (constAV2_rel hz2) (.cons _ _ _ _ (.bool _) .nil)))
  unfold execOp
  rw [ho]
  simp only [hv]
  exact run_v hrun

theorem pure_len {o : Oper} {x : Operand} {t : TypeId} {i : TI} {u : AV} {n : Nat} (ho : o.op = .call { callee := .builtin .len, args := #[x], argTypes := #[t] }) (ht : Γ.get? t = some i) (hx : ev env x = some u)
  (h : (∃ e sz xs own, i.td = .slc e ∧ u = .slc sz xs own ∧ n = xs.length) ∨ (∃ l, i.td = .str ∧ u = .str l ∧ n = l.length)) : PureRes P o a w p (.int .i64 n) := by
 obtain ⟨info, d, h1, h2, h3, -⟩ := hΓ.parts ht
 have hr := hst.ev hx
 generalize hv : a.eval x = vx at hr
 refine .same (val := .int .i64 n) ?_ (.int _ _)
 unfold execOp
 rw [ho]
 simp only [resolve, invoke, builtin, Sem.run_bind, Sem.run_pure, Result.andThen_ok, List.map_toArray, List.map_cons, List.map_nil, hv]
 rcases h with ⟨e, sz, xs, own, htd, rfl, rfl⟩ | ⟨l, htd, rfl, rfl⟩
 ·have hd : d = .slice e := by rw [htd] at h3; cases d <;> simp [tdOf] at h3; rw [h3]
  subst hd
  cases hr with
  | slcNil => simp [Builtin.len_, run_underlying h2, goInt]
  | slcZ => simp [Builtin.len_, run_underlying h2, goInt]
  | slc g off n cap sz vs _ _ hn hl hc hr hs hm hk hcl ho => simp [Builtin.len_, run_underlying h2, goInt, hl]
 ·have hd : d = .string := by rw [htd] at h3; cases d <;> simp [tdOf] at h3; rfl
  subst hd
  cases hr with
  | str b _ e => subst e; simp [Builtin.len_, run_underlying h2, goInt]

omit hΓ in
theorem pure_box {o : Oper} {t : TypeId} {x : Operand} {v : AV} {cs : List AV} (ho : o.op = .box t x) (hx : ev env x = some v) (hc : cellsOf v = some cs) : PureRes P o a w p (.fptr cs 0) := by
 have hr := hst.ev hx
 have hcr := cellsOf_rel hr hc
 refine PureRes.alloc (a.eval x).cells t hst.wf.lt (val := .pointer (some ⟨w.heap.size, 0, none⟩)) ?_ ?_
 ·unfold execOp
  rw [ho]
  exact run_v rfl
 ·refine .fptr _ 0 0 0 (a.eval x).cells.toList _ rfl ?_ (hcr.mono (alloc_le hst.wf.lt _ _))
  have := alloc_cells (w := w) (p := p) (a.eval x).cells.toList t
  simpa using this

theorem pure_build {o : Oper} {t : TypeId} {parts : Array (Nat × Operand)} {fs : List (Nat × TypeId)} {sz by_ : Nat} {z : Value} {pl : List (Nat × Nat)} {zs cs : List AV} {ps : List (Nat × AV)}
  (ho : o.op = .build t parts) (ht : Γ.get? t = some ⟨.struct fs, sz, by_, z⟩) (hpl : placesOf Γ fs = some pl) (hz : constAV2 z = some (.agg zs)) (hps : evParts env parts.toList = some ps)
  (h : fillA (nth pl) zs ps = some cs) : PureRes P o a w p (.agg cs) := by
 obtain ⟨info, d, h1, h2, h3, h4, h5, h6⟩ := hΓ.parts ht
 obtain ⟨fl, rfl, hfl⟩ := tdOf_struct h3
 rw [hfl] at hpl
 have hplaces := places_ok hΓ fl.toList hpl
 have hzr := constAV2_rel (w := w) (p := p) hz
 obtain ⟨e1, e2⟩ := evParts_ok hst hps
 have hzc : RelL w p z.cells.toList zs := cellsOf_rel hzr rfl
 have hnth : (fun x => pl.toArray[x]?) = nth pl := by funext x; rw [nth_eq]; simp
 obtain ⟨out, hfill, hout⟩ := fill_ok _ _ z.cells zs cs e1 e2 hzc h
 refine .same (val := .agg out) ?_ (.agg _ _ hout)
 unfold execOp
 rw [ho]
 refine run_v (run_build w t _ out ?_)
 unfold Program.built
 simp only [h1, h2, h6, hplaces]
 rw [hnth]
 simpa using hfill

theorem pure_buildSlice {o : Oper} {t e : TypeId} {len : Nat} {parts : Array (Nat × Operand)} {sz by_ : Nat} {z : Value} {ie : TI} {xs : List AV}
  (ho : o.op = .buildSlice t len parts) (ht : Γ.get? t = some ⟨.slc e, sz, by_, z⟩) (he : Γ.get? e = some ie) (hlen : parts.size = len) (hmax : len * ie.size ≤ 16777216) (hmax2 : len ≤ 16777216)
  (h : evElems env ie.size 0 parts.toList = some xs) : PureRes P o a w p (.slc ie.size xs .clip) := by
 obtain ⟨info, d, h1, h2, h3, -⟩ := hΓ.parts ht
 obtain ⟨info', d', h1', h2', h3', h4', h5', h6'⟩ := hΓ.parts he
 have hd : d = .slice e := by cases d <;> simp [tdOf] at h3; rw [h3]
 subst hd
 obtain ⟨vs, e1, e2, e3, e4⟩ := evElems_ok hst h
 have hvl : vs.length = len := by rw [e4, Array.length_toList, hlen]
 have hfl : (flat vs).length = len * ie.size := by
  rw [← hvl]; clear e1 e2 e4 hvl h
  induction vs with
  | nil => simp [flat]
  | cons v vs ih =>
   have := ih (fun u hu => e3 u (List.mem_cons_of_mem _ hu))
   simp only [flat, List.flatMap_cons, List.length_append, Array.length_toList, List.length_cons] at this ⊢
   rw [e3 v (List.mem_cons_self ..)]
   have h' : (List.flatMap (fun v => v.cells.toList) vs).length = vs.length * ie.size := this
   rw [h', Nat.add_mul]; omega
 have hfill : ∀ zeros : Array Value, zeros.size = len * ie.size → Instr.fill (fun i => some (i * ie.size, ie.size)) zeros (parts.map fun x => (x.1, a.eval x.2)).toList = some (flat vs).toArray := by
  intro zeros hzs
  have := fill_seq ie.size vs 0 [] zeros.toList (by simp) (by rw [Array.length_toList, hzs, hvl]) e3
  simp only [List.nil_append] at this
  rw [Array.toList_map, e1]
  simpa using this
 refine PureRes.alloc (flat vs).toArray e hst.wf.lt (val := .slice (some ⟨w.heap.size, 0, none⟩) len len) ?_ ?_
 ·unfold execOp
  rw [ho]
  refine run_v ?_
  have hmax' : ¬ (16777216 < len * ie.size) := by omega
  have hgt : ¬ (len * ie.size > 2 ^ 24) := by omega
  unfold Instr.buildSlice
  simp only [Sem.run_bind, run_underlying h2, Result.andThen_ok, sizeOf, typeInfo, run_program, h1', Sem.run_pure, h4', if_neg hgt]
  by_cases h0 : len * ie.size = 0
  ·rw [if_pos h0, Sem.run_bind, Sem.run_pure, Result.andThen_ok, hfill _ (by simp)]
   rfl
  ·rw [if_neg h0]
   simp only [zeroValue, typeInfo, Sem.run_bind, run_program, h1', h6', Sem.run_pure, Result.andThen_ok]
   rw [hfill _ (by simp)]
   rfl
 ·refine .slc _ 0 _ _ _ vs _ _ (by simp) (by rw [← e2.length, hvl]) ?_ (e2.mono (alloc_le hst.wf.lt _ _)) e3 ?_ (Nat.le_refl _) (fun _ => rfl) (fun b hb => by cases hb)
  ·exact alloc_cells (w := w) (p := p) (flat vs) e
  ·omega

theorem aop_ok {o : Oper} {v : AV} (h : aop Γ o env = some v) : PureRes P o a w p v := by
 unfold aop at h
 split at h
 ·rename_i x ho; exact pure_val hst (.inl ho) h
 ·rename_i x ho; exact pure_val hst (.inr ho) h
 ·rename_i c x y ho
  split at h
  ·rename_i hc; exact pure_pick hst (t := true) ho hc h
  ·rename_i hc; exact pure_pick hst (t := false) ho hc h
  ·cases h
 ·rename_i op t x y yt ho
  split at h
  ·rename_i u v' hx hy; exact pure_bin hΓ hst ho hx hy h
  ·cases h
 ·rename_i t x ho
  split at h
  ·rename_i b hb; cases h; exact pure_not hst ho hb
  ·cases h
 ·rename_i x i ho
  split at h
  ·rename_i vs hx; exact pure_extract hst ho hx h
  ·cases h
 ·rename_i S x f ho
  split at h
  ·rename_i fs sz by_ z hS
   split at h
   ·rename_i off t hf
    split at h
    ·rename_i td n tb tz ht
     split at h
     ·rename_i b o' hx; cases h; exact pure_fieldAddr hΓ hst ho hS hf ht (by simp) (.inl ⟨_, _, hx, rfl⟩)
     ·rename_i cs o' hx; cases h; exact pure_fieldAddr hΓ hst ho hS hf ht (by simp) (.inr (.inl ⟨_, _, hx, rfl⟩))
     ·rename_i b cs hx; cases h; exact pure_fieldAddr hΓ hst ho hS hf ht (by simp) (.inr (.inr ⟨_, _, hx, rfl⟩))
     ·cases h
    ·cases h
   ·cases h
  ·cases h
 ·rename_i S x f ho
  split at h
  ·rename_i fs sz by_ z hS
   split at h
   ·rename_i off t hf
    split at h
    ·rename_i i ht
     split at h
     ·rename_i cs hx; exact pure_field hΓ hst ho hS hf ht hx h
     ·cases h
    ·cases h
   ·cases h
  ·cases h
 ·rename_i t x ho
  split at h
  ·rename_i i ht
   split at h
   ·rename_i cs o' hx; exact pure_load hΓ hst ho ht hx h
   ·rename_i b cs hx; exact pure_loadK hΓ hst ho ht hx h
   ·cases h
  ·cases h
 ·rename_i t x ho
  split at h
  ·cases h
  ·rename_i i hni ht
   split at h
   ·rename_i u hx; cases h; exact pure_iface hΓ hst ho ht (fun b e => by obtain ⟨a1, a2, a3, a4⟩ := i; simp only at e; subst e; exact hni _ _ _ _ rfl) hx
   ·cases h
  ·cases h
 ·rename_i f first cap ho
  split at h
  ·rename_i fa ca h1 h2; cases h; exact pure_func hst ho h1 h2
  ·cases h
 ·rename_i x ho
  split at h
  ·rename_i b o' hx; cases h; exact pure_nilCheck hst ho hx (.inl ⟨_, _, rfl⟩)
  ·rename_i cs o' hx; cases h; exact pure_nilCheck hst ho hx (.inr (.inl ⟨_, _, rfl⟩))
  ·rename_i b cs hx; cases h; exact pure_nilCheck hst ho hx (.inr (.inr (.inl ⟨_, _, rfl⟩)))
  ·rename_i f fa ca hx; cases h; exact pure_nilCheck hst ho hx (.inr (.inr (.inr ⟨_, _, _, rfl⟩)))
  ·cases h
 ·rename_i x xt t ok ho
  split at h
  ·cases h
  ·rename_i i hni ht
   have hni' : ∀ b, i.td ≠ .iface b := fun b e => by obtain ⟨a1, a2, a3, a4⟩ := i; simp only at e; subst e; exact hni _ _ _ _ rfl
   split at h
   ·rename_i t' u hx
    split at h
    ·rename_i hb; cases h; have := Nat.eq_of_beq_eq_true hb; subst this; exact pure_assert hΓ hst ho ht hni' hx (.inl ⟨u, rfl, rfl⟩)
    ·rename_i hb; cases h; have := Nat.eq_of_beq_eq_true hb; subst this; exact pure_assert hΓ hst ho ht hni' hx (.inl ⟨_, rfl, rfl⟩)
    ·rename_i hb
     split at h
     ·rename_i z hz; cases h
      exact pure_assert hΓ hst ho ht hni' hx (.inr ⟨rfl, .inr ⟨t', u, (fun e => by subst e; simp at hb), rfl⟩, z, hz, rfl⟩)
     ·cases h
    ·cases h
   ·rename_i hx
    split at h
    ·split at h
     ·rename_i z hz; cases h
      exact pure_assert hΓ hst ho ht hni' hx (.inr ⟨rfl, .inl rfl, z, hz, rfl⟩)
     ·cases h
    ·cases h
   ·cases h
  ·cases h
 ·rename_i args argTypes ho
  split at h
  ·rename_i x t h1 h2
   have e1 : args = #[x] := by apply Array.ext'; simpa using h1
   have e2 : argTypes = #[t] := by apply Array.ext'; simpa using h2
   subst e1; subst e2
   split at h
   ·rename_i e sz by_ z ht
    split at h
    ·rename_i sz' xs own hx; cases h; exact pure_len hΓ hst ho ht hx (.inl ⟨_, _, _, _, rfl, rfl, rfl⟩)
    ·cases h
   ·rename_i sz by_ z ht
    split at h
    ·rename_i l hx; cases h; exact pure_len hΓ hst ho ht hx (.inr ⟨_, rfl, rfl, rfl⟩)
    ·cases h
   ·cases h
  ·cases h
 ·rename_i t x ho
  split at h
  ·rename_i u hx
   split at h
   ·rename_i cs hc; cases h; exact pure_box hst ho hx hc
   ·cases h
  ·cases h
 ·rename_i t parts ho
  split at h
  ·rename_i fs sz by_ z ht
   split at h
   ·rename_i pl zs ps hpl hz hps
    split at h
    ·rename_i cs hcs; cases h; exact pure_build hΓ hst ho ht hpl hz hps hcs
    ·cases h
   ·cases h
  ·cases h
 ·rename_i t len parts ho
  split at h
  ·rename_i e sz by_ z ht
   split at h
   ·rename_i ie he
    split at h
    ·rename_i hchk
     simp only [Bool.and_eq_true] at hchk
     split at h
     ·rename_i xs hxs; cases h
      exact pure_buildSlice hΓ hst ho ht he (Nat.eq_of_beq_eq_true hchk.1) (Nat.le_of_ble_eq_true hchk.2.1) (Nat.le_of_ble_eq_true hchk.2.2) hxs
     ·cases h
    ·cases h
   ·cases h
  ·cases h
 ·cases h

omit hst hΓ in
theorem aop_noDefer {o : Oper} {v : AV} (h : aop Γ o env = some v) : noDefer o = true := by
 unfold noDefer
 cases ho : o.op <;> first | rfl | (unfold aop at h; rw [ho] at h; cases h)

omit hst in
theorem OW.aop {o : Oper} {v : AV} (h : AE.aop Γ o env = some v) : OW P N o env s (fun x s' => x = v ∧ s' = s) (fun _ _ => False) :=
 OW.ofPure (aop_noDefer h) fun _ _ _ _ _ hst => aop_ok hΓ hst h

omit hst in
theorem RW.step {ops : Array Oper} {Q : AEx → Env → Store → Prop} {i : Nat} {l : List Nat} {o : Oper} {d : Nat} {v : AV} (ho : ops[i]? = some o) (hg : guardOf ops env o = some true)
  (hd : o.dst = some d) (hN : Nat.blt d N = true) (hv : AE.aop Γ o env = some v) (h : RW P N ops l Q ((d, v) :: env) s) : RW P N ops (i :: l) Q env s :=
 RW.op ho hg hd hN (OW.aop hΓ hv) (fun x s' ⟨h1, h2⟩ => by subst h1; subst h2; exact h) (fun _ _ h => h.elim)
end
end Go.AE

/- The abstract walk: the operations that turn the store: boxes, maps, owned rows; elements by computed indexes; calls. -/
namespace Go.AE

def Store.set (s : Store) (b : Nat) (o : AObj) : Store := fun b' => if b' = b then some o else s b'
def Store.del (s : Store) (b : Nat) : Store := fun b' => if b' = b then none else s b'

theorem Store.set_same (s : Store) (b : Nat) (o : AObj) : s.set b o b = some o := by simp [Store.set]
theorem Store.set_ne (s : Store) {b b' : Nat} (o : AObj) (h : b' ≠ b) : s.set b o b' = s b' := by simp [Store.set, h]
theorem Store.del_same (s : Store) (b : Nat) : s.del b b = none := by simp [Store.del]
theorem Store.del_ne (s : Store) {b b' : Nat} (h : b' ≠ b) : s.del b b' = s b' := by simp [Store.del, h]
theorem Store.set_none {s : Store} {b b' : Nat} {o : AObj} (h : s.set b o b' = none) : b' ≠ b ∧ s b' = none := by
 unfold Store.set at h; split at h
 ·cases h
 ·exact ⟨‹_›, h⟩
theorem Store.sub_set (s : Store) (b : Nat) (o : AObj) (h : s b = none) : Store.Sub s (s.set b o) := fun b' => by
 by_cases e : b' = b
 ·subst e; exact .inr h
 ·exact .inl (by rw [Store.set_ne _ _ e])
theorem Store.sub_refl (s : Store) : Store.Sub s s := fun _ => .inl rfl
theorem Store.Sub.trans {a b c : Store} (h : Store.Sub a b) (k : Store.Sub b c) : Store.Sub a c := fun x => by
 rcases h x with e | e
 ·rcases k x with e' | e'
  ·exact .inl (e.trans e')
  ·exact .inr (e.trans e')
 ·exact .inr e
theorem Store.del_set (s : Store) (b : Nat) (o : AObj) (h : s b = none) : (s.set b o).del b = s := by
 funext b'; by_cases e : b' = b
 ·subst e; simp [Store.del, h]
 ·simp [Store.del, Store.set, e]
theorem Store.set_set (s : Store) (b : Nat) (o o' : AObj) : (s.set b o).set b o' = s.set b o' := by
 funext b'; by_cases e : b' = b <;> simp [Store.set, e]
theorem ObjOk.lt {w : World} {p : Prot} {b : Nat} {o : AObj} (h : ObjOk w p b o) : b < w.heap.size := by
 cases o with
 | box t cs => obtain ⟨vs, h1, -⟩ := h; exact (Array.getElem?_eq_some_iff.1 h1).1
 | row t sz n => obtain ⟨vs, h1, -⟩ := h; exact (Array.getElem?_eq_some_iff.1 h1).1
 | map es => obtain ⟨vs, c, h1, -⟩ := h; exact (Array.getElem?_eq_some_iff.1 h1).1
 | ranged es it l c => obtain ⟨_, _, _, h1, -⟩ := h; exact (Array.getElem?_eq_some_iff.1 h1).1
 | tick m => obtain ⟨_, _, _, h1⟩ := h; exact (Array.getElem?_eq_some_iff.1 h1).1
 | loop r env => exact (Array.getElem?_eq_some_iff.1 h.1).1

theorem new_obj {w : World} {p : Prot} {s : Store} (hwf : Wf w p s) (o : Obj) (x : AObj) (hx : ∀ w' : World, w'.heap[w.heap.size]? = some o → (∀ v y, Rel w p v y → Rel w' p v y) → (∀ vs ys, RelL w p vs ys → RelL w' p vs ys) → ObjOk w' p w.heap.size x) :
  s w.heap.size = none ∧ Le w p (w.alloc o) p ∧ Kept s (s.set w.heap.size x) w p (w.alloc o) p ∧ Wf (w.alloc o) p (s.set w.heap.size x) := by
 have hn : s w.heap.size = none := by
  cases h : s w.heap.size with
  | none => rfl
  | some o' => exact absurd (hwf.obj _ _ h).lt (by omega)
 have hle : Le w p (w.alloc o) p := Le.of_heap rfl rfl rfl (by simp) (fun _ _ h => h) hwf.lt (fun b hb => heap_alloc_lt w o b hb)
 refine ⟨hn, hle, ⟨fun b hb _ => heap_alloc_lt w o b hb, fun b hb hs => by rw [Store.set_ne _ _ (by omega)]; exact hs, fun _ _ _ _ h => h⟩, ?_⟩
 have hg := hwf.grow hle (fun b hb => heap_alloc_lt w o b hb) (fun _ _ _ h => h) (fun b o hp => by have := hwf.lt b o hp; simp; omega)
 refine ⟨fun b o' hb => ?_, hg.lt⟩
 by_cases e : b = w.heap.size
 ·subst e
  rw [Store.set_same] at hb; cases hb
  exact hx _ (heap_alloc_here w o) (fun _ _ h => h.mono hle) (fun _ _ h => h.mono hle)
 ·rw [Store.set_ne _ _ e] at hb
  exact hg.obj b o' hb

section
variable {P : Program} {Γ : Tys} {N : Nat} {env : Env} {s : Store}

theorem OW.of_run {o : Oper} {K X : AV → Store → Prop} (hd : noDefer o = true)
  (h : ∀ ro B a w p, St N B ro env s a w p → ∃ val w' s' p' x, (execOp a.eval o).run P w = .ok (.value val) w' ∧ Le w p w' p' ∧ Kept s s' w p w' p' ∧ Wf w' p' s' ∧ K x s' ∧ Rel w' p' val x) :
  OW P N o env s K X := by
 refine ⟨hd, fun ro B a w p hst => ?_⟩
 obtain ⟨val, w', s', p', x, hr, h1, h2, h3, h4, h5⟩ := h ro B a w p hst
 rw [hr]
 exact ⟨s', p', h1, h2, h3, x, h4, h5⟩

theorem OW.of_skip {o : Oper} {K X : AV → Store → Prop} (hd : noDefer o = true)
  (h : ∀ ro B a w p, St N B ro env s a w p → ∃ w' s' p', (execOp a.eval o).run P w = .ok .skip w' ∧ Le w p w' p' ∧ Kept s s' w p w' p' ∧ Wf w' p' s' ∧ K (.tup []) s') :
  OW P N o env s K X := by
 refine ⟨hd, fun ro B a w p hst => ?_⟩
 obtain ⟨w', s', p', hr, h1, h2, h3, h4⟩ := h ro B a w p hst
 rw [hr]
 exact ⟨s', p', h1, h2, h3, _, h4, rel_undef⟩

/-! ### Boxes -/

theorem OW.alloc (hΓ : TysOk P Γ) {o : Oper} {t : TypeId} {i : TI} {z : AV} {cs : List AV} (ho : o.op = .alloc t) (ht : Γ.get? t = some i) (hz : constAV2 i.zero = some z) (hc : cellsOf z = some cs) {X : AV → Store → Prop} :
  OW P N o env s (fun x s' => ∃ b, s b = none ∧ x = .ptr b 0 ∧ s' = s.set b (.box t cs)) X := by
 refine OW.of_run (by simp [noDefer, ho]) fun ro B a w p hst => ?_
 obtain ⟨info, d, h1, h2, h3, h4, h5, h6⟩ := hΓ.parts ht
 obtain ⟨hn, hle, hk, hwf⟩ := new_obj hst.wf (.cells i.zero.cells t (0, 0)) (.box t cs) (fun w' hw' hr hrl =>
  ⟨i.zero.cells, hw', hrl _ _ (cellsOf_rel (constAV2_rel hz) hc), fun o' hp => absurd (hst.wf.lt _ _ hp) (by omega)⟩)
 refine ⟨.pointer (some ⟨w.heap.size, 0, none⟩), _, _, p, _, ?_, hle, hk, hwf, ⟨w.heap.size, hn, rfl, rfl⟩, .ptr _ _⟩
 unfold execOp
 rw [ho]
 refine run_v ?_
 simp [Instr.alloc, zeroValue, typeInfo, h1, h6, newVar, newRow]

theorem cells_of_box {w : World} {b : Nat} {vs : Array Value} {t : TypeId} {fr : Nat × Nat} (h : w.heap[b]? = some (.cells vs t fr)) (j : Nat) : w.cell? ⟨b, j, none⟩ = vs[j]? := by
 simp [World.cell?, h]

theorem OW.loadP (hΓ : TysOk P Γ) {o : Oper} {t T : TypeId} {x : Operand} {i : TI} {b off : Nat} {cs : List AV} {v : AV} (ho : o.op = .load t x) (ht : Γ.get? t = some i) (hx : ev env x = some (.ptr b off))
  (hs : s b = some (.box T cs)) (h : loadC i cs off = some v) {X : AV → Store → Prop} : OW P N o env s (fun x s' => x = v ∧ s' = s) X := by
 refine OW.of_run (by simp [noDefer, ho]) fun ro B a w p hst => ?_
 have hr := hst.ev hx
 generalize hv : a.eval x = vx at hr
 cases hr
 obtain ⟨vs, h1, h2, h3⟩ := hst.wf.obj _ _ hs
 obtain ⟨val, hrun, hrel⟩ := loadVar_ok hΓ ht (b := b) (base := 0) (vs := vs.toList) (fun j u hu => by rw [Nat.zero_add, cells_of_box h1]; simpa using hu) h2 h
 refine ⟨val, w, s, p, v, ?_, .refl w p, .refl s w p, hst.wf, ⟨rfl, rfl⟩, hrel⟩
 unfold execOp
 rw [ho]
 simp only [hv]
 refine run_v ?_
 rw [Nat.zero_add] at hrun
 simp only [Instr.loadAt, Instr.sureAddr, Sem.run_bind, Sem.run_pure, Result.andThen_ok, hrun]

theorem box_write {w : World} {p : Prot} (hwf : Wf w p s) {b : Nat} {T : TypeId} {cs : List AV} (hs : s b = some (.box T cs)) {vs' : Array Value} {cs' : List AV}
    (hsz : ∀ vs, w.heap[b]? = some (.cells vs T (0, 0)) → vs'.size = vs.size) (hr : RelL w p vs'.toList cs') (w' : World) (hw' : w' = w.setRow b vs') :
    Le w p w' p ∧ Kept s (s.set b (.box T cs')) w p w' p ∧ Wf w' p (s.set b (.box T cs')) := by
  subst hw'
  obtain ⟨vs, h1, h2, h3⟩ := hwf.obj _ _ hs
  have hlt : b < w.heap.size := (Array.getElem?_eq_some_iff.1 h1).1
  have hb' := setRow_heap w b vs vs' T (0, 0) h1
  have hoth : ∀ k, k ≠ b → (w.setRow b vs').heap[k]? = w.heap[k]? := fun k hk => setRow_other w b k vs' hk
  have hle : Le w p (w.setRow b vs') p := by
    refine ⟨rfl, rfl, rfl, by simp, fun _ _ h => h, fun b' o hp => cell_of_heap (hoth b' (fun e => h3 o (e ▸ hp))), fun b' x hx => ?_⟩
    by_cases e : b' = b
    · subst e
      have hsz' := hsz vs h1
      simp only [World.shp?, h1, hb'] at hx ⊢
      rw [hsz']; exact hx
    · rw [shape_of_heap (hoth b' e)]; exact hx
  refine ⟨hle, ⟨fun b' hb hn => hoth b' (fun e => by rw [e, hs] at hn; simp at hn), fun b' hb hn => by
    rw [Store.set_ne]
    · exact hn
    · intro e; rw [e, hs] at hn; simp at hn, fun _ _ _ _ h => h⟩, ?_, fun b' o hp => by simpa using hwf.lt b' o hp⟩
  intro b' o' hb''
  by_cases e : b' = b
  · subst e
    rw [Store.set_same] at hb''; cases hb''
    exact ⟨vs', hb', hr.mono hle, h3⟩
  · rw [Store.set_ne _ _ e] at hb''
    have ho := hwf.obj b' o' hb''
    have hh := hoth b' e
    cases o' with
    | box t c => obtain ⟨us, g1, g2, g3⟩ := ho; exact ⟨us, hh.trans g1, g2.mono hle, g3⟩
    | row t sz n => obtain ⟨cur, g1, g2, g3, g4⟩ := ho; exact ⟨cur, hh.trans g1, g2, g3, g4⟩
    | map es => obtain ⟨mes, c, g1, g2, g3⟩ := ho; exact ⟨mes, c, hh.trans g1, ⟨g2.1.mono hle, g2.2.mono hle⟩, g3⟩
    | ranged es it l c => exact ho.ranged_move hle hh (hoth it (ho.ranged_ne h1 (by simp)))
    | tick m => obtain ⟨a1, a2, a3, g1⟩ := ho; exact ⟨a1, a2, a3, hh.trans g1⟩
    | loop r env => exact ⟨hh.trans ho.1, fun t v h => (ho.2 t v h).mono hle⟩

def oneC : AV → Bool
 | .conc (.func _ _ _) => true
 | .conc (.slice _ _ _) => true
 | .any | .conc _ | .agg _ | .tup _ => false
 | _ => true

theorem oneC_ok {w : World} {p : Prot} {v : Value} {x : AV} (hr : Rel w p v x) (h : oneC x = true) : v.oneCell' = true := by
 cases hr with
 | conc v => cases v <;> first | rfl | (simp [oneC] at h; done)
 | _ => first | rfl | (simp [oneC] at h; done)

theorem oneC_all {w : World} {p : Prot} : ∀ {vs : List Value} {xs : List AV}, RelL w p vs xs → xs.all oneC = true → ∀ v ∈ vs, v.oneCell' = true := by
 intro vs
 induction vs with
 | nil => intro xs _ _ v hv; cases hv
 | cons u vs ih =>
  intro xs h ha v hv
  cases h with
  | cons _ x _ xs hx ht =>
  simp only [List.all_cons, Bool.and_eq_true] at ha
  rcases List.mem_cons.1 hv with rfl | hv
  ·exact oneC_ok hx ha.1
  ·exact ih ht ha.2 v hv

theorem setL_eq (off : Nat) : ∀ (cs xs : List AV), off + cs.length ≤ xs.length → setL off cs xs = xs.take off ++ cs ++ xs.drop (off + cs.length) := by
 intro cs
 induction cs generalizing off with
 | nil => intro xs h; simp [setL]
 | cons c cs ih =>
  intro xs h
  simp only [setL, List.length_cons] at h ⊢
  rw [ih (off + 1) _ (by simp; omega)]
  have h1 : (xs.set off c).take (off + 1) = xs.take off ++ [c] := by
   rw [List.take_succ_eq_append_getElem (by simp; omega)]
   simp [List.take_set_of_le]
  have h2 : (xs.set off c).drop (off + 1 + cs.length) = xs.drop (off + 1 + cs.length) := by
   rw [List.drop_set_of_lt (by omega)]
  rw [h1, h2]
  simp [Nat.add_assoc, Nat.add_comm 1]

theorem OW.storeP (hΓ : TysOk P Γ) {o : Oper} {t T : TypeId} {x y : Operand} {i : TI} {b off : Nat} {cs us : List AV} {v : AV} (ho : o.op = .store t x y) (ht : Γ.get? t = some i) (hx : ev env x = some (.ptr b off))
  (hy : ev env y = some v) (hv : cellsOf v = some us) (hu : Nat.beq us.length i.size = true) (h1c : us.all oneC = true) (hs : s b = some (.box T cs)) (hfit : Nat.ble (off + us.length) cs.length = true) {X : AV → Store → Prop} :
  OW P N o env s (fun _ s' => s' = s.set b (.box T (setL off us cs))) X := by
 refine OW.of_skip (by simp [noDefer, ho]) fun ro B a w p hst => ?_
 have hr := hst.ev hx
 generalize hvx : a.eval x = vx at hr
 cases hr
 have hry := hst.ev hy
 have hcr := cellsOf_rel hry hv
 obtain ⟨info, d, g1, g2, g3, g4, -⟩ := hΓ.parts ht
 obtain ⟨vs, h1, h2, h3⟩ := hst.wf.obj _ _ hs
 have hsz : (a.eval y).cells.size = info.size := by rw [g4, ← Nat.eq_of_beq_eq_true hu, ← hcr.length, Array.length_toList]
 have hfit' := Nat.le_of_ble_eq_true hfit
 have hl1 : vs.size = cs.length := by rw [← h2.length, Array.length_toList]
 have hl2 : (a.eval y).cells.toList.length = us.length := hcr.length
 have hst' := run_storeCells_at P b off T (a.eval y).cells.toList 0 vs w h1 (by rw [hl2]; omega) (oneC_all hcr h1c)
 simp only [Nat.add_zero] at hst'
 have hrel : RelL w p (vs.toList.take off ++ (a.eval y).cells.toList ++ vs.toList.drop (off + (a.eval y).cells.toList.length)) (setL off us cs) := by
  rw [setL_eq _ _ _ hfit', hl2]
  exact ((h2.take off).append hcr).append (h2.drop _)
 obtain ⟨k1, k2, k3⟩ := box_write hst.wf hs (vs' := (vs.toList.take off ++ (a.eval y).cells.toList ++ vs.toList.drop (off + (a.eval y).cells.toList.length)).toArray) (fun us' hus => by
  rw [h1] at hus; cases hus
  simp only [List.size_toArray, List.length_append, List.length_take, List.length_drop, hl2, Array.length_toList]; omega) (by simpa using hrel) _ rfl
 refine ⟨_, _, p, ?_, k1, k2, k3, rfl⟩
 unfold execOp
 rw [ho]
 simp only [hvx]
 simp only [Instr.storeAt, Instr.sureAddr, storeVar, sizeOf, typeInfo, Sem.run_bind, Sem.run_pure, Result.andThen_ok, run_program, g1, hsz, ne_eq, not_true_eq_false, if_false]
 rw [hst']
 rfl

theorem St.freeze {B : Base} {ro : Option Nat} {a : Act} {w : World} {p : Prot} (h : St N B ro env s a w p) {t b : Nat} {T : TypeId} {cs : List AV} (ht : env.get? t = some (.ptr b 0)) (hs : s b = some (.box T cs)) :
  ∃ p', St N B ro ((t, .fptr cs 0) :: env) (s.del b) a w p' ∧ Le w p w p' ∧ Kept s (s.del b) w p w p' := by
 obtain ⟨vs, h1, h2, h3⟩ := h.wf.obj _ _ hs
 have hlt : b < w.heap.size := (Array.getElem?_eq_some_iff.1 h1).1
 have hle : Le w p w (p.also b True) := ⟨rfl, rfl, rfl, Nat.le_refl _, fun _ _ h => .inl h, fun _ _ _ => rfl, fun _ _ h => h⟩
 have hk : Kept s (s.del b) w p w (p.also b True) := ⟨fun _ _ _ => rfl, fun b' hb hn => by
  by_cases e : b' = b
  ·subst e; exact Store.del_same _ _
  ·rw [Store.del_ne _ e]; exact hn, fun b' o hb hn hp => by
   rcases hp with hp | ⟨rfl, _⟩
   ·exact hp
   ·rw [hs] at hn; cases hn⟩
 have hwf : Wf w (p.also b True) (s.del b) := by
  refine ⟨fun b' o hb => ?_, fun b' o hp => by rcases hp with hp | ⟨rfl, _⟩; exact h.wf.lt _ _ hp; exact hlt⟩
  by_cases e : b' = b
  ·subst e; rw [Store.del_same] at hb; cases hb
  ·rw [Store.del_ne _ e] at hb
   have ho := h.wf.obj b' o hb
   have hp' : ∀ o, p.also b True b' o ↔ p b' o := fun o => ⟨fun hp => by rcases hp with hp | ⟨e', _⟩; exact hp; exact absurd e' e, .inl⟩
   cases o with
   | box t c => obtain ⟨us, g1, g2, g3⟩ := ho; exact ⟨us, g1, g2.mono hle, fun o hp => g3 o ((hp' o).1 hp)⟩
   | row t sz n => obtain ⟨cur, g1, g2, g3, g4⟩ := ho; exact ⟨cur, g1, g2, g3, fun o => (hp' o).trans (g4 o)⟩
   | map es => obtain ⟨mes, c, g1, g2, g3⟩ := ho; exact ⟨mes, c, g1, ⟨g2.1.mono hle, g2.2.mono hle⟩, g3⟩
   | ranged es it l c => exact ho.ranged_move hle rfl rfl
   | tick m => exact ho
   | loop r env => exact ⟨ho.1, fun t v h => (ho.2 t v h).mono hle⟩
 have hst := h.step hle hk hwf
 refine ⟨_, ⟨hst.size, fun t' v hv => ?_, hst.wf, hst.defs, hst.round, hst.base⟩, hle, hk⟩
 simp only [Env.get?] at hv
 split at hv
 ·rename_i he
  have := Nat.eq_of_beq_eq_true he
  subst this
  cases hv
  have hr := h.env t _ ht
  generalize a.tmps.getD t undef = vx at hr
  cases hr
  refine .fptr b 0 0 0 vs.toList cs rfl ?_ (h2.mono hle)
  intro i v hi
  refine ⟨.inr ⟨rfl, trivial⟩, ?_⟩
  rw [Nat.zero_add, cells_of_box h1]; simpa using hi
 ·exact hst.env t' v hv

theorem RW.freeze {ops : Array Oper} {Q : AEx → Env → Store → Prop} {l : List Nat} (t b : Nat) {T : TypeId} {cs : List AV} (ht : env.get? t = some (.ptr b 0)) (hs : s b = some (.box T cs))
  (h : RW P N ops l Q ((t, .fptr cs 0) :: env) (s.del b)) : RW P N ops l Q env s := by
 intro ro B a w p hst
 obtain ⟨p', hst', hle, hk⟩ := hst.freeze ht hs
 exact RW.after hle hk h hst'

theorem CW.freeze {Q : AEx → Env → Store → Prop} {c : Code} (t b : Nat) {T : TypeId} {cs : List AV} (ht : env.get? t = some (.ptr b 0)) (hs : s b = some (.box T cs))
  (h : CW P N c Q ((t, .fptr cs 0) :: env) (s.del b)) : CW P N c Q env s := by
 intro fr B a w p hfn hst
 obtain ⟨p', hst', hle, hk⟩ := hst.freeze ht hs
 exact cwp_mono (h fr B a w p' hfn hst') fun _ _ _ q => q.after hle hk
end
end Go.AE

/- The abstract walk: maps; appending; elements by computed indexes. -/
namespace Go.AE

def keyEq : AV → AV → Option Bool
 | .str a, .str b => some (a == b)
 | .int k a, .int k' b => if k = k' then some (a == b) else none
 | .bool a, .bool b => some (a == b)
 | _, _ => none

def keyFits : TD → AV → Bool
 | .str, .str _ => true
 | .int _, .int _ _ => true
 | .bool, .bool _ => true
 | _, _ => false

def getA : List (AV × AV) → AV → Option (Option AV)
  | [], _ => some none
  | (k', v) :: r, k => match keyEq k k' with
    | some true => some (some v)
    | some false => getA r k
    | none => none

def putA : List (AV × AV) → AV → AV → Option (List (AV × AV))
  | [], k, v => some [(k, v)]
  | (k', v') :: r, k, v => match keyEq k k' with
    | some true => some ((k, v) :: r)
    | some false => match putA r k v with
      | some r' => some ((k', v') :: r')
      | none => none
    | none => none

theorem ba_beq (a b : ByteArray) : (a == b) = (a.data.toList == b.data.toList) := by
 cases a with | mk x => cases b with | mk y =>
 show (ByteArray.beq ⟨x⟩ ⟨y⟩) = _
 unfold ByteArray.beq
 simp

theorem same_ok {w : World} {p : Prot} {d : TypeDesc} {kv kv' : Value} {k k' : AV} {b : Bool} (h1 : Rel w p kv k) (h2 : Rel w p kv' k') (hf : keyFits (tdOf d) k = true) (h : keyEq k k' = some b) :
  Instr.sameNow d kv kv' = some b := by
 unfold keyEq at h
 split at h
 ·cases h1 with | str a _ e => cases h2 with | str a' _ e' =>
  cases d <;> simp [tdOf, keyFits] at hf
  cases h
  simp [Instr.sameNow, ba_beq, e, e']
 ·cases h1; cases h2
  cases d <;> simp [tdOf, keyFits] at hf
  split at h
  ·cases h; rename_i hk; subst hk; simp [Instr.sameNow]
  ·cases h
 ·cases h1; cases h2
  cases d <;> simp [tdOf, keyFits] at hf
  cases h; simp [Instr.sameNow]
 ·cases h

theorem bits_ok {w : World} {p : Prot} {kv kv' : Value} {k k' : AV} (h1 : Rel w p kv k) (h2 : Rel w p kv' k') (h : keyEq k k' = some true) : Instr.sameBits 10000 kv' kv = true := by
 unfold keyEq at h
 split at h
 ·cases h1 with | str a _ e => cases h2 with | str a' _ e' =>
  have h := beq_iff_eq.1 (Option.some.inj h)
  show (a' == a) = true
  rw [ba_beq, e, e', h]; simp
 ·rename_i k a k' b
  cases h1; cases h2
  split at h
  ·rename_i hk
   subst hk
   have h := beq_iff_eq.1 (Option.some.inj h)
   show (k == k && b == a) = true
   rw [h]; simp
  ·cases h
 ·rename_i a b
  cases h1; cases h2
  have h := beq_iff_eq.1 (Option.some.inj h)
  show (b == a) = true
  rw [h]; simp
 ·cases h

theorem get_ok {w : World} {p : Prot} {d : TypeDesc} {kv : Value} {k : AV} (hk : Rel w p kv k) (hf : keyFits (tdOf d) k = true) : ∀ (mes : List MapEntry) (es : List (AV × AV)) (i : Nat) (r : Option AV),
  RelM w p mes es → getA es k = some r →
  match r with
  | none => Instr.findNow d kv mes i = some none
  | some v => ∃ j val, Instr.findNow d kv mes i = some (some (j, val)) ∧ Rel w p val v := by
 intro mes
 induction mes with
 | nil =>
  intro es i r hr h
  cases es with
  | nil => cases h; rfl
  | cons e es => exact absurd hr.1.length (by simp)
 | cons m mes ih =>
  intro es i r hr h
  cases es with
  | nil => exact absurd hr.1.length (by simp)
  | cons e es =>
   obtain ⟨k', v'⟩ := e
   obtain ⟨hr1, hr2⟩ := hr
   cases hr1 with | cons _ _ _ _ hk' ht1 => cases hr2 with | cons _ _ _ _ hv' ht2 =>
   simp only [getA] at h
   split at h
   ·rename_i he
    cases h
    exact ⟨i, m.val, by simp only [Instr.findNow, same_ok hk hk' hf he], hv'⟩
   ·rename_i he
    have := ih es (i + 1) r ⟨ht1, ht2⟩ h
    have hs := same_ok hk hk' hf he
    cases r with
    | none => simp only [Instr.findNow, hs]; exact this
    | some v => obtain ⟨j, val, h1, h2⟩ := this; exact ⟨j, val, by simp only [Instr.findNow, hs]; exact h1, h2⟩
   ·cases h

theorem put_ok {w : World} {p : Prot} {d : TypeDesc} {kv vv : Value} {k v : AV} (hk : Rel w p kv k) (hv : Rel w p vv v) (hf : keyFits (tdOf d) k = true) : ∀ (mes : List MapEntry) (es es' : List (AV × AV)) (i : Nat),
  RelM w p mes es → putA es k v = some es' →
  (Instr.findNow d kv mes i = some none ∧ ∀ n, RelM w p (mes ++ [{ key := kv, val := vv, born := n }]) es') ∨
  (∃ j val e, Instr.findNow d kv mes i = some (some (i + j, val)) ∧ mes[j]? = some e ∧ Instr.sameBits 10000 e.key kv = true ∧ RelM w p (mes.modify j fun e => { e with key := kv, val := vv }) es') := by
 intro mes
 induction mes with
 | nil =>
  intro es es' i hr h
  cases es with
  | nil => cases h; exact .inl ⟨rfl, fun n => ⟨.cons _ _ _ _ hk .nil, .cons _ _ _ _ hv .nil⟩⟩
  | cons e es => exact absurd hr.1.length (by simp)
 | cons m mes ih =>
  intro es es' i hr h
  cases es with
  | nil => exact absurd hr.1.length (by simp)
  | cons e es =>
   obtain ⟨k', v'⟩ := e
   obtain ⟨hr1, hr2⟩ := hr
   cases hr1 with | cons _ _ _ _ hk' ht1 => cases hr2 with | cons _ _ _ _ hv' ht2 =>
   simp only [putA] at h
   split at h
   ·rename_i he
    cases h
    refine .inr ⟨0, m.val, m, by simp only [Instr.findNow, same_ok hk hk' hf he, Nat.add_zero], rfl, bits_ok hk hk' he, ?_⟩
    exact ⟨.cons _ _ _ _ hk ht1, .cons _ _ _ _ hv ht2⟩
   ·rename_i he
    split at h
    ·rename_i r' hr'
     cases h
     have hs := same_ok hk hk' hf he
     rcases ih es r' (i + 1) ⟨ht1, ht2⟩ hr' with ⟨h1, h2⟩ | ⟨j, val, e', h1, h2, h3, h4⟩
     ·exact .inl ⟨by simp only [Instr.findNow, hs]; exact h1, fun n => ⟨.cons _ _ _ _ hk' (h2 n).1, .cons _ _ _ _ hv' (h2 n).2⟩⟩
     ·refine .inr ⟨j + 1, val, e', by simp only [Instr.findNow, hs]; rw [h1]; congr 3; omega, by simpa using h2, h3, ?_⟩
      simp only [List.modify_succ_cons]
      exact ⟨.cons _ _ _ _ hk' h4.1, .cons _ _ _ _ hv' h4.2⟩
    ·cases h
   ·cases h

section
variable {P : Program} {Γ : Tys} {N : Nat} {env : Env} {s : Store}

theorem run_checkKey {d : TypeDesc} {t : TypeId} {kv : Value} {k : AV} {w : World} {p : Prot} (hu : P.underlying t = some d) (hk : Rel w p kv k) (hf : keyFits (tdOf d) k = true) (e : Bool) :
  (Instr.checkKey e 10000 t kv).run P w = .ok () w := by
 have : ∀ n, (Instr.checkKey e (n + 1) t kv).run P w = .ok () w := by
  intro n
  unfold Instr.checkKey
  simp only [Sem.run_bind, run_underlying hu, Result.andThen_ok]
  cases hk <;> simp [keyFits] at hf <;> cases d <;> simp [tdOf] at hf <;> rfl
 exact this 9999

theorem run_findKey {d : TypeDesc} {t : TypeId} {kv : Value} {es : List MapEntry} {r : Option (Nat × Value)} {w : World} (hu : P.underlying t = some d) (h : Instr.findNow d kv es 0 = some r) :
  (Instr.findKey t kv es).run P w = .ok r w := by
 unfold Instr.findKey
 simp only [Sem.run_bind, run_underlying hu, Result.andThen_ok, h, Sem.run_pure]

def notCells : Obj → Bool
 | .cells .. => false
 | _ => true

theorem run_getObj {w : World} {r : Nat} {o : Obj} (h : w.heap[r]? = some o) (hc : notCells o = true) : (getObj r).run P w = .ok o w := by
 cases o <;> first | (simp [notCells] at hc; done) | simp [getObj, Sem.run, h]

def gotA (ok : Bool) (zero : AV) : Option AV → AV
 | some v => if ok then .tup [v, .bool true] else v
 | none => if ok then .tup [zero, .bool false] else zero

theorem OW.lookup (hΓ : TysOk P Γ) {o : Oper} {t kt et : TypeId} {x y : Operand} {ok : Bool} {it ik ie : TI} {m : AV} {es : List (AV × AV)} {k z : AV} {r : Option AV} (ho : o.op = .lookup t x y ok)
  (ht : Γ.get? t = some it) (htd : it.td = .map kt et) (hik : Γ.get? kt = some ik) (hie : Γ.get? et = some ie) (hx : ev env x = some m) (hy : ev env y = some k)
  (hm : (∃ b, m = .map b ∧ s b = some (.map es)) ∨ (m = .mnil ∧ es = [])) (hf : keyFits ik.td k = true) (hg : getA es k = some r) (hz : constAV2 ie.zero = some z) {X : AV → Store → Prop} :
  OW P N o env s (fun x s' => x = gotA ok z r ∧ s' = s) X := by
 refine OW.of_run (by simp [noDefer, ho]) fun ro B a w p hst => ?_
 obtain ⟨info, d, h1, h2, h3, -⟩ := hΓ.parts ht
 obtain ⟨infok, dk, hk1, hk2, hk3, -⟩ := hΓ.parts hik
 obtain ⟨infoe, de, he1, he2, he3, -, -, he6⟩ := hΓ.parts hie
 have hd : d = .map kt et := by rw [htd] at h3; cases d <;> simp [tdOf] at h3; rw [h3.1, h3.2]
 subst hd
 have hr := hst.ev hx
 have hkr := hst.ev hy
 generalize hvx : a.eval x = vx at hr
 generalize hvy : a.eval y = vy at hkr
 rw [← hk3] at hf
 have hzv : (zeroValue et).run P w = .ok ie.zero w := by simp [zeroValue, typeInfo, he1, he6]
 have tail : ∀ mes : Array MapEntry, RelM w p mes.toList es → ∃ val, (do
   Instr.checkKey mes.isEmpty 10000 kt vy
   let (v, ok') ← match ← Instr.findKey kt vy mes.toList with
    | some (_, v) => pure (v, true)
    | none => do pure (← zeroValue et, false)
   pure (if ok then .tuple #[v, .bool ok'] else v) : Sem Value).run P w = .ok val w ∧ Rel w p val (gotA ok z r) := by
  intro mes hrm
  have hget := get_ok hkr hf mes.toList es 0 r hrm hg
  simp only [Sem.run_bind, run_checkKey hk2 hkr hf, Result.andThen_ok]
  cases r with
  | none =>
   simp only at hget
   simp only [run_findKey hk2 hget, Result.andThen_ok, Sem.run_bind, hzv, Sem.run_pure, gotA]
   cases ok
   ·exact ⟨_, rfl, constAV2_rel hz⟩
   ·exact ⟨_, rfl, .tup _ _ (.cons _ _ _ _ (constAV2_rel hz) (.cons _ _ _ _ (.bool _) .nil))⟩
  | some v =>
   obtain ⟨j, val, g1, g2⟩ := hget
   simp only [run_findKey hk2 g1, Result.andThen_ok, Sem.run_pure, gotA]
   cases ok
   ·exact ⟨_, rfl, g2⟩
   ·exact ⟨_, rfl, .tup _ _ (.cons _ _ _ _ g2 (.cons _ _ _ _ (.bool _) .nil))⟩
 have hgoal : ∃ val, (Instr.lookup t vx vy ok).run P w = .ok val w ∧ Rel w p val (gotA ok z r) := by
  unfold Instr.lookup
  rcases hm with ⟨b, rfl, hs⟩ | ⟨rfl, rfl⟩
  ·cases hr
   obtain ⟨mes, clock, g1, g2, -⟩ := hst.wf.obj _ _ hs
   obtain ⟨val, hrun, hrel⟩ := tail mes g2
   refine ⟨val, ?_, hrel⟩
   simp only [Sem.run_bind, run_underlying h2, Result.andThen_ok, run_getObj g1 rfl, Sem.run_pure] at hrun ⊢
   exact hrun
  ·cases hr
   obtain ⟨val, hrun, hrel⟩ := tail #[] ⟨.nil, .nil⟩
   refine ⟨val, ?_, hrel⟩
   simp only [Sem.run_bind, run_underlying h2, Result.andThen_ok, Sem.run_pure] at hrun ⊢
   exact hrun
 obtain ⟨val, hrun, hrel⟩ := hgoal
 refine ⟨val, w, s, p, _, ?_, .refl w p, .refl s w p, hst.wf, ⟨rfl, rfl⟩, hrel⟩
 unfold execOp
 rw [ho]
 simp only [hvx, hvy]
 exact run_v hrun

theorem map_write {w : World} {p : Prot} (hwf : Wf w p s) {b : Nat} {es : List (AV × AV)} (hs : s b = some (.map es)) {mes' : Array MapEntry} {clock' : Nat} {es' : List (AV × AV)}
    (hr : RelM w p mes'.toList es') (hb : ∀ e ∈ mes'.toList, e.born < clock') (hnd : (mes'.toList.map (·.born)).Nodup)
    (w' : World) (hw' : w' = { w with heap := w.heap.setIfInBounds b (.map mes' clock') }) :
    Le w p w' p ∧ Kept s (s.set b (.map es')) w p w' p ∧ Wf w' p (s.set b (.map es')) := by
  subst hw'
  obtain ⟨mes, clock, h1, h2, h3, h4⟩ := hwf.obj _ _ hs
  have hlt : b < w.heap.size := (Array.getElem?_eq_some_iff.1 h1).1
  have hb' : (w.heap.setIfInBounds b (.map mes' clock'))[b]? = some (.map mes' clock') := by simp [Array.getElem?_setIfInBounds, hlt]
  have hoth : ∀ k, k ≠ b → (w.heap.setIfInBounds b (.map mes' clock'))[k]? = w.heap[k]? := fun k hk => by
    rw [Array.getElem?_setIfInBounds, if_neg (fun e => hk e.symm)]
  have hle : Le w p { w with heap := w.heap.setIfInBounds b (.map mes' clock') } p := by
    refine ⟨rfl, rfl, rfl, by simp, fun _ _ h => h, fun b' o hp => ?_, fun b' x hx => ?_⟩
    · by_cases e : b' = b
      · subst e; simp only [World.cell?, h1, hb']
      · exact cell_of_heap (hoth b' e)
    · by_cases e : b' = b
      · subst e; simp [World.shp?, h1] at hx
      · rw [shape_of_heap (hoth b' e)]; exact hx
  refine ⟨hle, ⟨fun b' hb hn => hoth b' (fun e => by rw [e, hs] at hn; simp at hn), fun b' hb hn => by
    rw [Store.set_ne]
    · exact hn
    · intro e; rw [e, hs] at hn; simp at hn, fun _ _ _ _ h => h⟩, ?_, fun b' o hp => by simpa using hwf.lt b' o hp⟩
  intro b' o' hb''
  by_cases e : b' = b
  · subst e
    rw [Store.set_same] at hb''; cases hb''
    exact ⟨mes', clock', hb', ⟨hr.1.mono hle, hr.2.mono hle⟩, hb, hnd⟩
  · rw [Store.set_ne _ _ e] at hb''
    have ho := hwf.obj b' o' hb''
    have hh := hoth b' e
    cases o' with
    | box t c => obtain ⟨us, g1, g2, g3⟩ := ho; exact ⟨us, hh.trans g1, g2.mono hle, g3⟩
    | row t sz n => obtain ⟨cur, g1, g2, g3, g4⟩ := ho; exact ⟨cur, hh.trans g1, g2, g3, g4⟩
    | map es => obtain ⟨mes, c, g1, g2, g3⟩ := ho; exact ⟨mes, c, hh.trans g1, ⟨g2.1.mono hle, g2.2.mono hle⟩, g3⟩
    | ranged es it l c => exact ho.ranged_move hle hh (hoth it (ho.ranged_ne h1 (by simp)))
    | tick m => obtain ⟨a1, a2, a3, g1⟩ := ho; exact ⟨a1, a2, a3, hh.trans g1⟩
    | loop r env => exact ⟨hh.trans ho.1, fun t v h => (ho.2 t v h).mono hle⟩

theorem run_mapUpdate {t kt et : TypeId} {dk : TypeDesc} {b : Nat} {mes : Array MapEntry} {clock : Nat} {kv vv : Value} {k : AV} {w : World} {p : Prot}
  (h2 : P.underlying t = some (.map kt et)) (hk2 : P.underlying kt = some dk) (hkr : Rel w p kv k) (hf : keyFits (tdOf dk) k = true) (g1 : w.heap[b]? = some (.map mes clock)) :
  (∀ (h : Instr.findNow dk kv mes.toList 0 = some none), (Instr.mapUpdate t (.map (some b)) kv vv).run P w = .ok () { w with heap := w.heap.setIfInBounds b (.map (mes.push { key := kv, val := vv, born := clock }) (clock + 1)) }) ∧
  (∀ j val e, Instr.findNow dk kv mes.toList 0 = some (some (j, val)) → mes[j]? = some e → Instr.sameBits 10000 e.key kv = true →
   (Instr.mapUpdate t (.map (some b)) kv vv).run P w = .ok () { w with heap := w.heap.setIfInBounds b (.map (mes.modify j fun e => { e with key := kv, val := vv }) clock) }) := by
 constructor
 ·intro h
  unfold Instr.mapUpdate
  simp only [Sem.run_bind, run_underlying h2, Result.andThen_ok, run_getObj g1 rfl, run_checkKey hk2 hkr hf, run_findKey hk2 h]
  simp [setObj, Sem.run, g1]
 ·intro j val e h he hb
  unfold Instr.mapUpdate
  simp only [Sem.run_bind, run_underlying h2, Result.andThen_ok, run_getObj g1 rfl, run_checkKey hk2 hkr hf, run_findKey hk2 h]
  simp [Instr.keyThatStays, he, hb, setObj, Sem.run, g1]

theorem OW.mapUpdate (hΓ : TysOk P Γ) {o : Oper} {t kt et : TypeId} {x y z : Operand} {it ik : TI} {b : Nat} {es es' : List (AV × AV)} {k v : AV} (ho : o.op = .mapUpdate t x y z ∨ o.op = .insert t x y z)
    (ht : Γ.get? t = some it) (htd : it.td = .map kt et) (hik : Γ.get? kt = some ik) (hx : ev env x = some (.map b)) (hy : ev env y = some k) (hz : ev env z = some v)
    (hs : s b = some (.map es)) (hf : keyFits ik.td k = true) (hp : putA es k v = some es') {X : AV → Store → Prop} :
    OW P N o env s (fun _ s' => s' = s.set b (.map es')) X := by
  refine OW.of_skip (by rcases ho with ho | ho <;> simp [noDefer, ho]) fun ro B a w p hst => ?_
  obtain ⟨info, d, h1, h2, h3, -⟩ := hΓ.parts ht
  obtain ⟨infok, dk, hk1, hk2, hk3, -⟩ := hΓ.parts hik
  have hd : d = .map kt et := by rw [htd] at h3; cases d <;> simp [tdOf] at h3; rw [h3.1, h3.2]
  subst hd
  rw [← hk3] at hf
  have hr := hst.ev hx
  have hkr := hst.ev hy
  have hvr := hst.ev hz
  obtain ⟨mes, clock, g1, g2, g3, g4⟩ := hst.wf.obj _ _ hs
  generalize hvx : a.eval x = vx at hr
  cases hr
  obtain ⟨r1, r2⟩ := run_mapUpdate (vv := a.eval z) h2 hk2 hkr hf g1
  have hrun : ∀ w', (Instr.mapUpdate t (.map (some b)) (a.eval y) (a.eval z)).run P w = .ok () w' → (execOp a.eval o).run P w = .ok .skip w' := by
    intro w' hw
    unfold execOp
    rcases ho with ho | ho <;> rw [ho] <;> simp only [hvx] <;> simp only [Sem.run_bind, hw, Result.andThen_ok, Sem.run_pure]
  rcases put_ok hkr hvr hf mes.toList es es' 0 g2 hp with ⟨q1, q2⟩ | ⟨j, val, e, q1, q2, q3, q4⟩
  · obtain ⟨k1, k2, k3⟩ := map_write hst.wf hs (mes' := mes.push { key := a.eval y, val := a.eval z, born := clock }) (clock' := clock + 1) (by simpa using q2 clock)
      (by intro e he; simp only [Array.toList_push, List.mem_append, List.mem_singleton] at he; rcases he with he | rfl; have := g3 e he; omega; simp)
      (by
        simp only [Array.toList_push, List.map_append, List.map_cons, List.map_nil]
        rw [List.nodup_append]
        refine ⟨g4, by simp, ?_⟩
        intro x hx y hy e
        simp only [List.mem_singleton] at hy
        obtain ⟨m, hm, rfl⟩ := List.mem_map.1 hx
        have := g3 m hm
        omega) _ rfl
    exact ⟨_, _, p, hrun _ (r1 q1), k1, k2, k3, rfl⟩
  · rw [Nat.zero_add] at q1
    have hbm : ((mes.modify j fun e => { e with key := a.eval y, val := a.eval z }).toList.map (·.born)) = mes.toList.map (·.born) := by
      rw [Array.toList_modify]
      apply List.ext_getElem?
      intro n
      simp only [List.getElem?_map, List.getElem?_modify]
      split
      · cases mes.toList[n]? <;> rfl
      · cases mes.toList[n]? <;> rfl
    obtain ⟨k1, k2, k3⟩ := map_write hst.wf hs (mes' := mes.modify j fun e => { e with key := a.eval y, val := a.eval z }) (clock' := clock) (by simpa using q4)
      (by
        intro e he
        have : e.born ∈ ((mes.modify j fun e => { e with key := a.eval y, val := a.eval z }).toList.map (·.born)) := List.mem_map.2 ⟨e, he, rfl⟩
        rw [hbm] at this
        obtain ⟨e', he', hb⟩ := List.mem_map.1 this
        rw [← hb]; exact g3 e' he')
      (by rw [hbm]; exact g4) _ rfl
    exact ⟨_, _, p, hrun _ (r2 j val e q1 (by simpa using q2) q3), k1, k2, k3, rfl⟩

theorem OW.makeMap {o : Oper} {t : TypeId} (ho : o.op = .makeMap t none) {X : AV → Store → Prop} : OW P N o env s (fun x s' => ∃ b, s b = none ∧ x = .map b ∧ s' = s.set b (.map [])) X := by
 refine OW.of_run (by simp [noDefer, ho]) fun ro B a w p hst => ?_
 obtain ⟨hn, hle, hk, hwf⟩ := new_obj hst.wf (.map #[] 0) (.map []) (fun w' hw' hr hrl => ⟨#[], 0, hw', ⟨.nil, .nil⟩, by simp, by simp⟩)
 refine ⟨.map (some w.heap.size), _, _, p, _, ?_, hle, hk, hwf, ⟨w.heap.size, hn, rfl, rfl⟩, .map _⟩
 unfold execOp
 rw [ho]
 exact run_v rfl
end
end Go.AE

/- The abstract walk: appending to slices. -/
namespace Go.AE

theorem flat_length {vs : List Value} {sz : Nat} (h : ∀ v ∈ vs, v.cells.size = sz) : (flat vs).length = vs.length * sz := by
 induction vs with
 | nil => simp [flat]
 | cons v vs ih =>
  have h' := ih (fun u hu => h u (List.mem_cons_of_mem _ hu))
  simp only [flat, List.flatMap_cons, List.length_append, Array.length_toList, List.length_cons] at h' ⊢
  rw [h v (List.mem_cons_self ..)]
  have h'' : (List.flatMap (fun v => v.cells.toList) vs).length = vs.length * sz := h'
  rw [h'', Nat.add_mul]; omega

theorem flat_append (vs us : List Value) : flat (vs ++ us) = flat vs ++ flat us := by simp [flat, List.flatMap_append]

theorem new_row {w : World} {p : Prot} {s : Store} (hwf : Wf w p s) {vs : List Value} {xs : List AV} {sz cap : Nat} {e : TypeId} {cur : Array Value} (hr : RelL w p vs xs)
    (hs : ∀ v ∈ vs, v.cells.size = sz) (hcur : cur.size = cap * sz) (htake : cur.toList.take (xs.length * sz) = flat vs) (hcap : xs.length ≤ cap) (hm : xs.length ≤ 9223372036854775807) :
    ∃ p', s w.heap.size = none ∧ Le w p (w.drew.alloc (.cells cur e)) p' ∧ Kept s (s.set w.heap.size (.row e sz xs.length)) w p (w.drew.alloc (.cells cur e)) p' ∧
      Wf (w.drew.alloc (.cells cur e)) p' (s.set w.heap.size (.row e sz xs.length)) ∧ Rel (w.drew.alloc (.cells cur e)) p' (.slice (some ⟨w.heap.size, 0, none⟩) xs.length cap) (.slc sz xs (.own w.heap.size)) := by
  have hn : s w.heap.size = none := by
    cases h : s w.heap.size with
    | none => rfl
    | some o' => exact absurd (hwf.obj _ _ h).lt (by omega)
  let p' : Prot := fun b o => p b o ∨ (b = w.heap.size ∧ o < xs.length * sz)
  have hhere : (w.drew.alloc (.cells cur e)).heap[w.heap.size]? = some (.cells cur e) := heap_alloc_here w.drew _
  have hold : ∀ b, b < w.heap.size → (w.drew.alloc (.cells cur e)).heap[b]? = w.heap[b]? := fun b hb => heap_alloc_lt w.drew _ b hb
  have hle : Le w p (w.drew.alloc (.cells cur e)) p' := Le.of_heap rfl rfl rfl (by simp) (fun _ _ h => .inl h) hwf.lt hold
  have hlen := flat_length hs
  have hmul : xs.length * sz ≤ cap * sz := Nat.mul_le_mul_right _ hcap
  refine ⟨p', hn, hle, ⟨fun b hb _ => hold b hb, fun b hb hs => by rw [Store.set_ne _ _ (by omega)]; exact hs, fun b o hb _ hp => by rcases hp with hp | ⟨rfl, _⟩; exact hp; omega⟩, ?_, ?_⟩
  · have hg : Wf (w.drew.alloc (.cells cur e)) p' s := hwf.grow hle hold (fun b o hb hp => by rcases hp with hp | ⟨rfl, _⟩; exact hp; omega) (fun b o hp => by
      rcases hp with hp | ⟨rfl, _⟩
      · have := hwf.lt b o hp; simp; omega
      · simp)
    refine ⟨fun b o hb => ?_, hg.lt⟩
    by_cases e' : b = w.heap.size
    · subst e'
      rw [Store.set_same] at hb; cases hb
      refine ⟨cur, hhere, by omega, ⟨cap, hcur⟩, fun o => ⟨fun hp => ?_, fun ho => .inr ⟨rfl, ho⟩⟩⟩
      rcases hp with hp | ⟨_, ho⟩
      · exact absurd (hwf.lt _ _ hp) (by omega)
      · exact ho
    · rw [Store.set_ne _ _ e'] at hb; exact hg.obj b o hb
  · refine .slc _ 0 _ _ _ vs _ _ (by simp) rfl ?_ (hr.mono hle) hs hm hcap (fun h => by cases h) (fun b hb => ?_)
    · intro i v hv
      have hi : i < xs.length * sz := by
        have := (List.getElem?_eq_some_iff.1 hv).1
        rw [hlen, hr.length] at this; exact this
      refine ⟨.inr ⟨rfl, by omega⟩, ?_⟩
      rw [Nat.zero_add, cells_of_box hhere]
      rw [← htake, List.getElem?_take, if_pos hi] at hv
      simpa using hv
    · cases hb
      exact ⟨rfl, rfl, e, by simp only [World.shp?, hhere, hcur]⟩

theorem row_grow {w : World} {p : Prot} {s : Store} (hwf : Wf w p s) {b : Nat} {e : TypeId} {sz n cap : Nat} (hsb : s b = some (.row e sz n)) {cur : Array Value} (hcell : w.heap[b]? = some (.cells cur e (0, 0)))
  (hcur : cur.size = cap * sz) {vs us : List Value} {xs ys : List AV} (hn : n = xs.length) (hr : RelL w p vs xs) (hu : RelL w p us ys) (hs : ∀ v ∈ vs, v.cells.size = sz) (hs2 : ∀ v ∈ us, v.cells.size = sz)
  (htake : cur.toList.take (n * sz) = flat vs) (hcap : n + us.length ≤ cap) (hm : n + us.length ≤ 9223372036854775807) :
  ∃ p', Le w p (w.setRow b (cur.toList.take (n * sz) ++ flat us ++ cur.toList.drop (n * sz + (flat us).length)).toArray) p' ∧
   Kept s ((s.del b).set b (.row e sz (n + us.length))) w p (w.setRow b (cur.toList.take (n * sz) ++ flat us ++ cur.toList.drop (n * sz + (flat us).length)).toArray) p' ∧
   Wf (w.setRow b (cur.toList.take (n * sz) ++ flat us ++ cur.toList.drop (n * sz + (flat us).length)).toArray) p' ((s.del b).set b (.row e sz (n + us.length))) ∧
   Rel (w.setRow b (cur.toList.take (n * sz) ++ flat us ++ cur.toList.drop (n * sz + (flat us).length)).toArray) p' (.slice (some ⟨b, 0, none⟩) (n + us.length) cap) (.slc sz (xs ++ ys) (.own b)) := by
 obtain ⟨cur', h1, h2, h3, h4⟩ := hwf.obj _ _ hsb
 rw [hcell] at h1; cases h1
 have hul := flat_length hs2
 have hvl := flat_length hs
 have hmul : n * sz + us.length * sz ≤ cap * sz := by rw [← Nat.add_mul]; exact Nat.mul_le_mul_right _ hcap
 generalize hnew : (cur.toList.take (n * sz) ++ flat us ++ cur.toList.drop (n * sz + (flat us).length)).toArray = new
 have hnl : new.toList = cur.toList.take (n * sz) ++ flat us ++ cur.toList.drop (n * sz + (flat us).length) := by rw [← hnew]
 have hcl : cur.toList.length = cap * sz := by rw [Array.length_toList, hcur]
 have hnsz : new.size = cur.size := by rw [← Array.length_toList, hnl]; simp only [List.length_append, List.length_take, List.length_drop, hul, hcl, hcur]; omega
 have hlt : b < w.heap.size := (Array.getElem?_eq_some_iff.1 hcell).1
 have hb' := setRow_heap w b cur new e (0, 0) hcell
 have hoth : ∀ k, k ≠ b → (w.setRow b new).heap[k]? = w.heap[k]? := fun k hk => setRow_other w b k new hk
 have hpre : ∀ o, o < n * sz → new[o]? = cur[o]? := fun o ho => by
  have : new.toList[o]? = cur.toList[o]? := by
   rw [hnl, List.append_assoc, List.getElem?_append_left (by rw [List.length_take, hcl]; omega), List.getElem?_take, if_pos ho]
  simpa using this
 let p' : Prot := fun b' o => p b' o ∨ (b' = b ∧ o < (n + us.length) * sz)
 have hle : Le w p (w.setRow b new) p' := by
  refine ⟨rfl, rfl, rfl, by simp, fun _ _ h => .inl h, fun b' o hp => ?_, fun b' x hx => ?_⟩
  ·by_cases e' : b' = b
   ·subst e'
    rw [cells_of_box hb', cells_of_box hcell]; exact hpre o ((h4 o).1 hp)
   ·exact cell_of_heap (hoth b' e')
  ·by_cases e' : b' = b
   ·subst e'
    simp only [World.shp?, hcell, hb'] at hx ⊢
    rw [hnsz]; exact hx
   ·rw [shape_of_heap (hoth b' e')]; exact hx
 refine ⟨p', hle, ⟨fun b' hb hn => hoth b' (fun e' => by rw [e', hsb] at hn; simp at hn), fun b' hb hn => ?_, fun b' o hb hn hp => ?_⟩, ⟨fun b' o' hb'' => ?_, fun b' o hp => ?_⟩, ?_⟩
 ·have hne : b' ≠ b := fun e' => by rw [e', hsb] at hn; simp at hn
  rw [Store.set_ne _ _ hne, Store.del_ne _ hne]; exact hn
 ·rcases hp with hp | ⟨e', _⟩
  ·exact hp
  ·rw [e', hsb] at hn; simp at hn
 ·by_cases e' : b' = b
  ·subst e'
   rw [Store.set_same] at hb''; cases hb''
   refine ⟨new, hb', by rw [hnsz, hcur, Nat.add_mul]; omega, ⟨cap, by rw [hnsz, hcur]⟩, fun o => ⟨fun hp => ?_, fun ho => .inr ⟨rfl, ho⟩⟩⟩
   rcases hp with hp | ⟨_, ho⟩
   ·have := (h4 o).1 hp; rw [Nat.add_mul]; omega
   ·exact ho
  ·rw [Store.set_ne _ _ e', Store.del_ne _ e'] at hb''
   have ho := hwf.obj b' o' hb''
   have hh := hoth b' e'
   have hpi : ∀ o, p' b' o ↔ p b' o := fun o => ⟨fun hp => by rcases hp with hp | ⟨e'', _⟩; exact hp; exact absurd e'' e', .inl⟩
   cases o' with
   | box t c => obtain ⟨us, g1, g2, g3⟩ := ho; exact ⟨us, hh.trans g1, g2.mono hle, fun o hp => g3 o ((hpi o).1 hp)⟩
   | row t sz n => obtain ⟨cur, g1, g2, g3, g4⟩ := ho; exact ⟨cur, hh.trans g1, g2, g3, fun o => (hpi o).trans (g4 o)⟩
   | map es => obtain ⟨mes, c, g1, g2, g3⟩ := ho; exact ⟨mes, c, hh.trans g1, ⟨g2.1.mono hle, g2.2.mono hle⟩, g3⟩
   | ranged es it l c => exact ho.ranged_move hle hh (hoth it (ho.ranged_ne hcell (by simp)))
   | tick m => obtain ⟨a1, a2, a3, g1⟩ := ho; exact ⟨a1, a2, a3, hh.trans g1⟩
   | loop r env => exact ⟨hh.trans ho.1, fun t v h => (ho.2 t v h).mono hle⟩
 ·rcases hp with hp | ⟨rfl, _⟩
  ·simpa using hwf.lt b' o hp
  ·simpa using hlt
 ·have hxl : (xs ++ ys).length = n + us.length := by rw [List.length_append, hn, hu.length]
  refine .slc _ 0 _ _ _ (vs ++ us) _ _ (by simp) hxl.symm ?_ ((hr.append hu).mono hle) (fun v hv => ?_) hm hcap (fun h => by cases h) (fun b0 hb0 => ?_)
  ·intro i v hv
   have hfl : flat (vs ++ us) = new.toList.take ((n + us.length) * sz) := by
    rw [flat_append, hnl, ← htake, Nat.add_mul, ← hul]
    have : n * sz + (flat us).length = (cur.toList.take (n * sz) ++ flat us).length := by rw [List.length_append, List.length_take, hcl]; omega
    rw [this, List.take_left]
   have hi : i < (n + us.length) * sz := by
    have := (List.getElem?_eq_some_iff.1 hv).1
    rw [hfl, List.length_take] at this; omega
   refine ⟨.inr ⟨rfl, by omega⟩, ?_⟩
   rw [Nat.zero_add, cells_of_box hb']
   rw [hfl, List.getElem?_take, if_pos hi] at hv
   simpa using hv
  ·rcases List.mem_append.1 hv with hv | hv
   ·exact hs v hv
   ·exact hs2 v hv
  ·cases hb0
   exact ⟨rfl, rfl, e, by simp only [World.shp?, hb', hnsz, hcur]⟩

section
variable {P : Program} {Γ : Tys} {N : Nat} {env : Env} {s : Store}

theorem run_append_room2 {t t' ty e : TypeId} {d' : TypeDesc} {i : TypeInfo} (w : World) (ht : P.underlying t = some (.slice e)) (ht' : P.underlying t' = some d') (hd' : ∀ k, d' ≠ .int k) (hi : P.info? e = some i)
  (g sLen sCap : Nat) (cur : Array Value) (hg : w.heap[g]? = some (.cells cur e (0, 0))) {xv : Value} {m : Nat} {news : List Value}
  (hl : (Builtin.lenOf xv).run P w = .ok m w) (hf : (Builtin.firstCells i.size m xv).run P w = .ok news.toArray w) (h1 : ∀ u ∈ news, u.oneCell' = true)
  (hroom : sLen + m ≤ sCap) (hfit : sLen * i.size + news.length ≤ cur.size) :
  (Builtin.append_ #[t, t'] ty #[.slice (some ⟨g, 0, none⟩) sLen sCap, xv]).run P w =
   .ok (.slice (some ⟨g, 0, none⟩) (sLen + m) sCap) (w.setRow g (cur.toList.take (sLen * i.size) ++ news ++ cur.toList.drop (sLen * i.size + news.length)).toArray) := by
 have hst := run_storeCells_at P g (sLen * i.size) e news 0 cur w hg (by simpa using hfit) h1
 simp only [Nat.add_zero] at hst
 have hz : (match d' with | .int _ => true | _ => false) = false := by cases d' <;> first | rfl | exact absurd rfl (hd' _)
 simp [Builtin.append_, run_underlying ht, run_underlying ht', sizeOf, typeInfo, hi, hz, hl, hroom, hf, Addr.add_lit, hst]

theorem run_append_grow2 {t t' ty e : TypeId} {d' : TypeDesc} {i : TypeInfo} {z : Value} (w : World) (ht : P.underlying t = some (.slice e)) (ht' : P.underlying t' = some d') (hd' : ∀ k, d' ≠ .int k) (hi : P.info? e = some i) (hz : i.zero = some z)
  {base : Option Addr} {sLen sCap : Nat} {xv : Value} {m : Nat} {olds news : List Value}
  (hl : (Builtin.lenOf xv).run P w = .ok m w) (hfo : (Builtin.firstCells i.size sLen (.slice base sLen sCap)).run P w.drew = .ok olds.toArray w.drew) (hf : (Builtin.firstCells i.size m xv).run P w.drew = .ok news.toArray w.drew)
  (hg : sCap < sLen + m) (h63 : ((sLen + m : Nat) : Int) ≤ 9223372036854775807) (hfit : Builtin.nextslicecap (sLen + m) sCap * i.bytes ≤ 281474976710656) :
  (Builtin.append_ #[t, t'] ty #[.slice base sLen sCap, xv]).run P w =
   .ok (.slice (some ⟨w.heap.size, 0, none⟩) (sLen + m) (grownCap w (sLen + m) sCap e))
    (w.drew.alloc (.cells (olds ++ news ++ (Builtin.zeroCells z.cells (grownCap w (sLen + m) sCap e - (sLen + m))).toList).toArray e)) := by
 have hn : ¬ (sLen + m ≤ sCap) := by omega
 have h63' : ¬ (9223372036854775807 < ((sLen : Int) + (m : Int))) := by omega
 have h48' : ¬ (281474976710656 < Builtin.nextslicecap (sLen + m) sCap * i.bytes) := by omega
 have hzz : (match d' with | .int _ => true | _ => false) = false := by cases d' <;> first | rfl | exact absurd rfl (hd' _)
 simp [Builtin.append_, run_underlying ht, run_underlying ht', sizeOf, typeInfo, zeroValue, hi, hz, hzz, hl, hn, h63', h48', Question.forced, hf, hfo, newRow, grownCap]
 congr 2
 apply Array.ext'
 simp [List.append_assoc]

def elemOk (sz : Nat) (x : AV) : Bool := match cellsOf x with
 | some cs => Nat.beq cs.length sz && cs.all oneC
 | none => false

theorem flat_one {w : World} {p : Prot} {sz : Nat} : ∀ {vs : List Value} {xs : List AV}, RelL w p vs xs → (∀ x ∈ xs, elemOk sz x = true) → ∀ u ∈ flat vs, u.oneCell' = true := by
 intro vs
 induction vs with
 | nil => intro xs _ _ u hu; simp [flat] at hu
 | cons v vs ih =>
  intro xs h hx u hu
  cases h with
  | cons _ x _ xs hr ht =>
  simp only [flat, List.flatMap_cons, List.mem_append] at hu
  rcases hu with hu | hu
  ·have := hx x (List.mem_cons_self ..)
   unfold elemOk at this
   split at this
   ·rename_i cs hcs
    simp only [Bool.and_eq_true] at this
    exact oneC_all (cellsOf_rel hr hcs) this.2 u hu
   ·cases this
  ·exact ih ht (fun y hy => hx y (List.mem_cons_of_mem _ hy)) u hu

theorem slc_parts {w : World} {p : Prot} {v : Value} {sz sz' : Nat} {xs : List AV} {own : Own} (h : Rel w p v (.slc sz xs own)) (hsz : xs = [] ∨ sz = sz') :
  ∃ vs, RelL w p vs xs ∧ (∀ u ∈ vs, u.cells.size = sz') ∧ (∀ P, (Builtin.lenOf v).run P w = .ok xs.length w) ∧
   (∀ P (w' : World), (∀ b o, p b o → w'.cell? ⟨b, o, none⟩ = w.cell? ⟨b, o, none⟩) → (Builtin.firstCells sz' xs.length v).run P w' = .ok (flat vs).toArray w') ∧
   ∃ base cap, v = .slice base xs.length cap := by
 cases h with
 | slcNil _ _ _ => exact ⟨[], .nil, by simp, fun P => rfl, fun P w' _ => rfl, _, _, rfl⟩
 | slcZ a _ _ _ => exact ⟨[], .nil, by simp, fun P => rfl, fun P w' _ => run_firstCells_some w' sz' 0 a _ _ [] (by simp) (by simp), _, _, rfl⟩
 | slc g off n cap _ vs _ _ hn hl hc hr hs hm hk hcl ho =>
  have hsv : ∀ u ∈ vs, u.cells.size = sz' := by
   rcases hsz with rfl | rfl
   ·have : vs = [] := List.eq_nil_of_length_eq_zero (by rw [hr.length]; rfl)
    subst this; simp
   ·exact hs
  subst hl
  refine ⟨vs, hr, hsv, fun P => rfl, fun P w' hw' => ?_, _, _, rfl⟩
  refine run_firstCells_some w' sz' xs.length ⟨g, off, none⟩ _ _ (flat vs) (by rw [flat_length hsv, hr.length]) ?_
  intro j u hu
  obtain ⟨h1, h2⟩ := hc j u hu
  rw [add_none, hw' _ _ h1]; exact h2

theorem OW.append (hΓ : TysOk P Γ) {o : Oper} {t t' e : TypeId} {x y : Operand} {it it' ie : TI} {sx sy : Nat} {xs ys : List AV} {ox oy : Own}
    (ho : o.op = .call { callee := .builtin .append, args := #[x, y], argTypes := #[t, t'] }) (ht : Γ.get? t = some it) (htd : it.td = .slc e) (ht' : Γ.get? t' = some it') (htd' : ∀ k, it'.td ≠ .int k)
    (hie : Γ.get? e = some ie) (hx : ev env x = some (.slc sx xs ox)) (hy : ev env y = some (.slc sy ys oy)) (hsx : xs = [] ∨ sx = ie.size) (hsy : ys = [] ∨ sy = ie.size)
    (hzs' : Nat.beq ie.zero.cells.size ie.size = true) (hel : ∀ y ∈ ys, elemOk ie.size y = true) (hb : (xs.length + ys.length) * ie.bytes ≤ 140737488355328) (h63 : xs.length + ys.length ≤ 9223372036854775807)
    (hox : (ox = .nil ∨ ox = .clip) ∨ ∃ b, ox = .own b ∧ sx = ie.size ∧ s b = some (.row e ie.size xs.length)) {X : AV → Store → Prop} :
    OW P N o env s (fun r s' => (ys = [] ∧ (ox = .nil ∨ ox = .clip) ∧ r = .slc ie.size xs ox ∧ s' = s) ∨
      (∃ s₁, (s₁ = s ∨ ∃ b, ox = .own b ∧ s₁ = s.del b) ∧ ∃ b, s₁ b = none ∧ r = .slc ie.size (xs ++ ys) (.own b) ∧ s' = s₁.set b (.row e ie.size (xs.length + ys.length)))) X := by
  refine OW.of_run (by simp [noDefer, ho]) fun ro B a w p hst => ?_
  obtain ⟨info, d, h1, h2, h3, -⟩ := hΓ.parts ht
  obtain ⟨info', d', g1, g2, g3, -⟩ := hΓ.parts ht'
  obtain ⟨infoe, de, k1, k2, k3, k4, k5, k6⟩ := hΓ.parts hie
  have hd : d = .slice e := by rw [htd] at h3; cases d <;> simp [tdOf] at h3; rw [h3]
  subst hd
  have hd' : ∀ k, d' ≠ .int k := fun k e' => by subst e'; exact htd' k g3.symm
  have hrx := hst.ev hx
  have hry := hst.ev hy
  have hexec : ∀ val w', (Builtin.append_ #[t, t'] o.type #[a.eval x, a.eval y]).run P w = .ok val w' → (execOp a.eval o).run P w = .ok (.value val) w' := by
    intro val w' h
    unfold execOp
    rw [ho]
    simp only [resolve, invoke, builtin, Sem.run_bind, Sem.run_pure, Result.andThen_ok, List.map_toArray, List.map_cons, List.map_nil, h]
  generalize hvx : a.eval x = vx at hrx hexec
  generalize hvy : a.eval y = vy at hry hexec
  obtain ⟨us, hu1, hu2, hu3, hu4, ub, uc, hu5⟩ := slc_parts hry hsy
  obtain ⟨vs, hv1, hv2, hv3, hv4, vb, vc, hv5⟩ := slc_parts hrx hsx
  have hone := flat_one hu1 hel
  have hzs := Nat.eq_of_beq_eq_true hzs'
  have hfu := flat_length hu2
  have hfv := flat_length hv2
  have hlu := hu1.length
  have hlv := hv1.length
  -- the way on which a new row is made
  have hgrow : ∀ s₁ : Store, (s₁ = s ∨ ∃ b, ox = .own b ∧ s₁ = s.del b) → vc < xs.length + ys.length →
      ∃ val w' s' p' x', (Builtin.append_ #[t, t'] o.type #[vx, vy]).run P w = .ok val w' ∧ Le w p w' p' ∧ Kept s s' w p w' p' ∧ Wf w' p' s' ∧
        (∃ b, s₁ b = none ∧ x' = .slc ie.size (xs ++ ys) (.own b) ∧ s' = s₁.set b (.row e ie.size (xs.length + ys.length))) ∧ Rel w' p' val x' := by
    intro s₁ hs₁ hlt
    have hsub : Store.Sub s₁ s := by
      rcases hs₁ with rfl | ⟨b, -, rfl⟩
      · exact Store.sub_refl _
      · intro b'; by_cases e' : b' = b
        · subst e'; exact .inr (Store.del_same _ _)
        · exact .inl (Store.del_ne _ e')
    have hfit := growslice_fits (need := xs.length + ys.length) (old := vc) (bytes := ie.bytes) hlt hb
    have hrun := run_append_grow2 (ty := o.type) w h2 g2 hd' k1 k6 (base := vb) (sLen := xs.length) (sCap := vc) (m := ys.length) (olds := flat vs) (news := flat us) (hu3 P)
      (by rw [← hv5, k4]; exact hv4 P w.drew (fun _ _ _ => rfl)) (by rw [k4]; exact hu4 P w.drew (fun _ _ _ => rfl)) hlt (by omega) (by rw [k5]; exact hfit)
    rw [← hv5] at hrun
    have hcge := Nat.le_trans (show xs.length + ys.length ≤ xs.length + ys.length from Nat.le_refl _) (show xs.length + ys.length ≤ grownCap w (xs.length + ys.length) vc e from by simp [grownCap, Question.cut])
    have hzl : (Builtin.zeroCells ie.zero.cells (grownCap w (xs.length + ys.length) vc e - (xs.length + ys.length))).toList.length = (grownCap w (xs.length + ys.length) vc e - (xs.length + ys.length)) * ie.zero.cells.size := by
      rw [Array.length_toList]; simp [Builtin.zeroCells]
    rw [hzs] at hzl
    have hxy : (xs ++ ys).length = xs.length + ys.length := List.length_append
    obtain ⟨p', q1, q2, q3, q4, q5⟩ := new_row (s := s₁) (hst.wf.sub hsub) (vs := vs ++ us) (xs := xs ++ ys) (sz := ie.size) (cap := grownCap w (xs.length + ys.length) vc e) (e := e)
      (cur := (flat vs ++ flat us ++ (Builtin.zeroCells ie.zero.cells (grownCap w (xs.length + ys.length) vc e - (xs.length + ys.length))).toList).toArray) (hv1.append hu1)
      (fun v hv => by rcases List.mem_append.1 hv with hv | hv; exact hv2 v hv; exact hu2 v hv)
      (by
        simp only [List.size_toArray, List.length_append, hfv, hfu, hzl, hlv, hlu, ← Nat.add_mul]
        congr 1; omega)
      (by
        have : (xs ++ ys).length * ie.size = (flat vs ++ flat us).length := by rw [hxy, List.length_append, hfv, hfu, hlv, hlu, Nat.add_mul]
        rw [this, flat_append]; simp only [List.take_left])
      (by rw [hxy]; exact hcge) (by rw [hxy]; exact h63)
    rw [hxy] at q3 q4 q5
    exact ⟨_, _, _, p', _, hrun, q2, q3.subL hsub, q4, ⟨w.heap.size, q1, rfl, rfl⟩, q5⟩
  rcases hox with hox | ⟨b, rfl, hsx', hsb⟩
  · by_cases hlt : vc < xs.length + ys.length
    · obtain ⟨val, w', s', p', x', r1, r2, r3, r4, r5, r6⟩ := hgrow s (.inl rfl) hlt
      exact ⟨val, w', s', p', x', hexec _ _ r1, r2, r3, r4, .inr ⟨s, .inl rfl, r5⟩, r6⟩
    · -- nothing is appended
      have hcap : vc = xs.length := by
        cases hrx with
        | slcNil => simp at hv5; omega
        | slcZ => simp at hv5; omega
        | slc g off n cap _ vs' _ _ hn hl hc hr hs hm hk hcl ho =>
          simp only [Value.slice.injEq] at hv5
          rcases hox with rfl | rfl
          · exact absurd rfl hn
          · rw [← hv5.2.2, hcl rfl, hl]
      have hys : ys = [] := List.eq_nil_of_length_eq_zero (by omega)
      subst hys
      have hus : us = [] := List.eq_nil_of_length_eq_zero (by simpa using hlu)
      subst hus
      refine ⟨vx, w, s, p, .slc ie.size xs ox, hexec _ _ ?_, .refl w p, .refl s w p, hst.wf, .inl ⟨rfl, hox, rfl, rfl⟩, ?_⟩
      · have hz : (match d' with | .int _ => true | _ => false) = false := by cases d' <;> first | rfl | exact absurd rfl (hd' _)
        have hle : xs.length ≤ vc := by omega
        have hfc := hu4 P w (fun _ _ _ => rfl)
        simp only [List.length_nil] at hfc hu3
        have hl0 := hu3 P
        rw [hv5]
        cases vb with
        | none => simp [Builtin.append_, run_underlying h2, run_underlying g2, sizeOf, typeInfo, k1, hz, hl0, k4, hfc, hle, flat]
        | some ad => simp [Builtin.append_, run_underlying h2, run_underlying g2, sizeOf, typeInfo, k1, hz, hl0, k4, hfc, hle, flat, storeCells]
      · rcases hsx with rfl | rfl
        · cases hrx with
          | slcNil _ _ h => exact .slcNil _ _ h
          | slcZ a _ _ h => exact .slcZ a _ _ h
          | slc g off n cap _ vs' _ _ hn hl hc hr hs hm hk hcl ho =>
            have : vs' = [] := List.eq_nil_of_length_eq_zero (by rw [hr.length]; rfl)
            subst this
            exact .slc g off n cap _ [] _ _ hn hl hc hr (by simp) hm hk hcl (fun b hb => by rcases hox with rfl | rfl <;> cases hb)
        · exact hrx
  · by_cases hlt : vc < xs.length + ys.length
    · obtain ⟨val, w', s', p', x', r1, r2, r3, r4, r5, r6⟩ := hgrow (s.del b) (.inr ⟨b, rfl, rfl⟩) hlt
      exact ⟨val, w', s', p', x', hexec _ _ r1, r2, r3, r4, .inr ⟨_, .inr ⟨b, rfl, rfl⟩, r5⟩, r6⟩
    · cases hrx with
      | slcNil _ _ h => exact absurd rfl (h b)
      | slcZ _ _ _ h => rcases h with h | h <;> cases h
      | slc g off n cap _ vs' _ _ hn hl hc hr hs hm hk hcl ho =>
        obtain ⟨rfl, rfl, e', hshape⟩ := ho b rfl
        obtain ⟨cur, c1, c2, ⟨cap', c3⟩, c4⟩ := hst.wf.obj _ _ hsb
        simp only [Value.slice.injEq] at hv5
        obtain ⟨rfl, -, rfl⟩ := hv5
        have hcur : cur.size = cap * sx := by
          simp only [World.shp?, c1] at hshape
          simpa using congrArg Prod.snd (Option.some.inj hshape)
        have hcur' : cur.size = cap * ie.size := by rw [← hsx']; exact hcur
        have htake : cur.toList.take (xs.length * ie.size) = flat vs := by
          have e1 := hv4 P w (fun _ _ _ => rfl)
          have e2 := run_firstCells_some (P := P) w ie.size xs.length ⟨b, 0, none⟩ n cap (cur.toList.take (xs.length * ie.size))
            (by have hcl : cur.toList.length = cap * ie.size := by rw [Array.length_toList, hcur']
                rw [List.length_take, hcl]; have := Nat.mul_le_mul_right ie.size (show xs.length ≤ cap by omega); omega)
            (fun j u hu => by
              rw [add_none, Nat.zero_add, cells_of_box c1]
              rw [List.getElem?_take] at hu
              split at hu
              · simpa using hu
              · cases hu)
          rw [e2] at e1
          have := Result.ok.inj e1
          simpa using this.1
        have hrun := run_append_room2 (ty := o.type) w h2 g2 hd' k1 b xs.length cap cur c1 (hu3 P) (by rw [k4]; exact hu4 P w (fun _ _ _ => rfl)) hone (by omega) (by rw [k4, hfu, hcur', hlu, ← Nat.add_mul]; exact Nat.mul_le_mul_right _ (by omega))
        rw [k4] at hrun
        obtain ⟨p', r1, r2, r3, r4⟩ := row_grow hst.wf hsb c1 hcur' rfl hv1 hu1 hv2 hu2 htake (by rw [hlu]; omega) (by rw [hlu]; exact h63)
        rw [hlu] at r2 r3 r4
        subst hl
        exact ⟨_, _, _, p', _, hexec _ _ hrun, r1, r2, r3, .inr ⟨_, .inr ⟨_, rfl, rfl⟩, _, Store.del_same _ _, rfl, rfl⟩, r4⟩
end
end Go.AE

/- The abstract walk: calls, a function's contract out of its body's walk; elements by computed indexes; panics. -/
namespace Go.AE

inductive AOut where
 | ret (v : AV)
 | panic (v : AV)

def OutRel (w : World) (p : Prot) : Ending → AOut → Prop
 | .returned v, .ret x => Rel w p v x
 | .panicked ch, .panic x => ∃ v, Chain v ch ∧ Rel w p v x
 | _, _ => False

def APost (s : Store) (w : World) (p : Prot) (R : AOut → Store → Prop) (e : Ending) (w' : World) : Prop :=
 ∃ o s' p', OutRel w' p' e o ∧ R o s' ∧ Le w p w' p' ∧ Kept s s' w p w' p' ∧ Wf w' p' s'

def ACallV (P : Program) (fv : AV) (args : List AV) (s : Store) (R : AOut → Store → Prop) : Prop :=
 ∀ w p v vs, Wf w p s → Rel w p v fv → RelL w p vs args → ResDoes P ((do let d ← Deferred.ofValue v vs.toArray; invoke d.target d.args : Sem Next).run P w) (APost s w p R)

def Callable (P : Program) (f : FuncId) : Prop := ∀ args w, (callFunc f args).run P w = .ok (.enter f args) w

def ACalls (P : Program) (f : FuncId) (args : List AV) (s : Store) (R : AOut → Store → Prop) : Prop :=
 Callable P f ∧ ∀ w p vs, Wf w p s → RelL w p vs args → CallsX P f vs.toArray w (APost s w p R)

theorem callable_of {P : Program} {f : FuncId} {fn : Func} (hf : P.funcs[f]? = some fn) (hn : (fn.name == "runtime.NumGoroutine") = false) (hb : fn.body.isNone = false) : Callable P f := by
 intro args w
 unfold callFunc
 simp only [Sem.run_bind, run_program, Result.andThen_ok, hf, hn, hb, Bool.false_eq_true, if_false, Sem.run_pure]

theorem APost.mono {s : Store} {w : World} {p : Prot} {R R' : AOut → Store → Prop} (hr : ∀ o s, R o s → R' o s) {e : Ending} {w' : World} (h : APost s w p R e w') : APost s w p R' e w' :=
 let ⟨o, s', p', h1, h2, h3⟩ := h; ⟨o, s', p', h1, hr _ _ h2, h3⟩

theorem ACallV.mono {P : Program} {fv : AV} {args : List AV} {s : Store} {R R' : AOut → Store → Prop} (h : ACallV P fv args s R) (hr : ∀ o s, R o s → R' o s) : ACallV P fv args s R' :=
 fun w p v vs h1 h2 h3 => (h w p v vs h1 h2 h3).mono fun _ _ q => q.mono hr

theorem ACalls.mono {P : Program} {f : FuncId} {args : List AV} {s : Store} {R R' : AOut → Store → Prop} (h : ACalls P f args s R) (hr : ∀ o s, R o s → R' o s) : ACalls P f args s R' :=
 ⟨h.1, fun w p vs h1 h2 => (h.2 w p vs h1 h2).mono fun _ _ q => q.mono hr⟩

theorem ACallV.of_calls {P : Program} {f : FuncId} {first cap args : List AV} {s : Store} {R : AOut → Store → Prop} (h : ACalls P f (first ++ (args ++ cap)) s R) : ACallV P (.func f first cap) args s R := by
 intro w p v vs hwf hv hvs
 cases hv with
 | func _ as cs _ _ ha hc =>
 have hrun : (do let d ← Deferred.ofValue (.func (.func f) as cs) vs.toArray; invoke d.target d.args : Sem Next).run P w = .ok (.enter f (as ++ vs.toArray ++ cs)) w := by
  simp only [Deferred.ofValue, Sem.run_bind, Sem.run_pure, Result.andThen_ok, invoke]
  exact h.1 _ _
 rw [hrun]
 have := h.2 w p (as.toList ++ (vs ++ cs.toList)) hwf (ha.append (hvs.append hc))
 have e : (as.toList ++ (vs ++ cs.toList)).toArray = as ++ vs.toArray ++ cs := by apply Array.ext'; simp
 rw [e] at this
 exact this

section
variable {P : Program} {Γ : Tys} {N : Nat} {env : Env} {s : Store}

theorem OW.call {o : Oper} {g : Operand} {as : Array Operand} {ats : Array TypeId} {fv : AV} {xs : List AV} {R : AOut → Store → Prop}
  (ho : o.op = .call { callee := .value g, args := as, argTypes := ats }) (hg : ev env g = some fv) (ha : evs env as.toList = some xs) (h : ACallV P fv xs s R) :
  OW P N o env s (fun x s' => R (.ret x) s') (fun x s' => R (.panic x) s') := by
 refine ⟨by simp [noDefer, ho], fun ro B a w p hst => ?_⟩
 have hrun := h w p (a.eval g) (as.toList.map a.eval) hst.wf (hst.ev hg) (evs_rel hst ha)
 have he : execOp a.eval o = (do let d ← Deferred.ofValue (a.eval g) (as.toList.map a.eval).toArray; invoke d.target d.args : Sem Next) := by
  unfold execOp
  rw [ho]
  simp only [resolve]
  congr 1
  congr 1
  apply Array.ext'; simp
 rw [he]
 refine hrun.mono ?_
 rintro e w' ⟨out, s', p', h1, h2, h3, h4, h5⟩
 refine ⟨s', p', h3, h4, h5, ?_⟩
 cases e <;> cases out <;> first | exact h1.elim | skip
 ·exact ⟨_, h2, h1⟩
 ·obtain ⟨v, h1a, h1b⟩ := h1; exact ⟨v, _, h1a, h2, h1b⟩

theorem RW.call {ops : Array Oper} {Q : AEx → Env → Store → Prop} {i : Nat} {l : List Nat} {o : Oper} {d : Nat} {f : FuncId} {as : Array Operand} {ats : Array TypeId} {xs : List AV} {R : AOut → Store → Prop}
  (ho : ops[i]? = some o) (hg : guardOf ops env o = some true) (hd : o.dst = some d) (hN : Nat.blt d N = true) (hop : o.op = .call { callee := .value (.func f), args := as, argTypes := ats })
  (ha : evs env as.toList = some xs) (h : ACalls P f xs s R) (hk : ∀ x s', R (.ret x) s' → RW P N ops l Q ((d, x) :: env) s') (hx : ∀ x s', R (.panic x) s' → Q (.panic x) env s') :
  RW P N ops (i :: l) Q env s :=
 RW.op ho hg hd hN (OW.call hop (fv := .func f [] []) rfl ha (ACallV.of_calls (by simpa using h))) hk hx

theorem RW.callV {ops : Array Oper} {Q : AEx → Env → Store → Prop} {i : Nat} {l : List Nat} {o : Oper} {d : Nat} {g : Operand} {fv : AV} {as : Array Operand} {ats : Array TypeId} {xs : List AV} {R : AOut → Store → Prop}
  (ho : ops[i]? = some o) (hg : guardOf ops env o = some true) (hd : o.dst = some d) (hN : Nat.blt d N = true) (hop : o.op = .call { callee := .value g, args := as, argTypes := ats })
  (hv : ev env g = some fv) (ha : evs env as.toList = some xs) (h : ACallV P fv xs s R) (hk : ∀ x s', R (.ret x) s' → RW P N ops l Q ((d, x) :: env) s') (hx : ∀ x s', R (.panic x) s' → Q (.panic x) env s') :
  RW P N ops (i :: l) Q env s :=
 RW.op ho hg hd hN (OW.call hop hv ha h) hk hx

def MethodIs (P : Program) (t : TypeId) (name : String) (f : FuncId) : Prop := ∀ v w, (method (P.types.size + Made.depth) t v name).run P w = .ok (f, v) w

theorem invoke_method {name : String} {cap args : Array Value} : Go.invoke (.fn (.method name) cap) args = (match args[0]? with
  | some recv => callMethod recv name (args.extract 1 args.size)
  | none => stuck "call: a method without a receiver") := by
 cases h : args[0]? <;> simp [Go.invoke, h]

theorem OW.invoke {o : Oper} {g : Operand} {name : String} {as : Array Operand} {ats : Array TypeId} {t : TypeId} {v : AV} {f : FuncId} {xs : List AV} {R : AOut → Store → Prop}
  (ho : o.op = .call { callee := .invoke g name, args := as, argTypes := ats }) (hg : ev env g = some (.iface t v)) (ha : evs env as.toList = some xs) (hm : MethodIs P t name f) (h : ACalls P f (v :: xs) s R) :
  OW P N o env s (fun x s' => R (.ret x) s') (fun x s' => R (.panic x) s') := by
 refine ⟨by simp [noDefer, ho], fun ro B a w p hst => ?_⟩
 have hgr := hst.ev hg
 generalize hvg : a.eval g = vg at hgr
 cases hgr with
 | iface _ val _ hval =>
 have hrun : (execOp a.eval o).run P w = .ok (.enter f (#[val] ++ (as.map a.eval))) w := by
  unfold execOp
  rw [ho]
  have hex : (#[Value.iface t val] ++ as.map a.eval).extract 1 (#[Value.iface t val] ++ as.map a.eval).size = as.map a.eval := by
   apply Array.ext'; simp [Array.toList_extract, List.take_of_length_le]
  have h0 : (#[Value.iface t val] ++ as.map a.eval)[0]? = some (Value.iface t val) := by
   rw [Array.getElem?_append_left (by simp)]; rfl
  simp only [resolve, hvg, Sem.run_bind, Sem.run_pure, Result.andThen_ok]
  rw [AE.invoke_method, h0]
  simp only [hex, callMethod, Sem.run_bind, run_program, Result.andThen_ok, hm val w]
  exact h.1 _ _
 rw [hrun]
 have := h.2 w p (val :: as.toList.map a.eval) hst.wf (.cons _ _ _ _ hval (evs_rel hst ha))
 have e : (val :: as.toList.map a.eval).toArray = #[val] ++ (as.map a.eval) := by apply Array.ext'; simp
 rw [e] at this
 refine this.mono ?_
 rintro e w' ⟨out, s', p', h1, h2, h3, h4, h5⟩
 refine ⟨s', p', h3, h4, h5, ?_⟩
 cases e <;> cases out <;> first | exact h1.elim | skip
 ·exact ⟨_, h2, h1⟩
 ·obtain ⟨v, h1a, h1b⟩ := h1; exact ⟨v, _, h1a, h2, h1b⟩

theorem OW.panic {o : Oper} {x : Operand} {t : TypeId} {v : AV} (ho : o.op = .panic x) (hx : ev env x = some (.iface t v)) {K : AV → Store → Prop} : OW P N o env s K (fun u s' => u = .iface t v ∧ s' = s) := by
 refine ⟨by simp [noDefer, ho], fun ro B a w p hst => ?_⟩
 have hr := hst.ev hx
 generalize hv : a.eval x = vx at hr
 cases hr with
 | iface _ val _ hval =>
 have hrun : (execOp a.eval o).run P w = .halt (.panic (.iface t val)) w := by
  unfold execOp
  rw [ho]
  simp only [hv, Instr.panic, Sem.run_bind, run_goPanic, Result.andThen_halt]
 rw [hrun]
 exact ⟨s, p, .refl w p, .refl s w p, hst.wf, _, _, Chain.one _, ⟨rfl, rfl⟩, .iface _ _ _ hval⟩

theorem flat_get {sz : Nat} : ∀ {vs : List Value} (_ : ∀ v ∈ vs, v.cells.size = sz) {j : Nat} {v : Value} (_ : vs[j]? = some v) (k : Nat) {u : Value} (_ : v.cells.toList[k]? = some u), (flat vs)[j * sz + k]? = some u := by
 intro vs
 induction vs with
 | nil => intro _ j v hv; simp at hv
 | cons x vs ih =>
  intro hs j v hv k u hu
  have hx := hs x (List.mem_cons_self ..)
  simp only [flat, List.flatMap_cons]
  cases j with
  | zero =>
   simp at hv; subst hv
   rw [Nat.zero_mul, Nat.zero_add, List.getElem?_append_left (List.getElem?_eq_some_iff.1 hu).1]; exact hu
  | succ j =>
   have hl : x.cells.toList.length = sz := by rw [Array.length_toList, hx]
   have := ih (fun v hv => hs v (List.mem_cons_of_mem _ hv)) (by simpa using hv) k hu
   rw [List.getElem?_append_right (by rw [hl, Nat.add_mul]; omega), hl]
   have he : (j + 1) * sz + k - sz = j * sz + k := by rw [Nat.add_mul]; omega
   rw [he]; exact this

theorem OW.idx (hΓ : TysOk P Γ) {o : Oper} {t e : TypeId} {x y : Operand} {it ie : TI} {xs : List AV} {own : Own} {k : IntKind} {i : Int} {j : Nat} {v : AV} {cs : List AV} (ho : o.op = .indexAddr t x y)
  (ht : Γ.get? t = some it) (htd : it.td = .slc e) (hie : Γ.get? e = some ie) (hx : ev env x = some (.slc ie.size xs own)) (hy : ev env y = some (.int k i)) (hij : i = (j : Int)) (hj : xs[j]? = some v)
  (hc : cellsOf v = some cs) {X : AV → Store → Prop} : OW P N o env s (fun r s' => r = .fptr cs 0 ∧ s' = s) X := by
 refine OW.of_run (by simp [noDefer, ho]) fun ro B a w p hst => ?_
 obtain ⟨info, d, h1, h2, h3, -⟩ := hΓ.parts ht
 obtain ⟨infoe, de, k1, k2, k3, k4, -⟩ := hΓ.parts hie
 have hd : d = .slice e := by rw [htd] at h3; cases d <;> simp [tdOf] at h3; rw [h3]
 subst hd
 have hr := hst.ev hx
 have hri := hst.ev hy
 generalize hvx : a.eval x = vx at hr
 generalize hvy : a.eval y = vy at hri
 cases hri
 subst hij
 have hjl : j < xs.length := (List.getElem?_eq_some_iff.1 hj).1
 cases hr with
 | slcNil => simp at hj
 | slcZ => simp at hj
 | slc g off n cap _ vs _ _ hn hl hcl hrl hs hm hk hclip ho' =>
 obtain ⟨u, hu, hur⟩ := hrl.get hj
 have hcr := cellsOf_rel hur hc
 refine ⟨.pointer (some ⟨g, off + j * ie.size, none⟩), w, s, p, _, ?_, .refl w p, .refl s w p, hst.wf, ⟨rfl, rfl⟩, .fptr g (off + j * ie.size) _ 0 u.cells.toList cs rfl ?_ hcr⟩
 ·unfold execOp
  rw [ho]
  simp only [hvx, hvy]
  refine run_v ?_
  have hlt : (0 : Int) ≤ (j : Int) ∧ (j : Int) < (n : Int) := by omega
  simp [Instr.indexAt, asIntOf, run_underlying h2, hlt.2, sizeOf, typeInfo, k1, k4, add_none]
  intro hge; omega
 ·intro i v' hv'
  have := hcl (j * ie.size + i) v' (flat_get hs hu i hv')
  rw [← Nat.add_assoc] at this
  exact this

end
end Go.AE

/- The abstract walk: operations that only compute and whose side conditions are propositions: indices, parts of slices, texts, quotients. -/
namespace Go.AE

def aopX (Γ : Tys) (o : Oper) (env : Env) : Option AV :=
  match o.op with
  | .binOp .quo _ x (.const (.int k (.ofNat (n + 1)))) _ => match ev env x with
    | some (.int k' a) => if k' = k then some (.int k (k.wrap (a.tdiv (Int.ofNat (n + 1))))) else none
    | _ => none
  | .binOp .rem _ x (.const (.int k (.ofNat (n + 1)))) _ => match ev env x with
    | some (.int k' a) => if k' = k then some (.int k (a.tmod (Int.ofNat (n + 1)))) else none
    | _ => none
  | .convert s d x => match Γ.get? s, Γ.get? d with
    | some ⟨.int _, _, _, _⟩, some ⟨.int k, _, _, _⟩ => match ev env x with
      | some (.int _ n) => some (.int k (k.wrap n))
      | _ => none
    | _, _ => none
  | .call { callee := .builtin .max, args, argTypes := _ } => match args.toList with
    | [x, y] => match ev env x, ev env y with
      | some (.int k a), some (.int _ b) => some (.int k (if b > a then b else a))
      | _, _ => none
    | _ => none
  | .call { callee := .builtin .min, args, argTypes := _ } => match args.toList with
    | [x, y] => match ev env x, ev env y with
      | some (.int k a), some (.int _ b) => some (.int k (if b < a then b else a))
      | _, _ => none
    | _ => none
  | _ => none

section
variable {P : Program} {Γ : Tys} (hΓ : TysOk P Γ) {N : Nat} {B : Base} {ro : Option Nat} {env : Env} {s : Store} {a : Act} {w : World} {p : Prot} (hst : St N B ro env s a w p)
theorem pure_binV {o : Oper} {op : BinOp} {t yt : TypeId} {x y : Operand} {v : Value} {r : AV} (ho : o.op = .binOp op t x y yt)
  (h1 : (eqGuard op t x y (a.eval x) (a.eval y)).run P w = .ok () w) (h2 : (binOp op t (a.eval x) (a.eval y)).run P w = .ok v w) (hr : Rel w p v r) : PureRes P o a w p r := by
 refine .same (val := v) ?_ hr
 unfold execOp
 rw [ho]
 refine run_v ?_
 rw [Sem.run_bind, h1, Result.andThen_ok, h2]

include hst
include hΓ

theorem aopX_ok {o : Oper} {v : AV} (h : aopX Γ o env = some v) : PureRes P o a w p v := by
 unfold aopX at h
 split at h
 ·rename_i t x k n yt ho
  split at h
  ·rename_i k' u hx
   split at h
   ·rename_i hk
    cases h; subst hk
    have h1 := hst.ev hx
    generalize hv : a.eval x = vx at h1
    cases h1
    refine pure_binV (v := .int k' (k'.wrap (u.tdiv (Int.ofNat (n + 1))))) ho ?_ ?_ (.int _ _)
    ·rfl
    ·rw [hv]
     have hn : ¬ (Int.ofNat (n + 1) = 0) := by simp; omega
     simp only [Act.eval, binOp, Op.intDiv, ne_eq, not_true_eq_false, if_false, hn, Sem.run_pure]
   ·cases h
  ·cases h
 ·rename_i t x k n yt ho
  split at h
  ·rename_i k' u hx
   split at h
   ·rename_i hk
    cases h; subst hk
    have h1 := hst.ev hx
    generalize hv : a.eval x = vx at h1
    cases h1
    refine pure_binV (v := .int k' (u.tmod (Int.ofNat (n + 1)))) ho ?_ ?_ (.int _ _)
    ·rfl
    ·rw [hv]
     have hn : ¬ (Int.ofNat (n + 1) = 0) := by simp; omega
     simp only [Act.eval, binOp, Op.intDiv, ne_eq, not_true_eq_false, if_false, hn, Sem.run_pure]
   ·cases h
  ·cases h
 ·rename_i sT d x ho
  split at h
  ·rename_i k0 a1 a2 a3 k b1 b2 b3 hs hd
   split at h
   ·rename_i k1 n hx
    cases h
    obtain ⟨info, d1, h1, h2, h3, -⟩ := hΓ.parts hs
    obtain ⟨info', d1', h1', h2', h3', -⟩ := hΓ.parts hd
    have e1 : d1' = .int k := by cases d1' <;> simp [tdOf] at h3'; rw [h3']
    have hr := hst.ev hx
    generalize hv : a.eval x = vx at hr
    cases hr
    refine .same (val := .int k (k.wrap n)) ?_ (.int _ _)
    unfold execOp
    rw [ho]
    refine run_v ?_
    subst e1
    rw [hv]
    cases d1 <;> simp [tdOf] at h3
    simp [convert, run_underlying h2, run_underlying h2', Conv.intToInt]
   ·cases h
  ·cases h
 ·rename_i args ts ho
  split at h
  ·rename_i x y hl
   have ea : args = #[x, y] := by apply Array.ext'; simpa using hl
   subst ea
   split at h
   ·rename_i k u k' v' hx hy
    cases h
    have h1 := hst.ev hx
    have h2 := hst.ev hy
    generalize hvx : a.eval x = vx at h1
    generalize hvy : a.eval y = vy at h2
    cases h1; cases h2
    refine .same (val := .int k (if v' > u then v' else u)) ?_ (.int _ _)
    unfold execOp
    rw [ho]
    simp only [resolve, invoke, builtin, Sem.run_bind, Sem.run_pure, Result.andThen_ok, List.map_toArray, List.map_cons, List.map_nil, hvx, hvy, run_max_int2]
   ·cases h
  ·cases h
 ·rename_i args ts ho
  split at h
  ·rename_i x y hl
   have ea : args = #[x, y] := by apply Array.ext'; simpa using hl
   subst ea
   split at h
   ·rename_i k u k' v' hx hy
    cases h
    have h1 := hst.ev hx
    have h2 := hst.ev hy
    generalize hvx : a.eval x = vx at h1
    generalize hvy : a.eval y = vy at h2
    cases h1; cases h2
    refine .same (val := .int k (if v' < u then v' else u)) ?_ (.int _ _)
    unfold execOp
    rw [ho]
    simp only [resolve, invoke, builtin, Sem.run_bind, Sem.run_pure, Result.andThen_ok, List.map_toArray, List.map_cons, List.map_nil, hvx, hvy, run_min_int2]
   ·cases h
  ·cases h
 ·cases h

omit hst hΓ in
theorem aopX_noDefer {o : Oper} {v : AV} (h : aopX Γ o env = some v) : noDefer o = true := by
 unfold noDefer
 cases ho : o.op <;> first | rfl | (unfold aopX at h; rw [ho] at h; cases h)

omit hΓ in
theorem pure_cat {o : Oper} {t yt : TypeId} {x y : Operand} {u v : List UInt8} (ho : o.op = .binOp .add t x y yt) (hx : ev env x = some (.str u)) (hy : ev env y = some (.str v)) (hl : u.length + v.length ≤ 9223372036854775807) :
  PureRes P o a w p (.str (u ++ v)) := by
 have h1 := hst.ev hx
 have h2 := hst.ev hy
 generalize hvx : a.eval x = vx at h1
 generalize hvy : a.eval y = vy at h2
 cases h1 with | str b1 _ e1 => cases h2 with | str b2 _ e2 =>
 refine pure_binV (v := .string (b1 ++ b2)) ho ?_ ?_ ?_
 ·exact rfl
 ·rw [hvx, hvy]
  have hs : ¬ ((b1.size + b2.size : Nat) : Int) > IntKind.i64.max := by
   have a1 : b1.size = u.length := by rw [← e1]; simp
   have a2 : b2.size = v.length := by rw [← e2]; simp
   have : IntKind.i64.max = 9223372036854775807 := by decide
   rw [a1, a2, this]; omega
  simp only [binOp, Op.stringOp, if_neg hs, Sem.run_pure]
 ·exact .str _ _ (by rw [← e1, ← e2]; simp [ByteArray.data_append])

theorem pure_idx {o : Oper} {t e : TypeId} {x y : Operand} {it ie : TI} {sz : Nat} {xs : List AV} {own : Own} {k : IntKind} {i : Int} {j : Nat} {v : AV} {cs : List AV} (ho : o.op = .indexAddr t x y)
  (ht : Γ.get? t = some it) (htd : it.td = .slc e) (hie : Γ.get? e = some ie) (hx : ev env x = some (.slc sz xs own)) (hsz : sz = ie.size) (hy : ev env y = some (.int k i)) (hij : i = (j : Int)) (hj : xs[j]? = some v)
  (hc : cellsOf v = some cs) : PureRes P o a w p (.fptr cs 0) := by
 subst hsz
 obtain ⟨info, d, h1, h2, h3, -⟩ := hΓ.parts ht
 obtain ⟨infoe, de, k1, k2, k3, k4, -⟩ := hΓ.parts hie
 have hd : d = .slice e := by rw [htd] at h3; cases d <;> simp [tdOf] at h3; rw [h3]
 subst hd
 have hr := hst.ev hx
 have hri := hst.ev hy
 generalize hvx : a.eval x = vx at hr
 generalize hvy : a.eval y = vy at hri
 cases hri
 subst hij
 have hjl : j < xs.length := (List.getElem?_eq_some_iff.1 hj).1
 cases hr with
 | slcNil => simp at hj
 | slcZ => simp at hj
 | slc g off n cap _ vs _ _ hn hl hcl hrl hs hm hk hclip ho' =>
 obtain ⟨u, hu, hur⟩ := hrl.get hj
 have hcr := cellsOf_rel hur hc
 refine .same (val := .pointer (some ⟨g, off + j * ie.size, none⟩)) ?_ (.fptr g (off + j * ie.size) _ 0 u.cells.toList cs rfl ?_ hcr)
 ·unfold execOp
  rw [ho]
  simp only [hvx, hvy]
  refine run_v ?_
  have hlt : (0 : Int) ≤ (j : Int) ∧ (j : Int) < (n : Int) := by omega
  simp [Instr.indexAt, asIntOf, run_underlying h2, hlt.2, sizeOf, typeInfo, k1, k4, add_none]
  intro hge; omega
 ·intro i v' hv'
  have := hcl (j * ie.size + i) v' (flat_get hs hu i hv')
  rw [← Nat.add_assoc] at this
  exact this

theorem pure_strIdx {o : Oper} {t : TypeId} {x y : Operand} {it : TI} {l : List UInt8} {k : IntKind} {i : Int} {j : Nat} {b : UInt8} (ho : o.op = .index t x y)
  (ht : Γ.get? t = some it) (htd : it.td = .str) (hx : ev env x = some (.str l)) (hy : ev env y = some (.int k i)) (hij : i = (j : Int)) (hj : l[j]? = some b) :
  PureRes P o a w p (.int .u8 b.toNat) := by
 obtain ⟨info, d, h1, h2, h3, -⟩ := hΓ.parts ht
 have hd : d = .string := by rw [htd] at h3; cases d <;> simp [tdOf] at h3; rfl
 subst hd
 have hr := hst.ev hx
 have hri := hst.ev hy
 generalize hvx : a.eval x = vx at hr
 generalize hvy : a.eval y = vy at hri
 cases hri
 subst hij
 cases hr with
 | str bb _ e =>
 have hg : bb[j]? = some b := by
  rw [← e] at hj
  have : bb.data[j]? = some b := by simpa using hj
  exact this
 refine .same (val := .int .u8 b.toNat) ?_ (.int _ _)
 unfold execOp
 rw [ho]
 simp only [hvx, hvy]
 refine run_v ?_
 simp [Instr.index, asIntOf, run_underlying h2, hg]

omit hst hΓ in
theorem flat_drop {sz : Nat} : ∀ {vs : List Value} (_ : ∀ v ∈ vs, v.cells.size = sz) (l : Nat) (i : Nat), l ≤ vs.length → (flat (vs.drop l))[i]? = (flat vs)[l * sz + i]? := by
  intro vs
  induction vs with
  | nil => intro _ l i hl; have : l = 0 := by simpa using hl
           subst this; simp
  | cons v vs ih =>
    intro hs l i hl
    cases l with
    | zero => simp
    | succ l =>
      have hv := hs v (List.mem_cons_self ..)
      rw [List.drop_succ_cons, ih (fun v hv => hs v (List.mem_cons_of_mem _ hv)) l i (by simpa using hl)]
      simp only [flat, List.flatMap_cons]
      rw [List.getElem?_append_right (by rw [Array.length_toList, hv, Nat.add_mul]; omega), Array.length_toList, hv]
      congr 1
      rw [Nat.add_mul]; omega

omit hst hΓ in
theorem flat_take_get {vs : List Value} (h : Nat) {i : Nat} {u : Value} (hu : (flat (vs.take h))[i]? = some u) : (flat vs)[i]? = some u := by
 have : flat vs = flat (vs.take h) ++ flat (vs.drop h) := by rw [← flat_append, List.take_append_drop]
 rw [this, List.getElem?_append_left (List.getElem?_eq_some_iff.1 hu).1]; exact hu

theorem pure_slice {o : Oper} {t e : TypeId} {x : Operand} {lo hi mx : Option Operand} {it ie : TI} {sz : Nat} {xs : List AV} {own own' : Own} {l h : Nat} (ho : o.op = .slice t x lo hi mx)
  (ht : Γ.get? t = some it) (htd : it.td = .slc e) (hie : Γ.get? e = some ie) (hx : ev env x = some (.slc sz xs own)) (hsz : xs = [] ∨ sz = ie.size)
  (hlo : (lo = none ∧ l = 0) ∨ ∃ y k, lo = some y ∧ ev env y = some (.int k (l : Int))) (hhi : (hi = none ∧ mx = none ∧ h = xs.length) ∨ ∃ y k, hi = some y ∧ ev env y = some (.int k (h : Int)))
  (hmx : (mx = none ∧ own' = .fro) ∨ (∃ y k, mx = some y ∧ ev env y = some (.int k (h : Int)) ∧ own' = .clip)) (hl : l ≤ h) (hh : h ≤ xs.length) : PureRes P o a w p (.slc sz ((xs.take h).drop l) own') := by
 obtain ⟨info, d, h1, h2, h3, -⟩ := hΓ.parts ht
 obtain ⟨infoe, de, k1, k2, k3, k4, -⟩ := hΓ.parts hie
 have hd : d = .slice e := by rw [htd] at h3; cases d <;> simp [tdOf] at h3; rw [h3]
 subst hd
 have hnb : ∀ b, own' ≠ .own b := by rcases hmx with ⟨-, rfl⟩ | ⟨_, _, -, -, rfl⟩ <;> simp
 have hnn : own' ≠ .nil := by rcases hmx with ⟨-, rfl⟩ | ⟨_, _, -, -, rfl⟩ <;> simp
 have hev : ∀ {y k} {n : Nat}, ev env y = some (.int k (n : Int)) → a.eval y = .int k (n : Int) := fun he => by
  have := hst.ev he
  generalize a.eval _ = v at this ⊢
  cases this; rfl
 -- the bounds
 have hbounds : ∀ (cap : Nat), xs.length ≤ cap → ∃ m, (Instr.sliceBounds true xs.length cap (lo.map a.eval) (hi.map a.eval) (mx.map a.eval)).run P w = .ok (l, h, m) w ∧ h ≤ m ∧ m ≤ cap ∧ (own' = .clip → m = h) := by
  intro cap hcap
  have hn : ∀ n : Nat, (0 : Int) ≤ (n : Int) := fun n => by omega
  have hlh : (l : Int) ≤ (h : Int) := by omega
  have hhc : (h : Int) ≤ (cap : Int) := by omega
  rcases hmx with ⟨rfl, rfl⟩ | ⟨ym, km, rfl, hym, rfl⟩
  ·rcases hhi with ⟨rfl, -, rfl⟩ | ⟨yh, kh, rfl, hyh⟩
   ·refine ⟨cap, ?_, hcap, Nat.le_refl _, by simp⟩
    rcases hlo with ⟨rfl, rfl⟩ | ⟨yl, kl, rfl, hyl⟩
    ·simp [Instr.sliceBounds]
    ·simp [Instr.sliceBounds, hev hyl, run_sliceBound, hn, hlh]
   ·refine ⟨cap, ?_, by omega, Nat.le_refl _, by simp⟩
    rcases hlo with ⟨rfl, rfl⟩ | ⟨yl, kl, rfl, hyl⟩
    ·simp [Instr.sliceBounds, hev hyh, run_sliceBound, hn, hhc]
    ·simp [Instr.sliceBounds, hev hyh, hev hyl, run_sliceBound, hn, hlh, hhc]
  ·rcases hhi with ⟨-, h0, -⟩ | ⟨yh, kh, rfl, hyh⟩
   ·cases h0
   ·refine ⟨h, ?_, Nat.le_refl _, by omega, fun _ => rfl⟩
    rcases hlo with ⟨rfl, rfl⟩ | ⟨yl, kl, rfl, hyl⟩
    ·simp [Instr.sliceBounds, hev hyh, hev hym, run_sliceBound, hn, hhc]
    ·simp [Instr.sliceBounds, hev hyh, hev hyl, hev hym, run_sliceBound, hn, hlh, hhc]
 have hexec : ∀ base cap val, a.eval x = .slice base xs.length cap → xs.length ≤ cap → (∀ m, h ≤ m → m ≤ cap → (own' = .clip → m = h) → Rel w p (.slice (if m = l then base else base.map (·.add (l * ie.size))) (h - l) (m - l)) val) → PureRes P o a w p val := by
  intro base cap val hvx hcap hrel
  obtain ⟨m, hb, hm1, hm2, hm3⟩ := hbounds cap hcap
  refine .same ?_ (hrel m hm1 hm2 hm3)
  unfold execOp
  rw [ho]
  simp only [hvx]
  refine run_v ?_
  simp only [Instr.sliceAt, Instr.slice, Sem.run_bind, run_underlying h2, Result.andThen_ok, hb, sizeOf, typeInfo, run_program, k1, Sem.run_pure, k4]
 have hr := hst.ev hx
 generalize hvx : a.eval x = vx at hr
 cases hr with
 | slcNil _ _ _ =>
  refine hexec none 0 _ hvx (Nat.le_refl _) (fun m h1 h2 h3 => ?_)
  have e1 : h = 0 := by simpa using hh
  have e2 : l = 0 := by omega
  have e3 : m = 0 := by omega
  subst e1; subst e2; subst e3
  simp only [if_true, List.take_nil, List.drop_nil]
  exact .slcNil _ _ hnb
 | slcZ a _ _ _ =>
  refine hexec (some a) 0 _ hvx (Nat.le_refl _) (fun m h1 h2 h3 => ?_)
  have e1 : h = 0 := by simpa using hh
  have e2 : l = 0 := by omega
  have e3 : m = 0 := by omega
  subst e1; subst e2; subst e3
  simp only [if_true, List.take_nil, List.drop_nil]
  refine .slcZ a _ _ ?_
  cases own' with
  | fro => exact .inl rfl
  | clip => exact .inr rfl
  | nil => exact absurd rfl hnn
  | own b => exact absurd rfl (hnb b)
 | slc g off n cap _ vs _ _ hn hln hcl hrl hs hm hk hclip ho' =>
  subst hln
  refine hexec _ cap _ hvx hk (fun m h1 h2 h3 => ?_)
  have hlen : h - l = ((xs.take h).drop l).length := by simp; omega
  have hvl := hrl.length
  have hbase : ∃ off', (if m = l then (some ⟨g, off, none⟩ : Option Addr) else (some ⟨g, off, none⟩ : Option Addr).map (·.add (l * ie.size))) = some ⟨g, off', none⟩ ∧ (m ≠ l → off' = off + l * ie.size) := by
   by_cases e : m = l
   ·exact ⟨off, by simp [e], fun h => absurd e h⟩
   ·exact ⟨off + l * ie.size, by simp [e, add_none], fun _ => rfl⟩
  obtain ⟨off', hoff, hoff2⟩ := hbase
  rw [hoff]
  refine .slc g off' _ _ sz ((vs.take h).drop l) _ own' hnn hlen ?_ ((hrl.take h).drop l) (fun v hv => hs v (List.mem_of_mem_take (List.mem_of_mem_drop hv))) (by omega) (by omega) (fun hc => by have := h3 hc; omega) (fun b hb => absurd hb (hnb b))
  intro i u hu
  by_cases e : m = l
  ·have : (vs.take h).drop l = [] := by apply List.drop_eq_nil_of_le; rw [List.length_take]; omega
   rw [this] at hu; simp [flat] at hu
  ·rw [hoff2 e]
   have hsv : ∀ v ∈ vs.take h, v.cells.size = ie.size := by
    rcases hsz with rfl | rfl
    ·have : vs = [] := List.eq_nil_of_length_eq_zero (by rw [hvl]; rfl)
     subst this; simp
    ·exact fun v hv => hs v (List.mem_of_mem_take hv)
   rw [flat_drop hsv l i (by rw [List.length_take]; omega)] at hu
   have := hcl _ _ (flat_take_get h hu)
   rw [← Nat.add_assoc] at this
   exact this
end

def bts (l : List UInt8) : List AV := l.map fun b => .int .u8 b.toNat

theorem bts_length (l : List UInt8) : (bts l).length = l.length := by simp [bts]

theorem relL_bts {w : World} {p : Prot} : ∀ (l : List UInt8), RelL w p (l.map fun b => Value.int .u8 b.toNat) (bts l)
 | [] => .nil
 | b :: l => .cons _ _ _ _ (.int _ _) (relL_bts l)

theorem rel_bts {w : World} {p : Prot} : ∀ {l : List UInt8} {vs : List Value}, RelL w p vs (bts l) → vs = l.map fun b => Value.int .u8 b.toNat
  | [], _, h => by cases h; rfl
  | b :: l, _, h => by
    cases h with | cons v _ vs _ h1 h2 =>
    cases h1
    rw [rel_bts h2]; rfl

section
variable {P : Program} {Γ : Tys} (hΓ : TysOk P Γ) {N : Nat} {B : Base} {ro : Option Nat} {env : Env} {s : Store} {a : Act} {w : World} {p : Prot} (hst : St N B ro env s a w p)
include hst hΓ

omit hst hΓ in
theorem flat_bts : ∀ (l : List UInt8), flat (l.map fun b => Value.int .u8 b.toNat) = l.map fun b => Value.int .u8 b.toNat := by
 intro l
 induction l with
 | nil => rfl
 | cons b l ih => simp only [flat, List.map_cons, List.flatMap_cons, Value.cells] at ih ⊢; rw [ih]; rfl

theorem pure_toStr {o : Oper} {sT d e : TypeId} {x : Operand} {is id ie : TI} {sz : Nat} {l : List UInt8} {own : Own} (ho : o.op = .convert sT d x) (hs : Γ.get? sT = some is) (hd : Γ.get? d = some id) (hsd : is.td = .slc e) (hdd : id.td = .str)
  (he : Γ.get? e = some ie) (hed : ie.td = .int .u8) (hx : ev env x = some (.slc sz (bts l) own)) : PureRes P o a w p (.str l) := by
 obtain ⟨i1, d1, a1, a2, a3, -⟩ := hΓ.parts hs
 obtain ⟨i2, d2, b1, b2, b3, -⟩ := hΓ.parts hd
 obtain ⟨i3, d3, c1, c2, c3, -⟩ := hΓ.parts he
 have e1 : d1 = .slice e := by rw [hsd] at a3; cases d1 <;> simp [tdOf] at a3; rw [a3]
 have e2 : d2 = .string := by rw [hdd] at b3; cases d2 <;> simp [tdOf] at b3; rfl
 have e3 : d3 = .int .u8 := by rw [hed] at c3; cases d3 <;> simp [tdOf] at c3; rw [c3]
 subst e1; subst e2; subst e3
 have hexec : ∀ v, (convert sT d (a.eval x)).run P w = .ok v w → (execOp a.eval o).run P w = .ok (.value v) w := fun v h => by
  unfold execOp
  rw [ho]
  exact run_v h
 have hr := hst.ev hx
 generalize hv : a.eval x = vx at hr hexec
 generalize hbl : bts l = bl at hr
 cases hr with
 | slcNil =>
  have hl : l = [] := by cases l with | nil => rfl | cons b l => simp [bts] at hbl
  subst hl
  refine .same (val := .string ByteArray.empty) (hexec _ ?_) (.str _ _ rfl)
  rw [run_convert_bytes_string w sT d e none 0 0 a2 c2 b2]
  rfl
 | slcZ a' _ _ _ =>
  have hl : l = [] := by cases l with | nil => rfl | cons b l => simp [bts] at hbl
  subst hl
  exact .same (val := .string ⟨#[]⟩) (hexec _ (run_convert_bytes_back w sT d e a' 0 [] a2 c2 b2 (fun j hj => by simp at hj))) (.str _ _ rfl)
 | slc g off n cap _ vs _ _ hn hl hc hrl hsz hm hk hcl ho' =>
  subst hbl
  have hvs := rel_bts hrl
  subst hvs
  rw [bts_length] at hl
  subst hl
  refine .same (val := .string ⟨l.toArray⟩) (hexec _ ?_) (.str _ _ (by simp))
  refine run_convert_bytes_back w sT d e ⟨g, off, none⟩ cap l a2 c2 b2 (fun j hj => ?_)
  rw [add_none]
  refine (hc j _ ?_).2
  rw [flat_bts]; simp [List.getElem?_eq_getElem hj]

theorem pure_toBytes {o : Oper} {sT d e : TypeId} {x : Operand} {is id ie : TI} {l : List UInt8} (ho : o.op = .convert sT d x) (hs : Γ.get? sT = some is) (hd : Γ.get? d = some id) (hsd : is.td = .str) (hdd : id.td = .slc e)
  (he : Γ.get? e = some ie) (hed : ie.td = .int .u8) (hx : ev env x = some (.str l)) (hl63 : l.length ≤ 9223372036854775807) : PureRes P o a w p (.slc 1 (bts l) .fro) := by
 obtain ⟨i1, d1, a1, a2, a3, -⟩ := hΓ.parts hs
 obtain ⟨i2, d2, b1, b2, b3, -⟩ := hΓ.parts hd
 obtain ⟨i3, d3, c1, c2, c3, -⟩ := hΓ.parts he
 have e1 : d1 = .string := by rw [hsd] at a3; cases d1 <;> simp [tdOf] at a3; rfl
 have e2 : d2 = .slice e := by rw [hdd] at b3; cases d2 <;> simp [tdOf] at b3; rw [b3]
 have e3 : d3 = .int .u8 := by rw [hed] at c3; cases d3 <;> simp [tdOf] at c3; rw [c3]
 subst e1; subst e2; subst e3
 have hr := hst.ev hx
 generalize hv : a.eval x = vx at hr
 cases hr with
 | str bb _ hbb =>
 have hsz : bb.size = l.length := by rw [← hbb]; simp
 have hrun := run_bytes_of_string (P := P) w sT d e bb a2 b2 c2
 generalize hcap : grownCap w bb.size 0 e = cap at hrun
 have hcge : bb.size ≤ cap := by rw [← hcap]; simp [grownCap, Question.cut]
 have hrow : (bytesRow bb cap).toList = (l.map fun b => Value.int .u8 b.toNat) ++ List.replicate (cap - bb.size) (.int .u8 0) := by
  simp [bytesRow, ← hbb]
 generalize hcells : Obj.cells (bytesRow bb cap) e ((bytesRow bb cap).size, (bytesRow bb cap).size + 1) = ob at hrun
 have hle : Le w p (w.drew.alloc ob) (p.also w.heap.size True) := Le.trans drew_le (alloc_le (w := w.drew) (fun b o h => hst.wf.lt b o h) ob True)
 refine ⟨.slice (some ⟨w.heap.size, 0, none⟩) bb.size cap, _, _, ?_, ?_, hle, fun s' hs' => ⟨?_, ?_⟩⟩
 ·unfold execOp
  rw [ho]
  simp only [hv]
  exact run_v hrun
 ·refine .slc w.heap.size 0 _ cap 1 (l.map fun b => Value.int .u8 b.toNat) (bts l) .fro (by simp) (by rw [bts_length, hsz]) ?_ (relL_bts l) (by simp [Value.cells]) (by omega) hcge (by simp) (by simp)
  rw [flat_bts]
  intro i v hvi
  refine ⟨.inr ⟨rfl, trivial⟩, ?_⟩
  have hh : (w.drew.alloc ob).heap[w.heap.size]? = some ob := heap_alloc_here w.drew ob
  rw [← hcells] at hh ⊢
  simp only [World.cell?, hh, Option.isSome_none, Bool.false_eq_true, if_false, Nat.zero_add]
  have : (bytesRow bb cap).toList[i]? = some v := by
   rw [hrow, List.getElem?_append_left (List.getElem?_eq_some_iff.1 hvi).1]; exact hvi
  simpa using this
 ·exact Kept.trans (s₁ := s') (w₁ := w.drew) (p₁ := p) (Nat.le_refl _) drew_kept (alloc_kept (w := w.drew) ob True)
 ·exact alloc_wf (w := w.drew) (drew_wf hs') ob True
end

inductive APure (Γ : Tys) (o : Oper) (env : Env) : AV → Prop
 | a {v : AV} (h : aop Γ o env = some v) : APure Γ o env v
 | x {v : AV} (h : aopX Γ o env = some v) : APure Γ o env v
 | cat {t yt : TypeId} {x y : Operand} {u v : List UInt8} (ho : o.op = .binOp .add t x y yt) (hx : ev env x = some (.str u)) (hy : ev env y = some (.str v)) (hl : u.length + v.length ≤ 9223372036854775807) : APure Γ o env (.str (u ++ v))
 | toStr {sT d e : TypeId} {x : Operand} {is id ie : TI} {sz : Nat} {l : List UInt8} {own : Own} (ho : o.op = .convert sT d x) (hs : Γ.get? sT = some is) (hd : Γ.get? d = some id) (hsd : is.td = .slc e) (hdd : id.td = .str)
   (he : Γ.get? e = some ie) (hed : ie.td = .int .u8) (hx : ev env x = some (.slc sz (bts l) own)) : APure Γ o env (.str l)
 | toBytes {sT d e : TypeId} {x : Operand} {is id ie : TI} {l : List UInt8} (ho : o.op = .convert sT d x) (hs : Γ.get? sT = some is) (hd : Γ.get? d = some id) (hsd : is.td = .str) (hdd : id.td = .slc e)
   (he : Γ.get? e = some ie) (hed : ie.td = .int .u8) (hx : ev env x = some (.str l)) (hl63 : l.length ≤ 9223372036854775807) : APure Γ o env (.slc 1 (bts l) .fro)
 | idx {t e : TypeId} {x y : Operand} {it ie : TI} {sz : Nat} {xs : List AV} {own : Own} {k : IntKind} {i : Int} (j : Nat) {v : AV} {cs : List AV} (ho : o.op = .indexAddr t x y)
   (ht : Γ.get? t = some it) (htd : it.td = .slc e) (hie : Γ.get? e = some ie) (hx : ev env x = some (.slc sz xs own)) (hsz : sz = ie.size) (hy : ev env y = some (.int k i)) (hij : i = (j : Int)) (hj : xs[j]? = some v)
   (hc : cellsOf v = some cs) : APure Γ o env (.fptr cs 0)
 | sidx {t : TypeId} {x y : Operand} {it : TI} {l : List UInt8} {k : IntKind} {i : Int} (j : Nat) {b : UInt8} (ho : o.op = .index t x y)
   (ht : Γ.get? t = some it) (htd : it.td = .str) (hx : ev env x = some (.str l)) (hy : ev env y = some (.int k i)) (hij : i = (j : Int)) (hj : l[j]? = some b) : APure Γ o env (.int .u8 b.toNat)
 | slice {t e : TypeId} {x : Operand} {lo hi mx : Option Operand} {it ie : TI} {sz : Nat} {xs : List AV} {own own' : Own} (l h : Nat) (ho : o.op = .slice t x lo hi mx)
   (ht : Γ.get? t = some it) (htd : it.td = .slc e) (hie : Γ.get? e = some ie) (hx : ev env x = some (.slc sz xs own)) (hsz : xs = [] ∨ sz = ie.size)
   (hlo : (lo = none ∧ l = 0) ∨ ∃ y k, lo = some y ∧ ev env y = some (.int k (l : Int))) (hhi : (hi = none ∧ mx = none ∧ h = xs.length) ∨ ∃ y k, hi = some y ∧ ev env y = some (.int k (h : Int)))
   (hmx : (mx = none ∧ own' = .fro) ∨ (∃ y k, mx = some y ∧ ev env y = some (.int k (h : Int)) ∧ own' = .clip)) (hl : l ≤ h) (hh : h ≤ xs.length) : APure Γ o env (.slc sz ((xs.take h).drop l) own')

theorem APure.ok {P : Program} {Γ : Tys} (hΓ : TysOk P Γ) {N : Nat} {B : Base} {ro : Option Nat} {env : Env} {s : Store} {a : Act} {w : World} {p : Prot} (hst : St N B ro env s a w p) {o : Oper} {v : AV} (h : APure Γ o env v) : PureRes P o a w p v := by
 cases h with
 | a h => exact aop_ok hΓ hst h
 | x h => exact aopX_ok hΓ hst h
 | cat ho hx hy hl => exact pure_cat hst ho hx hy hl
 | toStr ho hs hd hsd hdd he hed hx => exact pure_toStr hΓ hst ho hs hd hsd hdd he hed hx
 | toBytes ho hs hd hsd hdd he hed hx hl => exact pure_toBytes hΓ hst ho hs hd hsd hdd he hed hx hl
 | idx j ho ht htd hie hx hsz hy hij hj hc => exact pure_idx hΓ hst ho ht htd hie hx hsz hy hij hj hc
 | sidx j ho ht htd hx hy hij hj => exact pure_strIdx hΓ hst ho ht htd hx hy hij hj
 | slice l h ho ht htd hie hx hsz hlo hhi hmx hl hh => exact pure_slice hΓ hst ho ht htd hie hx hsz hlo hhi hmx hl hh

theorem APure.noDefer {Γ : Tys} {env : Env} {o : Oper} {v : AV} (h : APure Γ o env v) : AE.noDefer o = true := by
 cases h with
 | a h => exact aop_noDefer h
 | x h => exact aopX_noDefer h
 | cat ho => simp [AE.noDefer, ho]
 | toStr ho => simp [AE.noDefer, ho]
 | toBytes ho => simp [AE.noDefer, ho]
 | idx j ho => simp [AE.noDefer, ho]
 | sidx j ho => simp [AE.noDefer, ho]
 | slice l h ho => simp [AE.noDefer, ho]

theorem OW.pure {P : Program} {Γ : Tys} (hΓ : TysOk P Γ) {N : Nat} {env : Env} {s : Store} {o : Oper} {v : AV} (h : APure Γ o env v) : OW P N o env s (fun x s' => x = v ∧ s' = s) (fun _ _ => False) :=
 OW.ofPure h.noDefer fun _ _ _ _ _ hst => h.ok hΓ hst
end Go.AE

/- The abstract walk: a function's contract out of the walk of its body. -/
namespace Go.AE

def envOf : Nat → List AV → Env
 | _, [] => []
 | k, v :: vs => (k, v) :: envOf (k + 1) vs

def resOne (Γ : Tys) (env : Env) (s : Store) : ResultVar → Option AV
  | .tmp t => env.get? t
  | .cell a t => match env.get? a, Γ.get? t with
    | some (.ptr b o), some i => match s b with
      | some (.box _ cs) => loadC i cs o
      | _ => none
    | some (.fptr cs o), some i => loadC i cs o
    | _, _ => none

def resAll (Γ : Tys) (env : Env) (s : Store) : List ResultVar → Option (List AV)
  | [] => some []
  | r :: rs => match resOne Γ env s r with
    | some v => match resAll Γ env s rs with
      | some vs => some (v :: vs)
      | none => none
    | none => none

def resA (Γ : Tys) (env : Env) (s : Store) (rs : List ResultVar) : Option AV :=
 match resAll Γ env s rs with
 | some [v] => some v
 | some vs => some (.tup vs)
 | none => none

section
variable {P : Program} {Γ : Tys}

theorem resOne_ok (hΓ : TysOk P Γ) {N : Nat} {B : Base} {ro : Option Nat} {env : Env} {s : Store} {a : Act} {w w' : World} {p : Prot} (hst : St N B ro env s a w p)
  (hw : ∀ b o v, w.cell? ⟨b, o, none⟩ = some v → w'.cell? ⟨b, o, none⟩ = some v) (hr' : ∀ v x, Rel w p v x → Rel w' p v x) {r : ResultVar} {v : AV} (h : resOne Γ env s r = some v) :
  ∃ val, ((match r with
   | .tmp t => pure (a.tmps.getD t undef)
   | .cell b t => do loadVar t (← asAddr (a.tmps.getD b undef))) : Sem Value).run P w' = .ok val w' ∧ Rel w' p val v := by
 cases r with
 | tmp t => exact ⟨_, rfl, hr' _ _ (hst.env t v h)⟩
 | cell b t =>
  simp only [resOne] at h
  split at h
  ·rename_i b' o i hb hi
   split at h
   ·rename_i T cs hs
    have hr := hst.env b _ hb
    generalize hv : a.tmps.getD b undef = vb at hr
    cases hr
    obtain ⟨vs, h1, h2, h3⟩ := hst.wf.obj _ _ hs
    have hrl : RelL w' p vs.toList cs := by
     have : ∀ us xs, RelL w p us xs → RelL w' p us xs := by
      intro us
      induction us with
      | nil => intro xs h; cases h; exact .nil
      | cons u us ih => intro xs h; cases h with | cons _ x _ xs hx ht => exact .cons _ _ _ _ (hr' _ _ hx) (ih _ ht)
     exact this _ _ h2
    obtain ⟨val, hrun, hrel⟩ := loadVar_ok hΓ hi (b := b') (base := 0) (vs := vs.toList) (w := w') (fun j u hu => by
     rw [Nat.zero_add]; refine hw _ _ _ ?_; rw [cells_of_box h1]; simpa using hu) hrl h
    rw [Nat.zero_add] at hrun
    exact ⟨val, by simp only [hv, asAddr, Sem.run_bind, Sem.run_pure, Result.andThen_ok, hrun], hrel⟩
   ·cases h
  ·rename_i cs o i hb hi
   have hr := hr' _ _ (hst.env b _ hb)
   generalize hv : a.tmps.getD b undef = vb at hr
   cases hr with
   | fptr bb base oo _ vs _ hoo hc hrl =>
   subst hoo
   obtain ⟨val, hrun, hrel⟩ := loadVar_ok hΓ hi (b := bb) (base := base) (fun j u hu => (hc j u hu).2) hrl h
   exact ⟨val, by simp only [hv, asAddr, Sem.run_bind, Sem.run_pure, Result.andThen_ok, hrun], hrel⟩
  ·cases h

theorem resAll_ok (hΓ : TysOk P Γ) {N : Nat} {B : Base} {ro : Option Nat} {env : Env} {s : Store} {a : Act} {w w' : World} {p : Prot} (hst : St N B ro env s a w p)
  (hw : ∀ b o v, w.cell? ⟨b, o, none⟩ = some v → w'.cell? ⟨b, o, none⟩ = some v) (hr' : ∀ v x, Rel w p v x → Rel w' p v x) : ∀ {rs : List ResultVar} {xs : List AV} (_ : resAll Γ env s rs = some xs),
  ∃ vals, (rs.mapM fun r => ((match r with
   | .tmp t => pure (a.tmps.getD t undef)
   | .cell b t => do loadVar t (← asAddr (a.tmps.getD b undef))) : Sem Value)).run P w' = .ok vals w' ∧ RelL w' p vals xs := by
 intro rs
 induction rs with
 | nil => intro xs h; cases h; exact ⟨[], by simp, .nil⟩
 | cons r rs ih =>
  intro xs h
  simp only [resAll] at h
  split at h
  ·rename_i v hv
   split at h
   ·rename_i vs hvs
    cases h
    obtain ⟨val, h1, h2⟩ := resOne_ok hΓ hst hw hr' hv
    obtain ⟨vals, h3, h4⟩ := ih hvs
    exact ⟨val :: vals, by simp only [List.mapM_cons, Sem.run_bind, h1, Result.andThen_ok, h3, Sem.run_pure], .cons _ _ _ _ h2 h4⟩
   ·cases h
  ·cases h

theorem resA_ok (hΓ : TysOk P Γ) {N : Nat} {B : Base} {ro : Option Nat} {env : Env} {s : Store} {a : Act} {w w' : World} {p : Prot} (hst : St N B ro env s a w p)
  (hw : ∀ b o v, w.cell? ⟨b, o, none⟩ = some v → w'.cell? ⟨b, o, none⟩ = some v) (hr' : ∀ v x, Rel w p v x → Rel w' p v x) {fn : Func} {v : AV} (h : resA Γ env s fn.results.toList = some v) :
  ∃ val, (results fn a.tmps).run P w' = .ok val w' ∧ Rel w' p val v := by
 unfold resA at h
 have key : ∀ xs, resAll Γ env s fn.results.toList = some xs → ∃ vals, (results fn a.tmps).run P w' = .ok (if h : vals.length = 1 then vals[0] else .tuple vals.toArray) w' ∧ RelL w' p vals xs := by
  intro xs hxs
  obtain ⟨vals, h1, h2⟩ := resAll_ok hΓ hst hw hr' hxs
  refine ⟨vals, ?_, h2⟩
  unfold results
  rw [Array.mapM_eq_mapM_toList]
  simp only [Sem.run_bind, Sem.run_map]
  erw [h1]
  simp only [Result.andThen_ok, Sem.run_pure]
  by_cases hl : vals.length = 1
  ·simp [hl]
  ·simp [hl]
 split at h
 ·rename_i v' hv
  cases h
  obtain ⟨vals, h1, h2⟩ := key _ hv
  cases h2 with
  | cons u _ us _ hu ht => cases ht; exact ⟨u, by simpa using h1, hu⟩
 ·rename_i vs hne hv
  cases h
  obtain ⟨vals, h1, h2⟩ := key _ hv
  have hl : vals.length ≠ 1 := by
   rw [h2.length]
   intro hl
   obtain ⟨x, hx⟩ := List.length_eq_one_iff.1 hl
   exact hne x hx
  rw [dif_neg hl] at h1
  exact ⟨_, h1, .tup _ _ (by simpa using h2)⟩
 ·cases h

theorem emptied_ok {s : Store} {p : Prot} : ∀ (ds : List Nat) (w : World), Wf w p s → (∀ d ∈ ds, ∃ x, w.heap[d]? = some (.deferred x)) →
    Le w p (emptied w ds) p ∧ Wf (emptied w ds) p s ∧ (∀ b, b ∉ ds → (emptied w ds).heap[b]? = w.heap[b]?) ∧ (∀ b o v, w.cell? ⟨b, o, none⟩ = some v → (emptied w ds).cell? ⟨b, o, none⟩ = some v) := by
  intro ds
  induction ds with
  | nil => intro w hwf _; exact ⟨.refl w p, hwf, fun _ _ => rfl, fun _ _ _ h => h⟩
  | cons d ds ih =>
    intro w hwf hd
    obtain ⟨x, hx⟩ := hd d (List.mem_cons_self ..)
    have hlt : d < w.heap.size := (Array.getElem?_eq_some_iff.1 hx).1
    let w₁ : World := { w with heap := w.heap.setIfInBounds d (.deferred none) }
    have hhere : w₁.heap[d]? = some (.deferred none) := by simp [w₁, Array.getElem?_setIfInBounds, hlt]
    have hoth : ∀ k, k ≠ d → w₁.heap[k]? = w.heap[k]? := fun k hk => by
      show (w.heap.setIfInBounds d (.deferred none))[k]? = _
      rw [Array.getElem?_setIfInBounds, if_neg (fun e => hk e.symm)]
    have hcell : ∀ b o, w₁.cell? ⟨b, o, none⟩ = w.cell? ⟨b, o, none⟩ := fun b o => by
      by_cases e : b = d
      · subst e; simp only [World.cell?, hhere, hx]
      · exact cell_of_heap (hoth b e)
    have hle : Le w p w₁ p := ⟨rfl, rfl, rfl, by simp [w₁], fun _ _ h => h, fun b o _ => hcell b o, fun b y hy => by
      by_cases e : b = d
      · subst e; simp [World.shp?, hx] at hy
      · rw [shape_of_heap (hoth b e)]; exact hy⟩
    have hwf₁ : Wf w₁ p s := by
      refine ⟨fun b o hb => ?_, fun b o hp => by simpa [w₁] using hwf.lt b o hp⟩
      have ho := hwf.obj b o hb
      have hne : b ≠ d := by
        intro e; subst e
        cases o with
        | box t c => obtain ⟨us, g1, -⟩ := ho; rw [hx] at g1; cases g1
        | row t sz n => obtain ⟨us, g1, -⟩ := ho; rw [hx] at g1; cases g1
        | map es => obtain ⟨us, c, g1, -⟩ := ho; rw [hx] at g1; cases g1
        | ranged es it l c => obtain ⟨_, _, _, g1, -⟩ := ho; rw [hx] at g1; cases g1
        | tick m => obtain ⟨_, _, _, g1⟩ := ho; rw [hx] at g1; cases g1
        | loop r env => have ho' := ho.1; rw [hx] at ho'; cases ho'
      have hh := hoth b hne
      cases o with
      | box t c => obtain ⟨us, g1, g2, g3⟩ := ho; exact ⟨us, hh.trans g1, g2.mono hle, g3⟩
      | row t sz n => obtain ⟨cur, g1, g2, g3, g4⟩ := ho; exact ⟨cur, hh.trans g1, g2, g3, g4⟩
      | map es => obtain ⟨mes, c, g1, g2, g3⟩ := ho; exact ⟨mes, c, hh.trans g1, ⟨g2.1.mono hle, g2.2.mono hle⟩, g3⟩
      | ranged es it l c => exact ho.ranged_move hle hh (hoth it (ho.ranged_ne hx (by simp)))
      | tick m => obtain ⟨a1, a2, a3, g1⟩ := ho; exact ⟨a1, a2, a3, hh.trans g1⟩
      | loop r env => exact ⟨hh.trans ho.1, fun t v h => (ho.2 t v h).mono hle⟩
    obtain ⟨i1, i2, i3, i4⟩ := ih w₁ hwf₁ (fun d' hd' => by
      by_cases e : d' = d
      · subst e; exact ⟨none, hhere⟩
      · obtain ⟨y, hy⟩ := hd d' (List.mem_cons_of_mem _ hd'); exact ⟨y, (hoth d' e).trans hy⟩)
    refine ⟨hle.trans i1, i2, fun b hb => ?_, fun b o v hv => i4 b o v ((hcell b o).trans hv)⟩
    have h1 : b ≠ d := fun e => hb (e ▸ List.mem_cons_self ..)
    have h2 : b ∉ ds := fun e => hb (List.mem_cons_of_mem _ e)
    exact (i3 b h2).trans (hoth b h1)

def Fin (Γ : Tys) (rs : List ResultVar) (R : AOut → Store → Prop) : AEx → Env → Store → Prop
 | .normal, env, s | .ret, env, s => ∃ r r' s', resA Γ env s rs = some r ∧ AVle r r' ∧ Store.Sub s' s ∧ R (.ret r') s'
 | .panic v, _, s => ∃ v' s', AVle v v' ∧ Store.Sub s' s ∧ R (.panic v') s'
 | .exit _, _, _ => False

theorem envOf_rel {w : World} {p : Prot} : ∀ (k : Nat) (args : List AV) (vs pre : List Value), pre.length = k → RelL w p vs args → ∀ t v, (envOf k args).get? t = some v → ∃ u, (pre ++ vs)[t]? = some u ∧ Rel w p u v := by
 intro k args
 induction args generalizing k with
 | nil => intro vs pre _ _ t v h; simp [envOf, Env.get?] at h
 | cons x xs ih =>
  intro vs pre hk hr t v h
  cases hr with
  | cons u _ us _ hu ht =>
  simp only [envOf, Env.get?] at h
  split at h
  ·rename_i he
   have := Nat.eq_of_beq_eq_true he
   subst this; cases h
   exact ⟨u, by rw [List.getElem?_append_right (by omega)]; simp [hk], hu⟩
  ·obtain ⟨u', h1, h2⟩ := ih (k + 1) us (pre ++ [u]) (by simp [hk]) ht t v h
   exact ⟨u', by simpa using h1, h2⟩

theorem Kept.sub {s s' s'' : Store} {w w' : World} {p p' : Prot} (h : Kept s s' w p w' p') (hs : Store.Sub s'' s') : Kept s s'' w p w' p' :=
 ⟨h.heap, fun b hb hn => hs.none (h.dom b hb hn), h.prot⟩

theorem ACalls.of_CW (hΓ : TysOk P Γ) {f : FuncId} {fn : Func} {c : Code} {args : List AV} {s : Store} {R : AOut → Store → Prop} (hc : Callable P f) (hf : P.funcs[f]? = some fn) (hb : fn.body = some c)
  (hN : Nat.ble args.length fn.ntmps = true) (h : CW P fn.ntmps c (Fin Γ fn.results.toList R) (envOf 0 args) s) : ACalls P f args s R := by
 refine ⟨hc, fun w p vs hwf hvs => calls_of_cwp hf hb fun b hb0 hfn => ?_⟩
 have hle := Nat.le_of_ble_eq_true hN
 have hl := hvs.length
 have hsz : (vs.toArray ++ Array.replicate (fn.ntmps - vs.toArray.size) undef).size = fn.ntmps := by simp; omega
 have hst : St fn.ntmps (w.heap.size, []) b.roundOf (envOf 0 args) s { tmps := vs.toArray ++ Array.replicate (fn.ntmps - vs.toArray.size) undef, defers := [] } w p := by
  refine ⟨hsz, fun t v hv => ?_, hwf, ⟨[], rfl, by simp, by simp⟩, fun l hl => (by rw [hb0] at hl; cases hl), Nat.le_refl _⟩
  obtain ⟨u, hu, hr⟩ := envOf_rel 0 args vs [] rfl hvs t v hv
  simp only [List.nil_append] at hu
  have hlt := (List.getElem?_eq_some_iff.1 hu).1
  have : (vs.toArray ++ Array.replicate (fn.ntmps - vs.toArray.size) undef).getD t undef = u := by
   rw [Array.getD_eq_getD_getElem?, Array.getElem?_append_left (by simpa using hlt)]
   simp [hu]
  rw [this]; exact hr
 refine cwp_mono (h b (w.heap.size, []) _ w p hfn hst) ?_
 rintro e a' w' ⟨x, env', s', p', hx, hq, hst', hle', hk⟩
 obtain ⟨ds, hds, hnd, hD⟩ := hst'.defs
 rw [List.append_nil] at hds
 obtain ⟨e1, e2, e3, e4⟩ := emptied_ok ds w' hst'.wf (fun d hd => ⟨_, (hD d hd).2.1⟩)
 have hK : Kept s s' w p (emptied w' ds) p' := ⟨fun b' hb' hn => (e3 b' (fun hm => by have := (hD b' hm).1; omega)).trans (hk.heap b' hb' hn), hk.dom, hk.prot⟩
 have hL : Le w p (emptied w' ds) p' := hle'.trans e1
 have fin : (∃ r r' s'', resA Γ env' s' fn.results.toList = some r ∧ AVle r r' ∧ Store.Sub s'' s' ∧ R (.ret r') s'') →
   ∃ ds, a'.defers = marksOf ds ∧ ds.Nodup ∧ (∀ d ∈ ds, w'.heap[d]? = some (.deferred (some []))) ∧ ∃ v, (results fn a'.tmps).run P (emptied w' ds) = .ok v (emptied w' ds) ∧ APost s w p R (.returned v) (emptied w' ds) := by
  rintro ⟨r, r', s'', hr, hle2, hsub, hR⟩
  obtain ⟨val, hrun, hrel⟩ := resA_ok hΓ hst' e4 (fun v x h => h.mono e1) hr
  exact ⟨ds, hds, hnd, fun d hd => (hD d hd).2.1, val, hrun, .ret r', s'', p', hle2 _ _ _ hrel, hR, hL, hK.sub hsub, e2.sub hsub⟩
 cases hx with
 | normal => exact fin hq
 | ret => exact fin hq
 | exit id => exact hq.elim
 | panic v x ch hch hv =>
  obtain ⟨v', s'', hle2, hsub, hR⟩ := hq
  exact ⟨ds, hds, hnd, fun d hd => (hD d hd).2.1, .panic v', s'', p', ⟨v, hch, hle2 _ _ _ (hv.mono e1)⟩, hR, hL, hK.sub hsub, e2.sub hsub⟩
end
end Go.AE

/- The abstract walk: regions, list by list: the rules that proofs use. -/
namespace Go.AE

def RL (P : Program) (N : Nat) (ops : Array Oper) (l : List Oper) (Q : AEx → Env → Store → Prop) (env : Env) (s : Store) : Prop :=
 ∀ k, (∀ j x, l[j]? = some x → ops[k + j]? = some x) → RW P N ops (List.range' k l.length) Q env s

section
variable {P : Program} {Γ : Tys} {N : Nat} {ops : Array Oper} {Q : AEx → Env → Store → Prop} {env : Env} {s : Store} {l : List Oper} {o : Oper} {d : Nat}

theorem CW.reg {id : Nat} {l : List Oper} (h : RL P N l.toArray l Q env s) : CW P N (.region id l.toArray false) Q env s := by
 refine CW.region ?_
 have := h 0 (by simp)
 rw [List.range_eq_range']
 simpa using this

theorem RL.nil (h : Q .normal env s) : RL P N ops [] Q env s := fun _ _ => RW.nil h

theorem RL.cons (h : ∀ k, ops[k]? = some o → RL P N ops l Q env s ∨ True → (∀ j x, l[j]? = some x → ops[k + 1 + j]? = some x) → RW P N ops (k :: List.range' (k + 1) l.length) Q env s) : RL P N ops (o :: l) Q env s := by
 intro k hk
 have h0 : ops[k]? = some o := hk 0 o rfl
 have ht : ∀ j x, l[j]? = some x → ops[k + 1 + j]? = some x := fun j x hx => by have := hk (j + 1) x (by simpa using hx); simpa [Nat.add_assoc, Nat.add_comm 1 j] using this
 rw [List.length_cons, List.range'_succ]
 exact h k h0 (.inr trivial) ht

theorem RL.op {K X : AV → Store → Prop} (hg : guardOf ops env o = some true) (hd : o.dst = some d) (hN : Nat.blt d N = true) (h : OW P N o env s K X)
  (hk : ∀ x s', K x s' → RL P N ops l Q ((d, x) :: env) s') (hx : ∀ x s', X x s' → Q (.panic x) env s') : RL P N ops (o :: l) Q env s :=
 RL.cons fun k h0 _ ht => RW.op h0 hg hd hN h (fun x s' hK => hk x s' hK (k + 1) ht) hx

theorem RL.opN {K X : AV → Store → Prop} (hg : guardOf ops env o = some true) (hd : o.dst = none) (h : OW P N o env s K X)
  (hk : ∀ x s', K x s' → RL P N ops l Q env s') (hx : ∀ x s', X x s' → Q (.panic x) env s') : RL P N ops (o :: l) Q env s :=
 RL.cons fun k h0 _ ht => RW.opN h0 hg hd h (fun x s' hK => hk x s' hK (k + 1) ht) hx

theorem RL.skip (hg : guardOf ops env o = some false) (hd : o.dst = some d) (hN : Nat.blt d N = true) (h : RL P N ops l Q ((d, .tup []) :: env) s) : RL P N ops (o :: l) Q env s :=
 RL.cons fun k h0 _ ht => RW.skip h0 hg hd hN (h (k + 1) ht)

theorem RL.step (hΓ : TysOk P Γ) {v : AV} (hg : guardOf ops env o = some true) (hd : o.dst = some d) (hN : Nat.blt d N = true) (hv : aop Γ o env = some v) (h : RL P N ops l Q ((d, v) :: env) s) :
  RL P N ops (o :: l) Q env s :=
 RL.op hg hd hN (OW.aop hΓ hv) (fun x s' ⟨h1, h2⟩ => by subst h1; subst h2; exact h) (fun _ _ h => h.elim)

theorem RL.pure (hΓ : TysOk P Γ) {v : AV} (hg : guardOf ops env o = some true) (hd : o.dst = some d) (hN : Nat.blt d N = true) (hv : APure Γ o env v) (h : RL P N ops l Q ((d, v) :: env) s) :
  RL P N ops (o :: l) Q env s :=
 RL.op hg hd hN (OW.pure hΓ hv) (fun x s' ⟨h1, h2⟩ => by subst h1; subst h2; exact h) (fun _ _ h => h.elim)

theorem RL.stepX (hΓ : TysOk P Γ) {v : AV} (hg : guardOf ops env o = some true) (hd : o.dst = some d) (hN : Nat.blt d N = true) (hv : aopX Γ o env = some v) (h : RL P N ops l Q ((d, v) :: env) s) :
  RL P N ops (o :: l) Q env s := RL.pure hΓ hg hd hN (.x hv) h

theorem RL.call {f : FuncId} {as : Array Operand} {ats : Array TypeId} {xs : List AV} {R : AOut → Store → Prop} (hg : guardOf ops env o = some true) (hd : o.dst = some d) (hN : Nat.blt d N = true)
  (hop : o.op = .call { callee := .value (.func f), args := as, argTypes := ats }) (ha : evs env as.toList = some xs) (h : ACalls P f xs s R)
  (hk : ∀ x s', R (.ret x) s' → RL P N ops l Q ((d, x) :: env) s') (hx : ∀ x s', R (.panic x) s' → Q (.panic x) env s') : RL P N ops (o :: l) Q env s :=
 RL.op hg hd hN (OW.call hop (fv := .func f [] []) rfl ha (ACallV.of_calls (by simpa using h))) hk hx

theorem RL.callP {f : FuncId} {as : Array Operand} {ats : Array TypeId} {xs : List AV} {v : AV} (hg : guardOf ops env o = some true) (hd : o.dst = some d) (hN : Nat.blt d N = true)
  (hop : o.op = .call { callee := .value (.func f), args := as, argTypes := ats }) (ha : evs env as.toList = some xs) (h : ACalls P f xs s (fun out s' => out = .ret v ∧ s' = s))
  (hk : RL P N ops l Q ((d, v) :: env) s) : RL P N ops (o :: l) Q env s :=
 RL.call hg hd hN hop ha h (fun x s' ⟨h1, h2⟩ => by cases h1; subst h2; exact hk) (fun x s' ⟨h1, _⟩ => by cases h1)

theorem RL.callV {g : Operand} {fv : AV} {as : Array Operand} {ats : Array TypeId} {xs : List AV} {R : AOut → Store → Prop} (hg : guardOf ops env o = some true) (hd : o.dst = some d) (hN : Nat.blt d N = true)
  (hop : o.op = .call { callee := .value g, args := as, argTypes := ats }) (hv : ev env g = some fv) (ha : evs env as.toList = some xs) (h : ACallV P fv xs s R)
  (hk : ∀ x s', R (.ret x) s' → RL P N ops l Q ((d, x) :: env) s') (hx : ∀ x s', R (.panic x) s' → Q (.panic x) env s') : RL P N ops (o :: l) Q env s :=
 RL.op hg hd hN (OW.call hop hv ha h) hk hx

theorem RL.idx (hΓ : TysOk P Γ) {t e : TypeId} {x y : Operand} {it ie : TI} {sz : Nat} {xs : List AV} {own : Own} {k : IntKind} {i : Int} {v : AV} {cs : List AV} (j : Nat) (hg : guardOf ops env o = some true) (hd : o.dst = some d)
  (hN : Nat.blt d N = true) (ho : o.op = .indexAddr t x y) (ht : Γ.get? t = some it) (htd : it.td = .slc e) (hie : Γ.get? e = some ie) (hx : ev env x = some (.slc sz xs own)) (hsz : sz = ie.size) (hy : ev env y = some (.int k i))
  (hij : i = (j : Int)) (hj : xs[j]? = some v) (hc : cellsOf v = some cs) (h : RL P N ops l Q ((d, .fptr cs 0) :: env) s) : RL P N ops (o :: l) Q env s :=
 RL.pure hΓ hg hd hN (.idx j ho ht htd hie hx hsz hy hij hj hc) h

theorem RL.sidx (hΓ : TysOk P Γ) {t : TypeId} {x y : Operand} {it : TI} {cs : List UInt8} {k : IntKind} {i : Int} {b : UInt8} (j : Nat) (hg : guardOf ops env o = some true) (hd : o.dst = some d)
  (hN : Nat.blt d N = true) (ho : o.op = .index t x y) (ht : Γ.get? t = some it) (htd : it.td = .str) (hx : ev env x = some (.str cs)) (hy : ev env y = some (.int k i))
  (hij : i = (j : Int)) (hj : cs[j]? = some b) (h : RL P N ops l Q ((d, .int .u8 b.toNat) :: env) s) : RL P N ops (o :: l) Q env s :=
 RL.pure hΓ hg hd hN (.sidx j ho ht htd hx hy hij hj) h

theorem RL.cat (hΓ : TysOk P Γ) {t yt : TypeId} {x y : Operand} {u v : List UInt8} (hg : guardOf ops env o = some true) (hd : o.dst = some d) (hN : Nat.blt d N = true) (ho : o.op = .binOp .add t x y yt)
  (hx : ev env x = some (.str u)) (hy : ev env y = some (.str v)) (hl : u.length + v.length ≤ 9223372036854775807) (h : RL P N ops l Q ((d, .str (u ++ v)) :: env) s) : RL P N ops (o :: l) Q env s :=
 RL.pure hΓ hg hd hN (.cat ho hx hy hl) h

theorem RL.toStr (hΓ : TysOk P Γ) {sT dT e : TypeId} {x : Operand} {is id ie : TI} {sz : Nat} {u : List UInt8} {own : Own} (hg : guardOf ops env o = some true) (hd : o.dst = some d) (hN : Nat.blt d N = true) (ho : o.op = .convert sT dT x)
  (hs : Γ.get? sT = some is) (hdt : Γ.get? dT = some id) (hsd : is.td = .slc e) (hdd : id.td = .str) (he : Γ.get? e = some ie) (hed : ie.td = .int .u8) (hx : ev env x = some (.slc sz (bts u) own))
  (h : RL P N ops l Q ((d, .str u) :: env) s) : RL P N ops (o :: l) Q env s := RL.pure hΓ hg hd hN (.toStr ho hs hdt hsd hdd he hed hx) h

theorem RL.toBytes (hΓ : TysOk P Γ) {sT dT e : TypeId} {x : Operand} {is id ie : TI} {u : List UInt8} (hg : guardOf ops env o = some true) (hd : o.dst = some d) (hN : Nat.blt d N = true) (ho : o.op = .convert sT dT x)
  (hs : Γ.get? sT = some is) (hdt : Γ.get? dT = some id) (hsd : is.td = .str) (hdd : id.td = .slc e) (he : Γ.get? e = some ie) (hed : ie.td = .int .u8) (hx : ev env x = some (.str u)) (hl63 : u.length ≤ 9223372036854775807)
  (h : RL P N ops l Q ((d, .slc 1 (bts u) .fro) :: env) s) : RL P N ops (o :: l) Q env s := RL.pure hΓ hg hd hN (.toBytes ho hs hdt hsd hdd he hed hx hl63) h

theorem RL.slice (hΓ : TysOk P Γ) {t e : TypeId} {x : Operand} {lo hi mx : Option Operand} {it ie : TI} {sz : Nat} {xs : List AV} {own own' : Own} (a b : Nat) (hg : guardOf ops env o = some true) (hd : o.dst = some d)
  (hN : Nat.blt d N = true) (ho : o.op = .slice t x lo hi mx)
  (ht : Γ.get? t = some it) (htd : it.td = .slc e) (hie : Γ.get? e = some ie) (hx : ev env x = some (.slc sz xs own)) (hsz : xs = [] ∨ sz = ie.size)
  (hlo : (lo = none ∧ a = 0) ∨ ∃ y k, lo = some y ∧ ev env y = some (.int k (a : Int))) (hhi : (hi = none ∧ mx = none ∧ b = xs.length) ∨ ∃ y k, hi = some y ∧ ev env y = some (.int k (b : Int)))
  (hmx : (mx = none ∧ own' = .fro) ∨ (∃ y k, mx = some y ∧ ev env y = some (.int k (b : Int)) ∧ own' = .clip)) (hl : a ≤ b) (hh : b ≤ xs.length) (h : RL P N ops l Q ((d, .slc sz ((xs.take b).drop a) own') :: env) s) : RL P N ops (o :: l) Q env s :=
 RL.pure hΓ hg hd hN (.slice a b ho ht htd hie hx hsz hlo hhi hmx hl hh) h

theorem RL.freeze (t b : Nat) {T : TypeId} {cs : List AV} (ht : env.get? t = some (.ptr b 0)) (hs : s b = some (.box T cs)) (h : RL P N ops l Q ((t, .fptr cs 0) :: env) (s.del b)) : RL P N ops l Q env s :=
 fun k hk => RW.freeze t b ht hs (h k hk)

theorem aN {next : Env → Store → Prop} (h : next env s) : AEx.andThen next Q .normal env s := h
end
end Go.AE

/- The abstract walk: regions whose order is drawn: one canonical walk (what only computes as soon as it may, the others in every order that is left) stands for all orders. -/
namespace Go.AE

def Dep (ops : Array Oper) (i j : Nat) : Prop := ∃ o e, ops[i]? = some o ∧ e ∈ o.after ∧ Region.binds .any e = true ∧ e.on = j

inductive Anc (ops : Array Oper) : Nat → Nat → Prop
 | dep {i j : Nat} (h : Dep ops i j) : Anc ops i j
 | trans {i j k : Nat} (h : Dep ops i j) (t : Anc ops j k) : Anc ops i k

def Closed (ops : Array Oper) (D : Nat → Bool) : Prop := ∀ i j, D i = true → Dep ops i j → D j = true

theorem Closed.anc {ops : Array Oper} {D : Nat → Bool} (h : Closed ops D) {i j : Nat} (hi : D i = true) (ha : Anc ops i j) : D j = true := by
 induction ha with
 | dep hd => exact h _ _ hi hd
 | trans hd _ ih => exact ih (h _ _ hi hd)

def also (D : Nat → Bool) (i : Nat) : Nat → Bool := fun j => if j = i then true else D j

theorem also_same (D : Nat → Bool) (i : Nat) : also D i i = true := by simp [also]
theorem also_ne (D : Nat → Bool) {i j : Nat} (h : j ≠ i) : also D i j = D j := by simp [also, h]
theorem also_of {D : Nat → Bool} {i j : Nat} (h : D j = true) : also D i j = true := by unfold also; split <;> simp_all

def Ready (ops : Array Oper) (D : Nat → Bool) (i : Nat) : Prop := i < ops.size ∧ D i = false ∧ ∀ j, Dep ops i j → D j = true

theorem Closed.also {ops : Array Oper} {D : Nat → Bool} (h : Closed ops D) {i : Nat} (hr : Ready ops D i) : Closed ops (also D i) := by
 intro a b ha hd
 by_cases e : a = i
 ·subst e; exact also_of (hr.2.2 b hd)
 ·rw [also_ne _ e] at ha; exact also_of (h a b ha hd)

def looks (ops : Array Oper) (o : Oper) : List Tmp :=
  (match o.guard with
   | some (g, _) => match (ops[g]?).bind (·.dst) with
     | some d => [d]
     | none => []
   | none => []) ++ o.op.operands.toList.filterMap fun | .tmp t => some t | _ => none

def pickE (env : Env) : List Tmp → Env
  | [] => []
  | t :: ts => match env.get? t with
    | some v => (t, v) :: pickE env ts
    | none => pickE env ts

theorem pickE_get {env : Env} {ts : List Tmp} {t : Tmp} {v : AV} (h : (pickE env ts).get? t = some v) : env.get? t = some v ∧ t ∈ ts := by
 induction ts with
 | nil => simp [pickE, Env.get?] at h
 | cons u ts ih =>
  simp only [pickE] at h
  split at h
  ·rename_i x hx
   simp only [Env.get?] at h
   split at h
   ·rename_i he
    have := Nat.eq_of_beq_eq_true he
    subst this; cases h
    exact ⟨hx, List.mem_cons_self ..⟩
   ·exact ⟨(ih h).1, List.mem_cons_of_mem _ (ih h).2⟩
  ·exact ⟨(ih h).1, List.mem_cons_of_mem _ (ih h).2⟩

def Still (J : Store → Prop) (P : Program) (Γ : Tys) (N : Nat) (ops : Array Oper) (o : Oper) (E : Env) (v : AV) : Prop :=
 (guardOf ops E o = some true ∧ APure Γ o E v) ∨ (guardOf ops E o = some false ∧ v = .tup []) ∨
  (guardOf ops E o = some true ∧ ∀ s, J s → OW P N o E s (fun x s' => x = v ∧ s' = s) (fun _ _ => False))

structure Orderly (ops : Array Oper) : Prop where
 uniq : ∀ (i j : Nat) (x y : Oper) (d : Tmp), ops[i]? = some x → ops[j]? = some y → x.dst = some d → y.dst = some d → i = j
 apart : ∀ (i j : Nat) (x y : Oper) (d : Tmp), i ≠ j → ops[i]? = some x → ops[j]? = some y → x.dst = some d → d ∈ looks ops y → Anc ops i j ∨ Anc ops j i
 back : ∀ i j, Dep ops i j → j < i
 own : ∀ (i : Nat) (x : Oper) (d : Tmp), ops[i]? = some x → x.dst = some d → d ∉ looks ops x

inductive RJ (J : Store → Prop) (P : Program) (Γ : Tys) (N : Nat) (ops : Array Oper) (Q : AEx → Env → Store → Prop) : (Nat → Bool) → Env → Store → Prop
 | congr {D : Nat → Bool} {env : Env} {s : Store} (e : Env) (he : ∀ t, e.get? t = env.get? t) (h : RJ J P Γ N ops Q D e s) : RJ J P Γ N ops Q D env s
 | fin {D : Nat → Bool} {env : Env} {s : Store} (hD : ∀ i, i < ops.size → D i = true) (h : Q .normal env s) : RJ J P Γ N ops Q D env s
 | still {D : Nat → Bool} {env : Env} {s : Store} (hJ : J s) (i : Nat) (o : Oper) (d : Tmp) (v : AV) (hr : Ready ops D i) (ho : ops[i]? = some o) (hd : o.dst = some d) (hN : d < N)
   (hv : Still J P Γ N ops o (pickE env (looks ops o)) v) (h : RJ J P Γ N ops Q (also D i) ((d, v) :: env) s) : RJ J P Γ N ops Q D env s
 | split {D : Nat → Bool} {env : Env} {s : Store} (K X : Nat → AV → Store → Prop) (hne : ∃ i, i < ops.size ∧ D i = false)
   (hg : ∀ i o, Ready ops D i → ops[i]? = some o → guardOf ops (pickE env (looks ops o)) o = some true ∧ OW P N o (pickE env (looks ops o)) s (K i) (X i) ∧ ∀ d, o.dst = some d → d < N)
   (hj : ∀ i o, Ready ops D i → ops[i]? = some o → ∀ x s', K i x s' → J s' ∨ ∀ j, j < ops.size → j ≠ i → Anc ops i j)
   (hk : ∀ i o d, Ready ops D i → ops[i]? = some o → o.dst = some d → ∀ x s', K i x s' → RJ J P Γ N ops Q (also D i) ((d, x) :: env) s')
   (hkn : ∀ i o, Ready ops D i → ops[i]? = some o → o.dst = none → ∀ x s', K i x s' → RJ J P Γ N ops Q (also D i) env s')
   (hx : ∀ i o, Ready ops D i → ops[i]? = some o → ∀ x s', X i x s' → Q (.panic x) [] s') : RJ J P Γ N ops Q D env s
def JT : Store → Prop := fun _ => True
abbrev RD := RJ JT

structure Sim (J : Store → Prop) (P : Program) (Γ : Tys) (N : Nat) (B : Base) (ro : Option Nat) (ops : Array Oper) (D L : Nat → Bool) (V : Nat → AV) (E : Nat → Env) (env : Env) (s : Store) (a : Act) (w : World) (p : Prot) : Prop where
 sub : ∀ i, L i = true → D i = true
 cD : Closed ops D
 cL : Closed ops L
 st : St N B ro [] s a w p
 known : ∀ t v, env.get? t = some v → (∃ k o, D k = true ∧ L k = false ∧ ops[k]? = some o ∧ o.dst = some t) ∨ Rel w p (a.tmps.getD t undef) v
 pend : ∀ i o, D i = true → L i = false → ops[i]? = some o → ∃ d, o.dst = some d ∧ d < N ∧ env.get? d = some (V i) ∧ Still J P Γ N ops o (E i) (V i) ∧
  (∀ t x, (E i).get? t = some x → t ∈ looks ops o ∧ (∀ k u, ops[k]? = some u → u.dst = some t → Anc ops i k → L k = false → x = V k) ∧
   ((∀ k u, ops[k]? = some u → u.dst = some t → Anc ops i k → L k = true) → Rel w p (a.tmps.getD t undef) x))
 bound : ∀ i, D i = true → i < ops.size
 inv : (∀ i, D i = true → L i = true) ∨ J s

theorem St.restrict {N : Nat} {B : Base} {ro : Option Nat} {env : Env} {s : Store} {a : Act} {w : World} {p : Prot} (h : St N B ro env s a w p) (e : Env) (he : ∀ t v, e.get? t = some v → Rel w p (a.tmps.getD t undef) v) :
  St N B ro e s a w p := ⟨h.size, he, h.wf, h.defs, h.round, h.base⟩

section
variable {J : Store → Prop} {P : Program} {Γ : Tys} {N : Nat} {ops : Array Oper} {Q : AEx → Env → Store → Prop}

theorem Sim.ahead (hO : Orderly ops) {B : Base} {ro : Option Nat} {D L : Nat → Bool} {V : Nat → AV} {E : Nat → Env} {env : Env} {s : Store} {a : Act} {w : World} {p : Prot}
  (h : Sim J P Γ N B ro ops D L V E env s a w p) {i : Nat} {o : Oper} {d : Tmp} {v : AV} (hr : Ready ops D i) (ho : ops[i]? = some o) (hd : o.dst = some d) (hN : d < N)
  (hJ : J s) (hv : Still J P Γ N ops o (pickE env (looks ops o)) v) :
  Sim J P Γ N B ro ops (also D i) L (fun j => if j = i then v else V j) (fun j => if j = i then pickE env (looks ops o) else E j) ((d, v) :: env) s a w p := by
 have hLi : L i = false := by
  cases hl : L i with
  | false => rfl
  | true => have := h.sub i hl; rw [hr.2.1] at this; cases this
 refine ⟨fun j hj => also_of (h.sub j hj), h.cD.also hr, h.cL, h.st, fun t x hx => ?_, fun j u hj hLj hu => ?_, fun j hj => ?_, .inr hJ⟩
 ·simp only [Env.get?] at hx
  split at hx
  ·rename_i he
   have := Nat.eq_of_beq_eq_true he
   subst this
   exact .inl ⟨i, o, also_same _ _, hLi, ho, hd⟩
  ·rcases h.known t x hx with ⟨k, u, h1, h2, h3, h4⟩ | hrel
   ·exact .inl ⟨k, u, also_of h1, h2, h3, h4⟩
   ·exact .inr hrel
 ·by_cases e : j = i
  ·subst e
   rw [ho] at hu; cases hu
   refine ⟨d, hd, hN, by simp [Env.get?], ?_, ?_⟩
   ·simpa using hv
   ·intro t x hx
    simp only [if_true] at hx
    obtain ⟨hx1, hx2⟩ := pickE_get hx
    refine ⟨hx2, fun k u hk hkd hanc hLk => ?_, fun hall => ?_⟩
    ·have hne : k ≠ j := fun e' => by
      subst e'
      rw [ho] at hk; cases hk
      rw [hd] at hkd; cases hkd
      exact hO.own _ _ _ ho hd hx2
     rw [if_neg hne]
     have hDk : D k = true := by
      have := (h.cD.also hr).anc (also_same D j) hanc
      rwa [also_ne _ hne] at this
     obtain ⟨d', e1, e2, e3, -⟩ := h.pend k u hDk hLk hk
     rw [hkd] at e1; cases e1
     rw [hx1] at e3; cases e3; rfl
    ·rcases h.known t x hx1 with ⟨k, u, h1, h2, h3, h4⟩ | hrel
     ·have hne : k ≠ j := fun e' => by subst e'; rw [hr.2.1] at h1; cases h1
      rcases hO.apart k j u o t hne h3 ho h4 hx2 with hanc | hanc
      ·have := h.cD.anc h1 hanc; rw [hr.2.1] at this; cases this
      ·have := hall k u h3 h4 hanc; rw [h2] at this; cases this
     ·exact hrel
  ·rw [also_ne _ e] at hj
   obtain ⟨d', e1, e2, e3, e4, e5⟩ := h.pend j u hj hLj hu
   have hdd : d ≠ d' := fun e' => by subst e'; exact e (hO.uniq j i u o d hu ho e1 hd)
   refine ⟨d', e1, e2, ?_, ?_, ?_⟩
   ·simp only [Env.get?, if_neg e]
    have : Nat.beq d d' = false := by
     cases hb : Nat.beq d d' with
     | false => rfl
     | true => exact absurd (Nat.eq_of_beq_eq_true hb) hdd
    simp [this, e3]
   ·simpa [e] using e4
   ·intro t x hx
    simp only [if_neg e] at hx
    obtain ⟨f1, f2, f3⟩ := e5 t x hx
    refine ⟨f1, fun k u' hk hkd hanc hLk => ?_, f3⟩
    have hne : k ≠ i := fun e' => by
     subst e'
     have := h.cD.anc hj hanc
     rw [hr.2.1] at this; cases this
    rw [if_neg hne]
    exact f2 k u' hk hkd hanc hLk
 ·by_cases e : j = i
  ·subst e; exact hr.1
  ·rw [also_ne _ e] at hj; exact h.bound j hj

theorem Sim.catchUp (hO : Orderly ops) {B : Base} {ro : Option Nat} {D L : Nat → Bool} {V : Nat → AV} {E : Nat → Env} {env : Env} {s : Store} {a : Act} {w w' : World} {p p' : Prot}
  (h : Sim J P Γ N B ro ops D L V E env s a w p) {i : Nat} {o : Oper} {d : Tmp} {val : Value} (hr : Ready ops L i) (hD : D i = true) (ho : ops[i]? = some o) (hd : o.dst = some d)
  (hle : Le w p w' p') (hk : Kept s s w p w' p') (hwf : Wf w' p' s) (hval : Rel w' p' val (V i)) : Sim J P Γ N B ro ops D (also L i) V E env s (a.put (some d) val) w' p' := by
 obtain ⟨d', hd', hdN, henv, hstill, hE⟩ := h.pend i o hD hr.2.1 ho
 rw [hd] at hd'; cases hd'
 have hst' := h.st.step hle hk hwf
 have hput := hst'.put hdN hval
 have hget : ∀ t, t ≠ d → (a.put (some d) val).tmps.getD t undef = a.tmps.getD t undef := fun t ht => by
  simp only [Act.put, Array.getD_eq_getD_getElem?, Array.getElem?_setIfInBounds, if_neg (fun e : d = t => ht e.symm)]
 have hgetd : (a.put (some d) val).tmps.getD d undef = val := by
  have : d < a.tmps.size := by rw [h.st.size]; exact hdN
  simp [Act.put, Array.getD_eq_getD_getElem?, Array.getElem?_setIfInBounds, this]
 refine ⟨fun j hj => ?_, h.cD, h.cL.also hr, hput.restrict [] (by simp [Env.get?]), fun t x hx => ?_, fun j u hj hLj hu => ?_, h.bound, h.inv.imp (fun q j hj => also_of (q j hj)) id⟩
 ·by_cases e : j = i
  ·subst e; exact hD
  ·rw [also_ne _ e] at hj; exact h.sub j hj
 ·by_cases e : t = d
  ·subst e
   rw [henv] at hx; cases hx
   exact .inr (by rw [hgetd]; exact hval)
  ·rcases h.known t x hx with ⟨k, u, h1, h2, h3, h4⟩ | hrel
   ·have hne : k ≠ i := fun e' => by subst e'; rw [ho] at h3; cases h3; rw [hd] at h4; cases h4; exact e rfl
    exact .inl ⟨k, u, h1, by rw [also_ne _ hne]; exact h2, h3, h4⟩
   ·exact .inr (by rw [hget t e]; exact hrel.mono hle)
 ·have hne : j ≠ i := fun e => by subst e; rw [also_same] at hLj; cases hLj
  rw [also_ne _ hne] at hLj
  obtain ⟨d', e1, e2, e3, e4, e5⟩ := h.pend j u hj hLj hu
  refine ⟨d', e1, e2, e3, e4, fun t x hx => ?_⟩
  obtain ⟨f1, f2, f3⟩ := e5 t x hx
  refine ⟨f1, fun k u' hk' hkd hanc hLk => ?_, fun hall => ?_⟩
  ·have hki : k ≠ i := fun e => by subst e; rw [also_same] at hLk; cases hLk
   rw [also_ne _ hki] at hLk
   exact f2 k u' hk' hkd hanc hLk
  ·by_cases e : t = d
   ·subst e
    rcases hO.apart i j o u t (Ne.symm hne) ho hu hd f1 with hanc | hanc
    ·have := h.cL.also hr |>.anc (also_same L i) hanc
     rw [also_ne _ hne] at this; rw [hLj] at this; cases this
    ·have := f2 i o ho hd hanc hr.2.1
     subst this
     rw [hgetd]; exact hval
   ·rw [hget t e]
    refine (f3 fun k u' hk' hkd hanc => ?_).mono hle
    have hki : k ≠ i := fun e' => by subst e'; rw [ho] at hk'; cases hk'; rw [hd] at hkd; cases hkd; exact e rfl
    have := hall k u' hk' hkd hanc
    rwa [also_ne _ hki] at this

theorem Sim.ready (hO : Orderly ops) {B : Base} {ro : Option Nat} {D L : Nat → Bool} {V : Nat → AV} {E : Nat → Env} {env : Env} {s : Store} {a : Act} {w : World} {p : Prot}
  (h : Sim J P Γ N B ro ops D L V E env s a w p) {i : Nat} {o : Oper} (hr : Ready ops L i) (hD : D i = false) (ho : ops[i]? = some o) :
  Ready ops D i ∧ St N B ro (pickE env (looks ops o)) s a w p := by
 refine ⟨⟨hr.1, hD, fun j hj => h.sub j (hr.2.2 j hj)⟩, h.st.restrict _ fun t v hv => ?_⟩
 obtain ⟨h1, h2⟩ := pickE_get hv
 rcases h.known t v h1 with ⟨k, u, g1, g2, g3, g4⟩ | hrel
 ·have hne : k ≠ i := fun e => by subst e; rw [hD] at g1; cases g1
  rcases hO.apart k i u o t hne g3 ho g4 h2 with hanc | hanc
  ·have := h.cD.anc g1 hanc; rw [hD] at this; cases this
  ·have := (h.cL.also hr).anc (also_same L i) hanc
   rw [also_ne _ hne, g2] at this; cases this
 ·exact hrel

theorem Sim.both (hO : Orderly ops) {B : Base} {ro : Option Nat} {D L : Nat → Bool} {V : Nat → AV} {E : Nat → Env} {env : Env} {s s' : Store} {a : Act} {w w' : World} {p p' : Prot}
  (h : Sim J P Γ N B ro ops D L V E env s a w p) {i : Nat} {o : Oper} {val : Value} {x : AV} (hr : Ready ops L i) (hrD : Ready ops D i) (ho : ops[i]? = some o) (hdN : ∀ d, o.dst = some d → d < N)
  (hle : Le w p w' p') (hk : Kept s s' w p w' p') (hwf : Wf w' p' s') (hval : Rel w' p' val x) (hJ : J s' ∨ ∀ j, j < ops.size → j ≠ i → Anc ops i j) :
  Sim J P Γ N B ro ops (also D i) (also L i) V E (match o.dst with | some d => (d, x) :: env | none => env) s' (a.put o.dst val) w' p' := by
 have hst' := h.st.step hle hk hwf
 have hget : ∀ t, o.dst ≠ some t → (a.put o.dst val).tmps.getD t undef = a.tmps.getD t undef := fun t ht => by
  cases hd : o.dst with
  | none => rfl
  | some d =>
   have : d ≠ t := fun e => ht (by rw [hd, e])
   simp only [Act.put, Array.getD_eq_getD_getElem?, Array.getElem?_setIfInBounds, if_neg this]
 have hgetd : ∀ d, o.dst = some d → (a.put o.dst val).tmps.getD d undef = val := fun d hd => by
  have : d < a.tmps.size := by rw [h.st.size]; exact hdN d hd
  simp [hd, Act.put, Array.getD_eq_getD_getElem?, Array.getElem?_setIfInBounds, this]
 have hput : St N B ro [] s' (a.put o.dst val) w' p' := by
  cases hd : o.dst with
  | none => exact hst'
  | some d => exact (hst'.put (hdN d hd) hval).restrict [] (by simp [Env.get?])
 refine ⟨fun j hj => ?_, h.cD.also hrD, h.cL.also hr, hput, fun t y hy => ?_, fun j u hj hLj hu => ?_, fun j hj => ?_, hJ.symm.imp (fun q j hj => ?_) id⟩
 ·by_cases e : j = i
  ·subst e; exact also_same _ _
  ·rw [also_ne _ e] at hj; exact also_of (h.sub j hj)
 ·by_cases e : o.dst = some t
  ·simp only [e, Env.get?, Nat.beq_refl, if_true] at hy
   cases hy
   exact .inr (by rw [hgetd t e]; exact hval)
  ·have hy' : env.get? t = some y := by
    cases hd : o.dst with
    | none => rw [hd] at hy; exact hy
    | some d =>
     rw [hd] at hy e
     simp only [Env.get?] at hy
     have : Nat.beq d t = false := by
      cases hb : Nat.beq d t with
      | false => rfl
      | true => exact absurd (congrArg some (Nat.eq_of_beq_eq_true hb)) e
     rw [this] at hy; simpa using hy
   rcases h.known t y hy' with ⟨k, u, h1, h2, h3, h4⟩ | hrel
   ·have hne : k ≠ i := fun e' => by subst e'; rw [ho] at h3; cases h3; exact e h4
    exact .inl ⟨k, u, also_of h1, by rw [also_ne _ hne]; exact h2, h3, h4⟩
   ·exact .inr (by rw [hget t e]; exact hrel.mono hle)
 ·have hne : j ≠ i := fun e => by subst e; rw [also_same] at hLj; cases hLj
  rw [also_ne _ hne] at hLj hj
  obtain ⟨d', e1, e2, e3, e4, e5⟩ := h.pend j u hj hLj hu
  have hod : o.dst ≠ some d' := fun e => hne (hO.uniq j i u o d' hu ho e1 e)
  refine ⟨d', e1, e2, ?_, e4, fun t y hy => ?_⟩
  ·cases hd : o.dst with
   | none => exact e3
   | some d =>
    simp only [Env.get?]
    have : Nat.beq d d' = false := by
     cases hb : Nat.beq d d' with
     | false => rfl
     | true => exact absurd (by rw [hd, Nat.eq_of_beq_eq_true hb]) hod
    rw [this]; simpa using e3
  ·obtain ⟨f1, f2, f3⟩ := e5 t y hy
   have hot : o.dst ≠ some t := fun e => by
    rcases hO.apart i j o u t (Ne.symm hne) ho hu e f1 with hanc | hanc
    ·have := (h.cL.also hr).anc (also_same L i) hanc
     rw [also_ne _ hne, hLj] at this; cases this
    ·have := h.cD.anc hj hanc; rw [hrD.2.1] at this; cases this
   refine ⟨f1, fun k u' hk' hkd hanc hLk => ?_, fun hall => ?_⟩
   ·have hki : k ≠ i := fun e => by subst e; rw [also_same] at hLk; cases hLk
    rw [also_ne _ hki] at hLk
    exact f2 k u' hk' hkd hanc hLk
   ·rw [hget t hot]
    refine (f3 fun k u' hk' hkd hanc => ?_).mono hle
    have hki : k ≠ i := fun e' => by subst e'; rw [ho] at hk'; cases hk'; exact hot hkd
    have := hall k u' hk' hkd hanc
    rwa [also_ne _ hki] at this
 ·by_cases e : j = i
  ·subst e; exact hr.1
  ·rw [also_ne _ e] at hj; exact h.bound j hj
 ·by_cases e : j = i
  ·subst e; exact also_same _ _
  ·rw [also_ne _ e] at hj
   exact (h.cL.also hr).anc (also_same L i) (q j (h.bound j hj) e)

def listedB (listed : Array Bool) (n : Nat) : Nat → Bool := fun i => decide (i < n) && listed.getD i true

theorem mem_ready {listed : Array Bool} (hback : ∀ i j, Dep ops i j → j < i) {i : Nat} (h : i ∈ Region.ready .any ops listed) : Ready ops (listedB listed ops.size) i := by
 unfold Region.ready at h
 simp only [List.mem_filter, List.mem_range, Bool.and_eq_true, Bool.not_eq_true'] at h
 obtain ⟨hlt, hl, hall⟩ := h
 refine ⟨hlt, by simp only [listedB, hl, Bool.and_false], fun j ⟨o, e, ho, he, hb, hj⟩ => ?_⟩
 have hji : j < i := hback i j ⟨o, e, ho, he, hb, hj⟩
 rw [ho] at hall
 simp only [Option.map_some, Option.getD_some, Array.all_eq_true'] at hall
 have := hall e he
 simp only [hb, Bool.not_true, Bool.false_or] at this
 rw [hj] at this
 have hlt' : j < ops.size := by omega
 simp only [listedB, hlt', decide_true, Bool.true_and]
 rw [Array.getD_eq_getD_getElem?] at this ⊢
 cases hx : listed[j]? with
 | none => rfl
 | some b => rw [hx] at this; simpa using this

theorem ready_ne_nil {listed : Array Bool} (hback : ∀ i j, Dep ops i j → j < i) (hn : Region.ready .any ops listed = []) (hsz : listed.size = ops.size) : ∀ i, i < ops.size → listedB listed ops.size i = true := by
 intro i
 induction i using Nat.strongRecOn with
 | _ i ih =>
  intro hi
  cases hl : listed.getD i true with
  | true => simp [listedB, hi, hl]
  | false =>
   have hmem : i ∈ Region.ready .any ops listed := by
    unfold Region.ready
    simp only [List.mem_filter, List.mem_range, Bool.and_eq_true, Bool.not_eq_true']
    refine ⟨hi, hl, ?_⟩
    have ho : ops[i]? = some ops[i] := by simp
    rw [ho]
    simp only [Option.map_some, Option.getD_some, Array.all_eq_true']
    intro e he
    cases hb : Region.binds .any e with
    | false => rfl
    | true =>
     simp only [Bool.not_true, Bool.false_or]
     have hlt := hback i e.on ⟨_, e, ho, he, hb, rfl⟩
     have := ih e.on hlt (by omega)
     have hlt2 : e.on < listed.size := by omega
     simp only [listedB, Bool.and_eq_true] at this
     rw [Array.getD_eq_getD_getElem?] at this ⊢
     have hsome : listed[e.on]? = some listed[e.on] := by simp [hlt2]
     rw [hsome] at this ⊢
     simpa using this.2
   rw [hn] at hmem; cases hmem

theorem listedB_set {listed : Array Bool} {i : Nat} (hi : i < ops.size) (hsz : listed.size = ops.size) : listedB (listed.setIfInBounds i true) ops.size = also (listedB listed ops.size) i := by
 funext j
 unfold listedB also
 by_cases e : j = i
 ·subst e; simp [hi, hsz]
 ·have e' : ¬ i = j := fun h => e h.symm
  simp only [if_neg e, Array.getD_eq_getD_getElem?, Array.getElem?_setIfInBounds, if_neg e']

theorem still_run (hΓ : TysOk P Γ) {B : Base} {ro : Option Nat} {E : Env} {s : Store} {a : Act} {w : World} {p : Prot} {o : Oper} {d : Tmp} {v : AV} (hd : o.dst = some d) (hst : St N B ro E s a w p) (hJ : J s) (h : Still J P Γ N ops o E v) {R : Ending → World → Prop} {S : Act → World → Prop}
  (hok : ∀ val w' p', Rel w' p' val v → Le w p w' p' → Kept s s w p w' p' → Wf w' p' s → S (a.put (some d) val) w') :
  (if Region.wanted o (yielded ops a.tmps) = true then noDefer o = true ∧ ResDoes P ((execOp a.eval o).run P w) (fun e w' => match e with
   | .returned v => S (a.put o.dst v) w'
   | .panicked ch => R (.panicked ch) w'
   | .outgrown => False) else S (a.put o.dst undef) w) := by
 rcases h with ⟨hg, hv⟩ | ⟨hg, rfl⟩ | ⟨hg, hv⟩
 ·rw [if_pos (guardOf_ok hst hg)]
  refine ⟨hv.noDefer, ?_⟩
  obtain ⟨val, w', p', hrun, hr, hle, hk⟩ := hv.ok hΓ hst
  rw [hrun]
  obtain ⟨hk1, hk2⟩ := hk s hst.wf
  rw [hd]
  exact hok val w' p' hr hle hk1 hk2
 ·rw [if_neg (by rw [guardOf_ok hst hg]; simp), hd]
  exact hok undef w p rel_undef (.refl w p) (.refl s w p) hst.wf
 ·rw [if_pos (guardOf_ok hst hg)]
  refine ⟨(hv s hJ).1, ((hv s hJ).2 ro B a w p hst).mono ?_⟩
  rintro e w' ⟨s', p', hle, hk, hwf, he⟩
  cases e with
  | returned val =>
   obtain ⟨x, ⟨rfl, rfl⟩, hr⟩ := he
   rw [hd]
   exact hok val w' p' hr hle hk hwf
  | panicked ch => obtain ⟨v, x, -, hf, -⟩ := he; exact hf.elim
  | outgrown => exact he
end
end Go.AE

