import Derived.AtR
import Derived.Defers
import Derived.Laws.Sem
import Derived.Laws.World
import Derived.Laws.NewBlocks
import Derived.Laws.Cells
import Derived.Laws.Strings
import Derived.Laws.Tables
import Derived.Laws.Small
/- The concrete half of the abstract walk: how pieces of code, single operations, calls, rounds of a range over a function and a function's end move the machine; over any program. -/
namespace Go.AE

/-- How a piece of code is left. -/
inductive CEx where
  | normal
  | exit (id : Nat)
  | ret
  | panic (chain : List PanicEntry)

def ArrR (P : Program) (m : Machine) (b : Frame) (k : List Item) (cs : List Frame) : CEx → Act → World → Prop
  | .normal, a, w => Steps P m (lone (b.atR a k) cs w)
  | .exit id, a, w => (∀ k', exitTo id k = some k' → Steps P m (lone (b.atR a k') cs w)) ∧
      (exitTo id k = none → ∃ k₁, exitTo id k₁ = none ∧ Steps P m (lone (b.atR a (.code (.exit id) :: k₁)) cs w))
  | .ret, a, w => ∃ k₁, Steps P m (lone (b.atR a (.code .ret :: k₁)) cs w)
  | .panic ch, a, w => ∃ k₁, Steps P m (lone { b.atR a k₁ with mode := .panicking ch } cs w)

theorem ArrR.of_steps {P : Program} {m m₁ : Machine} {b : Frame} {k : List Item} {cs : List Frame} {e : CEx} {a : Act} {w : World}
    (h : Steps P m m₁) (h' : ArrR P m₁ b k cs e a w) : ArrR P m b k cs e a w := by
  cases e with
  | normal => exact h.trans h'
  | exit id => exact ⟨fun k' hk => h.trans (h'.1 k' hk), fun hk => let ⟨k₁, h1, h2⟩ := h'.2 hk; ⟨k₁, h1, h.trans h2⟩⟩
  | ret => obtain ⟨k₁, hs⟩ := h'; exact ⟨k₁, h.trans hs⟩
  | panic ch => obtain ⟨k₁, hs⟩ := h'; exact ⟨k₁, h.trans hs⟩

/-- The walk of a piece of code in the frame b (a function's, or a round's). -/
def cwp (P : Program) (b : Frame) (c : Code) (Q : CEx → Act → World → Prop) (a : Act) (w : World) : Prop :=
  ∀ (k : List Item) (cs : List Frame), ∃ e a' w', Q e a' w' ∧ ArrR P (lone (b.atR a (.code c :: k)) cs w) b k cs e a' w'

section rules
variable {P : Program} {b : Frame} {Q : CEx → Act → World → Prop} {a : Act} {w : World}

theorem cwp_mono {c : Code} {Q' : CEx → Act → World → Prop} (h : cwp P b c Q a w) (hq : ∀ e a w, Q e a w → Q' e a w) : cwp P b c Q' a w :=
  fun k cs => let ⟨e, a', w', q, r⟩ := h k cs; ⟨e, a', w', hq _ _ _ q, r⟩

theorem cwp_skip (h : Q .normal a w) : cwp P b .skip Q a w := fun _ _ => ⟨.normal, a, w, h, .one stepR_skip⟩

theorem cwp_ret (h : Q .ret a w) : cwp P b .ret Q a w := fun k _ => ⟨.ret, a, w, h, k, .refl P _⟩

theorem cwp_exit {id : Nat} (h : Q (.exit id) a w) : cwp P b (.exit id) Q a w :=
  fun k _ => ⟨.exit id, a, w, h, fun _ hk => .one (stepR_exit hk), fun hk => ⟨k, hk, .refl P _⟩⟩

def CEx.andThen (next : Act → World → Prop) (Q : CEx → Act → World → Prop) : CEx → Act → World → Prop
  | .normal, a, w => next a w
  | e, a, w => Q e a w

theorem ArrR.pass_code {m : Machine} {c : Code} {k : List Item} {cs : List Frame} {e : CEx} {a : Act} {w : World} (x : Item) (hx : x.plain = true)
    (he : e ≠ .normal) (h : ArrR P m b (x :: k) cs e a w) : ArrR P m b k cs e a w := by
  cases e with
  | normal => exact absurd rfl he
  | exit id => exact ⟨fun k' hk => h.1 k' (by cases x <;> simp_all [exitTo, Item.plain]), fun hk => h.2 (by cases x <;> simp_all [exitTo, Item.plain])⟩
  | ret => exact h
  | panic ch => exact h

theorem cwp_seq {x y : Code} (h : cwp P b x (CEx.andThen (cwp P b y Q) Q) a w) : cwp P b (.seq x y) Q a w := by
  intro k cs
  obtain ⟨e, a₁, w₁, hq, harr⟩ := h (.code y :: k) cs
  by_cases he : e = .normal
  · subst he
    obtain ⟨e₂, a₂, w₂, hq₂, harr₂⟩ := hq k cs
    exact ⟨e₂, a₂, w₂, hq₂, .of_steps (.head stepR_seq harr) harr₂⟩
  · have hq' : Q e a₁ w₁ := by cases e <;> first | exact absurd rfl he | exact hq
    exact ⟨e, a₁, w₁, hq', .of_steps (.one stepR_seq) (ArrR.pass_code (c := y) (.code y) rfl he harr)⟩

theorem cwp_cond {c : Operand} {x y : Code} {t : Bool} (hc : a.eval c = .bool t) (h : cwp P b (if t then x else y) Q a w) : cwp P b (.cond c x y) Q a w :=
  fun k cs => let ⟨e, a', w', q, r⟩ := h k cs; ⟨e, a', w', q, .of_steps (.one (stepR_cond hc)) r⟩

def CEx.inBlock (id : Nat) (Q : CEx → Act → World → Prop) : CEx → Act → World → Prop
  | .exit id', a, w => if id' = id then Q .normal a w else Q (.exit id') a w
  | e, a, w => Q e a w

theorem cwp_block {id : Nat} {c : Code} (h : cwp P b c (CEx.inBlock id Q) a w) : cwp P b (.block id c) Q a w := by
  intro k cs
  obtain ⟨e, a₁, w₁, hq, harr⟩ := h (.inBlock id :: k) cs
  cases e with
  | normal => exact ⟨.normal, a₁, w₁, hq, .head stepR_block (Steps.trans harr (.one stepR_inBlock))⟩
  | exit id' =>
    by_cases hid : id' = id
    · simp only [CEx.inBlock, hid, if_true] at hq
      exact ⟨.normal, a₁, w₁, hq, .head stepR_block (harr.1 k (by simp [exitTo, hid]))⟩
    · simp only [CEx.inBlock, hid, if_false] at hq
      have hne : (id == id') = false := by simp; exact fun h => hid h.symm
      refine ⟨.exit id', a₁, w₁, hq, fun k' hk => .head stepR_block (harr.1 k' (by simp [exitTo, hne, hk])), fun hk => ?_⟩
      obtain ⟨k₁, h1, h2⟩ := harr.2 (by simp [exitTo, hne, hk])
      exact ⟨k₁, h1, .head stepR_block h2⟩
  | ret => obtain ⟨k₁, hs⟩ := harr; exact ⟨.ret, a₁, w₁, hq, k₁, .head stepR_block hs⟩
  | panic ch => obtain ⟨k₁, hs⟩ := harr; exact ⟨.panic ch, a₁, w₁, hq, k₁, .head stepR_block hs⟩

theorem cwp_loop {c : Code} (I : Act → World → Prop) (μ : Act → World → Nat) (h₀ : I a w)
    (round : ∀ a w, I a w → cwp P b c (CEx.andThen (fun a' w' => I a' w' ∧ μ a' w' < μ a w) Q) a w) : cwp P b (.loop c) Q a w := by
  intro k cs
  have key : ∀ n a w, μ a w = n → I a w →
      ∃ e a' w', Q e a' w' ∧ ArrR P (lone (b.atR a (.code c :: .inLoop c :: k)) cs w) b k cs e a' w' := by
    intro n
    induction n using Nat.strongRecOn with
    | _ n ih =>
      intro a w hn hI
      obtain ⟨e, a₁, w₁, hq, harr⟩ := round a w hI (.inLoop c :: k) cs
      by_cases he : e = .normal
      · subst he
        obtain ⟨hI₁, hlt⟩ := hq
        obtain ⟨e₂, a₂, w₂, hq₂, harr₂⟩ := ih (μ a₁ w₁) (hn ▸ hlt) a₁ w₁ rfl hI₁
        exact ⟨e₂, a₂, w₂, hq₂, .of_steps (Steps.trans harr (.one stepR_inLoop)) harr₂⟩
      · have hq' : Q e a₁ w₁ := by cases e <;> first | exact absurd rfl he | exact hq
        exact ⟨e, a₁, w₁, hq', ArrR.pass_code (c := c) (.inLoop c) rfl he harr⟩
  obtain ⟨e, a', w', hq, harr⟩ := key _ a w rfl h₀
  exact ⟨e, a', w', hq, .of_steps (.one stepR_loop) harr⟩
end rules

/-! ### Rounds and single operations -/

/-- A round of a range over a function, from its frame to the caller's going on. -/
def Round (P : Program) (l : Nat) (f : FuncId) (tmps : Array Value) (asg body : Code) (w : World) (R : Ending → World → Prop) : Prop :=
  ∀ (c : Frame) (cs : List Frame), ∃ e w', R e w' ∧
    match e with
    | .returned v => Steps P (lone (Frame.round l f tmps asg body .normal) (c :: cs) w) (lone (c.finish v) cs w')
    | .panicked ch => Steps P (lone (Frame.round l f tmps asg body .normal) (c :: cs) w) (lone (c.raise ch) cs w')
    | .outgrown => False

/-- Calls, without the way out by memory. -/
def CallsX (P : Program) (f : FuncId) (args : Array Value) (w : World) (R : Ending → World → Prop) : Prop :=
  Calls P f args w fun e w' => e ≠ .outgrown ∧ R e w'

theorem CallsX.mono {P : Program} {f : FuncId} {args : Array Value} {w : World} {R R' : Ending → World → Prop} (h : CallsX P f args w R)
    (hr : ∀ e w', R e w' → R' e w') : CallsX P f args w R' := Calls.mono h fun e w' ⟨h1, h2⟩ => ⟨h1, hr e w' h2⟩

def NextDoes (P : Program) (nx : Next) (w : World) (R : Ending → World → Prop) : Prop :=
  match nx with
  | .value v => R (.returned v) w
  | .skip => R (.returned undef) w
  | .enter f args => CallsX P f args w R
  | .round l f tmps asg body => Round P l f tmps asg body w R
  | _ => False

def ResDoes (P : Program) (r : Result Next) (R : Ending → World → Prop) : Prop :=
  match r with
  | .ok nx w' => NextDoes P nx w' R
  | .halt (.panic v) w' => R (.panicked [{ v, recovered := false }]) w'
  | _ => False

theorem Round.mono {P : Program} {l : Nat} {f : FuncId} {tmps : Array Value} {asg body : Code} {w : World} {R R' : Ending → World → Prop}
    (h : Round P l f tmps asg body w R) (hr : ∀ e w', R e w' → R' e w') : Round P l f tmps asg body w R' :=
  fun c cs => let ⟨e, w', r, s⟩ := h c cs; ⟨e, w', hr _ _ r, s⟩

theorem NextDoes.mono {P : Program} {nx : Next} {w : World} {R R' : Ending → World → Prop} (h : NextDoes P nx w R)
    (hr : ∀ e w', R e w' → R' e w') : NextDoes P nx w R' := by
  cases nx <;> first | exact hr _ _ h | exact CallsX.mono h hr | exact Round.mono h hr | exact h.elim

theorem ResDoes.mono {P : Program} {r : Result Next} {R R' : Ending → World → Prop} (h : ResDoes P r R) (hr : ∀ e w', R e w' → R' e w') : ResDoes P r R' := by
  unfold ResDoes at h ⊢
  split at h
  · exact NextDoes.mono h hr
  · exact hr _ _ h
  · exact h.elim

def noDefer (o : Oper) : Bool := match o.op with | .defer _ => false | _ => true

section ops
variable {P : Program} {b : Frame} {a : Act} {k : List Item} {cs : List Frame} {w : World} {ops : Array Oper}

theorem op_steps {i : Nat} {rest : List Nat} {o : Oper} {R : Ending → World → Prop} (ho : ops[i]? = some o) (hw : Region.wanted o (yielded ops a.tmps) = true)
    (hd : noDefer o = true) (h : ResDoes P ((execOp a.eval o).run P w) R) :
    ∃ e w', R e w' ∧
      match e with
      | .returned v => Steps P (lone (b.atR a (.inRegion ops (i :: rest) :: k)) cs w) (lone (b.atR (a.put o.dst v) (.inRegion ops rest :: k)) cs w')
      | .panicked ch => ∃ k₁, Steps P (lone (b.atR a (.inRegion ops (i :: rest) :: k)) cs w) (lone { b.atR a k₁ with mode := .panicking ch } cs w')
      | .outgrown => False := by
  have hg := stepGR_op (P := P) (b := b) (k := k) (cs := cs) (w := w) (rest := rest) ho hw
  have hsem : o.semAt b.roundOf a.eval = execOp a.eval o := Oper.semAt_eq _ _ _ (fun c hc => by simp [noDefer, hc] at hd)
  rw [hsem] at hg
  have hfin : ∀ v, (b.atR a (.inRegion ops (i :: rest) :: k)).finish v = b.atR (a.put o.dst v) (.inRegion ops rest :: k) := by
    intro v; rw [Frame.finish_atR, ho]; rfl
  unfold ResDoes at h
  split at h
  · rename_i nx w' hr
    cases nx with
    | value v =>
      refine ⟨.returned v, w', h, .one (step_lone_go ?_)⟩
      rw [hg, ← hfin]; simp [stepG.apply, hr]
    | skip =>
      refine ⟨.returned undef, w', h, .one (step_lone_go ?_)⟩
      rw [hg, ← hfin]; simp [stepG.apply, hr]
    | enter f args =>
      obtain ⟨e, w'', fr, ⟨hno, hR⟩, hsteps, _, hleave⟩ := h (b.atR a (.inRegion ops (i :: rest) :: k) :: cs)
      have henter : step P (lone (b.atR a (.inRegion ops (i :: rest) :: k)) cs w) =
          .next (lone (Frame.enter P f args .normal) (b.atR a (.inRegion ops (i :: rest) :: k) :: cs) w') :=
        step_lone_go (by rw [hg]; simp [stepG.apply, hr, Frame.atR])
      cases e with
      | returned v =>
        refine ⟨.returned v, w'', hR, .head henter (hsteps.trans (.one ?_))⟩
        rw [← hfin]; exact step_leave_returned hleave
      | panicked ch =>
        refine ⟨.panicked ch, w'', hR, .inRegion ops (i :: rest) :: k, .head henter (hsteps.trans (.one ?_))⟩
        rw [← Frame.raise_atR]; exact step_leave_panicked hleave
      | outgrown => exact absurd rfl hno
    | round l f tmps asg body =>
      obtain ⟨e, w'', hR, hsteps⟩ := h (b.atR a (.inRegion ops (i :: rest) :: k)) cs
      have henter : step P (lone (b.atR a (.inRegion ops (i :: rest) :: k)) cs w) =
          .next (lone (Frame.round l f tmps asg body .normal) (b.atR a (.inRegion ops (i :: rest) :: k) :: cs) w') :=
        step_lone_go (by rw [hg]; simp [stepG.apply, hr, Frame.atR])
      cases e with
      | returned v => exact ⟨.returned v, w'', hR, .head henter (by rw [← hfin]; exact hsteps)⟩
      | panicked ch => exact ⟨.panicked ch, w'', hR, .inRegion ops (i :: rest) :: k, .head henter (by rw [← Frame.raise_atR]; exact hsteps)⟩
      | outgrown => exact hsteps.elim
    | _ => exact h.elim
  · rename_i v w' hr
    refine ⟨.panicked [{ v, recovered := false }], w', h, .inRegion ops (i :: rest) :: k, .one (step_lone_go ?_)⟩
    rw [hg, ← Frame.raise_atR]; simp [stepG.apply, hr]
  · exact h.elim
end ops

/-- The operations of a region, in the order of a list of places. -/
def cops (P : Program) (ops : Array Oper) (Q : CEx → Act → World → Prop) : List Nat → Act → World → Prop
  | [], a, w => Q .normal a w
  | i :: rest, a, w =>
    match ops[i]? with
    | none => cops P ops Q rest a w
    | some o =>
      if Region.wanted o (yielded ops a.tmps) then
        noDefer o = true ∧ ResDoes P ((execOp a.eval o).run P w) fun
          | .returned v, w' => cops P ops Q rest (a.put o.dst v) w'
          | .panicked ch, w' => Q (.panic ch) a w'
          | .outgrown, _ => False
      else cops P ops Q rest (a.put o.dst undef) w

theorem cops_arr {P : Program} {ops : Array Oper} {Q : CEx → Act → World → Prop} (b : Frame) (k : List Item) (cs : List Frame) (l : List Nat) :
    ∀ (a : Act) (w : World), cops P ops Q l a w → ∃ e a' w', Q e a' w' ∧ ArrR P (lone (b.atR a (.inRegion ops l :: k)) cs w) b k cs e a' w' := by
  induction l with
  | nil => exact fun a w h => ⟨.normal, a, w, h, .one stepR_region_end⟩
  | cons i rest ih =>
    intro a w h
    simp only [cops] at h
    cases ho : ops[i]? with
    | none =>
      simp only [ho] at h
      obtain ⟨e, a', w', hq, harr⟩ := ih a w h
      have hs := stepR_op_skip (P := P) (b := b) (a := a) (k := k) (cs := cs) (w := w) (ops := ops) (i := i) (rest := rest) (by simp [ho])
      simp only [ho, Option.bind_none, Act.put] at hs
      exact ⟨e, a', w', hq, .of_steps (.one hs) harr⟩
    | some o =>
      simp only [ho] at h
      by_cases hw : Region.wanted o (yielded ops a.tmps) = true
      · simp only [hw, if_true] at h
        obtain ⟨e, w', hR, hst⟩ := op_steps (b := b) (k := k) (cs := cs) (rest := rest) ho hw h.1 h.2
        cases e with
        | returned v =>
          obtain ⟨e, a', w'', hq, harr⟩ := ih _ _ hR
          exact ⟨e, a', w'', hq, .of_steps hst harr⟩
        | panicked ch => exact ⟨.panic ch, a, w', hR, hst⟩
        | outgrown => exact hst.elim
      · simp only [hw, if_false, Bool.false_eq_true] at h
        obtain ⟨e, a', w', hq, harr⟩ := ih _ _ h
        have hs := stepR_op_skip (P := P) (b := b) (a := a) (k := k) (cs := cs) (w := w) (ops := ops) (i := i) (rest := rest)
          (by simp [ho]; simpa using hw)
        simp only [ho, Option.bind_some] at hs
        exact ⟨e, a', w', hq, .of_steps (.one hs) harr⟩

theorem cwp_region {P : Program} {b : Frame} {id : Nat} {ops : Array Oper} {Q : CEx → Act → World → Prop} {a : Act} {w : World}
    (h : cops P ops Q (List.range ops.size) a w) : cwp P b (.region id ops false) Q a w :=
  fun k cs => let ⟨e, a', w', q, r⟩ := cops_arr b k cs _ a w h; ⟨e, a', w', q, .of_steps (.one stepR_region) r⟩

theorem cwp_region_draw {P : Program} {b : Frame} {id : Nat} {ops : Array Oper} {Q : CEx → Act → World → Prop} {a : Act} {w : World}
    (h : ∀ t, cops P ops Q (Region.schedule (P.follows .mixedOrders) ops t) a { w with drawn := w.drawn + 1 }) : cwp P b (.region id ops true) Q a w :=
  fun k cs => let ⟨e, a', w', q, r⟩ := cops_arr b k cs _ a _ (h _); ⟨e, a', w', q, .of_steps (.one stepR_region_draw) r⟩

/-! ### A function's end: the marks of ranges over functions are taken away; a call out of its body's walk -/

/-- The blocks for deferred calls of the ranges over functions are emptied, one by one. -/
def emptied (w : World) : List Nat → World
  | [] => w
  | d :: ds => emptied { w with heap := w.heap.setIfInBounds d (.deferred none) } ds

def marksOf (ds : List Nat) : List Deferred := ds.map fun d => { target := .collected d, args := #[] }

theorem unwind_steps {P : Program} {cs : List Frame} : ∀ (ds : List Nat) (fr : Frame) (w : World), fr.mode ≠ .run → fr.defers = marksOf ds →
    (∀ d ∈ ds, w.heap[d]? = some (.deferred (some []))) → ds.Nodup → Steps P (lone fr cs w) (lone { fr with defers := [] } cs (emptied w ds)) := by
  intro ds
  induction ds with
  | nil =>
    intro fr w _ hd _ _
    have : ({ fr with defers := [] } : Frame) = fr := by cases fr; simp_all [marksOf]
    rw [this]; exact .refl P _
  | cons d ds ih =>
    intro fr w hm hd hb hn
    have hd0 : w.heap[d]? = some (.deferred (some [])) := hb d (List.mem_cons_self ..)
    have ht : (Instr.takeDeferred d).run P w = .ok [] { w with heap := w.heap.setIfInBounds d (.deferred none) } := by
      unfold Instr.takeDeferred
      simp only [Sem.run_bind, getObj, setObj, Sem.run, hd0, Result.andThen]
      rfl
    have h1 : step P (lone fr cs w) = .next (lone { fr with defers := marksOf ds } cs { w with heap := w.heap.setIfInBounds d (.deferred none) }) := by
      refine step_lone_go ?_
      cases hmode : fr.mode with
      | run => exact absurd hmode hm
      | returning => simp [stepG, unwind, hmode, hd, marksOf, Sem.runT_eq, ht]
      | panicking chain => simp [stepG, unwind, hmode, hd, marksOf, Sem.runT_eq, ht]
    have hnd := List.nodup_cons.1 hn
    refine .head h1 (ih { fr with defers := marksOf ds } _ hm rfl ?_ hnd.2)
    intro d' hd'
    have hne : d ≠ d' := fun e => hnd.1 (e ▸ hd')
    simp only [Array.getElem?_setIfInBounds, hne, if_false]
    exact hb d' (List.mem_cons_of_mem _ hd')

/-- What is asked at the end of a function's body. -/
def endPost (P : Program) (fn : Func) (R : Ending → World → Prop) : CEx → Act → World → Prop
  | .normal, a, w | .ret, a, w => ∃ ds, a.defers = marksOf ds ∧ ds.Nodup ∧ (∀ d ∈ ds, w.heap[d]? = some (.deferred (some []))) ∧
      ∃ v, (results fn a.tmps).run P (emptied w ds) = .ok v (emptied w ds) ∧ R (.returned v) (emptied w ds)
  | .panic ch, a, w => ∃ ds, a.defers = marksOf ds ∧ ds.Nodup ∧ (∀ d ∈ ds, w.heap[d]? = some (.deferred (some []))) ∧ R (.panicked ch) (emptied w ds)
  | .exit _, _, _ => False

theorem calls_of_cwp {P : Program} {f : FuncId} {fn : Func} {c : Code} {args : Array Value} {w : World} {R : Ending → World → Prop}
    (hf : P.funcs[f]? = some fn) (hb : fn.body = some c)
    (h : ∀ b : Frame, b.roundOf = none → (P.funcs[b.fn]?).isSome = true → cwp P b c (endPost P fn R) { tmps := args ++ Array.replicate (fn.ntmps - args.size) undef, defers := [] } w) :
    CallsX P f args w R := by
  intro cs
  let b : Frame := { (default : Frame) with fn := f, kind := .normal, roundOf := none }
  have henter : Frame.enter P f args .normal =
      b.atR { tmps := args ++ Array.replicate (fn.ntmps - args.size) undef, defers := [] } [.code c] := by
    simp [Frame.enter, Frame.atR, hf, hb, b]
  obtain ⟨e, a', w', hq, harr⟩ := h b rfl (by simp [b, hf]) [] cs
  rw [← henter] at harr
  cases e with
  | normal =>
    obtain ⟨ds, hd, hn, hbl, v, hr, hR⟩ := hq
    exact ⟨.returned v, _, _, ⟨by simp, hR⟩, Steps.trans (Steps.trans harr (.one (stepR_end rfl)))
      (unwind_steps ds { b.atR a' [] with mode := .returning } w' (by simp) hd hbl hn), rfl, rfl, rfl, rfl, fn, hf, hr⟩
  | ret =>
    obtain ⟨ds, hd, hn, hbl, v, hr, hR⟩ := hq
    obtain ⟨k₁, hs⟩ := harr
    exact ⟨.returned v, _, _, ⟨by simp, hR⟩, Steps.trans (Steps.trans hs (.one (stepR_ret rfl)))
      (unwind_steps ds { b.atR a' (.code .ret :: k₁) with mode := .returning } w' (by simp) hd hbl hn), rfl, rfl, rfl, rfl, fn, hf, hr⟩
  | panic ch =>
    obtain ⟨ds, hd, hn, hbl, hR⟩ := hq
    obtain ⟨k₁, hs⟩ := harr
    exact ⟨.panicked ch, _, _, ⟨by simp, hR⟩, Steps.trans hs (unwind_steps ds { b.atR a' k₁ with mode := .panicking ch } w' (by simp) hd hbl hn), rfl, rfl, rfl, fn, hf⟩
  | exit id => exact hq.elim

/-- What is asked at the end of a round's body: it has left no deferred calls of its own. -/
def roundEnd (P : Program) (l : Nat) (R : Ending → World → Prop) : CEx → Act → World → Prop
  | .normal, _, w => ∃ v w', (Instr.endRound l none).run P w = .ok v w' ∧ R (.returned v) w'
  | .ret, _, w => ∃ v w', (Instr.endRound l (some .ret)).run P w = .ok v w' ∧ R (.returned v) w'
  | .exit id, _, w => ∃ v w', (Instr.endRound l (some (.exit id))).run P w = .ok v w' ∧ R (.returned v) w'
  | .panic ch, a, w => a.defers = [] ∧ R (.panicked ch) w

theorem round_of_cwp {P : Program} {l : Nat} {f : FuncId} {fn : Func} {tmps : Array Value} {asg body : Code} {w : World} {R : Ending → World → Prop}
    (hf : P.funcs[f]? = some fn)
    (h : ∀ b : Frame, b.roundOf = some l → b.fn = f → cwp P b asg (CEx.andThen (fun a₁ w₁ => ∃ w₂, (Instr.beginRound l).run P w₁ = .ok () w₂ ∧ cwp P b body (roundEnd P l R) a₁ w₂) (fun _ _ _ => False))
      { tmps := tmps, defers := [] } w) : Round P l f tmps asg body w R := by
  intro c cs
  let b : Frame := { (default : Frame) with fn := f, kind := .normal, roundOf := some l }
  have hb0 : Frame.round l f tmps asg body .normal = b.atR { tmps := tmps, defers := [] } [.code asg, .beginRound, .code body] := by
    simp [Frame.round, Frame.atR, b]
  obtain ⟨e, a₁, w₁, hq, harr⟩ := h b rfl rfl [.beginRound, .code body] (c :: cs)
  rw [← hb0] at harr
  by_cases he : e = .normal
  · subst he
    obtain ⟨w₂, hbr, hbody⟩ := hq
    have s1 := Steps.one (stepR_beginRound (P := P) (b := b) (a := a₁) (k := [.code body]) (cs := c :: cs) rfl hbr)
    obtain ⟨e₂, a₂, w₃, hq₂, harr₂⟩ := hbody [] (c :: cs)
    cases e₂ with
    | normal =>
      obtain ⟨v, w₄, hend, hR⟩ := hq₂
      exact ⟨.returned v, w₄, hR, (Steps.trans harr s1).trans (Steps.trans harr₂ (.one (stepR_round_end rfl rfl hend)))⟩
    | ret =>
      obtain ⟨v, w₄, hend, hR⟩ := hq₂
      obtain ⟨k₁, hs⟩ := harr₂
      exact ⟨.returned v, w₄, hR, (Steps.trans harr s1).trans (Steps.trans hs (.one (stepR_round_ret rfl rfl hend)))⟩
    | exit id =>
      obtain ⟨v, w₄, hend, hR⟩ := hq₂
      obtain ⟨k₁, hk, hs⟩ := harr₂.2 rfl
      exact ⟨.returned v, w₄, hR, (Steps.trans harr s1).trans (Steps.trans hs (.one (stepR_round_exit rfl rfl hk hend)))⟩
    | panic ch =>
      obtain ⟨hd, hR⟩ := hq₂
      obtain ⟨k₁, hs⟩ := harr₂
      refine ⟨.panicked ch, w₃, hR, (Steps.trans harr s1).trans (Steps.trans hs (.one ?_))⟩
      exact step_lone_go (by simp [stepG, unwind, Frame.catches, Frame.atR, hd, b, hf])
  · cases e <;> first | exact absurd rfl he | exact hq.elim

end Go.AE

/- The abstract walk: values as trees, a store of the mutable objects, an environment of the known slots; how they stand for a frame and a world; the rules for code. -/
namespace Go.AE

/-- Who may append to a slice in place: it is nil; its capacity is its length; nobody; the owner of block b. -/
inductive Own where
  | nil
  | clip
  | fro
  | own (b : Nat)
  deriving DecidableEq

inductive AV where
  | any
  | bool (b : Bool)
  | int (k : IntKind) (n : Int)
  | str (s : List UInt8)
  | pnil
  | ptr (b o : Nat)
  | fptr (cells : List AV) (off : Nat)
  | slc (sz : Nat) (xs : List AV) (own : Own)
  | mslc (b n : Nat)
  | mnil
  | map (b : Nat)
  | func (f : FuncId) (first cap : List AV)
  | conc (v : Value)
  | fnil
  | iface (t : TypeId) (v : AV)
  | inil
  | agg (cells : List AV)
  | tup (vs : List AV)

abbrev Prot := Nat → Nat → Prop

def flat (vs : List Value) : List Value := vs.flatMap fun v => v.cells.toList

def CellsAt (w : World) (p : Prot) (b o : Nat) (vs : List Value) : Prop := ∀ i v, vs[i]? = some v → p b (o + i) ∧ w.cell? ⟨b, o + i, none⟩ = some v

mutual
inductive Rel (w : World) (p : Prot) : Value → AV → Prop
  | any (v : Value) : Rel w p v .any
  | bool (b : Bool) : Rel w p (.bool b) (.bool b)
  | int (k : IntKind) (n : Int) : Rel w p (.int k n) (.int k n)
  | str (b : ByteArray) (s : List UInt8) (h : b.data.toList = s) : Rel w p (.string b) (.str s)
  | pnil : Rel w p (.pointer none) .pnil
  | ptr (b o : Nat) : Rel w p (.pointer (some ⟨b, o, none⟩)) (.ptr b o)
  | fptr (b base o off : Nat) (vs : List Value) (cells : List AV) (ho : o = base + off) (hc : CellsAt w p b base vs) (hr : RelL w p vs cells) :
      Rel w p (.pointer (some ⟨b, o, none⟩)) (.fptr cells off)
  | slcNil (sz : Nat) (own : Own) (h : ∀ b, own ≠ .own b) : Rel w p (.slice none 0 0) (.slc sz [] own)
  | slcZ (a : Addr) (sz : Nat) (own : Own) (h : own = .fro ∨ own = .clip) : Rel w p (.slice (some a) 0 0) (.slc sz [] own)
  | slc (g off n cap sz : Nat) (vs : List Value) (xs : List AV) (own : Own) (hn : own ≠ .nil) (hl : n = xs.length) (hc : CellsAt w p g off (flat vs)) (hr : RelL w p vs xs)
      (hs : ∀ v ∈ vs, v.cells.size = sz) (hm : n ≤ 9223372036854775807) (hk : n ≤ cap) (hcl : own = .clip → cap = n)
      (ho : ∀ b, own = .own b → b = g ∧ off = 0 ∧ ∃ e, w.shape? g = some (e, cap * sz)) : Rel w p (.slice (some ⟨g, off, none⟩) n cap) (.slc sz xs own)
  | mslc (b n cap : Nat) (hm : n ≤ 9223372036854775807) (hk : n ≤ cap) : Rel w p (.slice (some ⟨b, 0, none⟩) n cap) (.mslc b n)
  | mnil : Rel w p (.map none) .mnil
  | map (b : Nat) : Rel w p (.map (some b)) (.map b)
  | func (f : FuncId) (as cs : Array Value) (first cap : List AV) (ha : RelL w p as.toList first) (hc : RelL w p cs.toList cap) : Rel w p (.func (.func f) as cs) (.func f first cap)
  | conc (v : Value) : Rel w p v (.conc v)
  | fnil : Rel w p .nilFunc .fnil
  | iface (t : TypeId) (v : Value) (x : AV) (h : Rel w p v x) : Rel w p (.iface t v) (.iface t x)
  | inil : Rel w p .nilIface .inil
  | agg (cs : Array Value) (xs : List AV) (h : RelL w p cs.toList xs) : Rel w p (.agg cs) (.agg xs)
  | tup (vs : Array Value) (xs : List AV) (h : RelL w p vs.toList xs) : Rel w p (.tuple vs) (.tup xs)
inductive RelL (w : World) (p : Prot) : List Value → List AV → Prop
  | nil : RelL w p [] []
  | cons (v : Value) (x : AV) (vs : List Value) (xs : List AV) (h : Rel w p v x) (t : RelL w p vs xs) : RelL w p (v :: vs) (x :: xs)
end

/-- The later world keeps what is protected. -/
structure Le (w : World) (p : Prot) (w' : World) (p' : Prot) : Prop where
  os : w'.os = w.os
  tape : w'.tape = w.tape
  output : w'.output = w.output
  size : w.heap.size ≤ w'.heap.size
  prot : ∀ b o, p b o → p' b o
  same : ∀ b o, p b o → w'.cell? ⟨b, o, none⟩ = w.cell? ⟨b, o, none⟩
  shape : ∀ b x, w.shape? b = some x → w'.shape? b = some x

theorem Le.refl (w : World) (p : Prot) : Le w p w p := ⟨rfl, rfl, rfl, Nat.le_refl _, fun _ _ h => h, fun _ _ _ => rfl, fun _ _ h => h⟩

theorem Le.trans {w w₁ w₂ : World} {p p₁ p₂ : Prot} (h : Le w p w₁ p₁) (k : Le w₁ p₁ w₂ p₂) : Le w p w₂ p₂ :=
  ⟨k.os.trans h.os, k.tape.trans h.tape, k.output.trans h.output, Nat.le_trans h.size k.size, fun b o hp => k.prot b o (h.prot b o hp),
    fun b o hp => (k.same b o (h.prot b o hp)).trans (h.same b o hp), fun b x hx => k.shape b x (h.shape b x hx)⟩

theorem CellsAt.mono {w w' : World} {p p' : Prot} (hle : Le w p w' p') {b o : Nat} {vs : List Value} (h : CellsAt w p b o vs) : CellsAt w' p' b o vs :=
  fun i v hv => let ⟨h1, h2⟩ := h i v hv; ⟨hle.prot _ _ h1, (hle.same _ _ h1).trans h2⟩

mutual
theorem Rel.mono {w w' : World} {p p' : Prot} (hle : Le w p w' p') {v : Value} {x : AV} (h : Rel w p v x) : Rel w' p' v x := by
  cases h with
  | any v => exact .any v
  | bool b => exact .bool b
  | int k n => exact .int k n
  | str b s h => exact .str b s h
  | pnil => exact .pnil
  | ptr b o => exact .ptr b o
  | fptr b base o off vs cells ho hc hr => exact .fptr b base o off vs cells ho (hc.mono hle) (hr.mono hle)
  | slcNil sz own h => exact .slcNil sz own h
  | slcZ a sz own h => exact .slcZ a sz own h
  | slc g off n cap sz vs xs own hn hl hc hr hs hm hk hcl ho =>
    exact .slc g off n cap sz vs xs own hn hl (hc.mono hle) (hr.mono hle) hs hm hk hcl (fun b hb => let ⟨h1, h2, e, h3⟩ := ho b hb; ⟨h1, h2, e, hle.shape _ _ h3⟩)
  | mslc b n cap hm hk => exact .mslc b n cap hm hk
  | mnil => exact .mnil
  | map b => exact .map b
  | func f as cs first cap ha hc => exact .func f as cs first cap (ha.mono hle) (hc.mono hle)
  | conc v => exact .conc v
  | fnil => exact .fnil
  | iface t v x h => exact .iface t v x (h.mono hle)
  | inil => exact .inil
  | agg cs xs h => exact .agg cs xs (h.mono hle)
  | tup vs xs h => exact .tup vs xs (h.mono hle)
theorem RelL.mono {w w' : World} {p p' : Prot} (hle : Le w p w' p') {vs : List Value} {xs : List AV} (h : RelL w p vs xs) : RelL w' p' vs xs := by
  cases h with
  | nil => exact .nil
  | cons v x vs xs h t => exact .cons v x vs xs (h.mono hle) (t.mono hle)
end

section relL
variable {w : World} {p : Prot}
theorem RelL.length {vs : List Value} {xs : List AV} (h : RelL w p vs xs) : vs.length = xs.length := by
  induction vs generalizing xs with
  | nil => cases h; rfl
  | cons v vs ih => cases h with | cons _ x _ xs h t => simp [ih t]

theorem RelL.get {vs : List Value} {xs : List AV} (h : RelL w p vs xs) {i : Nat} {x : AV} (hx : xs[i]? = some x) : ∃ v, vs[i]? = some v ∧ Rel w p v x := by
  induction vs generalizing xs i with
  | nil => cases h; simp at hx
  | cons v vs ih =>
    cases h with
    | cons _ y _ ys h t =>
      cases i with
      | zero => simp at hx; subst hx; exact ⟨v, rfl, h⟩
      | succ i => simp at hx; obtain ⟨u, h1, h2⟩ := ih t hx; exact ⟨u, by simpa using h1, h2⟩

theorem RelL.append {vs us : List Value} {xs ys : List AV} (h : RelL w p vs xs) (k : RelL w p us ys) : RelL w p (vs ++ us) (xs ++ ys) := by
  induction vs generalizing xs with
  | nil => cases h; exact k
  | cons v vs ih => cases h with | cons _ x _ xs h t => exact .cons _ _ _ _ h (ih t)

theorem RelL.take {vs : List Value} {xs : List AV} (h : RelL w p vs xs) (n : Nat) : RelL w p (vs.take n) (xs.take n) := by
  induction vs generalizing xs n with
  | nil => cases h; simp; exact .nil
  | cons v vs ih =>
    cases h with
    | cons _ x _ xs h t => cases n with
      | zero => exact .nil
      | succ n => exact .cons _ _ _ _ h (ih t n)

theorem RelL.drop {vs : List Value} {xs : List AV} (h : RelL w p vs xs) (n : Nat) : RelL w p (vs.drop n) (xs.drop n) := by
  induction vs generalizing xs n with
  | nil => cases h; simp; exact .nil
  | cons v vs ih =>
    cases h with
    | cons _ x _ xs h t => cases n with
      | zero => exact .cons _ _ _ _ h t
      | succ n => exact ih t n

theorem RelL.set {vs : List Value} {xs : List AV} (h : RelL w p vs xs) (i : Nat) {v : Value} {x : AV} (hv : Rel w p v x) : RelL w p (vs.set i v) (xs.set i x) := by
  induction vs generalizing xs i with
  | nil => cases h; exact .nil
  | cons u vs ih =>
    cases h with
    | cons _ y _ ys h t => cases i with
      | zero => exact .cons _ _ _ _ hv t
      | succ i => exact .cons _ _ _ _ h (ih t i)

theorem RelL.replicate {v : Value} {x : AV} (h : Rel w p v x) (n : Nat) : RelL w p (List.replicate n v) (List.replicate n x) := by
  induction n with
  | zero => exact .nil
  | succ n ih => exact .cons _ _ _ _ h ih
end relL

/-! ### Environments; the store -/

abbrev Env := List (Nat × AV)

def Env.get? : Env → Nat → Option AV
  | [], _ => none
  | (t, v) :: e, n => if Nat.beq t n then some v else Env.get? e n

inductive AObj where
  | box (t : TypeId) (cells : List AV)
  | row (t : TypeId) (sz n : Nat)
  | map (es : List (AV × AV))
  | ranged (es : List (AV × AV)) (it : Nat) (left : List (AV × AV)) (cur : Option (AV × AV))
  | tick (m : Nat)
  | loop (r : Loop) (env : Env)

abbrev Store := Nat → Option AObj

def RelM (w : World) (p : Prot) (mes : List MapEntry) (es : List (AV × AV)) : Prop :=
  RelL w p (mes.map (·.key)) (es.map (·.1)) ∧ RelL w p (mes.map (·.val)) (es.map (·.2))

def ObjOk (w : World) (p : Prot) (b : Nat) : AObj → Prop
  | .box t cs => ∃ vs : Array Value, w.heap[b]? = some (.cells vs t (0, 0)) ∧ RelL w p vs.toList cs ∧ ∀ o, ¬ p b o
  | .row t sz n => ∃ cur : Array Value, w.heap[b]? = some (.cells cur t (0, 0)) ∧ n * sz ≤ cur.size ∧ (∃ cap, cur.size = cap * sz) ∧ ∀ o, p b o ↔ o < n * sz
  | .map es => ∃ mes clock, w.heap[b]? = some (.map mes clock) ∧ RelM w p mes.toList es ∧ (∀ e ∈ mes.toList, e.born < clock) ∧ (mes.toList.map (·.born)).Nodup
  | .ranged es it left cur => ∃ (mes : Array MapEntry) (clock : Nat) (seen : Array Nat), w.heap[b]? = some (.map mes clock) ∧ w.heap[it]? = some (.mapIter (some b) clock seen clock) ∧ RelM w p mes.toList es ∧
      (∀ e ∈ mes.toList, e.born < clock) ∧ (mes.toList.map (·.born)).Nodup ∧ RelM w p (mes.toList.filter fun e => !seen.contains e.born) left ∧
      ∀ k v, cur = some (k, v) → ∃ stamp e, seen.back? = some stamp ∧ mes.find? (·.born == stamp) = some e ∧ Rel w p e.key k ∧ Rel w p e.val v
  | .tick m => ∃ since seen last, w.heap[b]? = some (.mapIter (some m) since seen last)
  | .loop r env => w.heap[b]? = some (.loop r) ∧ ∀ t v, env.get? t = some v → Rel w p (r.tmps.getD t undef) v

structure Wf (w : World) (p : Prot) (s : Store) : Prop where
  obj : ∀ b o, s b = some o → ObjOk w p b o
  lt : ∀ b o, p b o → b < w.heap.size

theorem ObjOk.ranged_move {w w' : World} {p p' : Prot} {b it : Nat} {es left : List (AV × AV)} {cur : Option (AV × AV)} (h : ObjOk w p b (.ranged es it left cur)) (hle : Le w p w' p') (hb : w'.heap[b]? = w.heap[b]?) (hi : w'.heap[it]? = w.heap[it]?) :
    ObjOk w' p' b (.ranged es it left cur) := by
  obtain ⟨mes, clock, seen, h1, h2, h3, h4, h5, h6, h7⟩ := h
  exact ⟨mes, clock, seen, hb.trans h1, hi.trans h2, ⟨h3.1.mono hle, h3.2.mono hle⟩, h4, h5, ⟨h6.1.mono hle, h6.2.mono hle⟩, fun k v hc => let ⟨st, e, a1, a2, a3, a4⟩ := h7 k v hc; ⟨st, e, a1, a2, a3.mono hle, a4.mono hle⟩⟩

/-- A range's iterator is no other object. -/
theorem ObjOk.ranged_ne {w : World} {p : Prot} {b it d : Nat} {es left : List (AV × AV)} {cur : Option (AV × AV)} (h : ObjOk w p b (.ranged es it left cur)) {o : Obj} (hd : w.heap[d]? = some o) (ho : ∀ m a s l, o ≠ .mapIter m a s l) : it ≠ d := by
  obtain ⟨mes, clock, seen, h1, h2, h3⟩ := h
  intro e; subst e; rw [hd] at h2; cases h2; exact ho _ _ _ _ rfl

/-- Nothing but the store's objects has turned, and no more is protected of what is not the store's. -/
structure Kept (s s' : Store) (w : World) (p : Prot) (w' : World) (p' : Prot) : Prop where
  heap : ∀ b, b < w.heap.size → s b = none → w'.heap[b]? = w.heap[b]?
  dom : ∀ b, b < w.heap.size → s b = none → s' b = none
  prot : ∀ b o, b < w.heap.size → s b = none → p' b o → p b o

theorem Kept.refl (s : Store) (w : World) (p : Prot) : Kept s s w p w p := ⟨fun _ _ _ => rfl, fun _ _ h => h, fun _ _ _ _ h => h⟩

theorem Kept.trans {s s₁ s₂ : Store} {w w₁ w₂ : World} {p p₁ p₂ : Prot} (hs : w.heap.size ≤ w₁.heap.size) (h : Kept s s₁ w p w₁ p₁) (k : Kept s₁ s₂ w₁ p₁ w₂ p₂) : Kept s s₂ w p w₂ p₂ :=
  ⟨fun b hb hn => (k.heap b (Nat.lt_of_lt_of_le hb hs) (h.dom b hb hn)).trans (h.heap b hb hn),
   fun b hb hn => k.dom b (Nat.lt_of_lt_of_le hb hs) (h.dom b hb hn),
   fun b o hb hn hp => h.prot b o hb hn (k.prot b o (Nat.lt_of_lt_of_le hb hs) (h.dom b hb hn) hp)⟩


def constAV : Value → Option AV
  | .bool b => some (.bool b)
  | .int k n => some (.int k n)
  | .string s => some (.str s.data.toList)
  | .pointer none => some .pnil
  | .slice none 0 0 => some (.slc 0 [] .nil)
  | .map none => some .mnil
  | .nilFunc => some .fnil
  | .nilIface => some .inil
  | .tuple vs => if vs.isEmpty then some (.tup []) else none
  | _ => none

def ev (env : Env) : Operand → Option AV
  | .tmp t => env.get? t
  | .const v => constAV v
  | .func f => some (.func f [] [])
  | .global _ => none

theorem constAV_rel {w : World} {p : Prot} {v : Value} {x : AV} (h : constAV v = some x) : Rel w p v x := by
  unfold constAV at h
  split at h <;> first | (cases h; done) | (cases h; first | exact .bool _ | exact .int _ _ | exact .str _ _ rfl | exact .pnil | exact .slcNil _ _ (fun _ => by simp) | exact .mnil | exact .fnil | exact .inil) | skip
  rename_i vs
  split at h
  · rename_i he
    cases h
    have : vs = #[] := by simpa using he
    subst this
    exact .tup _ _ .nil
  · cases h

structure St (N B : Nat) (ro : Option Nat) (env : Env) (s : Store) (a : Act) (w : World) (p : Prot) : Prop where
  size : a.tmps.size = N
  env : ∀ t v, env.get? t = some v → Rel w p (a.tmps.getD t undef) v
  wf : Wf w p s
  defs : ∃ ds, a.defers = marksOf ds ∧ ds.Nodup ∧ ∀ d ∈ ds, B ≤ d ∧ w.heap[d]? = some (.deferred (some [])) ∧ s d = none
  round : ∀ l, ro = some l → a.defers = [] ∧ (∃ r, w.heap[l]? = some (.loop r)) ∧ s l = none
  base : B ≤ w.heap.size

theorem St.ev {N B : Nat} {ro : Option Nat} {env : Env} {s : Store} {a : Act} {w : World} {p : Prot} (h : St N B ro env s a w p) {o : Operand} {x : AV} (hx : ev env o = some x) :
    Rel w p (a.eval o) x := by
  cases o with
  | tmp t => exact h.env t x hx
  | const v => exact constAV_rel hx
  | func f => simp [AE.ev] at hx; subst hx; exact .func f #[] #[] [] [] .nil .nil
  | global g => simp [AE.ev] at hx

/-- What a step over the store leaves of a state. -/
theorem St.step {N B : Nat} {ro : Option Nat} {env : Env} {s s' : Store} {a : Act} {w w' : World} {p p' : Prot} (h : St N B ro env s a w p)
    (hle : Le w p w' p') (hk : Kept s s' w p w' p') (hwf : Wf w' p' s') : St N B ro env s' a w' p' := by
  obtain ⟨ds, h1, h2, h3⟩ := h.defs
  refine ⟨h.size, fun t v hv => (h.env t v hv).mono hle, hwf, ⟨ds, h1, h2, fun d hd => ?_⟩, fun l hl => ?_, Nat.le_trans h.base hle.size⟩
  · obtain ⟨hB, hd0, hs⟩ := h3 d hd
    have hlt : d < w.heap.size := (Array.getElem?_eq_some_iff.1 hd0).1
    exact ⟨hB, (hk.heap d hlt hs).trans hd0, hk.dom d hlt hs⟩
  · obtain ⟨hd, ⟨r, hr⟩, hs⟩ := h.round l hl
    have hlt : l < w.heap.size := (Array.getElem?_eq_some_iff.1 hr).1
    exact ⟨hd, ⟨r, (hk.heap l hlt hs).trans hr⟩, hk.dom l hlt hs⟩

theorem St.put {N B : Nat} {ro : Option Nat} {env : Env} {s : Store} {a : Act} {w : World} {p : Prot} (h : St N B ro env s a w p) {d : Nat} (hd : d < N) {v : Value} {x : AV}
    (hv : Rel w p v x) : St N B ro ((d, x) :: env) s (a.put (some d) v) w p := by
  refine ⟨by simp [Act.put, h.size], fun t y hy => ?_, h.wf, h.defs, h.round, h.base⟩
  simp only [Env.get?] at hy
  split at hy
  · rename_i he
    have he' : d = t := Nat.eq_of_beq_eq_true he
    cases hy
    subst he'
    have hd' : d < a.tmps.size := h.size.symm ▸ hd
    simpa [Act.put, Array.getD_eq_getD_getElem?, Array.getElem?_setIfInBounds, hd'] using hv
  · rename_i he
    have he' : d ≠ t := fun e => he (by subst e; simp)
    have := h.env t y hy
    simpa [Act.put, Array.getD_eq_getD_getElem?, Array.getElem?_setIfInBounds, he'] using this

/-! ### Code -/

inductive AEx where
  | normal
  | exit (id : Nat)
  | ret
  | panic (v : AV)

inductive ExRel (w : World) (p : Prot) : CEx → AEx → Prop
  | normal : ExRel w p .normal .normal
  | exit (id : Nat) : ExRel w p (.exit id) (.exit id)
  | ret : ExRel w p .ret .ret
  | panic (v : Value) (x : AV) (h : Rel w p v x) : ExRel w p (.panic [{ v, recovered := false }]) (.panic x)

def Post (N B : Nat) (ro : Option Nat) (s : Store) (w : World) (p : Prot) (Q : AEx → Env → Store → Prop) (e : CEx) (a' : Act) (w' : World) : Prop :=
  ∃ x env' s' p', ExRel w' p' e x ∧ Q x env' s' ∧ St N B ro env' s' a' w' p' ∧ Le w p w' p' ∧ Kept s s' w p w' p'

theorem Post.after {N B : Nat} {ro : Option Nat} {s s₁ : Store} {w w₁ w' : World} {p p₁ : Prot} {Q : AEx → Env → Store → Prop} {e : CEx} {a' : Act}
    (hle : Le w p w₁ p₁) (hk : Kept s s₁ w p w₁ p₁) (h : Post N B ro s₁ w₁ p₁ Q e a' w') : Post N B ro s w p Q e a' w' :=
  let ⟨x, env', s', p', h1, h2, h3, h4, h5⟩ := h
  ⟨x, env', s', p', h1, h2, h3, hle.trans h4, hk.trans hle.size h5⟩

def CW (P : Program) (N : Nat) (c : Code) (Q : AEx → Env → Store → Prop) (env : Env) (s : Store) : Prop :=
  ∀ (b : Frame) (B : Nat) (a : Act) (w : World) (p : Prot), (P.funcs[b.fn]?).isSome = true → St N B b.roundOf env s a w p → cwp P b c (Post N B b.roundOf s w p Q) a w

section cw
variable {P : Program} {N : Nat} {Q : AEx → Env → Store → Prop} {env : Env} {s : Store}

theorem CW.mono {c : Code} {Q' : AEx → Env → Store → Prop} (h : CW P N c Q env s) (hq : ∀ e env s, Q e env s → Q' e env s) : CW P N c Q' env s :=
  fun b B a w p hfn hst => cwp_mono (h b B a w p hfn hst) fun _ _ _ ⟨x, env', s', p', h1, h2, h3⟩ => ⟨x, env', s', p', h1, hq _ _ _ h2, h3⟩

theorem Post.here {B : Nat} {ro : Option Nat} {a : Act} {w : World} {p : Prot} {e : CEx} {x : AEx} (hx : ExRel w p e x) (hq : Q x env s) (h : St N B ro env s a w p) :
    Post N B ro s w p Q e a w := ⟨x, env, s, p, hx, hq, h, .refl w p, .refl s w p⟩

theorem CW.skip (h : Q .normal env s) : CW P N .skip Q env s := fun _ _ _ _ _ _ hst => cwp_skip (.here .normal h hst)
theorem CW.ret (h : Q .ret env s) : CW P N .ret Q env s := fun _ _ _ _ _ _ hst => cwp_ret (.here .ret h hst)
theorem CW.exit {id : Nat} (h : Q (.exit id) env s) : CW P N (.exit id) Q env s := fun _ _ _ _ _ _ hst => cwp_exit (.here (.exit id) h hst)

def AEx.andThen (next : Env → Store → Prop) (Q : AEx → Env → Store → Prop) : AEx → Env → Store → Prop
  | .normal, e, s => next e s
  | x, e, s => Q x e s

theorem CW.seq {x y : Code} (h : CW P N x (AEx.andThen (CW P N y Q) Q) env s) : CW P N (.seq x y) Q env s := by
  intro b B a w p hfn hst
  refine cwp_seq (cwp_mono (h b B a w p hfn hst) ?_)
  rintro e a₁ w₁ ⟨x₁, env₁, s₁, p₁, hx, hq, hst₁, hle, hk⟩
  cases hx with
  | normal => exact cwp_mono (hq b B a₁ w₁ p₁ hfn hst₁) fun _ _ _ h => h.after hle hk
  | exit id => exact ⟨_, env₁, s₁, p₁, .exit id, hq, hst₁, hle, hk⟩
  | ret => exact ⟨_, env₁, s₁, p₁, .ret, hq, hst₁, hle, hk⟩
  | panic v x hv => exact ⟨_, env₁, s₁, p₁, .panic v x hv, hq, hst₁, hle, hk⟩

theorem rel_bool {w : World} {p : Prot} {v : Value} {t : Bool} (h : Rel w p v (.bool t)) : v = .bool t := by cases h; rfl

theorem CW.cond {c : Operand} {x y : Code} {t : Bool} (hc : ev env c = some (.bool t)) (ht : t = true → CW P N x Q env s) (hf : t = false → CW P N y Q env s) :
    CW P N (.cond c x y) Q env s := by
  intro b B a w p hfn hst
  refine cwp_cond (rel_bool (hst.ev hc)) ?_
  cases t
  · exact hf rfl b B a w p hfn hst
  · exact ht rfl b B a w p hfn hst

theorem CW.condT {c : Operand} {x y : Code} (hc : ev env c = some (.bool true)) (h : CW P N x Q env s) : CW P N (.cond c x y) Q env s := CW.cond hc (fun _ => h) (by simp)
theorem CW.condF {c : Operand} {x y : Code} (hc : ev env c = some (.bool false)) (h : CW P N y Q env s) : CW P N (.cond c x y) Q env s := CW.cond hc (by simp) (fun _ => h)

def AEx.inBlock (id : Nat) (Q : AEx → Env → Store → Prop) : AEx → Env → Store → Prop
  | .exit id', a, w => if Nat.beq id' id then Q .normal a w else Q (.exit id') a w
  | e, a, w => Q e a w

theorem CW.block {id : Nat} {c : Code} (h : CW P N c (AEx.inBlock id Q) env s) : CW P N (.block id c) Q env s := by
  intro b B a w p hfn hst
  refine cwp_block (cwp_mono (h b B a w p hfn hst) ?_)
  rintro e a₁ w₁ ⟨x₁, env₁, s₁, p₁, hx, hq, hst₁, hle, hk⟩
  cases hx with
  | normal => exact ⟨_, env₁, s₁, p₁, .normal, hq, hst₁, hle, hk⟩
  | exit id' =>
    by_cases hid : id' = id
    · simp only [AEx.inBlock, hid, Nat.beq_refl, if_true] at hq
      simp only [CEx.inBlock, hid, if_true]
      exact ⟨_, env₁, s₁, p₁, .normal, hq, hst₁, hle, hk⟩
    · have hb : Nat.beq id' id = false := by
        cases hbq : Nat.beq id' id with
        | false => rfl
        | true => exact absurd (Nat.eq_of_beq_eq_true hbq) hid
      simp only [AEx.inBlock, hb, if_false, Bool.false_eq_true] at hq
      simp only [CEx.inBlock, hid, if_false]
      exact ⟨_, env₁, s₁, p₁, .exit id', hq, hst₁, hle, hk⟩
  | ret => exact ⟨_, env₁, s₁, p₁, .ret, hq, hst₁, hle, hk⟩
  | panic v x hv => exact ⟨_, env₁, s₁, p₁, .panic v x hv, hq, hst₁, hle, hk⟩

/-- A value that stands for all that another one stands for. -/
def AVle (x y : AV) : Prop := ∀ w p v, Rel w p v x → Rel w p v y
theorem AVle.refl (x : AV) : AVle x x := fun _ _ _ h => h

/-- What an environment knows of some slots. -/
def Env.Sub : Env → Env → Prop
  | [], _ => True
  | (t, v) :: e, env => (∃ v', env.get? t = some v' ∧ AVle v' v) ∧ Env.Sub e env

theorem Env.Sub.get {e env : Env} (h : Env.Sub e env) {t : Nat} {v : AV} (hv : e.get? t = some v) : ∃ v', env.get? t = some v' ∧ AVle v' v := by
  induction e with
  | nil => simp [Env.get?] at hv
  | cons x e ih =>
    obtain ⟨t', v'⟩ := x
    simp only [Env.get?] at hv
    split at hv
    · rename_i he
      have he' : t' = t := Nat.eq_of_beq_eq_true he
      cases hv; subst he'
      exact h.1
    · exact ih h.2 hv

theorem St.sub {B : Nat} {ro : Option Nat} {e : Env} {a : Act} {w : World} {p : Prot} (hs : Env.Sub e env) (h : St N B ro env s a w p) : St N B ro e s a w p :=
  ⟨h.size, fun t v hv => let ⟨v', h1, h2⟩ := hs.get hv; h2 _ _ _ (h.env t v' h1), h.wf, h.defs, h.round, h.base⟩

theorem CW.sub {c : Code} (e : Env) (hs : Env.Sub e env) (h : CW P N c Q e s) : CW P N c Q env s :=
  fun b B a w p hfn hst => h b B a w p hfn (hst.sub hs)

/-- Part of a store. -/
def Store.Sub (s' s : Store) : Prop := ∀ b, s' b = s b ∨ s' b = none

theorem Wf.sub {s' : Store} {w : World} {p : Prot} (hs : Store.Sub s' s) (h : Wf w p s) : Wf w p s' :=
  ⟨fun b o hb => h.obj b o (by rcases hs b with e | e <;> simp_all), h.lt⟩

theorem Store.Sub.none {s' : Store} (hs : Store.Sub s' s) {b : Nat} (h : s b = none) : s' b = none := by rcases hs b with e | e <;> simp_all

theorem Kept.subL {s' s'' : Store} (hs : Store.Sub s' s) {w w' : World} {p p' : Prot} (h : Kept s' s'' w p w' p') : Kept s s'' w p w' p' :=
  ⟨fun b hb hn => h.heap b hb (hs.none hn), fun b hb hn => h.dom b hb (hs.none hn), fun b o hb hn => h.prot b o hb (hs.none hn)⟩

theorem St.subS {B : Nat} {ro : Option Nat} {s' : Store} {a : Act} {w : World} {p : Prot} (hs : Store.Sub s' s) (h : St N B ro env s a w p) : St N B ro env s' a w p := by
  obtain ⟨ds, h1, h2, h3⟩ := h.defs
  exact ⟨h.size, h.env, h.wf.sub hs, ⟨ds, h1, h2, fun d hd => let ⟨a, b, c⟩ := h3 d hd; ⟨a, b, hs.none c⟩⟩, fun l hl => let ⟨a, b, c⟩ := h.round l hl; ⟨a, b, hs.none c⟩, h.base⟩

/-- Objects that nobody needs are forgotten. -/
theorem CW.drop {c : Code} (s' : Store) (hs : Store.Sub s' s) (h : CW P N c Q env s') : CW P N c Q env s :=
  fun b B a w p hfn hst => cwp_mono (h b B a w p hfn (hst.subS hs)) fun _ _ _ ⟨x, env', s'', p', h1, h2, h3, h4, h5⟩ => ⟨x, env', s'', p', h1, h2, h3, h4, h5.subL hs⟩

/-- A loop: σ is what the rounds hand on. -/
theorem CW.loop {σ : Type} {c : Code} (E : σ → Env) (S : σ → Store) (I : σ → Prop) (μ : σ → Nat) (x₀ : σ) (hI : I x₀) (hE : Env.Sub (E x₀) env) (hS : Store.Sub (S x₀) s)
    (round : ∀ x, I x → CW P N c (AEx.andThen (fun env' s' => ∃ y, I y ∧ Env.Sub (E y) env' ∧ Store.Sub (S y) s' ∧ μ y < μ x) Q) (E x) (S x)) : CW P N (.loop c) Q env s := by
  refine CW.sub _ hE (CW.drop _ hS ?_)
  intro b B a w p hfn hst
  have key : ∀ n x a w p, μ x = n → I x → St N B b.roundOf (E x) (S x) a w p → ∀ k cs, ∃ e a' w', Post N B b.roundOf (S x) w p Q e a' w' ∧
      ArrR P (lone (b.atR a (.code c :: .inLoop c :: k)) cs w) b k cs e a' w' := by
    intro n
    induction n using Nat.strongRecOn with
    | _ n ih =>
      intro x a w p hn hx hst k cs
      obtain ⟨e, a₁, w₁, ⟨x₁, env₁, s₁, p₁, hxr, hq, hst₁, hle, hk⟩, harr⟩ := round x hx b B a w p hfn hst (.inLoop c :: k) cs
      by_cases he : e = .normal
      · subst he
        cases hxr
        obtain ⟨y, hy, hsub, hsubS, hlt⟩ := hq
        obtain ⟨e₂, a₂, w₂, hq₂, harr₂⟩ := ih (μ y) (hn ▸ hlt) y a₁ w₁ p₁ rfl hy ((hst₁.sub hsub).subS hsubS) k cs
        refine ⟨e₂, a₂, w₂, Post.after hle hk ?_, .of_steps (Steps.trans harr (.one stepR_inLoop)) harr₂⟩
        obtain ⟨x', env', s'', p', h1, h2, h3, h4, h5⟩ := hq₂
        exact ⟨x', env', s'', p', h1, h2, h3, h4, h5.subL hsubS⟩
      · have hq' : Post N B b.roundOf (S x) w p Q e a₁ w₁ := by
          refine ⟨x₁, env₁, s₁, p₁, hxr, ?_, hst₁, hle, hk⟩
          cases hxr <;> first | exact absurd rfl he | exact hq
        exact ⟨e, a₁, w₁, hq', ArrR.pass_code (c := c) (.inLoop c) rfl he harr⟩
  intro k cs
  obtain ⟨e, a', w', hq, harr⟩ := key _ x₀ a w p rfl hI hst k cs
  exact ⟨e, a', w', hq, .of_steps (.one stepR_loop) harr⟩
end cw
end Go.AE

/- The abstract walk: regions of operations, operation by operation; what new blocks do to the state. -/
namespace Go.AE

/-- One operation: what it leaves as its value (K) or panics with (X). -/
def OW (P : Program) (N : Nat) (o : Oper) (env : Env) (s : Store) (K X : AV → Store → Prop) : Prop :=
  noDefer o = true ∧ ∀ ro B a w p, St N B ro env s a w p → ResDoes P ((execOp a.eval o).run P w) fun e w' => ∃ s' p', Le w p w' p' ∧ Kept s s' w p w' p' ∧ Wf w' p' s' ∧
    match e with
    | .returned v => ∃ x, K x s' ∧ Rel w' p' v x
    | .panicked ch => ∃ v x, ch = [{ v, recovered := false }] ∧ X x s' ∧ Rel w' p' v x
    | .outgrown => False

theorem OW.mono {P : Program} {N : Nat} {o : Oper} {env : Env} {s : Store} {K X K' X' : AV → Store → Prop} (h : OW P N o env s K X)
    (hk : ∀ x s, K x s → K' x s) (hx : ∀ x s, X x s → X' x s) : OW P N o env s K' X' :=
  ⟨h.1, fun ro B a w p hst => (h.2 ro B a w p hst).mono fun e w' ⟨s', p', h1, h2, h3, h4⟩ => ⟨s', p', h1, h2, h3, by
    cases e with
    | returned v => obtain ⟨x, hx, hr⟩ := h4; exact ⟨x, hk _ _ hx, hr⟩
    | panicked ch => obtain ⟨v, x, hc, hX, hr⟩ := h4; exact ⟨v, x, hc, hx _ _ hX, hr⟩
    | outgrown => exact h4⟩⟩

/-- Is an operation with this guard wanted? (none: it is not known.) -/
def guardOf (ops : Array Oper) (env : Env) (o : Oper) : Option Bool :=
  match o.guard with
  | none => some true
  | some (j, want) =>
    match (ops[j]?).bind (·.dst) with
    | none => some false
    | some d => match env.get? d with
      | some (.bool b) => some (match want with | true => b | false => !b)
      | some (.tup []) => some false
      | _ => none

theorem rel_tup_nil {w : World} {p : Prot} {v : Value} (h : Rel w p v (.tup [])) : v = .tuple #[] := by
  cases h with
  | tup vs _ h => have := h.length; simp at this; rw [this]

theorem guardOf_ok {N B : Nat} {ro : Option Nat} {env : Env} {s : Store} {a : Act} {w : World} {p : Prot} (hst : St N B ro env s a w p) {ops : Array Oper} {o : Oper} {g : Bool}
    (h : guardOf ops env o = some g) : Region.wanted o (yielded ops a.tmps) = g := by
  unfold guardOf at h
  unfold Region.wanted
  split at h
  · rename_i hg; simp only [hg]; cases h; rfl
  · rename_i j want hg
    simp only [hg]
    split at h
    · rename_i hd
      cases h
      simp [yielded, hd]
    · rename_i d hd
      split at h
      · rename_i b hb
        have hr := hst.env d _ hb
        have hv := rel_bool hr
        cases h
        have hy : yielded ops a.tmps j = some b := by
          unfold yielded
          have : a.tmps[d]? = some (.bool b) := by
            rw [Array.getD_eq_getD_getElem?] at hv
            cases hx : a.tmps[d]? with
            | none => rw [hx] at hv; simp [undef] at hv
            | some v => rw [hx] at hv; simpa using hv
          simp [hd, this]
        rw [hy]; cases want <;> cases b <;> rfl
      · rename_i hb
        cases h
        have hr := hst.env d _ hb
        have hv : a.tmps.getD d undef = .tuple #[] := by
          generalize hvv : a.tmps.getD d undef = v at hr
          exact rel_tup_nil hr
        have hy : yielded ops a.tmps j = none := by
          unfold yielded
          rw [Array.getD_eq_getD_getElem?] at hv
          simp only [hd, Option.bind_some]
          cases hx : a.tmps[d]? with
          | none => rfl
          | some v => rw [hx] at hv; simp at hv; subst hv; rfl
        rw [hy]; rfl
      · cases h

/-- A region's operations from place to place. -/
def RW (P : Program) (N : Nat) (ops : Array Oper) (l : List Nat) (Q : AEx → Env → Store → Prop) (env : Env) (s : Store) : Prop :=
  ∀ ro B a w p, St N B ro env s a w p → cops P ops (Post N B ro s w p Q) l a w

section rw
variable {P : Program} {N : Nat} {ops : Array Oper} {Q : AEx → Env → Store → Prop} {env : Env} {s : Store}

theorem CW.region {id : Nat} (h : RW P N ops (List.range ops.size) Q env s) : CW P N (.region id ops false) Q env s :=
  fun b B a w p _ hst => cwp_region (h b.roundOf B a w p hst)

theorem RW.nil (h : Q .normal env s) : RW P N ops [] Q env s := fun _ _ _ _ _ hst => .here .normal h hst

theorem cops_mono {Q Q' : CEx → Act → World → Prop} (hq : ∀ e a w, Q e a w → Q' e a w) : ∀ (l : List Nat) (a : Act) (w : World), cops P ops Q l a w → cops P ops Q' l a w := by
  intro l
  induction l with
  | nil => exact fun a w h => hq _ _ _ h
  | cons i rest ih =>
    intro a w h
    simp only [cops] at h ⊢
    split at h
    · rename_i ho; exact ih _ _ h
    · rename_i o ho
      split at h
      · rename_i hw
        rw [if_pos hw]
        exact ⟨h.1, h.2.mono fun e w' he => by cases e <;> first | exact ih _ _ he | exact hq _ _ _ he | exact he⟩
      · rename_i hw
        rw [if_neg hw]
        exact ih _ _ h

theorem RW.after {l : List Nat} {s₁ : Store} {ro : Option Nat} {B : Nat} {a : Act} {w w₁ : World} {p p₁ : Prot} {e₁ : Env}
    (hle : Le w p w₁ p₁) (hk : Kept s s₁ w p w₁ p₁) (h : RW P N ops l Q e₁ s₁) (hst : St N B ro e₁ s₁ a w₁ p₁) : cops P ops (Post N B ro s w p Q) l a w₁ :=
  cops_mono (fun _ _ _ q => q.after hle hk) l a w₁ (h ro B a w₁ p₁ hst)

theorem RW.op {i : Nat} {l : List Nat} {o : Oper} {d : Nat} {K X : AV → Store → Prop} (ho : ops[i]? = some o) (hg : guardOf ops env o = some true) (hd : o.dst = some d)
    (hN : Nat.blt d N = true) (h : OW P N o env s K X) (hk : ∀ x s', K x s' → RW P N ops l Q ((d, x) :: env) s') (hx : ∀ x s', X x s' → Q (.panic x) env s') :
    RW P N ops (i :: l) Q env s := by
  intro ro B a w p hst
  have hdN : d < N := by simpa [Nat.blt_eq] using hN
  simp only [cops, ho, guardOf_ok hst hg, if_true]
  refine ⟨h.1, (h.2 ro B a w p hst).mono ?_⟩
  rintro e w' ⟨s', p', hle, hkk, hwf, he⟩
  cases e with
  | returned v =>
    obtain ⟨x, hK, hr⟩ := he
    rw [hd]
    exact RW.after hle hkk (hk x s' hK) ((hst.step hle hkk hwf).put hdN hr)
  | panicked ch =>
    obtain ⟨v, x, rfl, hX, hr⟩ := he
    exact ⟨.panic x, env, s', p', .panic v x hr, hx x s' hX, hst.step hle hkk hwf, hle, hkk⟩
  | outgrown => exact he

theorem RW.opN {i : Nat} {l : List Nat} {o : Oper} {K X : AV → Store → Prop} (ho : ops[i]? = some o) (hg : guardOf ops env o = some true) (hd : o.dst = none)
    (h : OW P N o env s K X) (hk : ∀ x s', K x s' → RW P N ops l Q env s') (hx : ∀ x s', X x s' → Q (.panic x) env s') :
    RW P N ops (i :: l) Q env s := by
  intro ro B a w p hst
  simp only [cops, ho, guardOf_ok hst hg, if_true]
  refine ⟨h.1, (h.2 ro B a w p hst).mono ?_⟩
  rintro e w' ⟨s', p', hle, hkk, hwf, he⟩
  cases e with
  | returned v =>
    obtain ⟨x, hK, hr⟩ := he
    rw [hd]
    exact RW.after hle hkk (hk x s' hK) (hst.step hle hkk hwf)
  | panicked ch =>
    obtain ⟨v, x, rfl, hX, hr⟩ := he
    exact ⟨.panic x, env, s', p', .panic v x hr, hx x s' hX, hst.step hle hkk hwf, hle, hkk⟩
  | outgrown => exact he

theorem rel_undef {w : World} {p : Prot} : Rel w p undef (.tup []) := .tup #[] [] .nil

theorem RW.skip {i : Nat} {l : List Nat} {o : Oper} {d : Nat} (ho : ops[i]? = some o) (hg : guardOf ops env o = some false) (hd : o.dst = some d) (hN : Nat.blt d N = true)
    (h : RW P N ops l Q ((d, .tup []) :: env) s) : RW P N ops (i :: l) Q env s := by
  intro ro B a w p hst
  have hdN : d < N := by simpa [Nat.blt_eq] using hN
  simp only [cops, ho, guardOf_ok hst hg, if_false, Bool.false_eq_true, hd]
  exact h ro B _ w p (hst.put hdN rel_undef)

theorem RW.skipN {i : Nat} {l : List Nat} {o : Oper} (ho : ops[i]? = some o) (hg : guardOf ops env o = some false) (hd : o.dst = none)
    (h : RW P N ops l Q env s) : RW P N ops (i :: l) Q env s := by
  intro ro B a w p hst
  simp only [cops, ho, guardOf_ok hst hg, if_false, Bool.false_eq_true, hd]
  exact h ro B _ w p hst
end rw

/-! ### New blocks -/

/-- Whatever object: every store stays well formed over a world that keeps all old blocks. -/
theorem Wf.grow {w w' : World} {p p' : Prot} {s : Store} (hle : Le w p w' p') (hh : ∀ b, b < w.heap.size → w'.heap[b]? = w.heap[b]?)
    (hp : ∀ b o, b < w.heap.size → p' b o → p b o) (hlt : ∀ b o, p' b o → b < w'.heap.size) (h : Wf w p s) : Wf w' p' s := by
  refine ⟨fun b o hb => ?_, hlt⟩
  have ho := h.obj b o hb
  cases o with
  | box t cs =>
    obtain ⟨vs, h1, h2, h3⟩ := ho
    have hlt' : b < w.heap.size := (Array.getElem?_eq_some_iff.1 h1).1
    exact ⟨vs, (hh b hlt').trans h1, h2.mono hle, fun o hp' => h3 o (hp b o hlt' hp')⟩
  | row t sz n =>
    obtain ⟨cur, h1, h2, h3, h4⟩ := ho
    have hlt' : b < w.heap.size := (Array.getElem?_eq_some_iff.1 h1).1
    exact ⟨cur, (hh b hlt').trans h1, h2, h3, fun o => ⟨fun hp' => (h4 o).1 (hp b o hlt' hp'), fun hn => hle.prot _ _ ((h4 o).2 hn)⟩⟩
  | map es =>
    obtain ⟨mes, clock, h1, h2, h3, h4⟩ := ho
    have hlt' : b < w.heap.size := (Array.getElem?_eq_some_iff.1 h1).1
    exact ⟨mes, clock, (hh b hlt').trans h1, ⟨h2.1.mono hle, h2.2.mono hle⟩, h3, h4⟩
  | ranged es it left cur =>
    obtain ⟨mes, clock, seen, h1, h2, -⟩ := id ho
    exact ho.ranged_move hle (hh b (Array.getElem?_eq_some_iff.1 h1).1) (hh it (Array.getElem?_eq_some_iff.1 h2).1)
  | tick m => obtain ⟨a1, a2, a3, h1⟩ := ho; exact ⟨a1, a2, a3, (hh b (Array.getElem?_eq_some_iff.1 h1).1).trans h1⟩
  | loop r env => exact ⟨(hh b (Array.getElem?_eq_some_iff.1 ho.1).1).trans ho.1, fun t v h => (ho.2 t v h).mono hle⟩

theorem heap_alloc_lt (w : World) (o : Obj) (b : Nat) (h : b < w.heap.size) : (w.alloc o).heap[b]? = w.heap[b]? := by
  show (w.heap.push o)[b]? = _
  rw [Array.getElem?_push, if_neg (by omega)]

theorem heap_alloc_here (w : World) (o : Obj) : (w.alloc o).heap[w.heap.size]? = some o := by
  show (w.heap.push o)[w.heap.size]? = _
  rw [Array.getElem?_push, if_pos rfl]

theorem shape_of_heap {w w' : World} {b : Nat} (h : w'.heap[b]? = w.heap[b]?) : w'.shape? b = w.shape? b := by simp [World.shape?, h]
theorem cell_of_heap {w w' : World} {b o : Nat} (h : w'.heap[b]? = w.heap[b]?) : w'.cell? ⟨b, o, none⟩ = w.cell? ⟨b, o, none⟩ := by simp [World.cell?, h]

theorem shape_lt {w : World} {b : Nat} {x : TypeId × Nat} (h : w.shape? b = some x) : b < w.heap.size := by
  unfold World.shape? at h
  split at h
  · rename_i hh; exact (Array.getElem?_eq_some_iff.1 hh).1
  · cases h

theorem Le.of_heap {w w' : World} {p p' : Prot} (ho : w'.os = w.os) (ht : w'.tape = w.tape) (hu : w'.output = w.output) (hs : w.heap.size ≤ w'.heap.size)
    (hp : ∀ b o, p b o → p' b o) (hlt : ∀ b o, p b o → b < w.heap.size) (hh : ∀ b, b < w.heap.size → w'.heap[b]? = w.heap[b]?) : Le w p w' p' :=
  ⟨ho, ht, hu, hs, hp, fun b o hb => cell_of_heap (hh b (hlt b o hb)), fun b x hx => by rw [shape_of_heap (hh b (shape_lt hx))]; exact hx⟩

/-- A new block, all of it protected (it is never written again) or none of it. -/
def Prot.also (p : Prot) (b : Nat) (c : Prop) : Prot := fun b' o => p b' o ∨ (b' = b ∧ c)

section alloc
variable {w : World} {p : Prot} {s : Store}
theorem alloc_le (hlt : ∀ b o, p b o → b < w.heap.size) (o : Obj) (c : Prop) : Le w p (w.alloc o) (p.also w.heap.size c) :=
  Le.of_heap rfl rfl rfl (by simp) (fun _ _ h => .inl h) hlt (fun b hb => heap_alloc_lt w o b hb)

theorem alloc_wf (h : Wf w p s) (o : Obj) (c : Prop) : Wf (w.alloc o) (p.also w.heap.size c) s :=
  h.grow (alloc_le h.lt o c) (fun b hb => heap_alloc_lt w o b hb) (fun b o hb hp => by rcases hp with hp | ⟨rfl, _⟩; exact hp; omega)
    (fun b o hp => by rcases hp with hp | ⟨rfl, _⟩; have := h.lt b o hp; simp; omega; simp)

theorem alloc_kept (o : Obj) (c : Prop) : Kept s s w p (w.alloc o) (p.also w.heap.size c) :=
  ⟨fun b hb _ => heap_alloc_lt w o b hb, fun _ _ h => h, fun b o hb _ hp => by rcases hp with hp | ⟨rfl, _⟩; exact hp; omega⟩

theorem alloc_cells (vs : List Value) (t : TypeId) : CellsAt (w.alloc (.cells vs.toArray t)) (p.also w.heap.size True) w.heap.size 0 vs := by
  intro i v hv
  refine ⟨.inr ⟨rfl, trivial⟩, ?_⟩
  rw [Nat.zero_add]
  simp only [World.cell?, heap_alloc_here, Option.isSome_none, Bool.false_eq_true, if_false]
  simpa using hv

/-- A draw changes nothing that is looked at. -/
theorem drew_le : Le w p w.drew p := ⟨rfl, rfl, rfl, Nat.le_refl _, fun _ _ h => h, fun _ _ _ => rfl, fun _ _ h => h⟩
theorem drew_wf (h : Wf w p s) : Wf w.drew p s := h.grow drew_le (fun _ _ => rfl) (fun _ _ _ h => h) h.lt
theorem drew_kept : Kept s s w p w.drew p := ⟨fun _ _ _ => rfl, fun _ _ h => h, fun _ _ _ _ h => h⟩
end alloc

end Go.AE

/- The abstract walk: the evaluator of the operations that only compute, and that it is right. -/
namespace Go.AE

/-! ### What is known of types -/

inductive TD where
  | bool
  | int (k : IntKind)
  | str
  | ptr (e : TypeId)
  | slc (e : TypeId)
  | map (k e : TypeId)
  | struct (fs : List (Nat × TypeId))
  | iface (bare : Bool)
  | func
  | other

structure TI where
  td : TD
  size : Nat
  bytes : Nat
  zero : Value

def tdOf : TypeDesc → TD
  | .bool => .bool
  | .int k => .int k
  | .string => .str
  | .pointer e => .ptr e
  | .slice e => .slc e
  | .map k e => .map k e
  | .struct fs => .struct (fs.toList.map fun f => (f.offset, f.type))
  | .interface ms => .iface ms.isEmpty
  | .func .. => .func
  | _ => .other

abbrev Tys := List (Nat × TI)

def Tys.get? : Tys → Nat → Option TI
  | [], _ => none
  | (t, v) :: e, n => if Nat.beq t n then some v else Tys.get? e n

def tiOf (P : Program) (t : TypeId) : Option TI :=
  match P.info? t, P.underlying t with
  | some i, some d => match i.zero with
    | some z => some { td := tdOf d, size := i.size, bytes := i.bytes, zero := z }
    | none => none
  | _, _ => none

def TysOk (P : Program) (Γ : Tys) : Prop := ∀ t i, Γ.get? t = some i → tiOf P t = some i

theorem tysOk_of (P : Program) (Γ : Tys) (h : Γ.map (fun x => tiOf P x.1) = Γ.map (fun x => some x.2)) : TysOk P Γ := by
  induction Γ with
  | nil => intro t i h; simp [Tys.get?] at h
  | cons x Γ ih =>
    obtain ⟨t', i'⟩ := x
    simp only [List.map_cons, List.cons.injEq] at h
    intro t i hg
    simp only [Tys.get?] at hg
    split at hg
    · rename_i he
      have := Nat.eq_of_beq_eq_true he
      subst this; cases hg; exact h.1
    · exact ih h.2 t i hg

theorem TysOk.parts {P : Program} {Γ : Tys} (h : TysOk P Γ) {t : TypeId} {i : TI} (hi : Γ.get? t = some i) :
    ∃ info d, P.info? t = some info ∧ P.underlying t = some d ∧ tdOf d = i.td ∧ info.size = i.size ∧ info.bytes = i.bytes ∧ info.zero = some i.zero := by
  have := h t i hi
  unfold tiOf at this
  split at this
  · rename_i info d h1 h2
    split at this
    · rename_i z hz
      cases this
      exact ⟨info, d, h1, h2, rfl, rfl, rfl, hz⟩
    · cases this
  · cases this

/-! ### Cells of values -/

def cellsOf : AV → Option (List AV)
  | .agg cs => some cs
  | .any => none
  | .conc (.func f a c) => some [.conc (.func f a c)]
  | .conc _ => none
  | .tup _ => none
  | v => some [v]

theorem cellsOf_rel {w : World} {p : Prot} {v : Value} {x : AV} {cs : List AV} (hr : Rel w p v x) (h : cellsOf x = some cs) : RelL w p v.cells.toList cs := by
  cases hr with
  | conc v =>
    cases v <;> simp [cellsOf] at h
    subst h
    exact .cons _ _ _ _ (.conc _) .nil
  | any => cases h
  | tup => cases h
  | agg cs xs h' => cases h; exact h'
  | _ => simp only [cellsOf] at h; cases h; simp only [Value.cells]; refine .cons _ _ _ _ ?_ .nil; constructor <;> assumption

def takeC : Nat → List AV → Option (List AV)
  | 0, _ => some []
  | n + 1, v :: r => match takeC n r with
    | some s => some (v :: s)
    | none => none
  | _ + 1, [] => none

def dropC : Nat → List AV → Option (List AV)
  | 0, r => some r
  | n + 1, _ :: r => dropC n r
  | _ + 1, [] => none

def nth {α : Type} : List α → Nat → Option α
  | [], _ => none
  | x :: _, 0 => some x
  | _ :: r, n + 1 => nth r n

theorem nth_eq {α : Type} (l : List α) (n : Nat) : nth l n = l[n]? := by
  induction l generalizing n with
  | nil => rfl
  | cons x l ih => cases n with
    | zero => rfl
    | succ n => simp only [nth, List.getElem?_cons_succ]; exact ih n

theorem takeC_eq {n : Nat} {l r : List AV} (h : takeC n l = some r) : r = l.take n ∧ n ≤ l.length := by
  induction n generalizing l r with
  | zero => cases h; simp
  | succ n ih =>
    cases l with
    | nil => simp [takeC] at h
    | cons v l =>
      simp only [takeC] at h
      split at h
      · rename_i s hs; cases h; obtain ⟨h1, h2⟩ := ih hs; subst h1; simp; omega
      · cases h

theorem dropC_eq {n : Nat} {l r : List AV} (h : dropC n l = some r) : r = l.drop n := by
  induction n generalizing l with
  | zero => cases h; rfl
  | succ n ih => cases l with
    | nil => simp [dropC] at h
    | cons v l => simpa [dropC] using ih (by simpa [dropC] using h)

/-- A value of a type out of cells. -/
def loadC (i : TI) (cells : List AV) (off : Nat) : Option AV :=
  match dropC off cells with
  | none => none
  | some r => match i.td with
    | .struct _ => match takeC i.size r with
      | some cs => some (.agg cs)
      | none => none
    | .other => none
    | _ => match r with
      | v :: _ => some v
      | [] => none

def constAV2 : Value → Option AV
  | .agg cs => match cs.toList.mapM constAV with
    | some xs => some (.agg xs)
    | none => none
  | v => constAV v

theorem mapM_const_rel {w : World} {p : Prot} {vs : List Value} {xs : List AV} (h : vs.mapM constAV = some xs) : RelL w p vs xs := by
  induction vs generalizing xs with
  | nil => simp at h; subst h; exact .nil
  | cons v vs ih =>
    simp only [List.mapM_cons, Option.bind_eq_bind, Option.pure_def, Option.bind_eq_some_iff, Option.some.injEq] at h
    obtain ⟨x, hx, ys, hys, rfl⟩ := h
    exact .cons _ _ _ _ (constAV_rel hx) (ih hys)

theorem constAV2_rel {w : World} {p : Prot} {v : Value} {x : AV} (h : constAV2 v = some x) : Rel w p v x := by
  unfold constAV2 at h
  split at h
  · split at h
    · rename_i cs xs hx; cases h; exact .agg _ _ (mapM_const_rel hx)
    · cases h
  · exact constAV_rel h

def isAggD (d : TypeDesc) : Bool := match d with | .struct _ | .array _ _ => true | _ => false

theorem run_isAgg {P : Program} {t : TypeId} {d : TypeDesc} (h : P.underlying t = some d) (w : World) : (isAgg t).run P w = .ok (isAggD d) w := by
  unfold isAgg
  rw [Sem.run_bind, run_underlying h, Result.andThen_ok]
  cases d <;> rfl

theorem tdOf_struct {d : TypeDesc} {fs : List (Nat × TypeId)} (h : tdOf d = .struct fs) : ∃ f : Array Field, d = .struct f ∧ fs = f.toList.map fun x => (x.offset, x.type) := by
  cases d <;> simp [tdOf] at h; rename_i f; exact ⟨f, rfl, h.symm⟩

theorem isAggD_of {d : TypeDesc} (h1 : ∀ fs, tdOf d ≠ .struct fs) (h2 : tdOf d ≠ .other) : isAggD d = false := by
  cases d <;> simp_all [tdOf, isAggD]

/-! ### The abstract operators -/

def aint (op : BinOp) (k : IntKind) (a b : Int) : Option AV :=
  match op with
  | .add => some (.int k (k.wrap (a + b)))
  | .sub => some (.int k (k.wrap (a - b)))
  | .mul => some (.int k (k.wrap (a * b)))
  | .eql => some (.bool (a == b))
  | .neq => some (.bool (a != b))
  | .lss => some (.bool (decide (a < b)))
  | .leq => some (.bool (decide (a ≤ b)))
  | .gtr => some (.bool (decide (a > b)))
  | .geq => some (.bool (decide (a ≥ b)))
  | _ => none

def astr (op : BinOp) (a b : List UInt8) : Option AV :=
  match op with
  | .eql => some (.bool (a == b))
  | .neq => some (.bool (!(a == b)))
  | .lss => some (.bool (Op.bytesLess a b))
  | .gtr => some (.bool (!(Op.bytesLess a b || a == b)))
  | .leq => some (.bool (Op.bytesLess a b || a == b))
  | .geq => some (.bool (!(Op.bytesLess a b)))
  | _ => none

/-- Is it nil? (where that is known) -/
def nilQ : AV → Option Bool
  | .pnil | .mnil | .fnil | .inil => some true
  | .ptr _ _ | .fptr _ _ | .map _ | .func _ _ _ | .iface _ _ => some false
  | .slc _ _ .nil => some true
  | .slc _ (_ :: _) _ => some false
  | .slc _ _ (.own _) => some false
  | _ => none

/-- Which nil a constant is. -/
inductive NilK where | ptr | slc | map | func | iface

def nilConst : Operand → Option NilK
  | .const (.pointer none) => some .ptr
  | .const (.slice none 0 0) => some .slc
  | .const (.map none) => some .map
  | .const .nilFunc => some .func
  | .const .nilIface => some .iface
  | _ => none

def TD.nilOk : TD → NilK → Bool
  | .ptr _, .ptr => true
  | .slc _, .slc => true
  | .map _ _, .map => true
  | .func, .func => true
  | .iface _, .iface => true
  | _, _ => false

def AV.nilFits : AV → NilK → Bool
  | .pnil, .ptr | .ptr _ _, .ptr | .fptr _ _, .ptr => true
  | .slc _ _ _, .slc => true
  | .mnil, .map | .map _, .map => true
  | .fnil, .func | .func _ _ _, .func => true
  | .inil, .iface | .iface _ _, .iface => true
  | _, _ => false

def abin (Γ : Tys) (op : BinOp) (t : TypeId) (y : Operand) (a b : AV) : Option AV :=
  match nilConst y with
  | some k => match Γ.get? t with
    | some i => match i.td.nilOk k, a.nilFits k, nilQ a, op with
      | true, true, some q, .eql => some (.bool q)
      | true, true, some q, .neq => some (.bool (!q))
      | _, _, _, _ => none
    | none => none
  | none => match a, b with
    | .int k x, .int k' z => if k = k' then aint op k x z else none
    | .str x, .str z => astr op x z
    | .bool x, .bool z => match Γ.get? t, op with
      | some ⟨.bool, _, _, _⟩, .eql => some (.bool (x == z))
      | some ⟨.bool, _, _, _⟩, .neq => some (.bool (!(x == z)))
      | _, _ => none
    | _, _ => none


/-! ### That they are right -/

theorem bl_eq (a b : ByteArray) : (a.toList == b.toList) = (a.data.toList == b.data.toList) := by rw [ByteArray.toList_eq, ByteArray.toList_eq]

theorem aint_ok {P : Program} {op : BinOp} {t : TypeId} {k : IntKind} {a b : Int} {x : AV} (h : aint op k a b = some x) (w : World) (p : Prot) :
    ∃ v, (binOp op t (.int k a) (.int k b)).run P w = .ok v w ∧ Rel w p v x := by
  cases op <;> simp only [aint] at h <;> cases h <;> simp only [binOp, ne_eq, not_true_eq_false, if_false, Op.intArith, Op.intCmp, Sem.run_pure] <;>
    first | exact ⟨_, rfl, .int _ _⟩ | exact ⟨_, rfl, .bool _⟩

theorem astr_ok {P : Program} {op : BinOp} {t : TypeId} {a b : ByteArray} {x : AV} (h : astr op a.data.toList b.data.toList = some x) (w : World) (p : Prot) :
    ∃ v, (binOp op t (.string a) (.string b)).run P w = .ok v w ∧ Rel w p v x := by
  cases op <;> simp only [astr] at h <;> cases h <;> simp only [binOp, Op.stringOp, Sem.run_pure, ByteArray.toList_eq] <;> exact ⟨_, rfl, .bool _⟩

theorem eqGuard_ok {P : Program} {op : BinOp} {t : TypeId} {x y : Operand} {a b : Value} (w : World) (h : (a = .nilIface ∧ b = .nilIface → ∃ c, y = .const c) ∧ (∀ c, a ≠ .agg c)) :
    (eqGuard op t x y a b).run P w = .ok () w := by
  cases a with
  | nilIface =>
    cases b with
    | nilIface =>
      obtain ⟨c, rfl⟩ := h.1 ⟨rfl, rfl⟩
      cases x <;> cases op <;> rfl
    | _ => cases op <;> rfl
  | agg c => exact absurd rfl (h.2 c)
  | _ => cases op <;> rfl

theorem run_eqneq {P : Program} {t : TypeId} {x y : Value} {q : Bool} {w : World} (hb : binOp .eql t x y = (do pure (.bool (← Op.equal t x y)))) (hn : binOp .neq t x y = (do pure (.bool (!(← Op.equal t x y)))))
    (h : ∀ d, (Op.equalIn (d + 1) t x y).run P w = .ok q w) : (binOp .eql t x y).run P w = .ok (.bool q) w ∧ (binOp .neq t x y).run P w = .ok (.bool (!q)) w := by
  have he : (Op.equal t x y).run P w = .ok q w := h 9999
  rw [hb, hn]
  simp only [Sem.run_bind, he, Result.andThen_ok, Sem.run_pure, and_self]

theorem nilQ_slc {w : World} {p : Prot} {v : Value} {sz : Nat} {xs : List AV} {own : Own} {q : Bool} (h : Rel w p v (.slc sz xs own)) (hq : nilQ (.slc sz xs own) = some q) :
    (v = .slice none 0 0 ∧ q = true) ∨ (∃ a n c, v = .slice (some a) n c ∧ q = false) := by
  cases h with
  | slcNil _ _ ho =>
    cases own <;> simp [nilQ] at hq
    · exact .inl ⟨rfl, by simp [hq]⟩
    · exact absurd rfl (ho _)
  | slcZ a _ _ ho => rcases ho with rfl | rfl <;> simp [nilQ] at hq
  | slc g off n cap _ vs _ _ hn hl hc hr hs hm hk hcl ho =>
    refine .inr ⟨_, _, _, rfl, ?_⟩
    cases own <;> cases xs <;> simp [nilQ] at hq hn <;> simp [hq]

theorem abin_ok {P : Program} {Γ : Tys} (hΓ : TysOk P Γ) {N B : Nat} {ro : Option Nat} {env : Env} {s : Store} {a : Act} {w : World} {p : Prot} (hst : St N B ro env s a w p)
    {op : BinOp} {t yt : TypeId} {x y : Operand} {u v r : AV} (hx : ev env x = some u) (hy : ev env y = some v) (h : abin Γ op t y u v = some r) :
    ∃ val, (do eqGuard op t x y (a.eval x) (a.eval y); binOp op t (a.eval x) (a.eval y) : Sem Value).run P w = .ok val w ∧ Rel w p val r := by
  have hu := hst.ev hx
  have hv := hst.ev hy
  unfold abin at h
  split at h
  · rename_i k hk
    have hyv : ∃ c, y = .const c ∧ a.eval y = c ∧ ((k = .ptr ∧ c = .pointer none) ∨ (k = .slc ∧ c = .slice none 0 0) ∨ (k = .map ∧ c = .map none) ∨ (k = .func ∧ c = .nilFunc) ∨ (k = .iface ∧ c = .nilIface)) := by
      unfold nilConst at hk
      split at hk <;> cases hk <;> exact ⟨_, rfl, rfl, by simp⟩
    obtain ⟨c, rfl, hc, hkc⟩ := hyv
    rw [hc]
    split at h
    · rename_i i hi
      obtain ⟨info, d, h1, h2, h3, -⟩ := hΓ.parts hi
      have key : ∀ q, nilQ u = some q → u.nilFits k = true → i.td.nilOk k = true → (∀ cs, a.eval x ≠ .agg cs) ∧ (binOp .eql t (a.eval x) c).run P w = .ok (.bool q) w ∧ (binOp .neq t (a.eval x) c).run P w = .ok (.bool (!q)) w := by
        intro q hq hf ho
        generalize a.eval x = vx at hu
        rw [← h3] at ho
        have hs : ∀ (g n cap : Nat) (o : Nat), True := fun _ _ _ _ => trivial
        have hsl : ∀ e sz xs own, d = .slice e → u = .slc sz xs own → (∀ cs, vx ≠ .agg cs) ∧ (binOp .eql t vx (.slice none 0 0)).run P w = .ok (.bool q) w ∧ (binOp .neq t vx (.slice none 0 0)).run P w = .ok (.bool (!q)) w := by
          rintro e sz xs own rfl rfl
          rcases nilQ_slc hu hq with ⟨rfl, rfl⟩ | ⟨a, n, c, rfl, rfl⟩ <;> (refine ⟨by simp, run_eqneq rfl rfl (fun d => ?_)⟩ <;> simp [Op.equalIn, run_underlying h2])
        rcases hkc with ⟨rfl, rfl⟩ | ⟨rfl, rfl⟩ | ⟨rfl, rfl⟩ | ⟨rfl, rfl⟩ | ⟨rfl, rfl⟩ <;>
        (try (cases d <;> simp only [tdOf, TD.nilOk] at ho <;> (try (simp at ho; done)) <;> cases u <;> simp only [AV.nilFits] at hf <;> (try (simp at hf; done)) <;> exact hsl _ _ _ _ rfl rfl)) <;>
        cases d <;> simp only [tdOf, TD.nilOk] at ho <;> (try (simp at ho; done)) <;>
        cases hu <;> simp only [AV.nilFits, nilQ] at hf hq <;> (try (simp at hf; done)) <;>
        (try (cases hq)) <;>
        (refine ⟨by simp, run_eqneq rfl rfl (fun d => ?_)⟩ <;> simp [Op.equalIn, run_underlying h2] <;> done)
      split at h
      · rename_i q ho hf hq
        cases h
        obtain ⟨k1, k2, k3⟩ := key q hq hf ho
        exact ⟨_, by rw [Sem.run_bind, eqGuard_ok w ⟨fun _ => ⟨_, rfl⟩, k1⟩, Result.andThen_ok, k2], .bool _⟩
      · rename_i q ho hf hq
        cases h
        obtain ⟨k1, k2, k3⟩ := key q hq hf ho
        exact ⟨_, by rw [Sem.run_bind, eqGuard_ok w ⟨fun _ => ⟨_, rfl⟩, k1⟩, Result.andThen_ok, k3], .bool _⟩
      · cases h
    · cases h
  · split at h
    · rename_i k z k' z'
      split at h
      · rename_i hkk
        subst hkk
        generalize a.eval x = vx at hu; generalize a.eval y = vy at hv
        cases hu; cases hv
        obtain ⟨val, h1, h2⟩ := aint_ok (P := P) (t := t) h w p
        exact ⟨val, by rw [Sem.run_bind, eqGuard_ok w ⟨by simp, by simp⟩, Result.andThen_ok, h1], h2⟩
      · cases h
    · generalize a.eval x = vx at hu; generalize a.eval y = vy at hv
      cases hu with | str b1 _ e1 => cases hv with | str b2 _ e2 =>
      subst e1; subst e2
      obtain ⟨val, h1, h2⟩ := astr_ok (P := P) (t := t) h w p
      exact ⟨val, by rw [Sem.run_bind, eqGuard_ok w ⟨by simp, by simp⟩, Result.andThen_ok, h1], h2⟩
    · generalize a.eval x = vx at hu; generalize a.eval y = vy at hv
      cases hu; cases hv
      split at h
      · rename_i hi
        obtain ⟨info, d, h1, h2, h3, -⟩ := hΓ.parts hi
        have hd : d = .bool := by cases d <;> simp [tdOf] at h3; rfl
        subst hd
        cases h
        exact ⟨_, by rw [Sem.run_bind, eqGuard_ok w ⟨by simp, by simp⟩, Result.andThen_ok]; exact run_eql_bool w t _ _ h2, .bool _⟩
      · rename_i hi
        obtain ⟨info, d, h1, h2, h3, -⟩ := hΓ.parts hi
        have hd : d = .bool := by cases d <;> simp [tdOf] at h3; rfl
        subst hd
        cases h
        exact ⟨_, by rw [Sem.run_bind, eqGuard_ok w ⟨by simp, by simp⟩, Result.andThen_ok]; exact run_neq_bool w t _ _ h2, .bool _⟩
      · cases h
    · cases h

end Go.AE

/- The abstract walk: the evaluator, whole; an operation that it reckons is one that is carried out so. -/
namespace Go.AE

def evs (env : Env) : List Operand → Option (List AV)
  | [] => some []
  | o :: r => match ev env o with
    | some v => match evs env r with
      | some vs => some (v :: vs)
      | none => none
    | none => none

theorem evs_rel {N B : Nat} {ro : Option Nat} {env : Env} {s : Store} {a : Act} {w : World} {p : Prot} (hst : St N B ro env s a w p) {l : List Operand} {vs : List AV}
    (h : evs env l = some vs) : RelL w p (l.map a.eval) vs := by
  induction l generalizing vs with
  | nil => cases h; exact .nil
  | cons o r ih =>
    simp only [evs] at h
    split at h
    · rename_i v hv
      split at h
      · rename_i us hu; cases h; exact .cons _ _ _ _ (hst.ev hv) (ih hu)
      · cases h
    · cases h

/-- List cells from a place on. -/
def setL : Nat → List AV → List AV → List AV
  | _, [], cells => cells
  | off, c :: cs, cells => setL (off + 1) cs (cells.set off c)

def fillA (place : Nat → Option (Nat × Nat)) : List AV → List (Nat × AV) → Option (List AV)
  | cells, [] => some cells
  | cells, (i, v) :: rest => match place i, cellsOf v with
    | some (off, size), some cs => match Nat.beq cs.length size && Nat.ble (off + size) cells.length with
      | true => fillA place (setL off cs cells) rest
      | false => none
    | _, _ => none

/-- The places of a struct's fields. -/
def placesOf (Γ : Tys) : List (Nat × TypeId) → Option (List (Nat × Nat))
  | [] => some []
  | (off, t) :: r => match Γ.get? t with
    | some i => match placesOf Γ r with
      | some l => some ((off, i.size) :: l)
      | none => none
    | none => none

def evParts (env : Env) : List (Nat × Operand) → Option (List (Nat × AV))
  | [] => some []
  | (i, o) :: r => match ev env o with
    | some v => match evParts env r with
      | some l => some ((i, v) :: l)
      | none => none
    | none => none

/-- The elements of a slice literal: all places, in order. -/
def evElems (env : Env) (sz : Nat) : Nat → List (Nat × Operand) → Option (List AV)
  | _, [] => some []
  | k, (i, o) :: r => match Nat.beq i k with
    | true => match ev env o with
      | some v => match cellsOf v with
        | some cs => match Nat.beq cs.length sz with
          | true => match evElems env sz (k + 1) r with
            | some l => some (v :: l)
            | none => none
          | false => none
        | none => none
      | none => none
    | false => none

def aop (Γ : Tys) (o : Oper) (env : Env) : Option AV :=
  match o.op with
  | .move x => ev env x
  | .assign x => ev env x
  | .pick c a b => match ev env c with
    | some (.bool true) => ev env a
    | some (.bool false) => ev env b
    | _ => none
  | .binOp op t x y _ => match ev env x, ev env y with
    | some a, some b => abin Γ op t y a b
    | _, _ => none
  | .unOp .not _ x => match ev env x with
    | some (.bool b) => some (.bool (!b))
    | _ => none
  | .extract x i => match ev env x with
    | some (.tup vs) => nth vs i
    | _ => none
  | .fieldAddr s x f => match Γ.get? s with
    | some ⟨.struct fs, _, _, _⟩ => match nth fs f with
      | some (off, t) => match Γ.get? t with
        | some ⟨_, _ + 1, _, _⟩ => match ev env x with
          | some (.ptr b o) => some (.ptr b (o + off))
          | some (.fptr cs o) => some (.fptr cs (o + off))
          | _ => none
        | _ => none
      | none => none
    | _ => none
  | .field s x f => match Γ.get? s with
    | some ⟨.struct fs, _, _, _⟩ => match nth fs f with
      | some (off, t) => match Γ.get? t with
        | some i => match ev env x with
          | some (.agg cs) => loadC i cs off
          | _ => none
        | none => none
      | none => none
    | _ => none
  | .load t x => match Γ.get? t with
    | some i => match ev env x with
      | some (.fptr cs o) => loadC i cs o
      | _ => none
    | none => none
  | .makeInterface t x => match Γ.get? t with
    | some ⟨.iface _, _, _, _⟩ => none
    | some _ => match ev env x with
      | some v => some (.iface t v)
      | none => none
    | none => none
  | .makeFunc (.func f) first cap => match evs env first.toList, evs env cap.toList with
    | some a, some c => some (.func f a c)
    | _, _ => none
  | .nilCheck x => match ev env x with
    | some (.ptr b o) => some (.ptr b o)
    | some (.fptr cs o) => some (.fptr cs o)
    | some (.func f a c) => some (.func f a c)
    | _ => none
  | .typeAssert x _ t ok => match Γ.get? t with
    | some ⟨.iface _, _, _, _⟩ => none
    | some i => match ev env x with
      | some (.iface t' v) => match Nat.beq t' t, ok with
        | true, true => some (.tup [v, .bool true])
        | true, false => some v
        | false, true => match constAV2 i.zero with
          | some z => some (.tup [z, .bool false])
          | none => none
        | false, false => none
      | some .inil => match ok with
        | true => match constAV2 i.zero with
          | some z => some (.tup [z, .bool false])
          | none => none
        | false => none
      | _ => none
    | none => none
  | .call { callee := .builtin .len, args, argTypes } => match args.toList, argTypes.toList with
    | [x], [t] => match Γ.get? t with
      | some ⟨.slc _, _, _, _⟩ => match ev env x with
        | some (.slc _ xs _) => some (.int .i64 xs.length)
        | _ => none
      | some ⟨.str, _, _, _⟩ => match ev env x with
        | some (.str l) => some (.int .i64 l.length)
        | _ => none
      | _ => none
    | _, _ => none
  | .box _ x => match ev env x with
    | some v => match cellsOf v with
      | some cs => some (.fptr cs 0)
      | none => none
    | none => none
  | .build t parts => match Γ.get? t with
    | some ⟨.struct fs, _, _, z⟩ => match placesOf Γ fs, constAV2 z, evParts env parts.toList with
      | some pl, some (.agg zs), some ps => match fillA (nth pl) zs ps with
        | some cs => some (.agg cs)
        | none => none
      | _, _, _ => none
    | _ => none
  | .buildSlice t len parts => match Γ.get? t with
    | some ⟨.slc e, _, _, _⟩ => match Γ.get? e with
      | some ie => match Nat.beq parts.size len && (Nat.ble (len * ie.size) 16777216 && Nat.ble len 16777216) with
        | true => match evElems env ie.size 0 parts.toList with
          | some xs => some (.slc ie.size xs .clip)
          | none => none
        | false => none
      | none => none
    | _ => none
  | _ => none

/-! ### That it is right -/

def PureRes (P : Program) (o : Oper) (a : Act) (w : World) (p : Prot) (v : AV) : Prop :=
  ∃ val w' p', (execOp a.eval o).run P w = .ok (.value val) w' ∧ Rel w' p' val v ∧ Le w p w' p' ∧ (∀ s, Wf w p s → Kept s s w p w' p' ∧ Wf w' p' s)

theorem PureRes.same {P : Program} {o : Oper} {a : Act} {w : World} {p : Prot} {v : AV} {val : Value} (h : (execOp a.eval o).run P w = .ok (.value val) w) (hr : Rel w p val v) :
    PureRes P o a w p v := ⟨val, w, p, h, hr, .refl w p, fun s hs => ⟨.refl s w p, hs⟩⟩

theorem PureRes.alloc {P : Program} {o : Oper} {a : Act} {w : World} {p : Prot} {v : AV} {val : Value} (vs : Array Value) (t : TypeId) (hlt : ∀ b o, p b o → b < w.heap.size)
    (h : (execOp a.eval o).run P w = .ok (.value val) (w.alloc (.cells vs t))) (hr : Rel (w.alloc (.cells vs t)) (p.also w.heap.size True) val v) :
    PureRes P o a w p v :=
  ⟨val, _, _, h, hr, alloc_le hlt _ _, fun _ hs => ⟨alloc_kept _ _, alloc_wf hs _ _⟩⟩

theorem OW.ofPure {P : Program} {N : Nat} {o : Oper} {env : Env} {s : Store} {v : AV} (hd : noDefer o = true)
    (h : ∀ ro B a w p, St N B ro env s a w p → PureRes P o a w p v) : OW P N o env s (fun x s' => x = v ∧ s' = s) (fun _ _ => False) := by
  refine ⟨hd, fun ro B a w p hst => ?_⟩
  obtain ⟨val, w', p', hrun, hr, hle, hk⟩ := h ro B a w p hst
  rw [hrun]
  obtain ⟨hk1, hk2⟩ := hk s hst.wf
  exact ⟨s, p', hle, hk1, hk2, v, ⟨rfl, rfl⟩, hr⟩

theorem run_v {P : Program} {x : Sem Value} {v : Value} {w w' : World} (h : x.run P w = .ok v w') : (do pure (.value (← x)) : Sem Next).run P w = .ok (.value v) w' := by
  simp only [Sem.run_bind, h, Result.andThen_ok, Sem.run_pure]

/-- The second half of loadC, of the cells that stand in a row. -/
theorem add_none (b o n : Nat) : (⟨b, o, none⟩ : Addr).add n = ⟨b, o + n, none⟩ := by
  unfold Addr.add; split <;> simp_all

theorem relL_drop_cells {w : World} {p : Prot} {vs : List Value} {cells r : List AV} {off : Nat} (hr : RelL w p vs cells) (h : dropC off cells = some r) : RelL w p (vs.drop off) r := by
  rw [dropC_eq h]; exact hr.drop off

theorem loadVar_ok {P : Program} {Γ : Tys} (hΓ : TysOk P Γ) {t : TypeId} {i : TI} (hi : Γ.get? t = some i) {w : World} {p : Prot} {b base off : Nat} {vs : List Value} {cells : List AV} {v : AV}
    (hc : ∀ j u, vs[j]? = some u → w.cell? ⟨b, base + j, none⟩ = some u) (hr : RelL w p vs cells) (h : loadC i cells off = some v) :
    ∃ val, (loadVar t ⟨b, base + off, none⟩).run P w = .ok val w ∧ Rel w p val v := by
  obtain ⟨info, d, h1, h2, h3, h4, -⟩ := hΓ.parts hi
  unfold loadC at h
  split at h
  · cases h
  · rename_i r hd
    have hr' := relL_drop_cells hr hd
    have hcell : ∀ j u, (vs.drop off)[j]? = some u → w.cell? ((⟨b, base + off, none⟩ : Addr).add j) = some u := by
      intro j u hu
      rw [add_none, Nat.add_assoc]
      exact hc _ _ (by simpa using hu)
    split at h
    · rename_i fs htd
      split at h
      · rename_i cs hcs
        cases h
        obtain ⟨rfl, hlen⟩ := takeC_eq hcs
        obtain ⟨f, rfl, -⟩ := tdOf_struct (h3.trans htd)
        have hl : ((vs.drop off).take i.size).length = info.size := by rw [List.length_take, hr'.length, h4]; omega
        have hload := run_loadCells_list (P := P) w ⟨b, base + off, none⟩ ((vs.drop off).take i.size) (fun j u hu => hcell j u (by
          rw [List.getElem?_take] at hu; split at hu; exact hu; cases hu))
        rw [hl] at hload
        refine ⟨_, ?_, .agg _ _ (by simpa using hr'.take i.size)⟩
        simp only [loadVar, Sem.run_bind, run_isAgg h2, Result.andThen_ok, isAggD, if_true, sizeOf, typeInfo, run_program, h1, Sem.run_pure, hload]
      · cases h
    · cases h
    · rename_i hs ho
      split at h
      · rename_i x xs
        cases h
        generalize hdv : vs.drop off = dv at hr' hcell
        cases hr' with
        | cons u _ us _ hx ht =>
        have hc0 := hcell 0 u rfl
        rw [add_none, Nat.add_zero] at hc0
        refine ⟨u, ?_, hx⟩
        have hag := isAggD_of (d := d) (fun fs => by rw [h3]; exact hs fs) (by rw [h3]; exact ho)
        simp [loadVar, run_isAgg h2, hag, hc0]
      · cases h

theorem part_ok {P : Program} {Γ : Tys} (hΓ : TysOk P Γ) {t : TypeId} {i : TI} (hi : Γ.get? t = some i) {w : World} {p : Prot} {off : Nat} {vs : Array Value} {cells : List AV} {v : AV}
    (hr : RelL w p vs.toList cells) (h : loadC i cells off = some v) : ∃ val, (part t vs off).run P w = .ok val w ∧ Rel w p val v := by
  obtain ⟨info, d, h1, h2, h3, h4, -⟩ := hΓ.parts hi
  unfold loadC at h
  split at h
  · cases h
  · rename_i r hd
    have hr' := relL_drop_cells hr hd
    split at h
    · rename_i fs htd
      split at h
      · rename_i cs hcs
        cases h
        obtain ⟨rfl, hlen⟩ := takeC_eq hcs
        obtain ⟨f, rfl, -⟩ := tdOf_struct (h3.trans htd)
        refine ⟨.agg (vs.extract off (off + info.size)), ?_, .agg _ _ ?_⟩
        · simp only [part, Sem.run_bind, run_isAgg h2, Result.andThen_ok, isAggD, if_true, sizeOf, typeInfo, run_program, h1, Sem.run_pure]
        · have : (vs.extract off (off + info.size)).toList = (vs.toList.drop off).take i.size := by simp [Array.toList_extract, h4]
          rw [this]; exact hr'.take i.size
      · cases h
    · cases h
    · rename_i hs ho
      split at h
      · rename_i x xs
        cases h
        generalize hdv : vs.toList.drop off = dv at hr'
        cases hr' with
        | cons u _ us _ hx ht =>
        have h0 : vs[off]? = some u := by
          have := congrArg (fun l => l[0]?) hdv
          simpa using this
        refine ⟨u, ?_, hx⟩
        have hag := isAggD_of (d := d) (fun fs => by rw [h3]; exact hs fs) (by rw [h3]; exact ho)
        simp [part, run_isAgg h2, hag, h0]
      · cases h

theorem setL_rel {w : World} {p : Prot} : ∀ (us : List Value) (cs : List AV) (off : Nat) (vs : List Value) (xs : List AV), RelL w p us cs → RelL w p vs xs →
    RelL w p ((us.zipIdx).foldl (fun l (c, j) => l.set (off + j) c) vs) (setL off cs xs) := by
  have key : ∀ (us : List Value) (cs : List AV) (off k : Nat) (vs : List Value) (xs : List AV), RelL w p us cs → RelL w p vs xs →
      RelL w p ((us.zipIdx k).foldl (fun l (c, j) => l.set (off + j) c) vs) (setL (off + k) cs xs) := by
    intro us
    induction us with
    | nil => intro cs off k vs xs h hv; cases h; exact hv
    | cons u us ih =>
      intro cs off k vs xs h hv
      cases h with
      | cons _ c _ cs hc ht =>
        simp only [List.zipIdx_cons, List.foldl_cons, setL]
        have := ih cs off (k + 1) _ _ ht (hv.set (off + k) hc)
        rwa [← Nat.add_assoc] at this
  intro us cs off vs xs h hv
  simpa using key us cs off 0 vs xs h hv

theorem foldl_set_toList (l : List (Value × Nat)) (off : Nat) : ∀ (vs : Array Value), (l.foldl (fun cs (c, j) => cs.setIfInBounds (off + j) c) vs).toList = l.foldl (fun cs (c, j) => cs.set (off + j) c) vs.toList := by
  induction l with
  | nil => intro vs; rfl
  | cons x l ih => intro vs; simp only [List.foldl_cons, ih, Array.toList_setIfInBounds]

theorem fill_ok {w : World} {p : Prot} {place : Nat → Option (Nat × Nat)} : ∀ (ps : List (Nat × Value)) (qs : List (Nat × AV)) (vs : Array Value) (xs r : List AV),
    ps.map (·.1) = qs.map (·.1) → RelL w p (ps.map (·.2)) (qs.map (·.2)) → RelL w p vs.toList xs → fillA place xs qs = some r →
    ∃ cs, Instr.fill place vs ps = some cs ∧ RelL w p cs.toList r := by
  intro ps
  induction ps with
  | nil =>
    intro qs vs xs r h1 h2 h3 h
    cases qs with
    | nil => cases h; exact ⟨vs, rfl, h3⟩
    | cons q qs => simp at h1
  | cons x ps ih =>
    intro qs vs xs r h1 h2 h3 h
    cases qs with
    | nil => simp at h1
    | cons q qs =>
      obtain ⟨i, v⟩ := x
      obtain ⟨i', u⟩ := q
      simp only [List.map_cons, List.cons.injEq] at h1
      obtain ⟨rfl, h1⟩ := h1
      simp only [List.map_cons] at h2
      cases h2 with
      | cons _ _ _ _ hv ht =>
      simp only [fillA] at h
      split at h
      · rename_i off size cs hp hcs
        split at h
        · rename_i hchk
          simp only [Bool.and_eq_true] at hchk
          have hsz := Nat.eq_of_beq_eq_true hchk.1
          have hle := Nat.le_of_ble_eq_true hchk.2
          have hcr := cellsOf_rel hv hcs
          have hvs : v.cells.size = size := by rw [← hsz, ← hcr.length, Array.length_toList]
          have hxs : vs.size = xs.length := by rw [← h3.length, Array.length_toList]
          have hsr := setL_rel _ _ off _ _ hcr h3
          have hz : v.cells.toList.zipIdx = (v.cells.zipIdx).toList := by simp
          rw [hz, ← foldl_set_toList] at hsr
          obtain ⟨out, ho, hor⟩ := ih qs _ _ r h1 ht hsr h
          refine ⟨out, ?_, hor⟩
          simp only [Instr.fill, hp]
          rw [if_neg (by simp [hvs]; omega), ← ho, ← Array.foldl_toList]
        · cases h
      · cases h

theorem evParts_ok {N B : Nat} {ro : Option Nat} {env : Env} {s : Store} {a : Act} {w : World} {p : Prot} (hst : St N B ro env s a w p) {l : List (Nat × Operand)} {qs : List (Nat × AV)}
    (h : evParts env l = some qs) : (l.map fun x => (x.1, a.eval x.2)).map (·.1) = qs.map (·.1) ∧ RelL w p ((l.map fun x => (x.1, a.eval x.2)).map (·.2)) (qs.map (·.2)) := by
  induction l generalizing qs with
  | nil => cases h; exact ⟨rfl, .nil⟩
  | cons x l ih =>
    obtain ⟨i, o⟩ := x
    simp only [evParts] at h
    split at h
    · rename_i v hv
      split at h
      · rename_i r hr
        cases h
        obtain ⟨h1, h2⟩ := ih hr
        exact ⟨by simp only [List.map_cons, h1], .cons _ _ _ _ (hst.ev hv) h2⟩
      · cases h
    · cases h

theorem places_ok {P : Program} {Γ : Tys} (hΓ : TysOk P Γ) (fs : List Field) : ∀ {pl : List (Nat × Nat)}, placesOf Γ (fs.map fun x => (x.offset, x.type)) = some pl →
    fs.mapM (fun f => (P.info? f.type).map fun i => (f.offset, i.size)) = some pl := by
  induction fs with
  | nil => intro pl h; cases h; rfl
  | cons f fs ih =>
    intro pl h
    simp only [List.map_cons, placesOf] at h
    split at h
    · rename_i i hi
      split at h
      · rename_i l hl
        cases h
        obtain ⟨info, d, h1, -, -, h4, -⟩ := hΓ.parts hi
        simp [List.mapM_cons, h1, ih hl, h4]
      · cases h
    · cases h

theorem fill_seq (sz : Nat) : ∀ (vs : List Value) (k : Nat) (pre post : List Value), pre.length = k * sz → post.length = vs.length * sz → (∀ v ∈ vs, v.cells.size = sz) →
    Instr.fill (fun i => some (i * sz, sz)) (pre ++ post).toArray ((vs.zipIdx k).map fun x => (x.2, x.1)) = some (pre ++ flat vs).toArray := by
  intro vs
  induction vs with
  | nil => intro k pre post h1 h2 h3; have : post = [] := List.eq_nil_of_length_eq_zero (by simpa using h2); subst this; simp [Instr.fill, flat]
  | cons v vs ih =>
    intro k pre post h1 h2 h3
    have hv := h3 v (List.mem_cons_self ..)
    simp only [List.zipIdx_cons, List.map_cons, Instr.fill]
    have hlen : post.length = sz + vs.length * sz := by rw [h2, List.length_cons, Nat.add_mul]; omega
    rw [if_neg (by simp [hv]; omega)]
    have hset : (Array.foldl (fun cs x => cs.setIfInBounds (k * sz + x.2) x.1) (pre ++ post).toArray v.cells.zipIdx) = ((pre ++ v.cells.toList) ++ post.drop sz).toArray := by
      apply Array.ext'
      rw [← Array.foldl_toList]
      have := foldl_set_toList v.cells.zipIdx.toList (k * sz) (pre ++ post).toArray
      simp only at this ⊢
      rw [this]
      have hz : v.cells.zipIdx.toList = v.cells.toList.zipIdx := by simp
      rw [hz]
      have gen : ∀ (us : List Value) (j : Nat) (a b : List Value), a.length = k * sz + j → us.length ≤ b.length →
          (us.zipIdx j).foldl (fun cs (x : Value × Nat) => cs.set (k * sz + x.2) x.1) (a ++ b) = a ++ us ++ b.drop us.length := by
        intro us
        induction us with
        | nil => intro j a b _ _; simp
        | cons u us ihu =>
          intro j a b ha hb
          cases b with
          | nil => simp at hb
          | cons c b =>
            simp only [List.zipIdx_cons, List.foldl_cons, List.length_cons, List.drop_succ_cons]
            have : (a ++ c :: b).set (k * sz + j) u = (a ++ [u]) ++ b := by
              rw [List.set_append_right _ _ (by omega)]
              have : k * sz + j - a.length = 0 := by omega
              rw [this]; simp
            rw [this, ihu (j + 1) (a ++ [u]) b (by simp; omega) (by simpa using hb)]
            simp
      have hvl : v.cells.toList.length = sz := by rw [Array.length_toList, hv]
      have := gen v.cells.toList 0 pre post (by omega) (by rw [hvl]; omega)
      rw [hvl] at this
      simpa using this
    rw [hset]
    have := ih (k + 1) (pre ++ v.cells.toList) (post.drop sz) (by simp [h1, hv, Nat.add_mul]) (by rw [List.length_drop, hlen]; omega) (fun u hu => h3 u (List.mem_cons_of_mem _ hu))
    rw [this]
    simp [flat, List.flatMap_cons]

theorem evElems_ok {N B : Nat} {ro : Option Nat} {env : Env} {s : Store} {a : Act} {w : World} {p : Prot} (hst : St N B ro env s a w p) {sz : Nat} : ∀ {l : List (Nat × Operand)} {k : Nat} {xs : List AV},
    evElems env sz k l = some xs → ∃ vs : List Value, (l.map fun x => (x.1, a.eval x.2)) = (vs.zipIdx k).map (fun x => (x.2, x.1)) ∧ RelL w p vs xs ∧ (∀ v ∈ vs, v.cells.size = sz) ∧ vs.length = l.length := by
  intro l
  induction l with
  | nil => intro k xs h; cases h; exact ⟨[], rfl, .nil, by simp, rfl⟩
  | cons x l ih =>
    intro k xs h
    obtain ⟨i, o⟩ := x
    simp only [evElems] at h
    split at h
    · rename_i hb
      split at h
      · rename_i v hv
        split at h
        · rename_i cs hcs
          split at h
          · rename_i hl
            split at h
            · rename_i r hr
              cases h
              have := Nat.eq_of_beq_eq_true hb
              subst this
              obtain ⟨vs, h1, h2, h3, h4⟩ := ih hr
              have hrel := hst.ev hv
              have hsz : (a.eval o).cells.size = sz := by
                rw [← Nat.eq_of_beq_eq_true hl, ← (cellsOf_rel hrel hcs).length, Array.length_toList]
              exact ⟨a.eval o :: vs, by simp [h1], .cons _ _ _ _ hrel h2, by
                intro u hu; rcases List.mem_cons.1 hu with rfl | hu; exact hsz; exact h3 u hu, by simp [h4]⟩
            · cases h
          · cases h
        · cases h
      · cases h
    · cases h

end Go.AE

/- The abstract walk: an operation that the evaluator reckons is carried out so. -/
namespace Go.AE

section
variable {P : Program} {Γ : Tys} (hΓ : TysOk P Γ) {N B : Nat} {ro : Option Nat} {env : Env} {s : Store} {a : Act} {w : World} {p : Prot} (hst : St N B ro env s a w p)
include hst

theorem pure_val {o : Oper} {x : Operand} {v : AV} (ho : o.op = .move x ∨ o.op = .assign x) (h : ev env x = some v) : PureRes P o a w p v := by
  refine .same (val := a.eval x) ?_ (hst.ev h)
  unfold execOp
  rcases ho with ho | ho <;> rw [ho] <;> rfl

theorem pure_pick {o : Oper} {c x y : Operand} {v : AV} {t : Bool} (ho : o.op = .pick c x y) (hc : ev env c = some (.bool t)) (h : ev env (if t then x else y) = some v) : PureRes P o a w p v := by
  refine .same (val := a.eval (if t then x else y)) ?_ (hst.ev h)
  unfold execOp
  rw [ho]
  simp only [rel_bool (hst.ev hc), asBool, Sem.run_bind, Sem.run_pure, Result.andThen_ok]
  cases t <;> rfl

include hΓ

theorem pure_bin {o : Oper} {op : BinOp} {t yt : TypeId} {x y : Operand} {u v r : AV} (ho : o.op = .binOp op t x y yt) (hx : ev env x = some u) (hy : ev env y = some v)
    (h : abin Γ op t y u v = some r) : PureRes P o a w p r := by
  obtain ⟨val, h1, h2⟩ := abin_ok hΓ hst (yt := yt) hx hy h
  refine .same (val := val) ?_ h2
  unfold execOp
  rw [ho]
  exact run_v h1

omit hΓ in
theorem pure_not {o : Oper} {t : TypeId} {x : Operand} {b : Bool} (ho : o.op = .unOp .not t x) (hx : ev env x = some (.bool b)) : PureRes P o a w p (.bool (!b)) := by
  refine .same (val := .bool (!b)) ?_ (.bool _)
  unfold execOp
  rw [ho]
  simp only [rel_bool (hst.ev hx)]
  exact run_v (by simp [Op.unary])

omit hΓ in
theorem pure_extract {o : Oper} {x : Operand} {i : Nat} {vs : List AV} {v : AV} (ho : o.op = .extract x i) (hx : ev env x = some (.tup vs)) (h : nth vs i = some v) : PureRes P o a w p v := by
  have hr := hst.ev hx
  generalize hv : a.eval x = vx at hr
  cases hr with
  | tup us _ hl =>
  rw [nth_eq] at h
  obtain ⟨u, hu, hur⟩ := hl.get h
  refine .same (val := u) ?_ hur
  unfold execOp
  rw [ho]
  simp only [hv]
  exact run_v (by
    have : us[i]? = some u := by simpa using hu
    simp [Instr.extract, this])

theorem pure_fieldAddr {o : Oper} {S : TypeId} {x : Operand} {f sz by_ : Nat} {fs : List (Nat × TypeId)} {z : Value} {off : Nat} {t : TypeId} {ti : TI} {v : AV} (ho : o.op = .fieldAddr S x f)
    (hS : Γ.get? S = some ⟨.struct fs, sz, by_, z⟩) (hf : nth fs f = some (off, t)) (ht : Γ.get? t = some ti) (h0 : ti.size ≠ 0)
    (h : (∃ b o, ev env x = some (.ptr b o) ∧ v = .ptr b (o + off)) ∨ (∃ cs o, ev env x = some (.fptr cs o) ∧ v = .fptr cs (o + off))) : PureRes P o a w p v := by
  obtain ⟨info, d, h1, h2, h3, -⟩ := hΓ.parts hS
  obtain ⟨info', d', h1', h2', h3', h4', -⟩ := hΓ.parts ht
  obtain ⟨fl, rfl, hfl⟩ := tdOf_struct h3
  rw [nth_eq, hfl, List.getElem?_map] at hf
  obtain ⟨fd, hfd, hfd'⟩ := Option.map_eq_some_iff.1 hf
  cases hfd'
  have hfd2 : fl[f]? = some fd := by simpa using hfd
  have hsz : info'.size ≠ 0 := by rw [h4']; exact h0
  have key : ∀ b o', a.eval x = .pointer (some ⟨b, o', none⟩) → (execOp a.eval o).run P w = .ok (.value (.pointer (some ⟨b, o' + fd.offset, none⟩))) w := by
    intro b o' hx
    unfold execOp
    rw [ho]
    simp only [hx]
    refine run_v ?_
    simp [Instr.fieldAt, run_underlying h2, hfd2, Instr.sureAddr, fieldPlace, sizeOf, typeInfo, h1', hsz, add_none]
  rcases h with ⟨b, o', hx, rfl⟩ | ⟨cs, o', hx, rfl⟩
  · have hr := hst.ev hx
    generalize hv : a.eval x = vx at hr
    cases hr
    exact .same (key _ _ hv) (.ptr _ _)
  · have hr := hst.ev hx
    generalize hv : a.eval x = vx at hr
    cases hr with
    | fptr b base oo off vs _ hoo hc hrl =>
    exact .same (key _ _ hv) (.fptr b base _ _ vs _ (by omega) hc hrl)

theorem pure_field {o : Oper} {S : TypeId} {x : Operand} {f sz by_ : Nat} {fs : List (Nat × TypeId)} {z : Value} {off : Nat} {t : TypeId} {ti : TI} {cs : List AV} {v : AV} (ho : o.op = .field S x f)
    (hS : Γ.get? S = some ⟨.struct fs, sz, by_, z⟩) (hf : nth fs f = some (off, t)) (ht : Γ.get? t = some ti) (hx : ev env x = some (.agg cs)) (h : loadC ti cs off = some v) : PureRes P o a w p v := by
  obtain ⟨info, d, h1, h2, h3, -⟩ := hΓ.parts hS
  obtain ⟨fl, rfl, hfl⟩ := tdOf_struct h3
  rw [nth_eq, hfl, List.getElem?_map] at hf
  obtain ⟨fd, hfd, hfd'⟩ := Option.map_eq_some_iff.1 hf
  cases hfd'
  have hfd2 : fl[f]? = some fd := by simpa using hfd
  have hr := hst.ev hx
  generalize hv : a.eval x = vx at hr
  cases hr with
  | agg us _ hl =>
  obtain ⟨val, hrun, hrel⟩ := part_ok hΓ ht hl h
  refine .same (val := val) ?_ hrel
  unfold execOp
  rw [ho]
  simp only [hv]
  refine run_v ?_
  simp [Instr.field, run_underlying h2, hfd2, asAgg, hrun]

theorem pure_load {o : Oper} {t : TypeId} {x : Operand} {i : TI} {cs : List AV} {off : Nat} {v : AV} (ho : o.op = .load t x) (ht : Γ.get? t = some i) (hx : ev env x = some (.fptr cs off))
    (h : loadC i cs off = some v) : PureRes P o a w p v := by
  have hr := hst.ev hx
  generalize hv : a.eval x = vx at hr
  cases hr with
  | fptr b base oo _ vs _ hoo hc hrl =>
  subst hoo
  obtain ⟨val, hrun, hrel⟩ := loadVar_ok hΓ ht (b := b) (base := base) (fun j u hu => (hc j u hu).2) hrl h
  refine .same (val := val) ?_ hrel
  unfold execOp
  rw [ho]
  simp only [hv]
  refine run_v ?_
  simp only [Instr.loadAt, Instr.sureAddr, Sem.run_bind, Sem.run_pure, Result.andThen_ok, hrun]

theorem pure_iface {o : Oper} {t : TypeId} {x : Operand} {i : TI} {v : AV} (ho : o.op = .makeInterface t x) (ht : Γ.get? t = some i) (hi : ∀ b, i.td ≠ .iface b) (hx : ev env x = some v) :
    PureRes P o a w p (.iface t v) := by
  obtain ⟨info, d, h1, h2, h3, -⟩ := hΓ.parts ht
  refine .same (val := .iface t (a.eval x)) ?_ (.iface _ _ _ (hst.ev hx))
  unfold execOp
  rw [ho]
  refine run_v ?_
  have hd : ∀ ms, d ≠ .interface ms := fun ms e => by subst e; exact hi _ h3.symm
  simp only [Instr.makeInterface, Sem.run_bind, run_underlying h2, Result.andThen_ok]
  cases d <;> first | rfl | exact absurd rfl (hd _)

omit hΓ in
theorem pure_func {o : Oper} {f : FuncId} {first cap : Array Operand} {fa ca : List AV} (ho : o.op = .makeFunc (.func f) first cap) (hf : evs env first.toList = some fa) (hc : evs env cap.toList = some ca) :
    PureRes P o a w p (.func f fa ca) := by
  refine .same (val := .func (.func f) (first.map a.eval) (cap.map a.eval)) ?_ (.func _ _ _ _ _ (by simpa using evs_rel hst hf) (by simpa using evs_rel hst hc))
  unfold execOp
  rw [ho]
  exact run_v rfl

omit hΓ in
theorem pure_nilCheck {o : Oper} {x : Operand} {v : AV} (ho : o.op = .nilCheck x) (hx : ev env x = some v) (h : (∃ b o, v = .ptr b o) ∨ (∃ cs o, v = .fptr cs o) ∨ (∃ f a c, v = .func f a c)) : PureRes P o a w p v := by
  have hr := hst.ev hx
  refine .same (val := a.eval x) ?_ hr
  unfold execOp
  rw [ho]
  simp only []
  rcases h with ⟨b, o', rfl⟩ | ⟨cs, o', rfl⟩ | ⟨f, as, cs, rfl⟩ <;> generalize hv : a.eval x = vx at hr <;> cases hr <;> rfl

theorem pure_assert {o : Oper} {x : Operand} {xt t : TypeId} {i : TI} {ok : Bool} {u v : AV} (ho : o.op = .typeAssert x xt t ok) (ht : Γ.get? t = some i) (hi : ∀ b, i.td ≠ .iface b) (hx : ev env x = some u)
    (h : (∃ y, u = .iface t y ∧ v = if ok then .tup [y, .bool true] else y) ∨
      (ok = true ∧ (u = .inil ∨ ∃ t' y, t' ≠ t ∧ u = .iface t' y) ∧ ∃ z, constAV2 i.zero = some z ∧ v = .tup [z, .bool false])) : PureRes P o a w p v := by
  obtain ⟨info, d, h1, h2, h3, h4, h5, h6⟩ := hΓ.parts ht
  have hd : ∀ ms, d ≠ .interface ms := fun ms e => by subst e; exact hi _ h3.symm
  have hr := hst.ev hx
  generalize hv : a.eval x = vx at hr
  have hz : (zeroValue t).run P w = .ok i.zero w := by simp [zeroValue, typeInfo, h1, h6]
  rcases h with ⟨y, rfl, rfl⟩ | ⟨rfl, hu, z, hz2, rfl⟩
  · cases hr with
    | iface _ val _ hy =>
    have hrun : (Instr.typeAssert (.iface t val) xt t ok).run P w = .ok (if ok then .tuple #[val, .bool true] else val) w := by
      cases d <;> first | exact absurd rfl (hd _) | (simp only [Instr.typeAssert, Sem.run_bind, run_underlying h2, Result.andThen_ok, if_true, Sem.run_pure])
    refine .same (val := if ok then .tuple #[val, .bool true] else val) ?_ (by cases ok; exact hy; exact .tup _ _ (.cons _ _ _ _ hy (.cons _ _ _ _ (.bool _) .nil)))
    unfold execOp
    rw [ho]
    simp only [hv]
    exact run_v hrun
  · have hrun : (Instr.typeAssert vx xt t true).run P w = .ok (.tuple #[i.zero, .bool false]) w := by
      rcases hu with rfl | ⟨t', y, hne, rfl⟩
      · cases hr
        cases d <;> first | exact absurd rfl (hd _) | (simp only [Instr.typeAssert, Sem.run_bind, run_underlying h2, Result.andThen_ok, if_true, hz, Sem.run_pure])
      · cases hr
        cases d <;> first | exact absurd rfl (hd _) | (simp only [Instr.typeAssert, Sem.run_bind, run_underlying h2, Result.andThen_ok, if_true, if_neg hne, hz, Sem.run_pure])
    refine .same (val := .tuple #[i.zero, .bool false]) ?_ (.tup _ _ (.cons _ _ _ _ (constAV2_rel hz2) (.cons _ _ _ _ (.bool _) .nil)))
    unfold execOp
    rw [ho]
    simp only [hv]
    exact run_v hrun

theorem pure_len {o : Oper} {x : Operand} {t : TypeId} {i : TI} {u : AV} {n : Nat} (ho : o.op = .call { callee := .builtin .len, args := #[x], argTypes := #[t] }) (ht : Γ.get? t = some i) (hx : ev env x = some u)
    (h : (∃ e sz xs own, i.td = .slc e ∧ u = .slc sz xs own ∧ n = xs.length) ∨ (∃ l, i.td = .str ∧ u = .str l ∧ n = l.length)) : PureRes P o a w p (.int .i64 n) := by
  obtain ⟨info, d, h1, h2, h3, -⟩ := hΓ.parts ht
  have hr := hst.ev hx
  generalize hv : a.eval x = vx at hr
  refine .same (val := .int .i64 n) ?_ (.int _ _)
  unfold execOp
  rw [ho]
  simp only [resolve, invoke, builtin, Sem.run_bind, Sem.run_pure, Result.andThen_ok, List.map_toArray, List.map_cons, List.map_nil, hv]
  rcases h with ⟨e, sz, xs, own, htd, rfl, rfl⟩ | ⟨l, htd, rfl, rfl⟩
  · have hd : d = .slice e := by rw [htd] at h3; cases d <;> simp [tdOf] at h3; rw [h3]
    subst hd
    cases hr with
    | slcNil => simp [Builtin.len_, run_underlying h2, goInt]
    | slcZ => simp [Builtin.len_, run_underlying h2, goInt]
    | slc g off n cap sz vs _ _ hn hl hc hr hs hm hk hcl ho => simp [Builtin.len_, run_underlying h2, goInt, hl]
  · have hd : d = .string := by rw [htd] at h3; cases d <;> simp [tdOf] at h3; rfl
    subst hd
    cases hr with
    | str b _ e => subst e; simp [Builtin.len_, run_underlying h2, goInt]

omit hΓ in
theorem pure_box {o : Oper} {t : TypeId} {x : Operand} {v : AV} {cs : List AV} (ho : o.op = .box t x) (hx : ev env x = some v) (hc : cellsOf v = some cs) : PureRes P o a w p (.fptr cs 0) := by
  have hr := hst.ev hx
  have hcr := cellsOf_rel hr hc
  refine PureRes.alloc (a.eval x).cells t hst.wf.lt (val := .pointer (some ⟨w.heap.size, 0, none⟩)) ?_ ?_
  · unfold execOp
    rw [ho]
    exact run_v rfl
  · refine .fptr _ 0 0 0 (a.eval x).cells.toList _ rfl ?_ (hcr.mono (alloc_le hst.wf.lt _ _))
    have := alloc_cells (w := w) (p := p) (a.eval x).cells.toList t
    simpa using this

theorem pure_build {o : Oper} {t : TypeId} {parts : Array (Nat × Operand)} {fs : List (Nat × TypeId)} {sz by_ : Nat} {z : Value} {pl : List (Nat × Nat)} {zs cs : List AV} {ps : List (Nat × AV)}
    (ho : o.op = .build t parts) (ht : Γ.get? t = some ⟨.struct fs, sz, by_, z⟩) (hpl : placesOf Γ fs = some pl) (hz : constAV2 z = some (.agg zs)) (hps : evParts env parts.toList = some ps)
    (h : fillA (nth pl) zs ps = some cs) : PureRes P o a w p (.agg cs) := by
  obtain ⟨info, d, h1, h2, h3, h4, h5, h6⟩ := hΓ.parts ht
  obtain ⟨fl, rfl, hfl⟩ := tdOf_struct h3
  rw [hfl] at hpl
  have hplaces := places_ok hΓ fl.toList hpl
  have hzr := constAV2_rel (w := w) (p := p) hz
  obtain ⟨e1, e2⟩ := evParts_ok hst hps
  have hzc : RelL w p z.cells.toList zs := cellsOf_rel hzr rfl
  have hnth : (fun x => pl.toArray[x]?) = nth pl := by funext x; rw [nth_eq]; simp
  obtain ⟨out, hfill, hout⟩ := fill_ok _ _ z.cells zs cs e1 e2 hzc h
  refine .same (val := .agg out) ?_ (.agg _ _ hout)
  unfold execOp
  rw [ho]
  refine run_v (run_build w t _ out ?_)
  unfold Program.built
  simp only [h1, h2, h6, hplaces]
  rw [hnth]
  simpa using hfill

theorem pure_buildSlice {o : Oper} {t e : TypeId} {len : Nat} {parts : Array (Nat × Operand)} {sz by_ : Nat} {z : Value} {ie : TI} {xs : List AV}
    (ho : o.op = .buildSlice t len parts) (ht : Γ.get? t = some ⟨.slc e, sz, by_, z⟩) (he : Γ.get? e = some ie) (hlen : parts.size = len) (hmax : len * ie.size ≤ 16777216) (hmax2 : len ≤ 16777216)
    (h : evElems env ie.size 0 parts.toList = some xs) : PureRes P o a w p (.slc ie.size xs .clip) := by
  obtain ⟨info, d, h1, h2, h3, -⟩ := hΓ.parts ht
  obtain ⟨info', d', h1', h2', h3', h4', h5', h6'⟩ := hΓ.parts he
  have hd : d = .slice e := by cases d <;> simp [tdOf] at h3; rw [h3]
  subst hd
  obtain ⟨vs, e1, e2, e3, e4⟩ := evElems_ok hst h
  have hvl : vs.length = len := by rw [e4, Array.length_toList, hlen]
  have hfl : (flat vs).length = len * ie.size := by
    rw [← hvl]; clear e1 e2 e4 hvl h
    induction vs with
    | nil => simp [flat]
    | cons v vs ih =>
      have := ih (fun u hu => e3 u (List.mem_cons_of_mem _ hu))
      simp only [flat, List.flatMap_cons, List.length_append, Array.length_toList, List.length_cons] at this ⊢
      rw [e3 v (List.mem_cons_self ..)]
      have h' : (List.flatMap (fun v => v.cells.toList) vs).length = vs.length * ie.size := this
      rw [h', Nat.add_mul]; omega
  have hfill : ∀ zeros : Array Value, zeros.size = len * ie.size → Instr.fill (fun i => some (i * ie.size, ie.size)) zeros (parts.map fun x => (x.1, a.eval x.2)).toList = some (flat vs).toArray := by
    intro zeros hzs
    have := fill_seq ie.size vs 0 [] zeros.toList (by simp) (by rw [Array.length_toList, hzs, hvl]) e3
    simp only [List.nil_append] at this
    rw [Array.toList_map, e1]
    simpa using this
  refine PureRes.alloc (flat vs).toArray e hst.wf.lt (val := .slice (some ⟨w.heap.size, 0, none⟩) len len) ?_ ?_
  · unfold execOp
    rw [ho]
    refine run_v ?_
    have hmax' : ¬ (16777216 < len * ie.size) := by omega
    have hgt : ¬ (len * ie.size > 2 ^ 24) := by omega
    unfold Instr.buildSlice
    simp only [Sem.run_bind, run_underlying h2, Result.andThen_ok, sizeOf, typeInfo, run_program, h1', Sem.run_pure, h4', if_neg hgt]
    by_cases h0 : len * ie.size = 0
    · rw [if_pos h0, Sem.run_bind, Sem.run_pure, Result.andThen_ok, hfill _ (by simp)]
      rfl
    · rw [if_neg h0]
      simp only [zeroValue, typeInfo, Sem.run_bind, run_program, h1', h6', Sem.run_pure, Result.andThen_ok]
      rw [hfill _ (by simp)]
      rfl
  · refine .slc _ 0 _ _ _ vs _ _ (by simp) (by rw [← e2.length, hvl]) ?_ (e2.mono (alloc_le hst.wf.lt _ _)) e3 ?_ (Nat.le_refl _) (fun _ => rfl) (fun b hb => by cases hb)
    · exact alloc_cells (w := w) (p := p) (flat vs) e
    · omega


theorem aop_ok {o : Oper} {v : AV} (h : aop Γ o env = some v) : PureRes P o a w p v := by
  unfold aop at h
  split at h
  · rename_i x ho; exact pure_val hst (.inl ho) h
  · rename_i x ho; exact pure_val hst (.inr ho) h
  · rename_i c x y ho
    split at h
    · rename_i hc; exact pure_pick hst (t := true) ho hc h
    · rename_i hc; exact pure_pick hst (t := false) ho hc h
    · cases h
  · rename_i op t x y yt ho
    split at h
    · rename_i u v' hx hy; exact pure_bin hΓ hst ho hx hy h
    · cases h
  · rename_i t x ho
    split at h
    · rename_i b hb; cases h; exact pure_not hst ho hb
    · cases h
  · rename_i x i ho
    split at h
    · rename_i vs hx; exact pure_extract hst ho hx h
    · cases h
  · rename_i S x f ho
    split at h
    · rename_i fs sz by_ z hS
      split at h
      · rename_i off t hf
        split at h
        · rename_i td n tb tz ht
          split at h
          · rename_i b o' hx; cases h; exact pure_fieldAddr hΓ hst ho hS hf ht (by simp) (.inl ⟨_, _, hx, rfl⟩)
          · rename_i cs o' hx; cases h; exact pure_fieldAddr hΓ hst ho hS hf ht (by simp) (.inr ⟨_, _, hx, rfl⟩)
          · cases h
        · cases h
      · cases h
    · cases h
  · rename_i S x f ho
    split at h
    · rename_i fs sz by_ z hS
      split at h
      · rename_i off t hf
        split at h
        · rename_i i ht
          split at h
          · rename_i cs hx; exact pure_field hΓ hst ho hS hf ht hx h
          · cases h
        · cases h
      · cases h
    · cases h
  · rename_i t x ho
    split at h
    · rename_i i ht
      split at h
      · rename_i cs o' hx; exact pure_load hΓ hst ho ht hx h
      · cases h
    · cases h
  · rename_i t x ho
    split at h
    · cases h
    · rename_i i hni ht
      split at h
      · rename_i u hx; cases h; exact pure_iface hΓ hst ho ht (fun b e => by obtain ⟨a1, a2, a3, a4⟩ := i; simp only at e; subst e; exact hni _ _ _ _ rfl) hx
      · cases h
    · cases h
  · rename_i f first cap ho
    split at h
    · rename_i fa ca h1 h2; cases h; exact pure_func hst ho h1 h2
    · cases h
  · rename_i x ho
    split at h
    · rename_i b o' hx; cases h; exact pure_nilCheck hst ho hx (.inl ⟨_, _, rfl⟩)
    · rename_i cs o' hx; cases h; exact pure_nilCheck hst ho hx (.inr (.inl ⟨_, _, rfl⟩))
    · rename_i f fa ca hx; cases h; exact pure_nilCheck hst ho hx (.inr (.inr ⟨_, _, _, rfl⟩))
    · cases h
  · rename_i x xt t ok ho
    split at h
    · cases h
    · rename_i i hni ht
      have hni' : ∀ b, i.td ≠ .iface b := fun b e => by obtain ⟨a1, a2, a3, a4⟩ := i; simp only at e; subst e; exact hni _ _ _ _ rfl
      split at h
      · rename_i t' u hx
        split at h
        · rename_i hb; cases h; have := Nat.eq_of_beq_eq_true hb; subst this; exact pure_assert hΓ hst ho ht hni' hx (.inl ⟨u, rfl, rfl⟩)
        · rename_i hb; cases h; have := Nat.eq_of_beq_eq_true hb; subst this; exact pure_assert hΓ hst ho ht hni' hx (.inl ⟨_, rfl, rfl⟩)
        · rename_i hb
          split at h
          · rename_i z hz; cases h
            exact pure_assert hΓ hst ho ht hni' hx (.inr ⟨rfl, .inr ⟨t', u, (fun e => by subst e; simp at hb), rfl⟩, z, hz, rfl⟩)
          · cases h
        · cases h
      · rename_i hx
        split at h
        · split at h
          · rename_i z hz; cases h
            exact pure_assert hΓ hst ho ht hni' hx (.inr ⟨rfl, .inl rfl, z, hz, rfl⟩)
          · cases h
        · cases h
      · cases h
    · cases h
  · rename_i args argTypes ho
    split at h
    · rename_i x t h1 h2
      have e1 : args = #[x] := by apply Array.ext'; simpa using h1
      have e2 : argTypes = #[t] := by apply Array.ext'; simpa using h2
      subst e1; subst e2
      split at h
      · rename_i e sz by_ z ht
        split at h
        · rename_i sz' xs own hx; cases h; exact pure_len hΓ hst ho ht hx (.inl ⟨_, _, _, _, rfl, rfl, rfl⟩)
        · cases h
      · rename_i sz by_ z ht
        split at h
        · rename_i l hx; cases h; exact pure_len hΓ hst ho ht hx (.inr ⟨_, rfl, rfl, rfl⟩)
        · cases h
      · cases h
    · cases h
  · rename_i t x ho
    split at h
    · rename_i u hx
      split at h
      · rename_i cs hc; cases h; exact pure_box hst ho hx hc
      · cases h
    · cases h
  · rename_i t parts ho
    split at h
    · rename_i fs sz by_ z ht
      split at h
      · rename_i pl zs ps hpl hz hps
        split at h
        · rename_i cs hcs; cases h; exact pure_build hΓ hst ho ht hpl hz hps hcs
        · cases h
      · cases h
    · cases h
  · rename_i t len parts ho
    split at h
    · rename_i e sz by_ z ht
      split at h
      · rename_i ie he
        split at h
        · rename_i hchk
          simp only [Bool.and_eq_true] at hchk
          split at h
          · rename_i xs hxs; cases h
            exact pure_buildSlice hΓ hst ho ht he (Nat.eq_of_beq_eq_true hchk.1) (Nat.le_of_ble_eq_true hchk.2.1) (Nat.le_of_ble_eq_true hchk.2.2) hxs
          · cases h
        · cases h
      · cases h
    · cases h
  · cases h

omit hst hΓ in
theorem aop_noDefer {o : Oper} {v : AV} (h : aop Γ o env = some v) : noDefer o = true := by
  unfold noDefer
  cases ho : o.op <;> first | rfl | (unfold aop at h; rw [ho] at h; cases h)

omit hst in
theorem OW.aop {o : Oper} {v : AV} (h : AE.aop Γ o env = some v) : OW P N o env s (fun x s' => x = v ∧ s' = s) (fun _ _ => False) :=
  OW.ofPure (aop_noDefer h) fun _ _ _ _ _ hst => aop_ok hΓ hst h

omit hst in
/-- A region's step, reckoned. -/
theorem RW.step {ops : Array Oper} {Q : AEx → Env → Store → Prop} {i : Nat} {l : List Nat} {o : Oper} {d : Nat} {v : AV} (ho : ops[i]? = some o) (hg : guardOf ops env o = some true)
    (hd : o.dst = some d) (hN : Nat.blt d N = true) (hv : AE.aop Γ o env = some v) (h : RW P N ops l Q ((d, v) :: env) s) : RW P N ops (i :: l) Q env s :=
  RW.op ho hg hd hN (OW.aop hΓ hv) (fun x s' ⟨h1, h2⟩ => by subst h1; subst h2; exact h) (fun _ _ h => h.elim)
end
end Go.AE

