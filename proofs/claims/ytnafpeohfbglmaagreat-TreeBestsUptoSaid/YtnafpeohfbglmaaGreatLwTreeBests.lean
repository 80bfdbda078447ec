/- The law TreeBests, closed: it returns true for every input of bulk at most 2^20. -/
import Derived.Test.YtnafpeohfbglmaaGreatSi
import Derived.WalkKit
import Derived.OpenShut
import Derived.JoinedCond
set_option linter.unusedVariables false
set_option linter.unusedSimpArgs false
namespace Go.Proofs.YtnafpeohfbglmaaGreat
open Go.ChangeShapes Go.WideShapes Go.ChangeAt Go.RowKit

namespace treeBests

theorem own : ownKnob Tryz.prog.godebug = none := by kernel_rfl

set_option maxRecDepth 100000 in
theorem contract (H : Type) (enc : TypeId × Value → H) (W : World) (base : Nat) (args : Array Value) (ds gs : List (DataW H)) (before : List MemPlace)
    (m' : ∀ (j : Nat) t v, Tryz.f3.params[j]? = some t → args[j]? = some v → Value.okWide Tryz.prog W .any base t v)
    (gO : DataW.Whole enc Tryz.prog Tryz.f3.params.toList Rows.treeBestsSpec.vars false W args.toList ds gs before) (aE : Rows.uptoSmall H (ds ++ gs) = true) :
    Calls Tryz.prog 3 args W fun e yg => ∃ v, e = .returned v ∧ Rows.treeBestsSpec.post enc Tryz.prog Tryz.f3 false true false false W args v yg := by
  have acH := gO
  obtain ⟨p, q, hA0, J2, rfl, adJ, e7⟩ := gO
  have sh : DataW.TrodAll enc Tryz.prog W 0 (fun _ => true) true Tryz.f3.params.toList args.toList ds p := hA0
  rw [Tryz.params3] at sh m'
  obtain ⟨v0, AP, d0, ds0, Ek, hR, yG, rfl, rfl, bq, DN⟩ := trodAll_cons sh
  obtain ⟨v1, vs1, d1, ds1, lb, ea, rfl, rfl, rfl, U, e8⟩ := trodAll_cons DN
  obtain ⟨rfl, rfl, rfl⟩ := trodAll_nil e8
  obtain rfl : args = #[v0, v1] := by cases args; simp_all
  obtain ⟨Kx, bq⟩ := bq
  obtain ⟨yv, U⟩ := U
  obtain ⟨l_x0, g0, q8⟩ := adP _ _ _ bq
  obtain ⟨aed, g1, ho⟩ := trod_int Tryz.underlying3 U
  have an : Rows.uptoBulkAll ([d0, d1] ++ gs) ≤ 1048576 := of_decide_eq_true aE
  simp only [List.cons_append, List.nil_append, Rows.uptoBulkAll] at an
  try simp only at q8 ho
  have XV : bT.weight l_x0 ≤ 1048576 := by omega
  have Y0 := adN (adL Tryz.underlying27 (m' 0 27 v0 rfl rfl)) g0
  have yw := adM (adO Tryz.underlying3 (m' 1 3 v1 rfl rfl)) g1
  exact adI laidOut (by rw [Tryz.params3]; decide +kernel) rfl rfl (fun av => by subst av; rfl) acH
    (.cons _ _ _ _ Y0 (.cons _ _ _ _ yw .nil))
    ((adG l_x0 (bT.small XV) aed _))

theorem inp : (Rows.treeBestsUptoRow.inPlace == Tryz.prog.inPlace 3) = true := by kernel_rfl
theorem unf : (Rows.treeBestsUptoRow.unfollowed == Tryz.prog.unfollowed 3) = true := by kernel_rfl
theorem rcs : (Rows.treeBestsUptoRow.recurses == Tryz.prog.recurses 3) = true := by kernel_rfl
theorem nmd : (Rows.treeBestsUptoRow.named == Tryz.prog.varsNamed 3) = true := by kernel_rfl
theorem lif : (Rows.treeBestsUptoRow.lifted == Tryz.prog.liftsFinal) = true := adV
theorem mak : (Tryz.prog.make == some Rows.treeBestsUptoRow.make) = true := adW
theorem pla : (Rows.treeBestsUptoRow.plainKeys == Tryz.prog.plainKeys) = true := adX
theorem closed : joinedFacts Tryz.prog 3 Tryz.f3 (Rows.OpenSpec.upto Rows.treeBestsSpec).bare Rows.treeBestsUptoRow = true := by
  unfold joinedFacts
  simp only [laidOut, adQ, adR, adS, adT, adU, inp, unf, rcs, nmd, lif, mak, pla, Bool.true_and, Bool.and_true]
  kernel_rfl

set_option maxRecDepth 100000 in
theorem lifted (os : Os) (started : os.Started) (H : Type) (enc : TypeId × Value → H) (F : Stop.Interp) :
    ReturnsInHanded {} Tryz.checked os 3 .any ((Rows.OpenSpec.upto Rows.treeBestsSpec).pre6 enc Tryz.prog Tryz.f3 Rows.treeBestsUptoRow.domain false) (((Rows.OpenSpec.upto Rows.treeBestsSpec).at F).post enc Tryz.prog Tryz.f3 false true false false) := by
  refine returnsInHanded_of_cond (C := Tryz.checked) (s := Rows.OpenSpec.upto Rows.treeBestsSpec) (k := Rows.uptoSmall) rfl own started (by kernel_rfl) Tryz.func3
    (OpenSpec.witness (enc := enc) (C := Tryz.checked) (s := Rows.OpenSpec.upto Rows.treeBestsSpec) (k := Rows.uptoSmall) rfl false ⟨#[], #[.agg #[.slice none 0 0, .int .i64 0, .slice none 0 0, .slice none 0 0, .slice none 0 0, .int .i64 0], .int .i64 0], []⟩ 8 (by kernel_rfl) (by kernel_rfl) (by kernel_rfl)
      (x := ([.agg [.nil, .lit (.int .i64 0), .nil, .nil, .nil, .lit (.int .i64 0)], .lit (.int .i64 0)], [], [])) (by kernel_rfl) rfl (by kernel_rfl)) ?_
  intro W base args ds gs before m' gO _ aE _
  exact contract H enc W base args ds gs before m' gO aE

theorem rl : Rows.treeBestsUptoRow.holds Tryz.pinned (Rows.OpenSpec.upto Rows.treeBestsSpec) :=
  OpenClaim.holds_of_cond 3 Tryz.f3 rfl rfl rfl rfl rfl rfl rfl ⟨rfl, rfl, rfl, rfl, rfl⟩ rfl rfl rfl rfl rfl (by kernel_rfl) Tryz.func3 closed
    (of_decide_eq_true (by kernel_rfl)) (by unfold Func.isWrapper; first | (rw [if_pos (by decide +kernel)]; kernel_rfl) | (rw [if_neg (by decide +kernel)]; exact ⟨rfl, rfl⟩))
    (fun os started H enc _ F => lifted os started H enc F)

theorem proved : Rows.TreeBestsUptoSaid :=
  rl
end treeBests
end Go.Proofs.YtnafpeohfbglmaaGreat
