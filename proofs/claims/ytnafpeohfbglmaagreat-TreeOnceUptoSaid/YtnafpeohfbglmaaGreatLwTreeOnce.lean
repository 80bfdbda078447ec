/- The law TreeOnce, closed: it returns true for every input of bulk at most 2^20. -/
import Derived.Test.YtnafpeohfbglmaaGreatVi
import Derived.WalkKit
import Derived.OpenShut
import Derived.JoinedCond
set_option linter.unusedVariables false
set_option linter.unusedSimpArgs false
namespace Go.Proofs.YtnafpeohfbglmaaGreat
open Go.ChangeShapes Go.WideShapes Go.ChangeAt Go.RowKit

namespace treeOnce

theorem own : ownKnob Tryz.prog.godebug = none := by kernel_rfl

set_option maxRecDepth 100000 in
theorem contract (H : Type) (enc : TypeId × Value → H) (W : World) (base : Nat) (args : Array Value) (cf gs : List (DataW H)) (before : List MemPlace)
    (oY : ∀ (j : Nat) t v, Tryz.f7.params[j]? = some t → args[j]? = some v → Value.okWide Tryz.prog W .any base t v)
    (fw : DataW.Whole enc Tryz.prog Tryz.f7.params.toList Rows.treeOnceSpec.vars false W args.toList cf gs before) (aA : Rows.uptoSmall H (cf ++ gs) = true) :
    Calls Tryz.prog 7 args W fun e xZ => ∃ v, e = .returned v ∧ Rows.treeOnceSpec.post enc Tryz.prog Tryz.f7 false true false false W args v xZ := by
  have acQ := fw
  obtain ⟨p, q, hA0, JH, rfl, adQ, eM⟩ := fw
  have h7 : DataW.TrodAll enc Tryz.prog W 0 (fun _ => true) true Tryz.f7.params.toList args.toList cf p := hA0
  rw [Tryz.params7] at h7 oY
  obtain ⟨v0, AA, d0, ds0, DP, hI, yj, rfl, rfl, bu, Du⟩ := trodAll_cons h7
  obtain ⟨v1, vs1, d1, ds1, jI, dT, rfl, rfl, rfl, U, fr⟩ := trodAll_cons Du
  obtain ⟨rfl, rfl, rfl⟩ := trodAll_nil fr
  obtain rfl : args = #[v0, v1] := by cases args; simp_all
  obtain ⟨Kt, bu⟩ := bu
  obtain ⟨CB, U⟩ := U
  obtain ⟨l_x0, g0, wa⟩ := adW _ _ _ bu
  obtain ⟨l_x1, g1, ha⟩ := trod_int Tryz.underlying3 U
  have an : Rows.uptoBulkAll ([d0, d1] ++ gs) ≤ 1048576 := of_decide_eq_true aA
  simp only [List.cons_append, List.nil_append, Rows.uptoBulkAll] at an
  try simp only at wa ha
  have HR : bR.weight l_x0 ≤ 1048576 := by omega
  have Zt := adU (adS Tryz.underlying27 (oY 0 27 v0 rfl rfl)) g0
  have ya := adT (adV Tryz.underlying3 (oY 1 3 v1 rfl rfl)) g1
  exact adP laidOut (by rw [Tryz.params7]; decide +kernel) rfl rfl (fun av => by subst av; rfl) acQ
    (.cons _ _ _ _ Zt (.cons _ _ _ _ ya .nil))
    ((adM l_x0 (bR.small HR) l_x1 _))

theorem inp : (Rows.treeOnceUptoRow.inPlace == Tryz.prog.inPlace 7) = true := by kernel_rfl
theorem unf : (Rows.treeOnceUptoRow.unfollowed == Tryz.prog.unfollowed 7) = true := by kernel_rfl
theorem rcs : (Rows.treeOnceUptoRow.recurses == Tryz.prog.recurses 7) = true := by kernel_rfl
theorem nmd : (Rows.treeOnceUptoRow.named == Tryz.prog.varsNamed 7) = true := by kernel_rfl
theorem lif : (Rows.treeOnceUptoRow.lifted == Tryz.prog.liftsFinal) = true := ad2
theorem mak : (Tryz.prog.make == some Rows.treeOnceUptoRow.make) = true := ad3
theorem pla : (Rows.treeOnceUptoRow.plainKeys == Tryz.prog.plainKeys) = true := ad4
theorem closed : joinedFacts Tryz.prog 7 Tryz.f7 (Rows.OpenSpec.upto Rows.treeOnceSpec).bare Rows.treeOnceUptoRow = true := by
  unfold joinedFacts
  simp only [laidOut, adX, adY, adZ, ad0, ad1, inp, unf, rcs, nmd, lif, mak, pla, Bool.true_and, Bool.and_true]
  kernel_rfl

set_option maxRecDepth 100000 in
theorem lifted (os : Os) (started : os.Started) (H : Type) (enc : TypeId × Value → H) (F : Stop.Interp) :
    ReturnsInHanded {} Tryz.checked os 7 .any ((Rows.OpenSpec.upto Rows.treeOnceSpec).pre6 enc Tryz.prog Tryz.f7 Rows.treeOnceUptoRow.domain false) (((Rows.OpenSpec.upto Rows.treeOnceSpec).at F).post enc Tryz.prog Tryz.f7 false true false false) := by
  refine returnsInHanded_of_cond (C := Tryz.checked) (s := Rows.OpenSpec.upto Rows.treeOnceSpec) (k := Rows.uptoSmall) rfl own started (by kernel_rfl) Tryz.func7
    (OpenSpec.witness (enc := enc) (C := Tryz.checked) (s := Rows.OpenSpec.upto Rows.treeOnceSpec) (k := Rows.uptoSmall) rfl false ⟨#[], #[.agg #[.slice none 0 0, .int .i64 0, .slice none 0 0, .slice none 0 0, .slice none 0 0, .int .i64 0], .int .i64 0], []⟩ 8 (by kernel_rfl) (by kernel_rfl) (by kernel_rfl)
      (x := ([.agg [.nil, .lit (.int .i64 0), .nil, .nil, .nil, .lit (.int .i64 0)], .lit (.int .i64 0)], [], [])) (by kernel_rfl) rfl (by kernel_rfl)) ?_
  intro W base args cf gs before oY fw _ aA _
  exact contract H enc W base args cf gs before oY fw aA

theorem qU : Rows.treeOnceUptoRow.holds Tryz.pinned (Rows.OpenSpec.upto Rows.treeOnceSpec) :=
  OpenClaim.holds_of_cond 7 Tryz.f7 rfl rfl rfl rfl rfl rfl rfl ⟨rfl, rfl, rfl, rfl, rfl⟩ rfl rfl rfl rfl rfl (by kernel_rfl) Tryz.func7 closed
    (of_decide_eq_true (by kernel_rfl)) (by unfold Func.isWrapper; first | (rw [if_pos (by decide +kernel)]; kernel_rfl) | (rw [if_neg (by decide +kernel)]; exact ⟨rfl, rfl⟩))
    (fun os started H enc _ F => lifted os started H enc F)

theorem proved : Rows.TreeOnceUptoSaid :=
  qU
end treeOnce
end Go.Proofs.YtnafpeohfbglmaaGreat
