/- The law TreeKnown, closed: it returns true for every input of bulk at most 2^20. -/
import Derived.Test.YtnafpeohfbglmaaGreatPh
import Derived.WalkKit
import Derived.OpenShut
import Derived.JoinedCond
namespace Go.Proofs.YtnafpeohfbglmaaGreat
open Go.bj Go.ChangeShapes Go.WideShapes Go.ChangeAt Go.RowKit

namespace treeKnown

theorem own : ownKnob Tryz.prog.godebug = none := by kernel_rfl

set_option maxRecDepth 100000 in
theorem contract (H : Type) (enc : TypeId × Value → H) (W : World) (base : Nat) (args : Array Value) (b5 gs : List (DataW H)) (before : List MemPlace)
    (lx : ∀ (j : Nat) t v, Tryz.f9.params[j]? = some t → args[j]? = some v → Value.okWide Tryz.prog W .any base t v)
    (gR : DataW.Whole enc Tryz.prog Tryz.f9.params.toList Rows.treeKnownSpec.vars false W args.toList b5 gs before) (aD : Rows.uptoSmall H (b5 ++ gs) = true) :
    Calls Tryz.prog 9 args W fun e vg => ∃ v, e = .returned v ∧ Rows.treeKnownSpec.post enc Tryz.prog Tryz.f9 false true false false W args v vg := by
  have WJ := gR
  obtain ⟨p, q, hA0, F9, rfl, XR, eT⟩ := gR
  have vG : DataW.TrodAll enc Tryz.prog W 0 (fun _ => true) true Tryz.f9.params.toList args.toList b5 p := hA0
  rw [Tryz.params9] at vG lx
  obtain ⟨vF, rfl, rfl⟩ := trodAll_nil vG
  obtain rfl : args = #[] := by cases args; simp_all
  have an : Rows.uptoBulkAll ([] ++ gs) ≤ 1048576 := of_decide_eq_true aD
  simp only [List.cons_append, List.nil_append, Rows.uptoBulkAll] at an
  exact XQ laidOut (by rw [Tryz.params9]; decide +kernel) rfl rfl (fun ao => by subst ao; rfl) WJ
    .nil
    (XN () _)

theorem inp : (Rows.treeKnownUptoRow.inPlace == Tryz.prog.inPlace 9) = true := by kernel_rfl
theorem unf : (Rows.treeKnownUptoRow.unfollowed == Tryz.prog.unfollowed 9) = true := by kernel_rfl
theorem rcs : (Rows.treeKnownUptoRow.recurses == Tryz.prog.recurses 9) = true := by kernel_rfl
theorem nmd : (Rows.treeKnownUptoRow.named == Tryz.prog.varsNamed 9) = true := by kernel_rfl
theorem lif : (Rows.treeKnownUptoRow.lifted == Tryz.prog.liftsFinal) = true := XZ
theorem mak : (Tryz.prog.make == some Rows.treeKnownUptoRow.make) = true := X0
theorem pla : (Rows.treeKnownUptoRow.plainKeys == Tryz.prog.plainKeys) = true := X1
theorem closed : joinedFacts Tryz.prog 9 Tryz.f9 (Rows.OpenSpec.upto Rows.treeKnownSpec).bare Rows.treeKnownUptoRow = true := by
  unfold joinedFacts
  simp only [laidOut, XU, XV, XW, XX, XY, inp, unf, rcs, nmd, lif, mak, pla, Bool.true_and, Bool.and_true]
  kernel_rfl

set_option maxRecDepth 100000 in
theorem lifted (os : Os) (started : os.Started) (H : Type) (enc : TypeId × Value → H) (F : Stop.Interp) :
    ReturnsInHanded {} Tryz.checked os 9 .any ((Rows.OpenSpec.upto Rows.treeKnownSpec).pre6 enc Tryz.prog Tryz.f9 Rows.treeKnownUptoRow.domain false) (((Rows.OpenSpec.upto Rows.treeKnownSpec).at F).post enc Tryz.prog Tryz.f9 false true false false) := by
  refine returnsInHanded_of_cond (C := Tryz.checked) (s := Rows.OpenSpec.upto Rows.treeKnownSpec) (k := Rows.uptoSmall) rfl own started (by kernel_rfl) Tryz.func9
    (OpenSpec.witness (enc := enc) (C := Tryz.checked) (s := Rows.OpenSpec.upto Rows.treeKnownSpec) (k := Rows.uptoSmall) rfl false ⟨#[], #[], []⟩ 8 (by kernel_rfl) (by kernel_rfl) (by kernel_rfl)
      (x := ([], [], [])) (by kernel_rfl) rfl (by kernel_rfl)) ?_
  intro W base args b5 gs before lx gR _ aD _
  exact contract H enc W base args b5 gs before lx gR aD

theorem o4 : Rows.treeKnownUptoRow.holds Tryz.pinned (Rows.OpenSpec.upto Rows.treeKnownSpec) :=
  OpenClaim.holds_of_cond 9 Tryz.f9 rfl rfl rfl rfl rfl rfl rfl ⟨rfl, rfl, rfl, rfl, rfl⟩ rfl rfl rfl rfl rfl (by kernel_rfl) Tryz.func9 closed
    (of_decide_eq_true (by kernel_rfl)) (by unfold Func.isWrapper; first | (rw [if_pos (by decide +kernel)]; kernel_rfl) | (rw [if_neg (by decide +kernel)]; exact ⟨rfl, rfl⟩))
    (fun os started H enc _ F => lifted os started H enc F)

theorem proved : Rows.TreeKnownUptoSaid :=
  o4
end treeKnown
end Go.Proofs.YtnafpeohfbglmaaGreat
