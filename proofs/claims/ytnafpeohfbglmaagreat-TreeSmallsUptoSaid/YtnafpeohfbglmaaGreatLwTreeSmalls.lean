/- The law TreeSmalls, closed: it returns true for every input of bulk at most 2^20. -/
import Derived.Test.YtnafpeohfbglmaaGreatPh
import Derived.WalkKit
import Derived.OpenShut
import Derived.JoinedCond
namespace Go.Proofs.YtnafpeohfbglmaaGreat
open Go.bj Go.ChangeShapes Go.WideShapes Go.ChangeAt Go.RowKit

namespace treeSmalls

theorem own : ownKnob Tryz.prog.godebug = none := by kernel_rfl

set_option maxRecDepth 100000 in
theorem contract (H : Type) (enc : TypeId × Value → H) (W : World) (base : Nat) (args : Array Value) (b5 gs : List (DataW H)) (before : List MemPlace)
    (lx : ∀ (j : Nat) t v, Tryz.f4.params[j]? = some t → args[j]? = some v → Value.okWide Tryz.prog W .any base t v)
    (gR : DataW.Whole enc Tryz.prog Tryz.f4.params.toList Rows.treeSmallsSpec.vars false W args.toList b5 gs before) (aD : Rows.uptoSmall H (b5 ++ gs) = true) :
    Calls Tryz.prog 4 args W fun e vg => ∃ v, e = .returned v ∧ Rows.treeSmallsSpec.post enc Tryz.prog Tryz.f4 false true false false W args v vg := by
  have WJ := gR
  obtain ⟨p, q, hA0, F9, rfl, XR, eT⟩ := gR
  have vG : DataW.TrodAll enc Tryz.prog W 0 (fun _ => true) true Tryz.f4.params.toList args.toList b5 p := hA0
  rw [Tryz.params4] at vG lx
  obtain ⟨v0, xW, d0, ds0, A5, gF, vF, rfl, rfl, bB, AI⟩ := trodAll_cons vG
  obtain ⟨rfl, rfl, rfl⟩ := trodAll_nil AI
  obtain rfl : args = #[v0] := by cases args; simp_all
  obtain ⟨Gr, bB⟩ := bB
  obtain ⟨l_x0, g0, xr⟩ := XP bB
  have an : Rows.uptoBulkAll ([d0] ++ gs) ≤ 1048576 := of_decide_eq_true aD
  simp only [List.cons_append, List.nil_append, Rows.uptoBulkAll] at an
  try simp only at xr
  have RD : (l_x0.map bC.weight).sum + 1 ≤ 1048576 := by omega
  have SR := XT (XS Tryz.underlying28 (lx 0 28 v0 rfl rfl)) g0
  exact XQ laidOut (by rw [Tryz.params4]; decide +kernel) rfl rfl (fun ao => by subst ao; rfl) WJ
    (.cons _ _ _ _ SR .nil)
    (XK l_x0 (by have := WI l_x0; have : bt = 1099511627776 := rfl; omega) _)

theorem inp : (Rows.treeSmallsUptoRow.inPlace == Tryz.prog.inPlace 4) = true := by kernel_rfl
theorem unf : (Rows.treeSmallsUptoRow.unfollowed == Tryz.prog.unfollowed 4) = true := by kernel_rfl
theorem rcs : (Rows.treeSmallsUptoRow.recurses == Tryz.prog.recurses 4) = true := by kernel_rfl
theorem nmd : (Rows.treeSmallsUptoRow.named == Tryz.prog.varsNamed 4) = true := by kernel_rfl
theorem lif : (Rows.treeSmallsUptoRow.lifted == Tryz.prog.liftsFinal) = true := XZ
theorem mak : (Tryz.prog.make == some Rows.treeSmallsUptoRow.make) = true := X0
theorem pla : (Rows.treeSmallsUptoRow.plainKeys == Tryz.prog.plainKeys) = true := X1
theorem closed : joinedFacts Tryz.prog 4 Tryz.f4 (Rows.OpenSpec.upto Rows.treeSmallsSpec).bare Rows.treeSmallsUptoRow = true := by
  unfold joinedFacts
  simp only [laidOut, XU, XV, XW, XX, XY, inp, unf, rcs, nmd, lif, mak, pla, Bool.true_and, Bool.and_true]
  kernel_rfl

set_option maxRecDepth 100000 in
theorem lifted (os : Os) (started : os.Started) (H : Type) (enc : TypeId × Value → H) (F : Stop.Interp) :
    ReturnsInHanded {} Tryz.checked os 4 .any ((Rows.OpenSpec.upto Rows.treeSmallsSpec).pre6 enc Tryz.prog Tryz.f4 Rows.treeSmallsUptoRow.domain false) (((Rows.OpenSpec.upto Rows.treeSmallsSpec).at F).post enc Tryz.prog Tryz.f4 false true false false) := by
  refine returnsInHanded_of_cond (C := Tryz.checked) (s := Rows.OpenSpec.upto Rows.treeSmallsSpec) (k := Rows.uptoSmall) rfl own started (by kernel_rfl) Tryz.func4
    (OpenSpec.witness (enc := enc) (C := Tryz.checked) (s := Rows.OpenSpec.upto Rows.treeSmallsSpec) (k := Rows.uptoSmall) rfl false ⟨#[], #[.slice none 0 0], []⟩ 8 (by kernel_rfl) (by kernel_rfl) (by kernel_rfl)
      (x := ([.nil], [], [])) (by kernel_rfl) rfl (by kernel_rfl)) ?_
  intro W base args b5 gs before lx gR _ aD _
  exact contract H enc W base args b5 gs before lx gR aD

theorem o4 : Rows.treeSmallsUptoRow.holds Tryz.pinned (Rows.OpenSpec.upto Rows.treeSmallsSpec) :=
  OpenClaim.holds_of_cond 4 Tryz.f4 rfl rfl rfl rfl rfl rfl rfl ⟨rfl, rfl, rfl, rfl, rfl⟩ rfl rfl rfl rfl rfl (by kernel_rfl) Tryz.func4 closed
    (of_decide_eq_true (by kernel_rfl)) (by unfold Func.isWrapper; first | (rw [if_pos (by decide +kernel)]; kernel_rfl) | (rw [if_neg (by decide +kernel)]; exact ⟨rfl, rfl⟩))
    (fun os started H enc _ F => lifted os started H enc F)

theorem proved : Rows.TreeSmallsUptoSaid :=
  o4
end treeSmalls
end Go.Proofs.YtnafpeohfbglmaaGreat
