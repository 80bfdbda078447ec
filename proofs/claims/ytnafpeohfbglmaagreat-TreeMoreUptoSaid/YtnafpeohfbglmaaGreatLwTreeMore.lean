/- The law TreeMore, closed: it returns true for every input of bulk at most 2^20. -/
import Derived.Test.YtnafpeohfbglmaaGreatMh
import Derived.WalkKit
import Derived.OpenShut
import Derived.JoinedCond
set_option linter.unusedVariables false
set_option linter.unusedSimpArgs false
namespace Go.Proofs.YtnafpeohfbglmaaGreat
open Go.ChangeShapes Go.WideShapes Go.ChangeAt Go.RowKit

namespace treeMore

theorem own : ownKnob Tryz.prog.godebug = none := by kernel_rfl

set_option maxRecDepth 100000 in
theorem contract (H : Type) (enc : TypeId × Value → H) (W : World) (base : Nat) (args : Array Value) (b4 gs : List (DataW H)) (before : List MemPlace)
    (oa : ∀ (j : Nat) t v, Tryz.f8.params[j]? = some t → args[j]? = some v → Value.okWide Tryz.prog W .any base t v)
    (gu : DataW.Whole enc Tryz.prog Tryz.f8.params.toList Rows.treeMoreSpec.vars false W args.toList b4 gs before) (aD : Rows.uptoSmall H (b4 ++ gs) = true) :
    Calls Tryz.prog 8 args W fun e wS => ∃ v, e = .returned v ∧ Rows.treeMoreSpec.post enc Tryz.prog Tryz.f8 false true false false W args v wS := by
  have aaE := gu
  obtain ⟨p, q, hA0, yo, rfl, abE, e2⟩ := gu
  have lj : DataW.TrodAll enc Tryz.prog W 0 (fun _ => true) true Tryz.f8.params.toList args.toList b4 p := hA0
  rw [Tryz.params8] at lj oa
  obtain ⟨v0, zp, d0, ds0, CP, hz, xe, rfl, rfl, bo, Cg⟩ := trodAll_cons lj
  obtain ⟨v1, vs1, d1, ds1, kB, dV, rfl, rfl, rfl, U, fg⟩ := trodAll_cons Cg
  obtain ⟨v2, vs2, d2, ds2, CO, dg, rfl, rfl, rfl, ad, gf⟩ := trodAll_cons fg
  obtain ⟨rfl, rfl, rfl⟩ := trodAll_nil gf
  obtain rfl : args = #[v0, v1, v2] := by cases args; simp_all
  obtain ⟨IQ, bo⟩ := bo
  obtain ⟨Bp, U⟩ := U
  obtain ⟨yK, ad⟩ := ad
  obtain ⟨l_x0, g0, u5⟩ := abK _ _ _ bo
  obtain ⟨ab1, g1, hU⟩ := trod_int Tryz.underlying3 U
  obtain ⟨ZR, g2, dL⟩ := abL ad
  have an : Rows.uptoBulkAll ([d0, d1, d2] ++ gs) ≤ 1048576 := of_decide_eq_true aD
  simp only [List.cons_append, List.nil_append, Rows.uptoBulkAll] at an
  try simp only at u5 hU dL
  have VY : bK.weight l_x0 ≤ 1048576 := by omega
  have yd : ZR.length + 1 ≤ 1048576 := by omega
  have Xm := abI (abG Tryz.underlying27 (oa 0 27 v0 rfl rfl)) g0
  have w5 := abH (abJ Tryz.underlying3 (oa 1 3 v1 rfl rfl)) g1
  have sb := abH (abF Tryz.underlying73 (oa 2 73 v2 rfl rfl)) g2
  exact abD laidOut (by rw [Tryz.params8]; decide +kernel) rfl rfl (fun au => by subst au; rfl) aaE
    (.cons _ _ _ _ Xm (.cons _ _ _ _ w5 (.cons _ _ _ _ sb .nil)))
    ((abz l_x0 (bK.small VY) ab1 ZR (by have : bt = 1099511627776 := rfl; omega) _))

theorem inp : (Rows.treeMoreUptoRow.inPlace == Tryz.prog.inPlace 8) = true := by kernel_rfl
theorem unf : (Rows.treeMoreUptoRow.unfollowed == Tryz.prog.unfollowed 8) = true := by kernel_rfl
theorem rcs : (Rows.treeMoreUptoRow.recurses == Tryz.prog.recurses 8) = true := by kernel_rfl
theorem nmd : (Rows.treeMoreUptoRow.named == Tryz.prog.varsNamed 8) = true := by kernel_rfl
theorem lif : (Rows.treeMoreUptoRow.lifted == Tryz.prog.liftsFinal) = true := abR
theorem mak : (Tryz.prog.make == some Rows.treeMoreUptoRow.make) = true := abS
theorem pla : (Rows.treeMoreUptoRow.plainKeys == Tryz.prog.plainKeys) = true := abT
theorem closed : joinedFacts Tryz.prog 8 Tryz.f8 (Rows.OpenSpec.upto Rows.treeMoreSpec).bare Rows.treeMoreUptoRow = true := by
  unfold joinedFacts
  simp only [laidOut, abM, abN, abO, abP, abQ, inp, unf, rcs, nmd, lif, mak, pla, Bool.true_and, Bool.and_true]
  kernel_rfl

set_option maxRecDepth 100000 in
theorem lifted (os : Os) (started : os.Started) (H : Type) (enc : TypeId × Value → H) (F : Stop.Interp) :
    ReturnsInHanded {} Tryz.checked os 8 .any ((Rows.OpenSpec.upto Rows.treeMoreSpec).pre6 enc Tryz.prog Tryz.f8 Rows.treeMoreUptoRow.domain false) (((Rows.OpenSpec.upto Rows.treeMoreSpec).at F).post enc Tryz.prog Tryz.f8 false true false false) := by
  refine returnsInHanded_of_cond (C := Tryz.checked) (s := Rows.OpenSpec.upto Rows.treeMoreSpec) (k := Rows.uptoSmall) rfl own started (by kernel_rfl) Tryz.func8
    (OpenSpec.witness (enc := enc) (C := Tryz.checked) (s := Rows.OpenSpec.upto Rows.treeMoreSpec) (k := Rows.uptoSmall) rfl false ⟨#[], #[.agg #[.slice none 0 0, .int .i64 0, .slice none 0 0, .slice none 0 0, .slice none 0 0, .int .i64 0], .int .i64 0, .slice none 0 0], []⟩ 8 (by kernel_rfl) (by kernel_rfl) (by kernel_rfl)
      (x := ([.agg [.nil, .lit (.int .i64 0), .nil, .nil, .nil, .lit (.int .i64 0)], .lit (.int .i64 0), .nil], [], [])) (by kernel_rfl) rfl (by kernel_rfl)) ?_
  intro W base args b4 gs before oa gu _ aD _
  exact contract H enc W base args b4 gs before oa gu aD

theorem p2 : Rows.treeMoreUptoRow.holds Tryz.pinned (Rows.OpenSpec.upto Rows.treeMoreSpec) :=
  OpenClaim.holds_of_cond 8 Tryz.f8 rfl rfl rfl rfl rfl rfl rfl ⟨rfl, rfl, rfl, rfl, rfl⟩ rfl rfl rfl rfl rfl (by kernel_rfl) Tryz.func8 closed
    (of_decide_eq_true (by kernel_rfl)) (by unfold Func.isWrapper; first | (rw [if_pos (by decide +kernel)]; kernel_rfl) | (rw [if_neg (by decide +kernel)]; exact ⟨rfl, rfl⟩))
    (fun os started H enc _ F => lifted os started H enc F)

theorem proved : Rows.TreeMoreUptoSaid :=
  p2
end treeMore
end Go.Proofs.YtnafpeohfbglmaaGreat
