/- The law TreeLeast, closed: it returns true for every input of bulk at most 2^20. -/
import Derived.Test.YtnafpeohfbglmaaGreatTi
import Derived.WalkKit
import Derived.OpenShut
import Derived.JoinedCond
set_option linter.unusedVariables false
set_option linter.unusedSimpArgs false
namespace Go.Proofs.YtnafpeohfbglmaaGreat
open Go.ChangeShapes Go.WideShapes Go.ChangeAt Go.RowKit

namespace treeLeast

theorem own : ownKnob Tryz.prog.godebug = none := by kernel_rfl

set_option maxRecDepth 100000 in
theorem contract (H : Type) (enc : TypeId × Value → H) (W : World) (base : Nat) (args : Array Value) (b' gs : List (DataW H)) (before : List MemPlace)
    (o5 : ∀ (j : Nat) t v, Tryz.f12.params[j]? = some t → args[j]? = some v → Value.okWide Tryz.prog W .any base t v)
    (gQ : DataW.Whole enc Tryz.prog Tryz.f12.params.toList Rows.treeLeastSpec.vars false W args.toList b' gs before) (aA : Rows.uptoSmall H (b' ++ gs) = true) :
    Calls Tryz.prog 12 args W fun e xY => ∃ v, e = .returned v ∧ Rows.treeLeastSpec.post enc Tryz.prog Tryz.f12 false true false false W args v xY := by
  have ack := gQ
  obtain ⟨p, q, hA0, Jo, rfl, adp, ez⟩ := gQ
  have lB : DataW.TrodAll enc Tryz.prog W 0 (fun _ => true) true Tryz.f12.params.toList args.toList b' p := hA0
  rw [Tryz.params12] at lB o5
  obtain ⟨v0, Ax, d0, ds0, DM, hN, yl, rfl, rfl, bo, Dp⟩ := trodAll_cons lB
  obtain ⟨v1, vs1, d1, ds1, jN, ea, rfl, rfl, rfl, aa, fr⟩ := trodAll_cons Dp
  obtain ⟨v2, vs2, d2, ds2, vd, dr, rfl, rfl, rfl, ad, gD⟩ := trodAll_cons fr
  obtain ⟨rfl, rfl, rfl⟩ := trodAll_nil gD
  obtain rfl : args = #[v0, v1, v2] := by cases args; simp_all
  obtain ⟨J5, bo⟩ := bo
  obtain ⟨zJ, aa⟩ := aa
  obtain ⟨x', ad⟩ := ad
  obtain ⟨l_x0, g0, pQ⟩ := adv _ _ _ bo
  obtain ⟨l_x1, g1, gq⟩ := trod_int Tryz.underlying3 aa
  obtain ⟨l_x2, g2, dm⟩ := adn ad
  have an : Rows.uptoBulkAll ([d0, d1, d2] ++ gs) ≤ 1048576 := of_decide_eq_true aA
  simp only [List.cons_append, List.nil_append, Rows.uptoBulkAll] at an
  try simp only at pQ gq dm
  have Ws : bN.weight l_x0 ≤ 1048576 := by omega
  have IE : (l_x2.map bs.weight).sum + 1 ≤ 1048576 := by omega
  have Y5 := adt (adr Tryz.underlying27 (o5 0 27 v0 rfl rfl)) g0
  have ya := ads (adu Tryz.underlying3 (o5 1 3 v1 rfl rfl)) g1
  have tk := ads (adq Tryz.underlying28 (o5 2 28 v2 rfl rfl)) g2
  exact ado laidOut (by rw [Tryz.params12]; decide +kernel) rfl rfl (fun aq => by subst aq; rfl) ack
    (.cons _ _ _ _ Y5 (.cons _ _ _ _ ya (.cons _ _ _ _ tk .nil)))
    ((adm l_x0 (bN.small Ws) l_x1 l_x2 (by have := acj l_x2; have : bx = 1099511627776 := rfl; omega) _))

theorem inp : (Rows.treeLeastUptoRow.inPlace == Tryz.prog.inPlace 12) = true := by kernel_rfl
theorem qx : (Rows.treeLeastUptoRow.unfollowed == Tryz.prog.unfollowed 12) = true := by kernel_rfl
theorem rcs : (Rows.treeLeastUptoRow.recurses == Tryz.prog.recurses 12) = true := by kernel_rfl
theorem nmd : (Rows.treeLeastUptoRow.named == Tryz.prog.varsNamed 12) = true := by kernel_rfl
theorem lif : (Rows.treeLeastUptoRow.lifted == Tryz.prog.liftsFinal) = true := adC
theorem mak : (Tryz.prog.make == some Rows.treeLeastUptoRow.make) = true := adD
theorem pla : (Rows.treeLeastUptoRow.plainKeys == Tryz.prog.plainKeys) = true := adE
theorem closed : joinedFacts Tryz.prog 12 Tryz.f12 (Rows.OpenSpec.upto Rows.treeLeastSpec).bare Rows.treeLeastUptoRow = true := by
  unfold joinedFacts
  simp only [laidOut, adx, ady, adz, adA, adB, inp, qx, rcs, nmd, lif, mak, pla, Bool.true_and, Bool.and_true]
  kernel_rfl

set_option maxRecDepth 100000 in
theorem lifted (os : Os) (started : os.Started) (H : Type) (enc : TypeId × Value → H) (F : Stop.Interp) :
    ReturnsInHanded {} Tryz.checked os 12 .any ((Rows.OpenSpec.upto Rows.treeLeastSpec).pre6 enc Tryz.prog Tryz.f12 Rows.treeLeastUptoRow.domain false) (((Rows.OpenSpec.upto Rows.treeLeastSpec).at F).post enc Tryz.prog Tryz.f12 false true false false) := by
  refine returnsInHanded_of_cond (C := Tryz.checked) (s := Rows.OpenSpec.upto Rows.treeLeastSpec) (k := Rows.uptoSmall) rfl own started (by kernel_rfl) Tryz.func12
    (OpenSpec.witness (enc := enc) (C := Tryz.checked) (s := Rows.OpenSpec.upto Rows.treeLeastSpec) (k := Rows.uptoSmall) rfl false ⟨#[], #[.agg #[.slice none 0 0, .int .i64 0, .slice none 0 0, .slice none 0 0, .slice none 0 0, .int .i64 0], .int .i64 0, .slice none 0 0], []⟩ 8 (by kernel_rfl) (by kernel_rfl) (by kernel_rfl)
      (x := ([.agg [.nil, .lit (.int .i64 0), .nil, .nil, .nil, .lit (.int .i64 0)], .lit (.int .i64 0), .nil], [], [])) (by kernel_rfl) rfl (by kernel_rfl)) ?_
  intro W base args b' gs before o5 gQ _ aA _
  exact contract H enc W base args b' gs before o5 gQ aA

theorem qW : Rows.treeLeastUptoRow.holds Tryz.pinned (Rows.OpenSpec.upto Rows.treeLeastSpec) :=
  OpenClaim.holds_of_cond 12 Tryz.f12 rfl rfl rfl rfl rfl rfl rfl ⟨rfl, rfl, rfl, rfl, rfl⟩ rfl rfl rfl rfl rfl (by kernel_rfl) Tryz.func12 closed
    (of_decide_eq_true (by kernel_rfl)) (by unfold Func.isWrapper; first | (rw [if_pos (by decide +kernel)]; kernel_rfl) | (rw [if_neg (by decide +kernel)]; exact ⟨rfl, rfl⟩))
    (fun os started H enc _ F => lifted os started H enc F)

theorem proved : Rows.TreeLeastUptoSaid :=
  qW
end treeLeast
end Go.Proofs.YtnafpeohfbglmaaGreat
