/- The law TreeRights, closed: it returns true for every input of bulk at most 2^20. -/
import Derived.Test.YtnafpeohfbglmaaGreatQh
import Derived.WalkKit
import Derived.OpenShut
import Derived.JoinedCond
namespace Go.Proofs.YtnafpeohfbglmaaGreat
open Go.cU Go.ChangeShapes Go.WideShapes Go.ChangeAt Go.RowKit

namespace treeRights

theorem own : ownKnob Tryz.prog.godebug = none := by kernel_rfl

set_option maxRecDepth 100000 in
theorem contract (H : Type) (enc : TypeId × Value → H) (W : World) (base : Nat) (args : Array Value) (cb gs : List (DataW H)) (before : List MemPlace)
    (oy : ∀ (j : Nat) t v, Tryz.f10.params[j]? = some t → args[j]? = some v → Value.okWide Tryz.prog W .any base t v)
    (gJ : DataW.Whole enc Tryz.prog Tryz.f10.params.toList Rows.treeRightsSpec.vars false W args.toList cb gs before) (aE : Rows.uptoSmall H (cb ++ gs) = true) :
    Calls Tryz.prog 10 args W fun e xi => ∃ v, e = .returned v ∧ Rows.treeRightsSpec.post enc Tryz.prog Tryz.f10 false true false false W args v xi := by
  have aaJ := gJ
  obtain ⟨p, q, hA0, IE, rfl, abG, eF⟩ := gJ
  have vO : DataW.TrodAll enc Tryz.prog W 0 (fun _ => true) true Tryz.f10.params.toList args.toList cb p := hA0
  rw [Tryz.params10] at vO oy
  obtain ⟨v0, zO, d0, ds0, Dl, hE, xH, rfl, rfl, bt, CO⟩ := trodAll_cons vO
  obtain ⟨v1, vs1, d1, ds1, kQ, ef, rfl, rfl, rfl, U, fp⟩ := trodAll_cons CO
  obtain ⟨v2, vs2, d2, ds2, Dk, di, rfl, rfl, rfl, ad, gB⟩ := trodAll_cons fp
  obtain ⟨rfl, rfl, rfl⟩ := trodAll_nil gB
  obtain rfl : args = #[v0, v1, v2] := by cases args; simp_all
  obtain ⟨I5, bt⟩ := bt
  obtain ⟨BV, U⟩ := U
  obtain ⟨y9, ad⟩ := ad
  obtain ⟨l_x0, g0, vp⟩ := abM _ _ _ bt
  obtain ⟨acm, g1, h3⟩ := trod_int Tryz.underlying3 U
  obtain ⟨aci, g2, dx⟩ := abE ad
  have aq : Rows.uptoBulkAll ([d0, d1, d2] ++ gs) ≤ 1048576 := of_decide_eq_true aE
  simp only [List.cons_append, List.nil_append, Rows.uptoBulkAll] at aq
  try simp only at vp h3 dx
  have Wa : bP.weight l_x0 ≤ 1048576 := by omega
  have H2 : (aci.map b0.weight).sum + 1 ≤ 1048576 := by omega
  have Xx := abK (abI Tryz.underlying27 (oy 0 27 v0 rfl rfl)) g0
  have xx := abJ (abL Tryz.underlying3 (oy 1 3 v1 rfl rfl)) g1
  have su := abJ (abH Tryz.underlying28 (oy 2 28 v2 rfl rfl)) g2
  exact abF laidOut (by rw [Tryz.params10]; decide +kernel) rfl rfl (fun aw => by subst aw; rfl) aaJ
    (.cons _ _ _ _ Xx (.cons _ _ _ _ xx (.cons _ _ _ _ su .nil)))
    ((abD l_x0 (bP.small Wa) acm aci (by have := aaI aci; have : bz = 1099511627776 := rfl; omega) _))

theorem inp : (Rows.treeRightsUptoRow.inPlace == Tryz.prog.inPlace 10) = true := by kernel_rfl
theorem unf : (Rows.treeRightsUptoRow.unfollowed == Tryz.prog.unfollowed 10) = true := by kernel_rfl
theorem rcs : (Rows.treeRightsUptoRow.recurses == Tryz.prog.recurses 10) = true := by kernel_rfl
theorem nmd : (Rows.treeRightsUptoRow.named == Tryz.prog.varsNamed 10) = true := by kernel_rfl
theorem lif : (Rows.treeRightsUptoRow.lifted == Tryz.prog.liftsFinal) = true := abS
theorem mak : (Tryz.prog.make == some Rows.treeRightsUptoRow.make) = true := abT
theorem pla : (Rows.treeRightsUptoRow.plainKeys == Tryz.prog.plainKeys) = true := abU
theorem closed : joinedFacts Tryz.prog 10 Tryz.f10 (Rows.OpenSpec.upto Rows.treeRightsSpec).bare Rows.treeRightsUptoRow = true := by
  unfold joinedFacts
  simp only [laidOut, abN, abO, abP, abQ, abR, inp, unf, rcs, nmd, lif, mak, pla, Bool.true_and, Bool.and_true]
  kernel_rfl

set_option maxRecDepth 100000 in
theorem lifted (os : Os) (started : os.Started) (H : Type) (enc : TypeId × Value → H) (F : Stop.Interp) :
    ReturnsInHanded {} Tryz.checked os 10 .any ((Rows.OpenSpec.upto Rows.treeRightsSpec).pre6 enc Tryz.prog Tryz.f10 Rows.treeRightsUptoRow.domain false) (((Rows.OpenSpec.upto Rows.treeRightsSpec).at F).post enc Tryz.prog Tryz.f10 false true false false) := by
  refine returnsInHanded_of_cond (C := Tryz.checked) (s := Rows.OpenSpec.upto Rows.treeRightsSpec) (k := Rows.uptoSmall) rfl own started (by kernel_rfl) Tryz.func10
    (OpenSpec.witness (enc := enc) (C := Tryz.checked) (s := Rows.OpenSpec.upto Rows.treeRightsSpec) (k := Rows.uptoSmall) rfl false ⟨#[], #[.agg #[.slice none 0 0, .int .i64 0, .slice none 0 0, .slice none 0 0, .slice none 0 0, .int .i64 0], .int .i64 0, .slice none 0 0], []⟩ 8 (by kernel_rfl) (by kernel_rfl) (by kernel_rfl)
      (x := ([.agg [.nil, .lit (.int .i64 0), .nil, .nil, .nil, .lit (.int .i64 0)], .lit (.int .i64 0), .nil], [], [])) (by kernel_rfl) rfl (by kernel_rfl)) ?_
  intro W base args cb gs before oy gJ _ aE _
  exact contract H enc W base args cb gs before oy gJ aE

theorem qo : Rows.treeRightsUptoRow.holds Tryz.pinned (Rows.OpenSpec.upto Rows.treeRightsSpec) :=
  OpenClaim.holds_of_cond 10 Tryz.f10 rfl rfl rfl rfl rfl rfl rfl ⟨rfl, rfl, rfl, rfl, rfl⟩ rfl rfl rfl rfl rfl (by kernel_rfl) Tryz.func10 closed
    (of_decide_eq_true (by kernel_rfl)) (by unfold Func.isWrapper; first | (rw [if_pos (by decide +kernel)]; kernel_rfl) | (rw [if_neg (by decide +kernel)]; exact ⟨rfl, rfl⟩))
    (fun os started H enc _ F => lifted os started H enc F)

theorem proved : Rows.TreeRightsUptoSaid :=
  qo
end treeRights
end Go.Proofs.YtnafpeohfbglmaaGreat
