/- The law TreeFinds, closed: it returns true for every input of bulk at most 2^20. -/
import Derived.Test.YtnafpeohfbglmaaGreatRi
import Derived.WalkKit
import Derived.OpenShut
import Derived.JoinedCond
namespace Go.Proofs.YtnafpeohfbglmaaGreat
open Go.cW Go.ChangeShapes Go.WideShapes Go.ChangeAt Go.RowKit

namespace treeFinds

theorem own : ownKnob Tryz.prog.godebug = none := by kernel_rfl

set_option maxRecDepth 100000 in
theorem contract (H : Type) (enc : TypeId × Value → H) (W : World) (base : Nat) (args : Array Value) (cc gs : List (DataW H)) (before : List MemPlace)
    (oQ : ∀ (j : Nat) t v, Tryz.f5.params[j]? = some t → args[j]? = some v → Value.okWide Tryz.prog W .any base t v)
    (gO : DataW.Whole enc Tryz.prog Tryz.f5.params.toList Rows.treeFindsSpec.vars false W args.toList cc gs before) (aD : Rows.uptoSmall H (cc ++ gs) = true) :
    Calls Tryz.prog 5 args W fun e xG => ∃ v, e = .returned v ∧ Rows.treeFindsSpec.post enc Tryz.prog Tryz.f5 false true false false W args v xG := by
  have aba := gO
  obtain ⟨p, q, hA0, IU, rfl, ab7, eY⟩ := gO
  have wu : DataW.TrodAll enc Tryz.prog W 0 (fun _ => true) true Tryz.f5.params.toList args.toList cc p := hA0
  rw [Tryz.params5] at wu oQ
  obtain ⟨v0, z', d0, ds0, Du, hL, x2, rfl, rfl, br, C0⟩ := trodAll_cons wu
  obtain ⟨v1, vs1, d1, ds1, k5, ek, rfl, rfl, rfl, U, fs⟩ := trodAll_cons C0
  obtain ⟨v2, vs2, d2, ds2, Dt, dj, rfl, rfl, rfl, ae, gD⟩ := trodAll_cons fs
  obtain ⟨rfl, rfl, rfl⟩ := trodAll_nil gD
  obtain rfl : args = #[v0, v1, v2] := by cases args; simp_all
  obtain ⟨Ji, br⟩ := br
  obtain ⟨B9, U⟩ := U
  obtain ⟨zq, ae⟩ := ae
  obtain ⟨l_x0, g0, rE⟩ := ace _ _ _ br
  obtain ⟨acS, g1, hP⟩ := acf _ _ _ U
  obtain ⟨acC, g2, dA⟩ := ab5 ae
  have aq : Rows.uptoBulkAll ([d0, d1, d2] ++ gs) ≤ 1048576 := of_decide_eq_true aD
  simp only [List.cons_append, List.nil_append, Rows.uptoBulkAll] at aq
  try simp only at rE hP dA
  have Wt : bP.weight l_x0 ≤ 1048576 := by omega
  have p3 : Ask.weight acS ≤ 1048576 := by omega
  have H' : (acC.map b7.weight).sum + 1 ≤ 1048576 := by omega
  have XQ := acb (ab9 Tryz.underlying27 (oQ 0 27 v0 rfl rfl)) g0
  have xS := acb (ab9 Tryz.underlying42 (oQ 1 42 v1 rfl rfl)) g1
  have sU := aca (ab8 Tryz.underlying28 (oQ 2 28 v2 rfl rfl)) g2
  exact ab6 laidOut (by rw [Tryz.params5]; decide +kernel) rfl rfl (fun aw => by subst aw; rfl) aba
    (.cons _ _ _ _ XQ (.cons _ _ _ _ xS (.cons _ _ _ _ sU .nil)))
    ((ab4 l_x0 (bP.small Wt) acS.gen acS.aU acS.args (Ask.small p3).1 (Ask.small p3).2.1 (Ask.small p3).2.2 acC (by have := aa9 acC; have : bu = 1099511627776 := rfl; omega) _))

theorem inp : (Rows.treeFindsUptoRow.inPlace == Tryz.prog.inPlace 5) = true := by kernel_rfl
theorem unf : (Rows.treeFindsUptoRow.unfollowed == Tryz.prog.unfollowed 5) = true := by kernel_rfl
theorem rcs : (Rows.treeFindsUptoRow.recurses == Tryz.prog.recurses 5) = true := by kernel_rfl
theorem nmd : (Rows.treeFindsUptoRow.named == Tryz.prog.varsNamed 5) = true := by kernel_rfl
theorem lif : (Rows.treeFindsUptoRow.lifted == Tryz.prog.liftsFinal) = true := acm
theorem mak : (Tryz.prog.make == some Rows.treeFindsUptoRow.make) = true := acn
theorem pla : (Rows.treeFindsUptoRow.plainKeys == Tryz.prog.plainKeys) = true := aco
theorem closed : joinedFacts Tryz.prog 5 Tryz.f5 (Rows.OpenSpec.upto Rows.treeFindsSpec).bare Rows.treeFindsUptoRow = true := by
  unfold joinedFacts
  simp only [laidOut, acg, ach, aci, acj, ack, inp, unf, rcs, nmd, lif, mak, pla, Bool.true_and, Bool.and_true]
  kernel_rfl

set_option maxRecDepth 100000 in
theorem lifted (os : Os) (started : os.Started) (H : Type) (enc : TypeId × Value → H) (F : Stop.Interp) :
    ReturnsInHanded {} Tryz.checked os 5 .any ((Rows.OpenSpec.upto Rows.treeFindsSpec).pre6 enc Tryz.prog Tryz.f5 Rows.treeFindsUptoRow.domain false) (((Rows.OpenSpec.upto Rows.treeFindsSpec).at F).post enc Tryz.prog Tryz.f5 false true false false) := by
  refine returnsInHanded_of_cond (C := Tryz.checked) (s := Rows.OpenSpec.upto Rows.treeFindsSpec) (k := Rows.uptoSmall) rfl own started (by kernel_rfl) Tryz.func5
    (OpenSpec.witness (enc := enc) (C := Tryz.checked) (s := Rows.OpenSpec.upto Rows.treeFindsSpec) (k := Rows.uptoSmall) rfl false ⟨#[], #[.agg #[.slice none 0 0, .int .i64 0, .slice none 0 0, .slice none 0 0, .slice none 0 0, .int .i64 0], .agg #[.slice none 0 0, .int .i64 0, .slice none 0 0], .slice none 0 0], []⟩ 8 (by kernel_rfl) (by kernel_rfl) (by kernel_rfl)
      (x := ([.agg [.nil, .lit (.int .i64 0), .nil, .nil, .nil, .lit (.int .i64 0)], .agg [.nil, .lit (.int .i64 0), .nil], .nil], [], [])) (by kernel_rfl) rfl (by kernel_rfl)) ?_
  intro W base args cc gs before oQ gO _ aD _
  exact contract H enc W base args cc gs before oQ gO aD

theorem qE : Rows.treeFindsUptoRow.holds Tryz.pinned (Rows.OpenSpec.upto Rows.treeFindsSpec) :=
  OpenClaim.holds_of_cond 5 Tryz.f5 rfl rfl rfl rfl rfl rfl rfl ⟨rfl, rfl, rfl, rfl, rfl⟩ rfl rfl rfl rfl rfl (by kernel_rfl) Tryz.func5 closed
    (of_decide_eq_true (by kernel_rfl)) (by unfold Func.isWrapper; first | (rw [if_pos (by decide +kernel)]; kernel_rfl) | (rw [if_neg (by decide +kernel)]; exact ⟨rfl, rfl⟩))
    (fun os started H enc _ F => lifted os started H enc F)

theorem proved : Rows.TreeFindsUptoSaid :=
  qE
end treeFinds
end Go.Proofs.YtnafpeohfbglmaaGreat
