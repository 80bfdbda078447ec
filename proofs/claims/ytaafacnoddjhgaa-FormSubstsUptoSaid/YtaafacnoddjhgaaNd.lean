import Derived.Test.YtaafacnoddjhgaaMl
import Derived.Test.YtaafacnoddjhgaaMp
import Derived.WalkKit
import Derived.OpenShut
import Derived.JoinedCond
/- The law FormSubsts, closed: it returns true for every input of bulk at most 2^20. -/
namespace Go.Proofs.Ytaafacnoddjhgaa
open Go.AE Go.ChangeShapes Go.WideShapes Go.ChangeAt Go.RowKit

namespace formSubsts

theorem own : ownKnob Try.prog.godebug = none := by kernel_rfl

set_option maxRecDepth 100000 in
theorem contract (H : Type) (enc : TypeId × Value → H) (W : World) (base : Nat) (args : Array Value) (ds gs : List (DataW H)) (before : List MemPlace)
    (hval : ∀ (j : Nat) t v, Try.f7.params[j]? = some t → args[j]? = some v → Value.okWide Try.prog W .any base t v)
    (hW : DataW.Whole enc Try.prog Try.f7.params.toList Rows.formSubstsSpec.vars false W args.toList ds gs before) (hk : Rows.uptoSmall H (ds ++ gs) = true) :
    Calls Try.prog 7 args W fun e W' => ∃ v, e = .returned v ∧ Rows.formSubstsSpec.post enc Try.prog Try.f7 false true false false W args v W' := by
  have hW' := hW
  obtain ⟨p, q, hA0, hV, rfl, hfz, hnd⟩ := hW
  have hA : DataW.TrodAll enc Try.prog W 0 (fun _ => true) true Try.f7.params.toList args.toList ds p := hA0
  rw [Try.params7] at hA hval
  obtain ⟨v0, vs0, d0, ds0, p0, q0, hargs, rfl, rfl, h0, r0⟩ := trodAll_cons hA
  obtain ⟨v1, vs1, d1, ds1, p1, q1, rfl, rfl, rfl, h1, r1⟩ := trodAll_cons r0
  obtain ⟨v2, vs2, d2, ds2, p2, q2, rfl, rfl, rfl, h2, r2⟩ := trodAll_cons r1
  obtain ⟨v3, vs3, d3, ds3, p3, q3, rfl, rfl, rfl, h3, r3⟩ := trodAll_cons r2
  obtain ⟨v4, vs4, d4, ds4, p4, q4, rfl, rfl, rfl, h4, r4⟩ := trodAll_cons r3
  obtain ⟨rfl, rfl, rfl⟩ := trodAll_nil r4
  obtain rfl : args = #[v0, v1, v2, v3, v4] := by cases args; simp_all
  obtain ⟨n0, h0⟩ := h0
  obtain ⟨n1, h1⟩ := h1
  obtain ⟨n2, h2⟩ := h2
  obtain ⟨n3, h3⟩ := h3
  obtain ⟨n4, h4⟩ := h4
  obtain ⟨x0, g0, b0⟩ := trod_exp _ _ _ h0
  obtain ⟨x1, g1, b1⟩ := trod_exp _ _ _ h1
  obtain ⟨x2, g2, b2⟩ := trod_exp _ _ _ h2
  obtain ⟨x3, g3, b3⟩ := trod_strC h3
  obtain ⟨x4, g4, b4⟩ := trod_strC h4
  have hb : Rows.uptoBulkAll ([d0, d1, d2, d3, d4] ++ gs) ≤ 1048576 := of_decide_eq_true hk
  simp only [List.cons_append, List.nil_append, Rows.uptoBulkAll] at hb
  simp only at b0 b1 b2 b3 b4
  have hw0 : x0.weight ≤ 1048576 := by omega
  have hw1 : x1.weight ≤ 1048576 := by omega
  have hw2 : x2.weight ≤ 1048576 := by omega
  have hw3 : x3.length ≤ 1048576 := by omega
  have hw4 : x4.length ≤ 1048576 := by omega
  have hr0 := rel_agg (val_agg Try.underlying32 (hval 0 32 v0 rfl rfl)) g0
  have hr1 := rel_agg (val_agg Try.underlying32 (hval 1 32 v1 rfl rfl)) g1
  have hr2 := rel_agg (val_agg Try.underlying32 (hval 2 32 v2 rfl rfl)) g2
  have hr3 := rel_one (val_str Try.underlying9 (hval 3 9 v3 rfl rfl)) g3
  have hr4 := rel_one (val_str Try.underlying9 (hval 4 9 v4 rfl rfl)) g4
  exact close_true laidOut (by rw [Try.params7]; decide +kernel) rfl rfl (fun hg => by subst hg; rfl) hW'
    (.cons _ _ _ _ hr0 (.cons _ _ _ _ hr1 (.cons _ _ _ _ hr2 (.cons _ _ _ _ hr3 (.cons _ _ _ _ hr4 .nil)))))
    (formSubsts_spec x0 x1 x2 x3 x4 _ (exp_fair hw0) (exp_fair hw1) (exp_fair hw2) (by omega) (by omega))

set_option maxRecDepth 100000 in
theorem lifted (os : Os) (started : os.Started) (H : Type) (enc : TypeId × Value → H) (F : Stop.Interp) :
    ReturnsInHanded {} Try.checked os 7 .any ((Rows.OpenSpec.upto Rows.formSubstsSpec).pre6 enc Try.prog Try.f7 Rows.formSubstsUptoRow.domain false) (((Rows.OpenSpec.upto Rows.formSubstsSpec).at F).post enc Try.prog Try.f7 false true false false) := by
  refine returnsInHanded_of_cond (C := Try.checked) (s := Rows.OpenSpec.upto Rows.formSubstsSpec) (k := Rows.uptoSmall) rfl own started (by kernel_rfl) Try.func7
    (OpenSpec.witness (enc := enc) (C := Try.checked) (s := Rows.OpenSpec.upto Rows.formSubstsSpec) (k := Rows.uptoSmall) rfl false ⟨#[], #[.agg #[.int .i64 0, .int .i64 0, .string ByteArray.empty, .slice none 0 0], .agg #[.int .i64 0, .int .i64 0, .string ByteArray.empty, .slice none 0 0], .agg #[.int .i64 0, .int .i64 0, .string ByteArray.empty, .slice none 0 0], .string ByteArray.empty, .string ByteArray.empty], []⟩ 8 (by kernel_rfl) (by kernel_rfl) (by kernel_rfl)
      (x := ([.agg [.lit (.int .i64 0), .lit (.int .i64 0), .lit (.string []), .nil], .agg [.lit (.int .i64 0), .lit (.int .i64 0), .lit (.string []), .nil], .agg [.lit (.int .i64 0), .lit (.int .i64 0), .lit (.string []), .nil], .lit (.string []), .lit (.string [])], [], [])) (by kernel_rfl) rfl (by kernel_rfl)) ?_
  intro W base args ds gs before hval hW _ hk _
  exact contract H enc W base args ds gs before hval hW hk

theorem over : Rows.formSubstsUptoRow.holds Try.pinned (Rows.OpenSpec.upto Rows.formSubstsSpec) :=
  OpenClaim.holds_of_cond 7 Try.f7 rfl rfl rfl rfl rfl rfl rfl ⟨rfl, rfl, rfl, rfl, rfl⟩ rfl rfl rfl rfl rfl (by kernel_rfl) Try.func7 (by kernel_rfl)
    (of_decide_eq_true (by kernel_rfl)) (by unfold Func.isWrapper; first | (rw [if_pos (by decide +kernel)]; kernel_rfl) | (rw [if_neg (by decide +kernel)]; exact ⟨rfl, rfl⟩))
    (fun os started H enc _ F => lifted os started H enc F)

theorem proved : Rows.FormSubstsUptoSaid :=
  over
end formSubsts
end Go.Proofs.Ytaafacnoddjhgaa

