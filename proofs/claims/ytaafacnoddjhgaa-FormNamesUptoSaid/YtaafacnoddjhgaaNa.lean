import Derived.Test.YtaafacnoddjhgaaMk
import Derived.WalkKit
import Derived.OpenShut
import Derived.JoinedCond
/- The law FormNames. -/
namespace Go.Proofs.Ytaafacnoddjhgaa
open Go.AE

theorem free1_setOf (l : List Str) (k : Nat) : free1 (setOf l) k = free1 l k := by rw [free1, free1, contains_setOf]
theorem freshS_setOf (l : List Str) : freshS (setOf l) = freshS l := by
  have : free1 (setOf l) = free1 l := funext (free1_setOf l)
  rw [freshS, freshS, freshK, freshK, this]
theorem hasFree_setOf {l : List Str} (h : HasFree l) : HasFree (setOf l) := by
  obtain ⟨k, h1, h2⟩ := h
  exact ⟨k, h1, by rw [free1_setOf]; exact h2⟩

set_option maxRecDepth 10000 in
theorem formNames_spec (x : Str) (l : List Str) (own : Own) (s : Store) (hx : x.length < 9223372036854775807) (hl : l.length < 9223372036854775807) :
    ACalls Try.prog 3 [.str x, .slc 1 (strs l) own] s (fun o s' => o = .ret (.bool true) ∧ s' = s) := by
  refine ACalls.of_CW tysOk call3 Try.func3 rfl rfl ?_
  repeat (first | with_reducible refine CW.seq ?_ | with_reducible refine andThen_normal ?_ | refine CW.reg (RL.run tysOk rfl (RL.nil ?_)))
  refine CW.cond rfl (fun h => ?_) (fun h => ?_)
  · repeat (first | with_reducible refine CW.seq ?_ | refine CW.reg ?_)
    refine RL.callP rfl rfl rfl rfl rfl (known_true _) ?_
    repeat (first | with_reducible refine andThen_normal ?_ | with_reducible refine andThen_ret ?_ | with_reducible refine CW.ret ?_ | refine RL.nil ?_ | refine RL.step tysOk rfl rfl rfl rfl ?_)
    exact ⟨_, _, _, rfl, AVle.refl _, Store.sub_refl _, rfl, rfl⟩
  · have hlen : l.length ≤ 200 := by simp at h; omega
    have hF := shapeFresh_spec l own s hl (hasFree_setOf (hasFree_of (by omega)))
    rw [freshS_setOf] at hF
    repeat (first | with_reducible refine CW.seq ?_ | with_reducible refine andThen_normal ?_ | with_reducible refine CW.skip ?_ | refine CW.reg ?_ | refine RL.step tysOk rfl rfl rfl rfl ?_)
    refine RL.callP rfl rfl rfl rfl rfl (shapeName_spec x _ hx) ?_
    repeat (first | refine RL.step tysOk rfl rfl rfl rfl ?_)
    refine RL.callP rfl rfl rfl rfl rfl (refName_spec x _ hx) ?_
    cases nameS x with
    | true =>
      repeat (first | refine RL.step tysOk rfl rfl rfl rfl ?_)
      refine RL.callP rfl rfl rfl rfl rfl hF ?_
      repeat (first | refine RL.step tysOk rfl rfl rfl rfl ?_)
      refine RL.callP rfl rfl rfl rfl rfl (refFresh_spec l own s hl (hasFree_of (by omega))) ?_
      repeat (first | refine RL.step tysOk rfl rfl rfl rfl ?_)
      refine RL.knowT 21 rfl (by simp) ?_
      skip
      refine RL.callP rfl rfl rfl rfl rfl (known_true _) ?_
      repeat (first | with_reducible refine andThen_normal ?_ | with_reducible refine CW.ret ?_ | refine RL.nil ?_ | refine RL.step tysOk rfl rfl rfl rfl ?_)
      exact ⟨_, _, _, rfl, AVle.refl _, Store.sub_refl _, rfl, rfl⟩
    | false =>
      repeat (first | refine RL.step tysOk rfl rfl rfl rfl ?_)
      refine RL.callP rfl rfl rfl rfl rfl hF ?_
      repeat (first | refine RL.step tysOk rfl rfl rfl rfl ?_)
      refine RL.callP rfl rfl rfl rfl rfl (refFresh_spec l own s hl (hasFree_of (by omega))) ?_
      repeat (first | refine RL.step tysOk rfl rfl rfl rfl ?_)
      refine RL.knowT 21 rfl (by simp) ?_
      skip
      refine RL.callP rfl rfl rfl rfl rfl (known_true _) ?_
      repeat (first | with_reducible refine andThen_normal ?_ | with_reducible refine CW.ret ?_ | refine RL.nil ?_ | refine RL.step tysOk rfl rfl rfl rfl ?_)
      exact ⟨_, _, _, rfl, AVle.refl _, Store.sub_refl _, rfl, rfl⟩
end Go.Proofs.Ytaafacnoddjhgaa

/- The law FormNames, closed. -/
namespace Go.Proofs.Ytaafacnoddjhgaa
open Go.AE Go.ChangeShapes Go.WideShapes Go.ChangeAt Go.RowKit

theorem val_str {P : Program} {W : World} {r : Reach} {b : Nat} {t : TypeId} {v : Value} (ht : P.underlying t = some .string) (h : Value.okWide P W r b t v) : v.cells = #[v] := by
  obtain ⟨s, rfl⟩ := okWide_string ht h
  rfl

theorem val_slice {P : Program} {W : World} {r : Reach} {b : Nat} {t e : TypeId} {v : Value} (ht : P.underlying t = some (.slice e)) (h : Value.okWide P W r b t v) : v.cells = #[v] := by
  obtain ⟨a, n, c, rfl⟩ := okWide_slice ht h
  rfl

theorem val_agg {P : Program} {W : World} {r : Reach} {b : Nat} {t : TypeId} {fs : Array Field} {v : Value} (ht : P.underlying t = some (.struct fs)) (h : Value.okWide P W r b t v) : ∃ cs, v = .agg cs := by
  obtain ⟨cs, h1, -⟩ := okWide_struct ht h
  exact ⟨cs, h1⟩

theorem rel_one {w : World} {p : Prot} {v : Value} {x : AV} (hv : v.cells = #[v]) (h : RelL w p v.cells.toList [x]) : Rel w p v x := by
  rw [hv] at h
  cases h with
  | cons _ _ _ _ h _ => exact h

theorem rel_agg {w : World} {p : Prot} {v : Value} {xs : List AV} (hv : ∃ cs, v = .agg cs) (h : RelL w p v.cells.toList xs) : Rel w p v (.agg xs) := by
  obtain ⟨cs, rfl⟩ := hv
  exact .agg _ _ h

theorem sum_ge (l : List Str) : l.length ≤ (l.map fun s => s.length + 1).sum := by
  induction l with
  | nil => simp
  | cons a l ih => simp only [List.map_cons, List.sum_cons, List.length_cons]; omega

namespace formNames

theorem own : ownKnob Try.prog.godebug = none := by kernel_rfl

set_option maxRecDepth 100000 in
theorem contract (H : Type) (enc : TypeId × Value → H) (W : World) (base : Nat) (args : Array Value) (ds gs : List (DataW H)) (before : List MemPlace)
    (hval : ∀ (j : Nat) t v, Try.f3.params[j]? = some t → args[j]? = some v → Value.okWide Try.prog W .any base t v)
    (hW : DataW.Whole enc Try.prog Try.f3.params.toList Rows.formNamesSpec.vars false W args.toList ds gs before) (hk : Rows.uptoSmall H (ds ++ gs) = true) :
    Calls Try.prog 3 args W fun e W' => ∃ v, e = .returned v ∧ Rows.formNamesSpec.post enc Try.prog Try.f3 false true false false W args v W' := by
  have hW' := hW
  obtain ⟨p, q, hA0, hV, rfl, hfz, hnd⟩ := hW
  have hA : DataW.TrodAll enc Try.prog W 0 (fun _ => true) true Try.f3.params.toList args.toList ds p := hA0
  rw [Try.params3] at hA hval
  obtain ⟨v0, vs0, d0, ds0, p0, q0, hargs, rfl, rfl, h0, r0⟩ := trodAll_cons hA
  obtain ⟨v1, vs1, d1, ds1, p1, q1, rfl, rfl, rfl, h1, r1⟩ := trodAll_cons r0
  obtain ⟨rfl, rfl, rfl⟩ := trodAll_nil r1
  obtain rfl : args = #[v0, v1] := by cases args; simp_all
  obtain ⟨n0, h0⟩ := h0
  obtain ⟨n1, h1⟩ := h1
  obtain ⟨x, g0, b0⟩ := trod_strC h0
  obtain ⟨l, g1, b1⟩ := trod_strsC h1
  have hb : Rows.uptoBulkAll ([d0, d1] ++ gs) ≤ 1048576 := of_decide_eq_true hk
  simp only [List.cons_append, List.nil_append, Rows.uptoBulkAll] at hb
  have hs := sum_ge l
  have hr0 := rel_one (val_str Try.underlying9 (hval 0 9 v0 rfl rfl)) g0
  have hr1 := rel_one (val_slice Try.underlying22 (hval 1 22 v1 rfl rfl)) g1
  exact close_true laidOut (by rw [Try.params3]; decide +kernel) rfl rfl (fun hg => by subst hg; rfl) hW'
    (.cons _ _ _ _ hr0 (.cons _ _ _ _ hr1 .nil))
    (formNames_spec x l .fro _ (by simp only at b0; omega) (by simp only at b1; omega))

set_option maxRecDepth 100000 in
theorem lifted (os : Os) (started : os.Started) (H : Type) (enc : TypeId × Value → H) (F : Stop.Interp) :
    ReturnsInHanded {} Try.checked os 3 .any ((Rows.OpenSpec.upto Rows.formNamesSpec).pre6 enc Try.prog Try.f3 Rows.formNamesUptoRow.domain false) (((Rows.OpenSpec.upto Rows.formNamesSpec).at F).post enc Try.prog Try.f3 false true false false) := by
  refine returnsInHanded_of_cond (C := Try.checked) (s := Rows.OpenSpec.upto Rows.formNamesSpec) (k := Rows.uptoSmall) rfl own started (by kernel_rfl) Try.func3
    (OpenSpec.witness (enc := enc) (C := Try.checked) (s := Rows.OpenSpec.upto Rows.formNamesSpec) (k := Rows.uptoSmall) rfl false ⟨#[], #[.string ByteArray.empty, .slice none 0 0], []⟩ 8 (by kernel_rfl) (by kernel_rfl) (by kernel_rfl)
      (x := ([.lit (.string []), .nil], [], [])) (by kernel_rfl) rfl (by kernel_rfl)) ?_
  intro W base args ds gs before hval hW _ hk _
  exact contract H enc W base args ds gs before hval hW hk

theorem over : Rows.formNamesUptoRow.holds Try.pinned (Rows.OpenSpec.upto Rows.formNamesSpec) :=
  OpenClaim.holds_of_cond 3 Try.f3 rfl rfl rfl rfl rfl rfl rfl ⟨rfl, rfl, rfl, rfl, rfl⟩ rfl rfl rfl rfl rfl (by kernel_rfl) Try.func3 (by kernel_rfl)
    (of_decide_eq_true (by kernel_rfl)) (by unfold Func.isWrapper; first | (rw [if_pos (by decide +kernel)]; kernel_rfl) | (rw [if_neg (by decide +kernel)]; exact ⟨rfl, rfl⟩))
    (fun os started H enc _ F => lifted os started H enc F)

theorem proved : Rows.FormNamesUptoSaid :=
  over
end formNames
end Go.Proofs.Ytaafacnoddjhgaa

