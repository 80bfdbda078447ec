/- The law QueryKnown, closed: it returns true for every input of bulk at most 2^20. -/
import Derived.Test.YtimbpjfhekcofaaGreatKi
import Derived.WalkKit
import Derived.OpenShut
import Derived.JoinedCond
namespace Go.Proofs.YtimbpjfhekcofaaGreat
open Go.ChangeShapes Go.WideShapes Go.ChangeAt Go.RowKit

namespace queryKnown

theorem own : ownKnob Tryz.prog.godebug = none := by kernel_rfl

set_option maxRecDepth 100000 in
theorem contract (H : Type) (enc : TypeId × Value → H) (W : World) (base : Nat) (args : Array Value) (cb gs : List (DataW H)) (before : List MemPlace)
    (oV : ∀ (j : Nat) t v, Tryz.f10.params[j]? = some t → args[j]? = some v → Value.okWide Tryz.prog W .any base t v)
    (iu : DataW.Whole enc Tryz.prog Tryz.f10.params.toList Rows.queryKnownSpec.vars false W args.toList cb gs before) (ax : Rows.uptoSmall H (cb ++ gs) = true) :
    Calls Tryz.prog 10 args W fun e yD => ∃ v, e = .returned v ∧ Rows.queryKnownSpec.post enc Tryz.prog Tryz.f10 false true false false W args v yD := by
  have agu := iu
  obtain ⟨p, q, hA0, kt, rfl, ahC, eK⟩ := iu
  have vk : DataW.TrodAll enc Tryz.prog W 0 (fun _ => true) true Tryz.f10.params.toList args.toList cb p := hA0
  rw [Tryz.params10] at vk oV
  obtain ⟨y4, rfl, rfl⟩ := trodAll_nil vk
  obtain rfl : args = #[] := by cases args; simp_all
  have aq : Rows.uptoBulkAll ([] ++ gs) ≤ 1048576 := of_decide_eq_true ax
  simp only [List.cons_append, List.nil_append, Rows.uptoBulkAll] at aq
  exact ahB laidOut (by rw [Tryz.params10]; decide +kernel) rfl rfl (fun ay => by subst ay; rfl) agu
    .nil
    (ahA () _)

theorem inp : (Rows.queryKnownUptoRow.inPlace == Tryz.prog.inPlace 10) = true := by kernel_rfl
theorem unf : (Rows.queryKnownUptoRow.unfollowed == Tryz.prog.unfollowed 10) = true := by kernel_rfl
theorem rcs : (Rows.queryKnownUptoRow.recurses == Tryz.prog.recurses 10) = true := by kernel_rfl
theorem nmd : (Rows.queryKnownUptoRow.named == Tryz.prog.varsNamed 10) = true := by kernel_rfl
theorem lif : (Rows.queryKnownUptoRow.lifted == Tryz.prog.liftsFinal) = true := ahI
theorem mak : (Tryz.prog.make == some Rows.queryKnownUptoRow.make) = true := ahJ
theorem pla : (Rows.queryKnownUptoRow.plainKeys == Tryz.prog.plainKeys) = true := ahK
theorem closed : joinedFacts Tryz.prog 10 Tryz.f10 (Rows.OpenSpec.upto Rows.queryKnownSpec).bare Rows.queryKnownUptoRow = true := by
  unfold joinedFacts
  simp only [laidOut, ahD, ahE, ahF, ahG, ahH, inp, unf, rcs, nmd, lif, mak, pla, Bool.true_and, Bool.and_true]
  kernel_rfl

set_option maxRecDepth 100000 in
theorem lifted (os : Os) (started : os.Started) (H : Type) (enc : TypeId × Value → H) (F : Stop.Interp) :
    ReturnsInHanded {} Tryz.checked os 10 .any ((Rows.OpenSpec.upto Rows.queryKnownSpec).pre6 enc Tryz.prog Tryz.f10 Rows.queryKnownUptoRow.domain false) (((Rows.OpenSpec.upto Rows.queryKnownSpec).at F).post enc Tryz.prog Tryz.f10 false true false false) := by
  refine returnsInHanded_of_cond (C := Tryz.checked) (s := Rows.OpenSpec.upto Rows.queryKnownSpec) (k := Rows.uptoSmall) rfl own started (by kernel_rfl) Tryz.func10
    (OpenSpec.witness (enc := enc) (C := Tryz.checked) (s := Rows.OpenSpec.upto Rows.queryKnownSpec) (k := Rows.uptoSmall) rfl false ⟨#[], #[], []⟩ 8 (by kernel_rfl) (by kernel_rfl) (by kernel_rfl)
      (x := ([], [], [])) (by kernel_rfl) rfl (by kernel_rfl)) ?_
  intro W base args cb gs before oV iu _ ax _
  exact contract H enc W base args cb gs before oV iu ax

theorem rF : Rows.queryKnownUptoRow.holds Tryz.pinned (Rows.OpenSpec.upto Rows.queryKnownSpec) :=
  OpenClaim.holds_of_cond 10 Tryz.f10 rfl rfl rfl rfl rfl rfl rfl ⟨rfl, rfl, rfl, rfl, rfl⟩ rfl rfl rfl rfl rfl (by kernel_rfl) Tryz.func10 closed
    (of_decide_eq_true (by kernel_rfl)) (by unfold Func.isWrapper; first | (rw [if_pos (by decide +kernel)]; kernel_rfl) | (rw [if_neg (by decide +kernel)]; exact ⟨rfl, rfl⟩))
    (fun os started H enc _ F => lifted os started H enc F)

theorem proved : Rows.QueryKnownUptoSaid :=
  rF
end queryKnown
end Go.Proofs.YtimbpjfhekcofaaGreat
