import Derived.Test.YtaafacnoddjhgaaMn
import Derived.Test.YtaafacnoddjhgaaMm
import Derived.Test.YtaafacnoddjhgaaMk
import Derived.Laws.MakeOwn
/- Contracts of the reference: what expressions speak of; which functions there are. -/
namespace Go.Proofs.Ytaafacnoddjhgaa
open Go.AE

/-- Does an expression speak of what there is? -/
def saysB (e : FExp) (free slots own : List Str) (next : Bool) : Bool := e.allE.all (spokenE own slots next) && (sortS (e.looseR [])).all free.contains

theorem sortS_length (l : List Str) : (sortS l).length ≤ l.length := by
  have : ∀ (l out : List Str), (l.foldl insSo out).length ≤ out.length + l.length := by
    intro l
    induction l with
    | nil => intro out; simp
    | cons z l ih => intro out; have h1 := ih (insSo out z); have h2 := insSo_len out z; simp only [List.foldl_cons, List.length_cons]; omega
  have := this l []
  unfold sortS
  simpa using this

set_option maxRecDepth 10000 in
set_option maxHeartbeats 2000000 in
theorem refSays_spec (e : FExp) (free slots own : List Str) (o1 o2 o3 : Own) (next : Bool) (s : Store) (he : e.size < big) (hf : free.length < 9223372036854775807) (hs : slots.length < 9223372036854775807) (ho : own.length < 9223372036854775807) :
    ACalls Try.prog 89 [e.av, .slc 1 (strs free) o1, .slc 1 (strs slots) o2, .slc 1 (strs own) o3, .bool next] s (fun o s' => o = .ret (.bool (saysB e free slots own next)) ∧ s' = s) := by
  have hb : big = 1099511627776 := rfl
  have hal := allE_length e
  have hfl := sortS_length (e.looseR [])
  have hll := looseR_len e []
  refine ACalls.of_CW tysOk call89 Try.func89 rfl rfl ?_
  refine CW.seqCut [(1, .slc 1 (strs free) o1), (2, .slc 1 (strs slots) o2), (3, .slc 1 (strs own) o3), (4, .bool next), (5, .fptr e.cells 0)] s ?_ ?_
  · repeat (first | refine CW.reg (RL.run tysOk rfl (RL.nil ?_)))
    exact ⟨rfl, (by repeat (first | exact trivial | refine ⟨⟨_, rfl, AVle.refl _⟩, ?_⟩)), Store.sub_refl _⟩
  refine CW.seqCut [(1, .slc 1 (strs free) o1), (2, .slc 1 (strs slots) o2), (3, .slc 1 (strs own) o3), (4, .bool next), (5, .fptr e.cells 0), (11, .slc 4 (e.allE.map FExp.av) .fro)] s ?_ ?_
  · repeat (first | refine CW.reg ?_ | refine RL.step tysOk rfl rfl rfl rfl ?_)
    refine RL.callP rfl rfl rfl rfl rfl (refAll_spec _ e s (Nat.le_refl _) (Nat.le_of_lt he)) ?_
    repeat (first | refine RL.nil ?_ | refine RL.step tysOk rfl rfl rfl rfl ?_)
    exact ⟨rfl, (by repeat (first | exact trivial | refine ⟨⟨_, rfl, AVle.refl _⟩, ?_⟩)), Store.sub_refl _⟩
  have hsb : saysB e free slots own next = (e.allE.all (spokenE own slots next) && (sortS (e.looseR [])).all free.contains) := rfl
  generalize e.allE = l at hal hsb ⊢
  repeat (first | with_reducible refine CW.seq ?_ | with_reducible refine andThen_normal ?_ | with_reducible refine CW.block ?_ | refine CW.reg (RL.run tysOk rfl (RL.nil ?_)))
  refine CW.loop (σ := Nat) (fun j => [(1, .slc 1 (strs free) o1), (2, .slc 1 (strs slots) o2), (3, .slc 1 (strs own) o3), (4, .bool next), (5, .fptr e.cells 0), (11, .slc 4 (l.map FExp.av) .fro), (12, .int .i64 (j : Int))]) (fun _ => s)
    (fun j => j ≤ l.length ∧ l.all (spokenE own slots next) = (l.drop j).all (spokenE own slots next)) (fun j => l.length - j) 0 ⟨by omega, rfl⟩ (by repeat (first | exact trivial | refine ⟨⟨_, rfl, AVle.refl _⟩, ?_⟩)) (Store.sub_refl _) ?_
  rintro j ⟨hj, hI⟩
  repeat (first | with_reducible refine CW.seq ?_ | with_reducible refine andThen_normal ?_ | refine CW.reg (RL.run tysOk rfl (RL.nil ?_)))
  refine CW.cond rfl (fun h => ?_) (fun h => ?_)
  · have hlt : j < l.length := by simpa using h
    obtain ⟨g, hg⟩ : ∃ g, l[j]? = some g := ⟨_, List.getElem?_eq_getElem hlt⟩
    have hg' : (l.map FExp.av)[j]? = some (.agg g.cells) := by rw [List.getElem?_map, hg]; rfl
    have hgood : spokenE own slots next g = true → l.all (spokenE own slots next) = (l.drop (j + 1)).all (spokenE own slots next) := all_take hg hI
    have hbad : spokenE own slots next g = false → saysB e free slots own next = false := fun hc => by rw [hsb, all_miss hg hc]; rfl
    clear hsb hI
    obtain ⟨o, n, t, ks⟩ := g
    have hse : spokenE own slots next (.mk o n t ks) = if o == 4 || o == 7 then slots.contains t else if o == 6 || o == 8 then own.contains t else if o == 18 then next else true := rfl
    rw [hse] at hgood hbad
    by_cases q4 : o = 4
    · subst q4
      have hcall := refHas_spec slots o2 t s hs
      replace hgood : slots.contains t = true → _ := hgood
      replace hbad : slots.contains t = false → _ := hbad
      cases hc : slots.contains t with
      | true =>
        rw [hc] at hcall hgood
        repeat (first | with_reducible refine CW.seq ?_ | with_reducible refine andThen_normal ?_ | with_reducible refine CW.skip ?_ | with_reducible refine CW.block ?_ | refine CW.reg (RL.run tysOk rfl (RL.nil ?_)) | refine CW.reg ?_ | refine RL.nil ?_ | refine CW.condT rfl ?_ | refine RL.step tysOk rfl rfl rfl rfl ?_ | refine RL.idx tysOk _ rfl rfl rfl rfl rfl rfl rfl rfl rfl rfl rfl (by assumption) rfl ?_)
        refine RL.callP rfl rfl rfl rfl rfl hcall ?_
        repeat (first | with_reducible refine andThen_normal ?_ | with_reducible refine inBlock_normal ?_ | with_reducible refine CW.skip ?_ | refine CW.reg (RL.run tysOk rfl (RL.nil ?_)) | refine RL.nil ?_ | refine CW.condF rfl ?_ | refine RL.step tysOk rfl rfl rfl rfl ?_)
        exact ⟨j + 1, ⟨hlt, hgood rfl⟩, (by repeat (first | exact trivial | refine ⟨⟨_, rfl, AVle.refl _⟩, ?_⟩ | refine ⟨⟨_, rfl, AVle.of_eq (by (rw [i64_succ (by omega)]))⟩, ?_⟩)), Store.sub_refl _, by omega⟩
      | false =>
        rw [hc] at hcall hbad
        repeat (first | with_reducible refine CW.seq ?_ | with_reducible refine andThen_normal ?_ | with_reducible refine CW.skip ?_ | with_reducible refine CW.block ?_ | refine CW.reg (RL.run tysOk rfl (RL.nil ?_)) | refine CW.reg ?_ | refine RL.nil ?_ | refine CW.condT rfl ?_ | refine RL.step tysOk rfl rfl rfl rfl ?_ | refine RL.idx tysOk _ rfl rfl rfl rfl rfl rfl rfl rfl rfl rfl rfl (by assumption) rfl ?_)
        refine RL.callP rfl rfl rfl rfl rfl hcall ?_
        rw [hbad rfl]
        repeat (first | with_reducible refine CW.seq ?_ | with_reducible refine andThen_normal ?_ | with_reducible refine andThen_ret ?_ | with_reducible refine inBlock_ret ?_ | with_reducible refine CW.ret ?_ | refine CW.reg (RL.run tysOk rfl (RL.nil ?_)) | refine RL.nil ?_ | refine CW.condT rfl ?_ | refine RL.step tysOk rfl rfl rfl rfl ?_)
        exact ⟨_, _, _, rfl, AVle.refl _, Store.sub_refl _, rfl, rfl⟩
    by_cases q7 : o = 7
    · subst q7
      have hcall := refHas_spec slots o2 t s hs
      replace hgood : slots.contains t = true → _ := hgood
      replace hbad : slots.contains t = false → _ := hbad
      cases hc : slots.contains t with
      | true =>
        rw [hc] at hcall hgood
        repeat (first | with_reducible refine CW.seq ?_ | with_reducible refine andThen_normal ?_ | with_reducible refine CW.skip ?_ | with_reducible refine CW.block ?_ | refine CW.reg (RL.run tysOk rfl (RL.nil ?_)) | refine CW.reg ?_ | refine RL.nil ?_ | refine CW.condT rfl ?_ | refine CW.condF rfl ?_ | refine RL.step tysOk rfl rfl rfl rfl ?_ | refine RL.idx tysOk _ rfl rfl rfl rfl rfl rfl rfl rfl rfl rfl rfl (by assumption) rfl ?_)
        refine RL.callP rfl rfl rfl rfl rfl hcall ?_
        repeat (first | with_reducible refine andThen_normal ?_ | with_reducible refine inBlock_normal ?_ | with_reducible refine CW.skip ?_ | refine CW.reg (RL.run tysOk rfl (RL.nil ?_)) | refine RL.nil ?_ | refine CW.condF rfl ?_ | refine RL.step tysOk rfl rfl rfl rfl ?_)
        exact ⟨j + 1, ⟨hlt, hgood rfl⟩, (by repeat (first | exact trivial | refine ⟨⟨_, rfl, AVle.refl _⟩, ?_⟩ | refine ⟨⟨_, rfl, AVle.of_eq (by (rw [i64_succ (by omega)]))⟩, ?_⟩)), Store.sub_refl _, by omega⟩
      | false =>
        rw [hc] at hcall hbad
        repeat (first | with_reducible refine CW.seq ?_ | with_reducible refine andThen_normal ?_ | with_reducible refine CW.skip ?_ | with_reducible refine CW.block ?_ | refine CW.reg (RL.run tysOk rfl (RL.nil ?_)) | refine CW.reg ?_ | refine RL.nil ?_ | refine CW.condT rfl ?_ | refine CW.condF rfl ?_ | refine RL.step tysOk rfl rfl rfl rfl ?_ | refine RL.idx tysOk _ rfl rfl rfl rfl rfl rfl rfl rfl rfl rfl rfl (by assumption) rfl ?_)
        refine RL.callP rfl rfl rfl rfl rfl hcall ?_
        rw [hbad rfl]
        repeat (first | with_reducible refine CW.seq ?_ | with_reducible refine andThen_normal ?_ | with_reducible refine andThen_ret ?_ | with_reducible refine inBlock_ret ?_ | with_reducible refine CW.ret ?_ | refine CW.reg (RL.run tysOk rfl (RL.nil ?_)) | refine RL.nil ?_ | refine CW.condT rfl ?_ | refine RL.step tysOk rfl rfl rfl rfl ?_)
        exact ⟨_, _, _, rfl, AVle.refl _, Store.sub_refl _, rfl, rfl⟩
    by_cases q6 : o = 6
    · subst q6
      have hcall := refHas_spec own o3 t s ho
      replace hgood : own.contains t = true → _ := hgood
      replace hbad : own.contains t = false → _ := hbad
      cases hc : own.contains t with
      | true =>
        rw [hc] at hcall hgood
        repeat (first | with_reducible refine CW.seq ?_ | with_reducible refine andThen_normal ?_ | with_reducible refine CW.skip ?_ | with_reducible refine CW.block ?_ | refine CW.reg (RL.run tysOk rfl (RL.nil ?_)) | refine CW.reg ?_ | refine RL.nil ?_ | refine CW.condT rfl ?_ | refine CW.condF rfl ?_ | refine RL.step tysOk rfl rfl rfl rfl ?_ | refine RL.idx tysOk _ rfl rfl rfl rfl rfl rfl rfl rfl rfl rfl rfl (by assumption) rfl ?_)
        refine RL.callP rfl rfl rfl rfl rfl hcall ?_
        repeat (first | with_reducible refine andThen_normal ?_ | with_reducible refine inBlock_normal ?_ | with_reducible refine CW.skip ?_ | refine CW.reg (RL.run tysOk rfl (RL.nil ?_)) | refine RL.nil ?_ | refine CW.condF rfl ?_ | refine RL.step tysOk rfl rfl rfl rfl ?_)
        exact ⟨j + 1, ⟨hlt, hgood rfl⟩, (by repeat (first | exact trivial | refine ⟨⟨_, rfl, AVle.refl _⟩, ?_⟩ | refine ⟨⟨_, rfl, AVle.of_eq (by (rw [i64_succ (by omega)]))⟩, ?_⟩)), Store.sub_refl _, by omega⟩
      | false =>
        rw [hc] at hcall hbad
        repeat (first | with_reducible refine CW.seq ?_ | with_reducible refine andThen_normal ?_ | with_reducible refine CW.skip ?_ | with_reducible refine CW.block ?_ | refine CW.reg (RL.run tysOk rfl (RL.nil ?_)) | refine CW.reg ?_ | refine RL.nil ?_ | refine CW.condT rfl ?_ | refine CW.condF rfl ?_ | refine RL.step tysOk rfl rfl rfl rfl ?_ | refine RL.idx tysOk _ rfl rfl rfl rfl rfl rfl rfl rfl rfl rfl rfl (by assumption) rfl ?_)
        refine RL.callP rfl rfl rfl rfl rfl hcall ?_
        rw [hbad rfl]
        repeat (first | with_reducible refine CW.seq ?_ | with_reducible refine andThen_normal ?_ | with_reducible refine andThen_ret ?_ | with_reducible refine inBlock_ret ?_ | with_reducible refine CW.ret ?_ | refine CW.reg (RL.run tysOk rfl (RL.nil ?_)) | refine RL.nil ?_ | refine CW.condT rfl ?_ | refine RL.step tysOk rfl rfl rfl rfl ?_)
        exact ⟨_, _, _, rfl, AVle.refl _, Store.sub_refl _, rfl, rfl⟩
    by_cases q8 : o = 8
    · subst q8
      have hcall := refHas_spec own o3 t s ho
      replace hgood : own.contains t = true → _ := hgood
      replace hbad : own.contains t = false → _ := hbad
      cases hc : own.contains t with
      | true =>
        rw [hc] at hcall hgood
        repeat (first | with_reducible refine CW.seq ?_ | with_reducible refine andThen_normal ?_ | with_reducible refine CW.skip ?_ | with_reducible refine CW.block ?_ | refine CW.reg (RL.run tysOk rfl (RL.nil ?_)) | refine CW.reg ?_ | refine RL.nil ?_ | refine CW.condT rfl ?_ | refine CW.condF rfl ?_ | refine RL.step tysOk rfl rfl rfl rfl ?_ | refine RL.idx tysOk _ rfl rfl rfl rfl rfl rfl rfl rfl rfl rfl rfl (by assumption) rfl ?_)
        refine RL.callP rfl rfl rfl rfl rfl hcall ?_
        repeat (first | with_reducible refine andThen_normal ?_ | with_reducible refine inBlock_normal ?_ | with_reducible refine CW.skip ?_ | refine CW.reg (RL.run tysOk rfl (RL.nil ?_)) | refine RL.nil ?_ | refine CW.condF rfl ?_ | refine RL.step tysOk rfl rfl rfl rfl ?_)
        exact ⟨j + 1, ⟨hlt, hgood rfl⟩, (by repeat (first | exact trivial | refine ⟨⟨_, rfl, AVle.refl _⟩, ?_⟩ | refine ⟨⟨_, rfl, AVle.of_eq (by (rw [i64_succ (by omega)]))⟩, ?_⟩)), Store.sub_refl _, by omega⟩
      | false =>
        rw [hc] at hcall hbad
        repeat (first | with_reducible refine CW.seq ?_ | with_reducible refine andThen_normal ?_ | with_reducible refine CW.skip ?_ | with_reducible refine CW.block ?_ | refine CW.reg (RL.run tysOk rfl (RL.nil ?_)) | refine CW.reg ?_ | refine RL.nil ?_ | refine CW.condT rfl ?_ | refine CW.condF rfl ?_ | refine RL.step tysOk rfl rfl rfl rfl ?_ | refine RL.idx tysOk _ rfl rfl rfl rfl rfl rfl rfl rfl rfl rfl rfl (by assumption) rfl ?_)
        refine RL.callP rfl rfl rfl rfl rfl hcall ?_
        rw [hbad rfl]
        repeat (first | with_reducible refine CW.seq ?_ | with_reducible refine andThen_normal ?_ | with_reducible refine andThen_ret ?_ | with_reducible refine inBlock_ret ?_ | with_reducible refine CW.ret ?_ | refine CW.reg (RL.run tysOk rfl (RL.nil ?_)) | refine RL.nil ?_ | refine CW.condT rfl ?_ | refine RL.step tysOk rfl rfl rfl rfl ?_)
        exact ⟨_, _, _, rfl, AVle.refl _, Store.sub_refl _, rfl, rfl⟩
    by_cases q18 : o = 18
    · subst q18
      cases next with
      | true =>
        repeat (first | with_reducible refine CW.seq ?_ | with_reducible refine andThen_normal ?_ | with_reducible refine inBlock_normal ?_ | with_reducible refine CW.skip ?_ | with_reducible refine CW.block ?_ | refine CW.reg (RL.run tysOk rfl (RL.nil ?_)) | refine CW.reg ?_ | refine RL.nil ?_ | refine CW.condT rfl ?_ | refine CW.condF rfl ?_ | refine RL.step tysOk rfl rfl rfl rfl ?_ | refine RL.idx tysOk _ rfl rfl rfl rfl rfl rfl rfl rfl rfl rfl rfl (by assumption) rfl ?_)
        exact ⟨j + 1, ⟨hlt, hgood rfl⟩, (by repeat (first | exact trivial | refine ⟨⟨_, rfl, AVle.refl _⟩, ?_⟩ | refine ⟨⟨_, rfl, AVle.of_eq (by (rw [i64_succ (by omega)]))⟩, ?_⟩)), Store.sub_refl _, by omega⟩
      | false =>
        rw [hbad rfl]
        repeat (first | with_reducible refine CW.seq ?_ | with_reducible refine andThen_normal ?_ | with_reducible refine andThen_ret ?_ | with_reducible refine inBlock_ret ?_ | with_reducible refine CW.ret ?_ | with_reducible refine CW.skip ?_ | with_reducible refine CW.block ?_ | refine CW.reg (RL.run tysOk rfl (RL.nil ?_)) | refine CW.reg ?_ | refine RL.nil ?_ | refine CW.condT rfl ?_ | refine CW.condF rfl ?_ | refine RL.step tysOk rfl rfl rfl rfl ?_ | refine RL.idx tysOk _ rfl rfl rfl rfl rfl rfl rfl rfl rfl rfl rfl (by assumption) rfl ?_)
        exact ⟨_, _, _, rfl, AVle.refl _, Store.sub_refl _, rfl, rfl⟩
    have hn : (if o == 4 || o == 7 then slots.contains t else if o == 6 || o == 8 then own.contains t else if o == 18 then next else true) = true := by simp [q4, q7, q6, q8, q18]
    have hgood' := hgood hn
    repeat (first | with_reducible refine CW.seq ?_ | with_reducible refine andThen_normal ?_ | with_reducible refine CW.skip ?_ | with_reducible refine CW.block ?_ | refine CW.reg (RL.run tysOk rfl (RL.nil ?_)) | refine CW.reg ?_ | refine RL.nil ?_ | refine RL.step tysOk rfl rfl rfl rfl ?_ | refine RL.idx tysOk _ rfl rfl rfl rfl rfl rfl rfl rfl rfl rfl rfl (by assumption) rfl ?_)
    refine CW.cond rfl (fun h => absurd h (by simp only [FExp.op, beq_iff_eq]; omega)) (fun _ => ?_)
    repeat (first | with_reducible refine andThen_normal ?_ | refine CW.reg (RL.run tysOk rfl (RL.nil ?_)))
    refine CW.cond rfl (fun h => absurd h (by simp only [FExp.op, beq_iff_eq]; omega)) (fun _ => ?_)
    repeat (first | with_reducible refine CW.seq ?_ | with_reducible refine andThen_normal ?_ | refine CW.reg (RL.run tysOk rfl (RL.nil ?_)))
    refine CW.cond rfl (fun h => absurd h (by simp only [FExp.op, beq_iff_eq]; omega)) (fun _ => ?_)
    repeat (first | with_reducible refine andThen_normal ?_ | refine CW.reg (RL.run tysOk rfl (RL.nil ?_)))
    refine CW.cond rfl (fun h => absurd h (by simp only [FExp.op, beq_iff_eq]; omega)) (fun _ => ?_)
    repeat (first | with_reducible refine CW.seq ?_ | with_reducible refine andThen_normal ?_ | refine CW.reg (RL.run tysOk rfl (RL.nil ?_)))
    refine CW.cond rfl (fun h => absurd h (by simp only [FExp.op, beq_iff_eq]; omega)) (fun _ => ?_)
    repeat (first | with_reducible refine andThen_normal ?_ | with_reducible refine inBlock_normal ?_ | with_reducible refine CW.skip ?_ | refine CW.reg (RL.run tysOk rfl (RL.nil ?_)))
    exact ⟨j + 1, ⟨hlt, hgood'⟩, (by repeat (first | exact trivial | refine ⟨⟨_, rfl, AVle.refl _⟩, ?_⟩ | refine ⟨⟨_, rfl, AVle.of_eq (by (rw [i64_succ (by omega)]))⟩, ?_⟩)), Store.sub_refl _, by omega⟩
  · have hge : l.length ≤ j := by simpa using h
    rw [List.drop_eq_nil_of_le hge, List.all_nil] at hI
    rw [hI, Bool.true_and] at hsb
    repeat (first | with_reducible refine CW.seq ?_ | with_reducible refine andThen_normal ?_ | with_reducible refine andThen_exit ?_ | with_reducible refine inBlock_here ?_ | with_reducible refine CW.exit ?_ | refine CW.reg ?_ | refine RL.step tysOk rfl rfl rfl rfl ?_)
    refine RL.callP rfl rfl rfl rfl rfl (refFreeOf_spec e s he) ?_
    generalize sortS (e.looseR []) = f at hsb hfl ⊢
    repeat (first | with_reducible refine CW.seq ?_ | with_reducible refine andThen_normal ?_ | with_reducible refine CW.block ?_ | refine CW.reg (RL.run tysOk rfl (RL.nil ?_)) | refine RL.nil ?_ | refine RL.step tysOk rfl rfl rfl rfl ?_)
    refine CW.loop (σ := Nat) (fun j => [(1, .slc 1 (strs free) o1), (13, .slc 1 (strs f) .fro), (14, .int .i64 (j : Int))]) (fun _ => s)
      (fun j => j ≤ f.length ∧ f.all free.contains = (f.drop j).all free.contains) (fun j => f.length - j) 0 ⟨by omega, rfl⟩ (by repeat (first | exact trivial | refine ⟨⟨_, rfl, AVle.refl _⟩, ?_⟩)) (Store.sub_refl _) ?_
    rintro k ⟨hk, hK⟩
    repeat (first | with_reducible refine CW.seq ?_ | with_reducible refine andThen_normal ?_ | refine CW.reg (RL.run tysOk rfl (RL.nil ?_)))
    refine CW.cond rfl (fun h => ?_) (fun h => ?_)
    · have hlt : k < f.length := by simpa using h
      obtain ⟨x, hx⟩ : ∃ x, f[k]? = some x := ⟨_, List.getElem?_eq_getElem hlt⟩
      have hx' : (strs f)[k]? = some (.str x) := by rw [strs_get, hx]; rfl
      have hcall := refHas_spec free o1 x s hf
      repeat (first | with_reducible refine CW.seq ?_ | with_reducible refine andThen_normal ?_ | with_reducible refine CW.skip ?_ | with_reducible refine CW.block ?_ | refine CW.reg ?_ | refine RL.step tysOk rfl rfl rfl rfl ?_ | refine RL.idx tysOk _ rfl rfl rfl rfl rfl rfl rfl rfl rfl rfl rfl (by assumption) rfl ?_)
      cases hc : free.contains x with
      | true =>
        rw [hc] at hcall
        refine RL.callP rfl rfl rfl rfl rfl hcall ?_
        repeat (first | with_reducible refine andThen_normal ?_ | with_reducible refine inBlock_normal ?_ | with_reducible refine CW.skip ?_ | refine CW.reg (RL.run tysOk rfl (RL.nil ?_)) | refine RL.nil ?_ | refine CW.condF rfl ?_ | refine RL.step tysOk rfl rfl rfl rfl ?_)
        exact ⟨k + 1, ⟨hlt, all_take hx hK hc⟩, (by repeat (first | exact trivial | refine ⟨⟨_, rfl, AVle.refl _⟩, ?_⟩ | refine ⟨⟨_, rfl, AVle.of_eq (by (rw [i64_succ (by omega)]))⟩, ?_⟩)), Store.sub_refl _, by omega⟩
      | false =>
        rw [hc] at hcall
        refine RL.callP rfl rfl rfl rfl rfl hcall ?_
        rw [hsb, all_miss hx hc]
        repeat (first | with_reducible refine CW.seq ?_ | with_reducible refine andThen_normal ?_ | with_reducible refine andThen_ret ?_ | with_reducible refine inBlock_ret ?_ | with_reducible refine CW.ret ?_ | refine CW.reg (RL.run tysOk rfl (RL.nil ?_)) | refine RL.nil ?_ | refine CW.condT rfl ?_ | refine RL.step tysOk rfl rfl rfl rfl ?_)
        exact ⟨_, _, _, rfl, AVle.refl _, Store.sub_refl _, rfl, rfl⟩
    · have hge : f.length ≤ k := by simpa using h
      rw [List.drop_eq_nil_of_le hge, List.all_nil] at hK
      rw [hsb, hK]
      repeat (first | with_reducible refine CW.seq ?_ | with_reducible refine andThen_normal ?_ | with_reducible refine andThen_exit ?_ | with_reducible refine inBlock_here ?_ | with_reducible refine CW.ret ?_ | with_reducible refine CW.exit ?_ | refine CW.reg (RL.run tysOk rfl (RL.nil ?_)))
      exact ⟨_, _, _, rfl, AVle.refl _, Store.sub_refl _, rfl, rfl⟩

section
variable {P : Program} {Γ : Tys} {N : Nat} {env : Env} {s : Store}
/-- What is appended to a row of one's own in a store that is known in part. -/
theorem OW.appendB (hΓ : TysOk P Γ) {o : Oper} {t t' e : TypeId} {x y : Operand} {it it' ie : TI} {sx sy n : Nat} {xs : List AV} {v : AV} {own oy : Own}
    (ho : o.op = .call { callee := .builtin .append, args := #[x, y], argTypes := #[t, t'] }) (ht : Γ.get? t = some it) (htd : it.td = .slc e) (ht' : Γ.get? t' = some it') (htd' : ∀ k, it'.td ≠ .int k)
    (hie : Γ.get? e = some ie) (hx : ev env x = some (.slc sx xs own)) (hy : ev env y = some (.slc sy [v] oy)) (hsx : sx = ie.size) (hsy : sy = ie.size)
    (hzs' : Nat.beq ie.zero.cells.size ie.size = true) (hel : elemOk ie.size v = true) (hn : n = xs.length) (hb : (n + 1) * ie.bytes ≤ 140737488355328) (h63 : n + 1 ≤ 9223372036854775807)
    (hrow : RowIs s e ie.size n own) {X : AV → Store → Prop} :
    OW P N o env s (fun r s' => ∃ b, OwnOk (rowBase s own) 0 (.own b) ∧ r = .slc ie.size (xs ++ [v]) (.own b) ∧ s' = rowOf (rowBase s own) e ie.size (n + 1) (.own b)) X := by
  subst hn
  have h := OW.appendR (N := N) (own := own) (s := rowBase s own) hΓ ho ht htd ht' htd' hie hx hy hsx (.inr hsy) hzs' (by intro y hy; simp at hy; subst hy; exact hel) hb h63 rfl (rowBase_ok hrow) (X := X)
  rw [← rowBase_eq hrow] at h
  refine OW.mono h ?_ (fun _ _ h => h)
  rintro r s' ⟨own', h1, h2, -, rfl, rfl⟩
  obtain ⟨b, rfl⟩ := h2 (by simp)
  exact ⟨b, h1, rfl, rfl⟩
end

/-! ### The noter -/
def ints (l : List Int) : List AV := l.map (.int .i64)
theorem ints_length (l : List Int) : (ints l).length = l.length := by simp [ints]
def noterCells (G : List (Str × Int)) (o1 o2 : Own) (bad : Bool) : List AV := [.slc 1 (strs (G.map (·.1))) o1, .slc 1 (ints (G.map (·.2))) o2, .bool bad]

structure NoI (s t : Store) (xb : Nat) (G : List (Str × Int)) (is : Bool) (o1 o2 : Own) : Prop where
  hx : t xb = some (.box 185 (noterCells G o1 o2 (!is)))
  r1 : RowIs t 9 1 G.length o1
  r2 : RowIs t 3 1 G.length o2
  sub : Store.Sub s t
  sn : s xb = none
  s1 : ∀ b, o1 = .own b → s b = none
  s2 : ∀ b, o2 = .own b → s b = none
  d12 : ∀ b, o1 = .own b → o2 ≠ .own b

/-- Two rows grow, one after the other. -/
theorem NoI.add {s t : Store} {xb : Nat} {G : List (Str × Int)} {is : Bool} {o1 o2 : Own} (h : NoI s t xb G is o1 o2) (x : Str) (n : Int) {b1 b2 : Nat} (h1 : OwnOk (rowBase t o1) 0 (.own b1))
    (h2 : OwnOk (rowBase (rowOf (rowBase t o1) 9 1 (G.length + 1) (.own b1)) o2) 0 (.own b2)) :
    NoI s ((rowOf (rowBase (rowOf (rowBase t o1) 9 1 (G.length + 1) (.own b1)) o2) 3 1 (G.length + 1) (.own b2)).set xb (.box 185 (noterCells (G ++ [(x, n)]) (.own b1) (.own b2) (!is)))) xb (G ++ [(x, n)]) is (.own b1) (.own b2) := by
  have hx1 := grow_keep (e := 9) (sz := 1) (m := G.length + 1) h.r1 h1 h.hx rfl
  have r2' := grow_row (e := 9) (sz := 1) (m := G.length + 1) h.r2 h.d12 h1
  have q1 := grow_own (e := 9) (sz := 1) (m := G.length + 1) h1
  have g1 := grow_sub (e := 9) (sz := 1) (m := G.length + 1) h.sub h.s1 h1
  have d1 := grow_dis h.r2 h.d12 h1
  generalize rowOf (rowBase t o1) 9 1 (G.length + 1) (.own b1) = t1 at hx1 r2' q1 g1 h2 ⊢
  have d1' : ∀ b, o2 = .own b → Own.own b1 ≠ .own b := fun b hb hc => d1 b hc hb
  have hx2 := grow_keep (e := 3) (sz := 1) (m := G.length + 1) r2' h2 hx1 rfl
  have q1' := grow_row (e := 3) (sz := 1) (m := G.length + 1) q1 d1' h2
  have q2 := grow_own (e := 3) (sz := 1) (m := G.length + 1) h2
  have g2 := grow_sub (e := 3) (sz := 1) (m := G.length + 1) g1.1 h.s2 h2
  have d2 := grow_dis q1 d1' h2
  have hl : (G ++ [(x, n)]).length = G.length + 1 := by simp
  refine ⟨Store.set_same _ _ _, ?_, ?_, Store.subSet g2.1 h.sn, h.sn, g1.2, g2.2, fun b hb hc => d2 b hc hb⟩
  · rw [hl]; exact set_row q1' hx2 rfl
  · rw [hl]; exact set_row q2 hx2 rfl
theorem NoI.bad {s t : Store} {xb : Nat} {G : List (Str × Int)} {is : Bool} {o1 o2 : Own} (h : NoI s t xb G is o1 o2) (is' : Bool) :
    NoI s (t.set xb (.box 185 (noterCells G o1 o2 (!is')))) xb G is' o1 o2 :=
  ⟨Store.set_same _ _ _, set_row h.r1 h.hx rfl, set_row h.r2 h.hx rfl, Store.subSet h.sub h.sn, h.sn, h.s1, h.s2, h.d12⟩

theorem find_idxFrom (G : List (Str × Int)) (s : Str) :
    match G.find? (fun x => s == x.1) with
    | some q => ∃ j : Nat, G[j]? = some q ∧ idxFrom (G.map (·.1)) s 0 = (j : Int)
    | none => idxFrom (G.map (·.1)) s 0 = -1 := by
  unfold idxFrom
  rw [List.drop_zero, List.findIdx?_map]
  have he : ((fun x => x == s) ∘ fun x : Str × Int => x.1) = fun x => s == x.1 := by funext x; exact BEq.comm
  rw [he]
  cases hf : G.find? (fun x => s == x.1) with
  | none =>
    have : G.findIdx? (fun x => s == x.1) = none := by
      rw [List.findIdx?_eq_none_iff]
      intro x hx
      have := List.find?_eq_none.1 hf x hx
      simpa using this
    rw [this]
  | some q =>
    simp only
    have hsome : (G.findIdx? (fun x => s == x.1)).isSome = true := by
      rw [List.findIdx?_isSome, List.any_eq_true]
      exact ⟨q, List.mem_of_find?_eq_some hf, List.find?_some (p := fun x : Str × Int => s == x.1) hf⟩
    obtain ⟨j, hj⟩ := Option.isSome_iff_exists.1 hsome
    refine ⟨j, ?_, by rw [hj]; simp⟩
    rw [List.findIdx?_eq_some_iff_getElem] at hj
    obtain ⟨hlt, h1, h2⟩ := hj
    rw [List.find?_eq_some_iff_getElem] at hf
    obtain ⟨h3, i, hi, h4, h5⟩ := hf
    have hij : i = j := by
      refine Classical.byContradiction fun hne => ?_
      rcases Nat.lt_or_gt_of_ne hne with h | h
      · have := h2 i h
        rw [h4] at this
        exact absurd h3 this
      · have := h5 j h
        rw [h1] at this; cases this
    subst hij
    rw [List.getElem?_eq_getElem hi, h4]

set_option maxRecDepth 10000 in
set_option maxHeartbeats 1000000 in
theorem refNote_spec (s t : Store) (xb : Nat) (G : List (Str × Int)) (is : Bool) (o1 o2 : Own) (x : Str) (n : Int) (h : NoI s t xb G is o1 o2) (hG : G.length < big) :
    ACalls Try.prog 125 [.ptr xb 0, .str x, .int .i64 n] t (fun o t' => o = .ret (.tup []) ∧ ∃ o1' o2', NoI s t' xb (gNote (G, is) x n).1 (gNote (G, is) x n).2 o1' o2') := by
  have hb : big = 1099511627776 := rfl
  have hx := h.hx
  have hidx := find_idxFrom G x
  refine ACalls.of_CW tysOk call125 Try.func125 rfl rfl ?_
  repeat (first | with_reducible refine CW.seq ?_ | refine CW.reg ?_ | refine RL.step tysOk rfl rfl rfl rfl ?_ | refine RL.loadP tysOk rfl rfl rfl rfl rfl rfl (by assumption) rfl ?_)
  refine RL.callP rfl rfl rfl rfl rfl (refIndex_spec (G.map (·.1)) o1 x t (by rw [List.length_map]; omega)) ?_
  cases hf : G.find? (fun q => x == q.1) with
  | none =>
    have hgn : gNote (G, is) x n = (G ++ [(x, n)], is) := by unfold gNote; rw [hf]
    rw [hf] at hidx
    simp only at hidx
    rw [hidx, hgn]
    repeat (first | with_reducible refine CW.seq ?_ | with_reducible refine andThen_normal ?_ | refine CW.reg (RL.run tysOk rfl (RL.nil ?_)) | refine RL.nil ?_ | refine CW.condT rfl ?_ | refine RL.step tysOk rfl rfl rfl rfl ?_ | refine CW.drw tysOk mixed rfl (RD.run rfl ?_))
    refine RD.many rfl (RDAll.c (RDStep.mk (i := 5) rfl rfl rfl rfl (OW.loadP tysOk rfl rfl rfl hx rfl (X := fun _ _ => False)) ?_ (fun _ _ h => False.elim h)) (RDAll.c (RDStep.mk (i := 12) rfl rfl rfl rfl (OW.loadP tysOk rfl rfl rfl hx rfl (X := fun _ _ => False)) ?_ (fun _ _ h => False.elim h)) RDAll.n))
    · rintro _ _ ⟨rfl, hs2⟩
      rw [hs2]
      clear hs2
      refine RD.run rfl ?_
      refine RD.many rfl (RDAll.c (RDStep.mk (i := 8) rfl rfl rfl rfl (OW.appendB tysOk rfl rfl rfl rfl (by intro k h; cases h) rfl rfl rfl rfl rfl rfl rfl (n := G.length) (by rw [strs_length, List.length_map]) (by show (G.length + 1) * 16 ≤ _; omega) (by omega) h.r1 (X := fun _ _ => False)) ?_ (fun _ _ h => False.elim h)) (RDAll.c (RDStep.mk (i := 12) rfl rfl rfl rfl (OW.loadP tysOk rfl rfl rfl hx rfl (X := fun _ _ => False)) ?_ (fun _ _ h => False.elim h)) RDAll.n))
      · rintro _ _ ⟨b1, hf1, rfl, rfl⟩
        refine RD.run rfl ?_
        refine RD.many rfl (RDAll.c (RDStep.mk (i := 12) rfl rfl rfl rfl (OW.loadP tysOk rfl rfl rfl (grow_keep (n := 0) (own' := .own b1) h.r1 hf1 hx rfl) rfl (X := fun _ _ => False)) ?_ (fun _ _ h => False.elim h)) RDAll.n)
        · rintro _ _ ⟨rfl, hs2⟩
          rw [hs2]
          clear hs2
          refine RD.run rfl ?_
          have r2' := grow_row (e := 9) (sz := 1) (m := G.length + 1) (n := 0) (own' := .own b1) h.r2 h.d12 hf1
          have hx1 := grow_keep (e := 9) (sz := 1) (m := G.length + 1) (n := 0) (own' := .own b1) h.r1 hf1 hx rfl
          refine RD.one (i := 15) rfl rfl rfl rfl rfl (OW.appendB tysOk rfl rfl rfl rfl (by intro k h; cases h) rfl rfl rfl rfl rfl rfl rfl (n := G.length) (by rw [ints_length, List.length_map]) (by show (G.length + 1) * 8 ≤ _; omega) (by omega) r2' (X := fun _ _ => False)) ?_ (fun _ _ h => False.elim h)
          rintro _ _ ⟨b2, hb2, rfl, rfl⟩
          have hx2 := grow_keep (e := 3) (sz := 1) (m := G.length + 1) (n := 0) (own' := .own b2) r2' hb2 hx1 rfl
          refine RD.run rfl ?_
          refine RD.oneN (i := 18) rfl rfl rfl rfl (OW.storeP tysOk rfl rfl rfl rfl rfl rfl rfl hx2 rfl (X := fun _ _ => False)) ?_ (fun _ _ h => False.elim h)
          rintro _ _ rfl
          refine RD.run rfl ?_
          refine RD.oneN (i := 21) rfl rfl rfl rfl (OW.storeP tysOk rfl rfl rfl rfl rfl rfl rfl (Store.set_same _ _ _) rfl (X := fun _ _ => False)) ?_ (fun _ _ h => False.elim h)
          rintro _ _ rfl
          refine RD.run rfl (RD.done rfl ?_)
          rw [Store.set_set]
          have hA := h.add x n hf1 hb2
          skip
          refine ⟨_, _, _, rfl, AVle.refl _, ?_, rfl, .own b1, .own b2, hA⟩
          have e1 : strs ((G ++ [(x, n)]).map (·.1)) = strs (G.map (·.1)) ++ [.str x] := by simp [strs]
          have e2 : ints ((G ++ [(x, n)]).map (·.2)) = ints (G.map (·.2)) ++ [.int .i64 n] := by simp [ints]
          rw [noterCells, e1, e2]
          exact Store.sub_refl _
      · rintro _ _ ⟨rfl, hs2⟩
        rw [hs2]
        clear hs2
        refine RD.run rfl ?_
        refine RD.many rfl (RDAll.c (RDStep.mk (i := 8) rfl rfl rfl rfl (OW.appendB tysOk rfl rfl rfl rfl (by intro k h; cases h) rfl rfl rfl rfl rfl rfl rfl (n := G.length) (by rw [strs_length, List.length_map]) (by show (G.length + 1) * 16 ≤ _; omega) (by omega) h.r1 (X := fun _ _ => False)) ?_ (fun _ _ h => False.elim h)) RDAll.n)
        · rintro _ _ ⟨b1, hf1, rfl, rfl⟩
          refine RD.run rfl ?_
          have r2' := grow_row (e := 9) (sz := 1) (m := G.length + 1) (n := 0) (own' := .own b1) h.r2 h.d12 hf1
          have hx1 := grow_keep (e := 9) (sz := 1) (m := G.length + 1) (n := 0) (own' := .own b1) h.r1 hf1 hx rfl
          refine RD.one (i := 15) rfl rfl rfl rfl rfl (OW.appendB tysOk rfl rfl rfl rfl (by intro k h; cases h) rfl rfl rfl rfl rfl rfl rfl (n := G.length) (by rw [ints_length, List.length_map]) (by show (G.length + 1) * 8 ≤ _; omega) (by omega) r2' (X := fun _ _ => False)) ?_ (fun _ _ h => False.elim h)
          rintro _ _ ⟨b2, hb2, rfl, rfl⟩
          have hx2 := grow_keep (e := 3) (sz := 1) (m := G.length + 1) (n := 0) (own' := .own b2) r2' hb2 hx1 rfl
          refine RD.run rfl ?_
          refine RD.oneN (i := 18) rfl rfl rfl rfl (OW.storeP tysOk rfl rfl rfl rfl rfl rfl rfl hx2 rfl (X := fun _ _ => False)) ?_ (fun _ _ h => False.elim h)
          rintro _ _ rfl
          refine RD.run rfl ?_
          refine RD.oneN (i := 21) rfl rfl rfl rfl (OW.storeP tysOk rfl rfl rfl rfl rfl rfl rfl (Store.set_same _ _ _) rfl (X := fun _ _ => False)) ?_ (fun _ _ h => False.elim h)
          rintro _ _ rfl
          refine RD.run rfl (RD.done rfl ?_)
          rw [Store.set_set]
          have hA := h.add x n hf1 hb2
          skip
          refine ⟨_, _, _, rfl, AVle.refl _, ?_, rfl, .own b1, .own b2, hA⟩
          have e1 : strs ((G ++ [(x, n)]).map (·.1)) = strs (G.map (·.1)) ++ [.str x] := by simp [strs]
          have e2 : ints ((G ++ [(x, n)]).map (·.2)) = ints (G.map (·.2)) ++ [.int .i64 n] := by simp [ints]
          rw [noterCells, e1, e2]
          exact Store.sub_refl _
    · rintro _ _ ⟨rfl, hs2⟩
      rw [hs2]
      clear hs2
      refine RD.run rfl ?_
      refine RD.many rfl (RDAll.c (RDStep.mk (i := 5) rfl rfl rfl rfl (OW.loadP tysOk rfl rfl rfl hx rfl (X := fun _ _ => False)) ?_ (fun _ _ h => False.elim h)) RDAll.n)
      · rintro _ _ ⟨rfl, hs2⟩
        rw [hs2]
        clear hs2
        refine RD.run rfl ?_
        refine RD.many rfl (RDAll.c (RDStep.mk (i := 8) rfl rfl rfl rfl (OW.appendB tysOk rfl rfl rfl rfl (by intro k h; cases h) rfl rfl rfl rfl rfl rfl rfl (n := G.length) (by rw [strs_length, List.length_map]) (by show (G.length + 1) * 16 ≤ _; omega) (by omega) h.r1 (X := fun _ _ => False)) ?_ (fun _ _ h => False.elim h)) RDAll.n)
        · rintro _ _ ⟨b1, hf1, rfl, rfl⟩
          refine RD.run rfl ?_
          have r2' := grow_row (e := 9) (sz := 1) (m := G.length + 1) (n := 0) (own' := .own b1) h.r2 h.d12 hf1
          have hx1 := grow_keep (e := 9) (sz := 1) (m := G.length + 1) (n := 0) (own' := .own b1) h.r1 hf1 hx rfl
          refine RD.one (i := 15) rfl rfl rfl rfl rfl (OW.appendB tysOk rfl rfl rfl rfl (by intro k h; cases h) rfl rfl rfl rfl rfl rfl rfl (n := G.length) (by rw [ints_length, List.length_map]) (by show (G.length + 1) * 8 ≤ _; omega) (by omega) r2' (X := fun _ _ => False)) ?_ (fun _ _ h => False.elim h)
          rintro _ _ ⟨b2, hb2, rfl, rfl⟩
          have hx2 := grow_keep (e := 3) (sz := 1) (m := G.length + 1) (n := 0) (own' := .own b2) r2' hb2 hx1 rfl
          refine RD.run rfl ?_
          refine RD.oneN (i := 18) rfl rfl rfl rfl (OW.storeP tysOk rfl rfl rfl rfl rfl rfl rfl hx2 rfl (X := fun _ _ => False)) ?_ (fun _ _ h => False.elim h)
          rintro _ _ rfl
          refine RD.run rfl ?_
          refine RD.oneN (i := 21) rfl rfl rfl rfl (OW.storeP tysOk rfl rfl rfl rfl rfl rfl rfl (Store.set_same _ _ _) rfl (X := fun _ _ => False)) ?_ (fun _ _ h => False.elim h)
          rintro _ _ rfl
          refine RD.run rfl (RD.done rfl ?_)
          rw [Store.set_set]
          have hA := h.add x n hf1 hb2
          skip
          refine ⟨_, _, _, rfl, AVle.refl _, ?_, rfl, .own b1, .own b2, hA⟩
          have e1 : strs ((G ++ [(x, n)]).map (·.1)) = strs (G.map (·.1)) ++ [.str x] := by simp [strs]
          have e2 : ints ((G ++ [(x, n)]).map (·.2)) = ints (G.map (·.2)) ++ [.int .i64 n] := by simp [ints]
          rw [noterCells, e1, e2]
          exact Store.sub_refl _
  | some q =>
    have hgn : gNote (G, is) x n = (G, is && q.2 == n) := by unfold gNote; rw [hf]
    rw [hf] at hidx
    simp only at hidx
    obtain ⟨j, hj, hidx⟩ := hidx
    rw [hidx, hgn]
    have hjl : j < G.length := (List.getElem?_eq_some_iff.1 hj).1
    have hq' : (ints (G.map (·.2)))[j]? = some (.int .i64 q.2) := by simp [ints, hj]
    repeat (first | with_reducible refine CW.seq ?_ | with_reducible refine andThen_normal ?_ | refine CW.reg (RL.run tysOk rfl (RL.nil ?_)) | refine CW.reg ?_ | refine RL.nil ?_ | refine CW.condF rfl ?_ | refine RL.step tysOk rfl rfl rfl rfl ?_ | refine RL.loadP tysOk rfl rfl rfl rfl rfl rfl (by assumption) rfl ?_ | refine RL.idx tysOk _ rfl rfl rfl rfl rfl rfl rfl rfl rfl rfl rfl (by assumption) rfl ?_)
    refine CW.cond rfl (fun hc => ?_) (fun hc => ?_)
    · have hne : (q.2 == n) = false := by simpa using hc
      rw [hne, Bool.and_false]
      repeat (first | refine CW.reg ?_ | refine RL.step tysOk rfl rfl rfl rfl ?_)
      refine RL.storeP tysOk rfl rfl rfl rfl rfl rfl rfl rfl rfl hx rfl ?_
      repeat (first | refine RL.nil ?_)
      exact ⟨_, _, _, rfl, AVle.refl _, Store.sub_refl _, rfl, o1, o2, h.bad false⟩
    · have heq : (q.2 == n) = true := by simpa using hc
      rw [heq, Bool.and_true]
      repeat (first | with_reducible refine CW.skip ?_)
      exact ⟨_, _, _, rfl, AVle.refl _, Store.sub_refl _, rfl, o1, o2, h⟩
end Go.Proofs.Ytaafacnoddjhgaa

/- Contracts of the reference: the functions of a program. -/
namespace Go.Proofs.Ytaafacnoddjhgaa
open Go.AE

theorem own_nil2 {X : Nat → Prop} : ∀ b, Own.nil = Own.own b → X b := fun _ h => by cases h
theorem NoI.extra {s t : Store} {xb : Nat} {G : List (Str × Int)} {is : Bool} {o1 o2 : Own} (h : NoI s t xb G is o1 o2) {b : Nat} (hb : t b = none) : xb ≠ b := fun e => by subst e; rw [h.hx] at hb; cases hb

theorem gNotes_cons (st : List (Str × Int) × Bool) (x : Str × Int) (l : List (Str × Int)) : gNotes st (x :: l) = gNotes (gNote st x.1 x.2) l := rfl
theorem gNotes_append (st : List (Str × Int) × Bool) (a b : List (Str × Int)) : gNotes st (a ++ b) = gNotes (gNotes st a) b := by unfold gNotes; rw [List.foldl_append]
theorem callsL_cons (g : FExp) (l : List FExp) : callsL (g :: l) = (if g.op == 5 then [(g.text, (g.kids.length : Int))] else []) ++ callsL l := by
  unfold callsL; rw [List.filter_cons]; cases g.op == 5 <;> simp

/-- All bodies of a program. -/
def bodies (P : FProg) : List FExp := P.methods.map FMethod.body ++ [P.main]
theorem progNotes_eq (P : FProg) : progNotes P = methodNotes P.methods ++ (bodies P).flatMap fun e => callsL e.allE := rfl

set_option maxRecDepth 10000 in
set_option maxHeartbeats 4000000 in
theorem refFunctions_spec (P : FProg) (s : Store) (hP : P.Fair) :
    ACalls Try.prog 91 [P.av] s (fun o s' => o = .ret (.tup [.slc 1 (strs ((progGens P).1.map (·.1))) .fro, .slc 1 (ints ((progGens P).1.map (·.2))) .fro, .bool (progGens P).2]) ∧ s' = s) := by
  have hb : big = 1099511627776 := rfl
  have hml := hP.mlen
  have hnl := hP.notes
  have hpg : progGens P = gNotes ([], true) (methodNotes P.methods ++ (bodies P).flatMap fun e => callsL e.allE) := rfl
  rw [progNotes_eq] at hnl
  generalize hR : (bodies P).flatMap (fun e => callsL e.allE) = R at hpg hnl
  refine ACalls.of_CW tysOk call91 Try.func91 rfl rfl ?_
  refine CW.seqCut [(1, .fptr P.cells 0)] s ?_ ?_
  · repeat (first | refine CW.reg (RL.run tysOk rfl (RL.nil ?_)))
    exact ⟨rfl, (by repeat (first | exact trivial | refine ⟨⟨_, rfl, AVle.refl _⟩, ?_⟩)), Store.sub_refl _⟩
  refine CW.seqCutX (σ := Nat × Store) (fun z => [(1, .fptr P.cells 0), (5, .ptr z.1 0)]) (fun z => z.2) (fun z => NoI s z.2 z.1 [] true .nil .nil) ?_ ?_
  · refine CW.reg ?_
    refine RL.step tysOk rfl rfl rfl rfl ?_
    refine RL.boxM rfl rfl rfl rfl rfl rfl (fun xb hxb => ?_)
    refine RL.boxWeak xb (noterCells [] .nil .nil false) (Store.set_same _ _ _) ?_ ?_
    · exact .cons (AVle.nil (by simp)) (.cons (AVle.nil (by simp)) (.one (AVle.refl _)))
    rw [Store.set_set]
    repeat (first | refine RL.nil ?_ | refine RL.step tysOk rfl rfl rfl rfl ?_)
    exact ⟨rfl, (xb, _), ⟨Store.set_same _ _ _, trivial, trivial, Store.subSet (Store.sub_refl _) hxb, hxb, own_nil2, own_nil2, own_nil2⟩, (by repeat (first | exact trivial | refine ⟨⟨_, rfl, AVle.refl _⟩, ?_⟩)), Store.sub_refl _⟩
  rintro ⟨xb, t0⟩ hI0
  simp only at hI0 ⊢
  refine CW.seqCutX (σ := Store × List (Str × Int) × Bool × Own × Own) (fun _ => [(1, .fptr P.cells 0), (5, .ptr xb 0)]) (fun z => z.1) (fun z => NoI s z.1 xb z.2.1 z.2.2.1 z.2.2.2.1 z.2.2.2.2 ∧ gNotes (z.2.1, z.2.2.1) R = progGens P ∧ z.2.1.length + R.length < big) ?_ ?_
  · repeat (first | with_reducible refine CW.seq ?_ | with_reducible refine andThen_normal ?_ | with_reducible refine CW.block ?_ | refine CW.reg (RL.run tysOk rfl (RL.nil ?_)))
    refine CW.loop (σ := Nat × Store × List (Str × Int) × Bool × Own × Own) (fun q => [(1, .fptr P.cells 0), (5, .ptr xb 0), (6, .int .i64 (q.1 : Int))]) (fun q => q.2.1)
      (fun q => q.1 ≤ P.methods.length ∧ NoI s q.2.1 xb q.2.2.1 q.2.2.2.1 q.2.2.2.2.1 q.2.2.2.2.2 ∧ gNotes (q.2.2.1, q.2.2.2.1) (methodNotes (P.methods.drop q.1) ++ R) = progGens P ∧ q.2.2.1.length + (methodNotes (P.methods.drop q.1)).length + R.length < big) (fun q => P.methods.length - q.1)
      (0, t0, [], true, .nil, .nil) ⟨by simp, hI0, hpg.symm, by rw [List.length_append] at hnl; simpa using hnl⟩ (by repeat (first | exact trivial | refine ⟨⟨_, rfl, AVle.refl _⟩, ?_⟩)) (Store.sub_refl _) ?_
    rintro ⟨j, t, G, is, o1, o2⟩ ⟨hj, hI, hE, hL⟩
    simp only at hj hI hE hL
    repeat (first | with_reducible refine CW.seq ?_ | with_reducible refine andThen_normal ?_ | refine CW.reg (RL.run tysOk rfl (RL.nil ?_)))
    refine CW.cond rfl (fun h => ?_) (fun h => ?_)
    · have hlt : j < P.methods.length := by simpa using h
      obtain ⟨m, hm⟩ : ∃ m, P.methods[j]? = some m := ⟨_, List.getElem?_eq_getElem hlt⟩
      have hm' : (P.methods.map FMethod.av)[j]? = some (.agg m.cells) := by rw [List.getElem?_map, hm]; rfl
      rw [drop_cons hm] at hE hL
      simp only [methodNotes, List.map_cons, List.cons_append, List.length_cons] at hE hL
      rw [gNotes_cons] at hE
      have hgl := gNote_length (G, is) m.name (m.params.length : Int)
      have hcall := refNote_spec s t xb G is o1 o2 m.name (m.params.length : Int) hI (by omega)
      generalize gNote (G, is) m.name (m.params.length : Int) = st at hE hgl hcall
      obtain ⟨G', is'⟩ := st
      repeat (first | with_reducible refine CW.seq ?_ | with_reducible refine andThen_normal ?_ | with_reducible refine CW.skip ?_ | with_reducible refine CW.block ?_ | refine CW.drw tysOk mixed rfl (RD.run rfl ?_))
      refine RD.idx 4 j rfl rfl rfl rfl rfl rfl rfl rfl rfl rfl rfl rfl rfl hm' rfl ?_
      refine RD.idx 10 j rfl rfl rfl rfl rfl rfl rfl rfl rfl rfl rfl rfl rfl hm' rfl ?_
      refine RD.run rfl ?_
      rw [strs_length]
      refine RD.call (i := 14) rfl rfl rfl rfl rfl rfl rfl hcall ?_ (fun _ _ ⟨h, _⟩ => by cases h)
      rintro _ t' ⟨⟨⟩, o1', o2', hI'⟩
      refine RD.run rfl (RD.done rfl ?_)
      repeat (first | with_reducible refine andThen_normal ?_ | with_reducible refine inBlock_normal ?_ | refine CW.reg (RL.run tysOk rfl (RL.nil ?_)))
      exact ⟨(j + 1, t', G', is', o1', o2'), ⟨hlt, hI', hE, by simp only [methodNotes, List.length_map] at hL hgl ⊢; omega⟩, (by repeat (first | exact trivial | refine ⟨⟨_, rfl, AVle.refl _⟩, ?_⟩ | refine ⟨⟨_, rfl, AVle.of_eq (by (show AV.int .i64 (IntKind.wrap .i64 ((j : Int) + 1)) = .int .i64 ((j + 1 : Nat) : Int); rw [i64_succ (by omega)]))⟩, ?_⟩)), Store.sub_refl _, by show P.methods.length - (j + 1) < P.methods.length - j; omega⟩
    · have hge : P.methods.length ≤ j := by simpa using h
      rw [List.drop_eq_nil_of_le hge] at hE hL
      repeat (first | with_reducible refine andThen_exit ?_ | with_reducible refine inBlock_here ?_ | with_reducible refine CW.exit ?_)
      exact ⟨rfl, (t, G, is, o1, o2), ⟨hI, hE, by simpa [methodNotes] using hL⟩, (by repeat (first | exact trivial | refine ⟨⟨_, rfl, AVle.refl _⟩, ?_⟩)), Store.sub_refl _⟩
  rintro ⟨t1, G1, is1, p1, p2⟩ ⟨hI1, hE1, hL1⟩
  simp only at hI1 hE1 hL1 ⊢
  have hbl : (bodies P).length = P.methods.length + 1 := by simp [bodies]
  have hbf : ∀ e ∈ bodies P, e.size < big := fun e he => by
    rcases List.mem_append.1 he with he | he
    · obtain ⟨m, hm, rfl⟩ := List.mem_map.1 he
      exact (hP.mth m hm).body.size
    · rw [List.mem_singleton.1 he]; exact hP.main.size
  subst hR
  refine CW.seqCutX (σ := Store × Own × Own) (fun _ => [(5, .ptr xb 0)]) (fun z => z.1) (fun z => NoI s z.1 xb (progGens P).1 (progGens P).2 z.2.1 z.2.2) ?_ ?_
  · repeat (first | with_reducible refine CW.seq ?_ | with_reducible refine andThen_normal ?_ | with_reducible refine CW.block ?_ | refine CW.reg (RL.run tysOk rfl (RL.nil ?_)))
    refine CW.loop (σ := Nat × Store × List (Str × Int) × Bool × Own × Own) (fun q => [(1, .fptr P.cells 0), (5, .ptr xb 0), (7, .int .i64 (q.1 : Int))]) (fun q => q.2.1)
      (fun q => q.1 ≤ (bodies P).length ∧ NoI s q.2.1 xb q.2.2.1 q.2.2.2.1 q.2.2.2.2.1 q.2.2.2.2.2 ∧ gNotes (q.2.2.1, q.2.2.2.1) (((bodies P).drop q.1).flatMap fun e => callsL e.allE) = progGens P ∧ q.2.2.1.length + (((bodies P).drop q.1).flatMap fun e => callsL e.allE).length < big) (fun q => (bodies P).length - q.1)
      (0, t1, G1, is1, p1, p2) ⟨by simp, hI1, hE1, hL1⟩ (by repeat (first | exact trivial | refine ⟨⟨_, rfl, AVle.refl _⟩, ?_⟩)) (Store.sub_refl _) ?_
    rintro ⟨j, t, G, is, o1, o2⟩ ⟨hj, hI, hE, hL⟩
    simp only at hj hI hE hL
    repeat (first | with_reducible refine CW.seq ?_ | with_reducible refine andThen_normal ?_ | refine CW.reg (RL.run tysOk rfl (RL.nil ?_)))
    refine CW.cond rfl (fun h => ?_) (fun h => ?_)
    · have hlt : j < (bodies P).length := by
        have : (j : Int) ≤ ((P.methods.map FMethod.av).length : Int) := by simpa using h
        rw [List.length_map] at this; omega
      obtain ⟨e, he⟩ : ∃ e, (bodies P)[j]? = some e := ⟨_, List.getElem?_eq_getElem hlt⟩
      have hes := hbf e (List.mem_of_getElem? he)
      rw [drop_cons he, List.flatMap_cons] at hE hL
      rw [List.length_append] at hL
      generalize hR2 : ((bodies P).drop (j + 1)).flatMap (fun e => callsL e.allE) = R2 at hE hL
      refine CW.skip (andThen_normal (CW.seq (CW.block ?_)))
      refine CW.seqCutX (σ := Nat) (fun b => [(1, .fptr P.cells 0), (5, .ptr xb 0), (7, .int .i64 (j : Int)), (8, .ptr b 0)]) (fun b => t.set b (.box 32 P.main.cells)) (fun b => t b = none) ?_ ?_
      · repeat (first | refine CW.reg ?_ | refine RL.step tysOk rfl rfl rfl rfl ?_)
        refine RL.alloc tysOk rfl rfl rfl rfl rfl rfl rfl (fun b hb => ?_)
        repeat (first | refine RL.nil ?_ | (refine RL.storeP tysOk rfl rfl rfl rfl rfl rfl rfl rfl rfl (Store.set_same _ _ _) rfl ?_; try with_reducible rw [Store.set_set]))
        exact ⟨rfl, b, hb, (by repeat (first | exact trivial | refine ⟨⟨_, rfl, AVle.refl _⟩, ?_⟩)), Store.sub_refl _⟩
      intro b8 hb8
      refine CW.seqCut [(1, .fptr P.cells 0), (5, .ptr xb 0), (7, .int .i64 (j : Int)), (8, .ptr b8 0)] (t.set b8 (.box 32 e.cells)) ?_ ?_
      · repeat (first | with_reducible refine CW.seq ?_ | with_reducible refine andThen_normal ?_ | refine CW.reg (RL.run tysOk rfl (RL.nil ?_)))
        refine CW.cond rfl (fun h => ?_) (fun h => ?_)
        · have hlm : j < P.methods.length := by simpa using h
          obtain ⟨m, hm⟩ : ∃ m, P.methods[j]? = some m := ⟨_, List.getElem?_eq_getElem hlm⟩
          have hm' : (P.methods.map FMethod.av)[j]? = some (.agg m.cells) := by rw [List.getElem?_map, hm]; rfl
          have hem : e = m.body := by
            rw [bodies, List.getElem?_append_left (by simpa using hlm), List.getElem?_map, hm] at he
            simpa using he.symm
          subst hem
          repeat (first | refine CW.reg ?_ | refine RL.nil ?_ | refine RL.step tysOk rfl rfl rfl rfl ?_ | (refine RL.storeP tysOk rfl rfl rfl rfl rfl rfl rfl rfl rfl (Store.set_same _ _ _) rfl ?_; try with_reducible rw [Store.set_set]) | refine RL.idx tysOk _ rfl rfl rfl rfl rfl rfl rfl rfl rfl rfl rfl (by assumption) rfl ?_)
          exact ⟨rfl, (by repeat (first | exact trivial | refine ⟨⟨_, rfl, AVle.refl _⟩, ?_⟩)), Store.sub_refl _⟩
        · have hgm : P.methods.length ≤ j := by simpa using h
          have hem : e = P.main := by
            rw [bodies, List.getElem?_append_right (by simpa using hgm), List.length_map] at he
            have : j - P.methods.length = 0 := by omega
            rw [this] at he
            simpa using he.symm
          subst hem
          refine CW.skip ?_
          exact ⟨rfl, (by repeat (first | exact trivial | refine ⟨⟨_, rfl, AVle.refl _⟩, ?_⟩)), Store.sub_refl _⟩
      refine CW.freeze 8 b8 rfl (Store.set_same _ _ _) ?_
      rw [Store.del_set _ _ _ hb8]
      refine CW.seqCut [(1, .fptr P.cells 0), (5, .ptr xb 0), (7, .int .i64 (j : Int)), (9, .slc 4 (e.allE.map FExp.av) .fro)] t ?_ ?_
      · repeat (first | refine CW.reg ?_ | refine RL.step tysOk rfl rfl rfl rfl ?_)
        refine RL.callP rfl rfl rfl rfl rfl (refAll_spec _ e t (Nat.le_refl _) (Nat.le_of_lt hes)) ?_
        repeat (first | refine RL.nil ?_ | refine RL.step tysOk rfl rfl rfl rfl ?_)
        exact ⟨rfl, (by repeat (first | exact trivial | refine ⟨⟨_, rfl, AVle.refl _⟩, ?_⟩)), Store.sub_refl _⟩
      have hall := allE_length e
      generalize e.allE = l at hall hE hL ⊢
      repeat (first | with_reducible refine CW.seq ?_ | with_reducible refine andThen_normal ?_ | with_reducible refine CW.block ?_ | refine CW.reg (RL.run tysOk rfl (RL.nil ?_)))
      refine CW.loop (σ := Nat × Store × List (Str × Int) × Bool × Own × Own) (fun q => [(1, .fptr P.cells 0), (5, .ptr xb 0), (7, .int .i64 (j : Int)), (9, .slc 4 (l.map FExp.av) .fro), (10, .int .i64 (q.1 : Int))]) (fun q => q.2.1)
        (fun q => q.1 ≤ l.length ∧ NoI s q.2.1 xb q.2.2.1 q.2.2.2.1 q.2.2.2.2.1 q.2.2.2.2.2 ∧ gNotes (q.2.2.1, q.2.2.2.1) (callsL (l.drop q.1) ++ R2) = progGens P ∧ q.2.2.1.length + ((callsL (l.drop q.1)).length + R2.length) < big) (fun q => l.length - q.1)
        (0, t, G, is, o1, o2) ⟨by simp, hI, hE, hL⟩ (by repeat (first | exact trivial | refine ⟨⟨_, rfl, AVle.refl _⟩, ?_⟩)) (Store.sub_refl _) ?_
      rintro ⟨k, t2, G2, is2, r1, r2⟩ ⟨hk, hI2, hE2, hL2⟩
      simp only at hk hI2 hE2 hL2
      repeat (first | with_reducible refine CW.seq ?_ | with_reducible refine andThen_normal ?_ | refine CW.reg (RL.run tysOk rfl (RL.nil ?_)))
      refine CW.cond rfl (fun h => ?_) (fun h => ?_)
      · have hltk : k < l.length := by simpa using h
        obtain ⟨g, hg⟩ : ∃ g, l[k]? = some g := ⟨_, List.getElem?_eq_getElem hltk⟩
        have hg' : (l.map FExp.av)[k]? = some (.agg g.cells) := by rw [List.getElem?_map, hg]; rfl
        rw [drop_cons hg, callsL_cons] at hE2 hL2
        repeat (first | with_reducible refine CW.seq ?_ | with_reducible refine andThen_normal ?_ | with_reducible refine CW.skip ?_ | with_reducible refine CW.block ?_ | refine CW.reg ?_ | refine RL.nil ?_ | refine RL.step tysOk rfl rfl rfl rfl ?_ | refine RL.idx tysOk _ rfl rfl rfl rfl rfl rfl rfl rfl rfl rfl rfl (by assumption) rfl ?_)
        refine CW.cond rfl (fun hc => ?_) (fun hc => ?_)
        · have hc' : (g.op == 5) = true := hc
          rw [hc', if_pos rfl] at hE2 hL2
          simp only [List.cons_append, List.nil_append, List.length_cons] at hE2 hL2
          rw [gNotes_cons] at hE2
          have hgl := gNote_length (G2, is2) g.text (g.kids.length : Int)
          have hcall := refNote_spec s t2 xb G2 is2 r1 r2 g.text (g.kids.length : Int) hI2 (by omega)
          rw [← FExp.kav_length] at hcall
          rw [← FExp.kav_length] at hE2 hgl
          generalize gNote (G2, is2) g.text (g.kav.length : Int) = st at hE2 hgl hcall
          obtain ⟨G', is'⟩ := st
          repeat (first | refine CW.drw tysOk mixed rfl (RD.run rfl ?_))
          refine RD.idx 3 k rfl rfl rfl rfl rfl rfl rfl rfl rfl rfl rfl rfl rfl hg' rfl ?_
          refine RD.idx 8 k rfl rfl rfl rfl rfl rfl rfl rfl rfl rfl rfl rfl rfl hg' rfl ?_
          refine RD.run rfl ?_
          refine RD.call (i := 12) rfl rfl rfl rfl rfl rfl rfl hcall ?_ (fun _ _ ⟨h, _⟩ => by cases h)
          rintro _ t' ⟨⟨⟩, o1', o2', hI'⟩
          refine RD.run rfl (RD.done rfl ?_)
          repeat (first | with_reducible refine andThen_normal ?_ | with_reducible refine inBlock_normal ?_ | refine CW.reg (RL.run tysOk rfl (RL.nil ?_)))
          exact ⟨(k + 1, t', G', is', o1', o2'), ⟨hltk, hI', hE2, by simp only at hgl ⊢; omega⟩, (by repeat (first | exact trivial | refine ⟨⟨_, rfl, AVle.refl _⟩, ?_⟩ | refine ⟨⟨_, rfl, AVle.of_eq (by (show AV.int .i64 (IntKind.wrap .i64 ((k : Int) + 1)) = .int .i64 ((k + 1 : Nat) : Int); rw [i64_succ (by omega)]))⟩, ?_⟩)), Store.sub_refl _, by show l.length - (k + 1) < l.length - k; omega⟩
        · have hc' : (g.op == 5) = false := hc
          rw [hc', if_neg (by simp), List.nil_append] at hE2 hL2
          repeat (first | with_reducible refine andThen_normal ?_ | with_reducible refine inBlock_normal ?_ | with_reducible refine CW.skip ?_ | refine CW.reg (RL.run tysOk rfl (RL.nil ?_)))
          exact ⟨(k + 1, t2, G2, is2, r1, r2), ⟨hltk, hI2, hE2, hL2⟩, (by repeat (first | exact trivial | refine ⟨⟨_, rfl, AVle.refl _⟩, ?_⟩ | refine ⟨⟨_, rfl, AVle.of_eq (by (show AV.int .i64 (IntKind.wrap .i64 ((k : Int) + 1)) = .int .i64 ((k + 1 : Nat) : Int); rw [i64_succ (by omega)]))⟩, ?_⟩)), Store.sub_refl _, by show l.length - (k + 1) < l.length - k; omega⟩
      · have hge : l.length ≤ k := by simpa using h
        rw [List.drop_eq_nil_of_le hge] at hE2 hL2
        subst hR2
        repeat (first | with_reducible refine andThen_normal ?_ | with_reducible refine andThen_exit ?_ | with_reducible refine inBlock_normal ?_ | with_reducible refine inBlock_here ?_ | with_reducible refine CW.exit ?_ | refine CW.reg (RL.run tysOk rfl (RL.nil ?_)))
        exact ⟨(j + 1, t2, G2, is2, r1, r2), ⟨hlt, hI2, hE2, by simpa [callsL] using hL2⟩, (by repeat (first | exact trivial | refine ⟨⟨_, rfl, AVle.refl _⟩, ?_⟩ | refine ⟨⟨_, rfl, AVle.of_eq (by (show AV.int .i64 (IntKind.wrap .i64 ((j : Int) + 1)) = .int .i64 ((j + 1 : Nat) : Int); rw [i64_succ (by omega)]))⟩, ?_⟩)), Store.sub_refl _, by show (bodies P).length - (j + 1) < (bodies P).length - j; omega⟩
    · have hge : (bodies P).length ≤ j := by
        have : ¬ (j : Int) ≤ ((P.methods.map FMethod.av).length : Int) := by simpa using h
        rw [List.length_map] at this; omega
      rw [List.drop_eq_nil_of_le hge] at hE
      have hE' : (G, is) = progGens P := hE
      repeat (first | with_reducible refine andThen_exit ?_ | with_reducible refine inBlock_here ?_ | with_reducible refine CW.exit ?_)
      exact ⟨rfl, (t, o1, o2), by rw [← hE']; exact hI, (by repeat (first | exact trivial | refine ⟨⟨_, rfl, AVle.refl _⟩, ?_⟩)), Store.sub_refl _⟩
  rintro ⟨t, o1, o2⟩ hI
  simp only at hI ⊢
  generalize progGens P = pg at hI ⊢
  refine CW.freeze 5 xb rfl hI.hx ?_
  repeat (first | with_reducible refine CW.seq ?_ | with_reducible refine andThen_normal ?_ | with_reducible refine CW.ret ?_ | refine CW.drw tysOk mixed rfl (RD.run rfl (RD.done rfl ?_)))
  refine ⟨_, _, s, rfl, AVle.tup (.cons AVle.fro (.cons AVle.fro (.one (AVle.of_eq ?_)))), Store.subDel hI.sub hI.sn, rfl, rfl⟩
  simp
end Go.Proofs.Ytaafacnoddjhgaa

/- Slices that are written: a row of cells of one's own. -/
namespace Go.Proofs.Ytaafacnoddjhgaa
open Go.AE

section
variable {P : Program} {Γ : Tys} {N : Nat} {env : Env} {s : Store}

theorem madeCells_one {z : Value} {n : Nat} : (madeCells #[z] n).toList = List.replicate n z := by
  apply List.ext_getElem
  · simp [madeCells]
  · intro i h1 h2
    simp [madeCells, Nat.mod_one]

theorem OW.mkSlice (hΓ : TysOk P Γ) {o : Oper} {t e : TypeId} {x y : Operand} {it ie : TI} {k k' : IntKind} {m : Nat} {z : Value} {c : AV} (ho : o.op = .makeSlice t x y) (ht : Γ.get? t = some it) (htd : it.td = .slc e) (hie : Γ.get? e = some ie)
    (hx : ev env x = some (.int k (m : Int))) (hy : ev env y = some (.int k' (m : Int))) (h1 : ie.size = 1) (hz : ie.zero.cells = #[z]) (hc : constAV z = some c) (hb : (ie.bytes : Int) * (m : Int) ≤ 281474976710656) (h63 : (m : Int) ≤ 9223372036854775807) {X : AV → Store → Prop} :
    OW P N o env s (fun r s' => ∃ b, s b = none ∧ r = .mslc b m ∧ s' = s.set b (.box e (List.replicate m c))) X := by
  refine OW.of_run (by simp [noDefer, ho]) fun ro B a w p hst => ?_
  obtain ⟨info, d, g1, g2, g3, -⟩ := hΓ.parts ht
  obtain ⟨infoe, de, k1, k2, k3, k4, k5, k6⟩ := hΓ.parts hie
  have hd : d = .slice e := by rw [htd] at g3; cases d <;> simp [tdOf] at g3; rw [g3]
  subst hd
  have hrx := hst.ev hx
  have hry := hst.ev hy
  generalize hvx : a.eval x = vx at hrx
  generalize hvy : a.eval y = vy at hry
  cases hrx
  cases hry
  obtain ⟨hn, hle, hk, hwf⟩ := new_obj hst.wf (.cells (madeCells ie.zero.cells (m * infoe.size)) e (0, 0)) (.box e (List.replicate m c)) (fun w' hw' hr hrl =>
    ⟨_, hw', hrl _ _ (by
      rw [hz, k4, h1, Nat.mul_one, madeCells_one]
      exact RelL.replicate (constAV_rel hc) m), fun o' hp => absurd (hst.wf.lt _ _ hp) (by omega)⟩)
  refine ⟨.slice (some ⟨w.heap.size, 0, none⟩) m m, _, _, p, _, ?_, hle, hk, hwf, ⟨w.heap.size, hn, rfl, rfl⟩, .mslc _ _ _ (by omega) (Nat.le_refl _)⟩
  unfold execOp
  rw [ho]
  simp only [hvx, hvy]
  refine run_v ?_
  have := run_make (P := P) w t e infoe ie.zero g2 k1 k6 k k' (m : Int) (m : Int) (by omega) (Int.le_refl _) (by rw [k5]; exact hb) h63
  simp only [Int.toNat_natCast] at this
  exact this

theorem OW.idxM (hΓ : TysOk P Γ) {o : Oper} {t e : TypeId} {x y : Operand} {it ie : TI} {b n : Nat} {k : IntKind} {i : Int} {j : Nat} (ho : o.op = .indexAddr t x y)
    (ht : Γ.get? t = some it) (htd : it.td = .slc e) (hie : Γ.get? e = some ie) (hx : ev env x = some (.mslc b n)) (h1 : ie.size = 1) (hy : ev env y = some (.int k i)) (hij : i = (j : Int)) (hj : j < n) {X : AV → Store → Prop} :
    OW P N o env s (fun r s' => r = .ptr b j ∧ s' = s) X := by
  refine OW.of_run (by simp [noDefer, ho]) fun ro B a w p hst => ?_
  obtain ⟨info, d, g1, g2, g3, -⟩ := hΓ.parts ht
  obtain ⟨infoe, de, k1, k2, k3, k4, -⟩ := hΓ.parts hie
  have hd : d = .slice e := by rw [htd] at g3; cases d <;> simp [tdOf] at g3; rw [g3]
  subst hd
  have hr := hst.ev hx
  have hri := hst.ev hy
  generalize hvx : a.eval x = vx at hr
  generalize hvy : a.eval y = vy at hri
  cases hri
  subst hij
  cases hr with
  | mslc _ _ cap hm hk =>
  refine ⟨.pointer (some ⟨b, 0 + j * 1, none⟩), w, s, p, _, ?_, .refl w p, .refl s w p, hst.wf, ⟨rfl, rfl⟩, ?_⟩
  · unfold execOp
    rw [ho]
    simp only [hvx, hvy]
    refine run_v ?_
    have hlt : (0 : Int) ≤ (j : Int) ∧ (j : Int) < (n : Int) := by omega
    simp [Instr.indexAt, asIntOf, run_underlying g2, hlt.2, sizeOf, typeInfo, k1, k4, h1, add_none]
    intro hge; omega
  · rw [Nat.zero_add, Nat.mul_one]; exact .ptr _ _

theorem OW.lenM (hΓ : TysOk P Γ) {o : Oper} {x : Operand} {t e : TypeId} {i : TI} {b n : Nat} (ho : o.op = .call { callee := .builtin .len, args := #[x], argTypes := #[t] }) (ht : Γ.get? t = some i) (htd : i.td = .slc e) (hx : ev env x = some (.mslc b n)) {X : AV → Store → Prop} :
    OW P N o env s (fun r s' => r = .int .i64 (n : Int) ∧ s' = s) X := by
  refine OW.of_run (by simp [noDefer, ho]) fun ro B a w p hst => ?_
  obtain ⟨info, d, h1, h2, h3, -⟩ := hΓ.parts ht
  have hr := hst.ev hx
  generalize hv : a.eval x = vx at hr
  have hd : d = .slice e := by rw [htd] at h3; cases d <;> simp [tdOf] at h3; rw [h3]
  subst hd
  cases hr with
  | mslc _ _ cap hm hk =>
  refine ⟨.int .i64 (n : Int), w, s, p, _, ?_, .refl w p, .refl s w p, hst.wf, ⟨rfl, rfl⟩, .int _ _⟩
  unfold execOp
  rw [ho]
  simp only [resolve, invoke, builtin, Sem.run_bind, Sem.run_pure, Result.andThen_ok, List.map_toArray, List.map_cons, List.map_nil, hv]
  simp [Builtin.len_, run_underlying h2, goInt]

variable {ops : Array Oper} {l : List Oper} {Q : AEx → Env → Store → Prop} {o : Oper} {d : Nat}
theorem RL.mkSlice (hΓ : TysOk P Γ) {t e : TypeId} {x y : Operand} {it ie : TI} {k k' : IntKind} {m : Nat} {z : Value} {c : AV} (hg : guardOf ops env o = some true) (hd : o.dst = some d) (hN : Nat.blt d N = true) (ho : o.op = .makeSlice t x y) (ht : Γ.get? t = some it) (htd : it.td = .slc e) (hie : Γ.get? e = some ie)
    (hx : ev env x = some (.int k (m : Int))) (hy : ev env y = some (.int k' (m : Int))) (h1 : ie.size = 1) (hz : ie.zero.cells = #[z]) (hc : constAV z = some c) (hb : (ie.bytes : Int) * (m : Int) ≤ 281474976710656) (h63 : (m : Int) ≤ 9223372036854775807)
    (h : ∀ b, s b = none → RL P N ops l Q ((d, .mslc b m) :: env) (s.set b (.box e (List.replicate m c)))) : RL P N ops (o :: l) Q env s :=
  RL.op hg hd hN (OW.mkSlice hΓ ho ht htd hie hx hy h1 hz hc hb h63 (X := fun _ _ => False)) (fun x s' ⟨b, h1, h2, h3⟩ => by subst h2; subst h3; exact h b h1) (fun _ _ h => h.elim)
theorem RL.idxM (hΓ : TysOk P Γ) {t e : TypeId} {x y : Operand} {it ie : TI} {b n : Nat} {k : IntKind} {i : Int} (j : Nat) (hg : guardOf ops env o = some true) (hd : o.dst = some d) (hN : Nat.blt d N = true) (ho : o.op = .indexAddr t x y)
    (ht : Γ.get? t = some it) (htd : it.td = .slc e) (hie : Γ.get? e = some ie) (hx : ev env x = some (.mslc b n)) (h1 : ie.size = 1) (hy : ev env y = some (.int k i)) (hij : i = (j : Int)) (hj : j < n)
    (h : RL P N ops l Q ((d, .ptr b j) :: env) s) : RL P N ops (o :: l) Q env s :=
  RL.op hg hd hN (OW.idxM hΓ ho ht htd hie hx h1 hy hij hj (X := fun _ _ => False)) (fun x s' ⟨h1, h2⟩ => by subst h1; subst h2; exact h) (fun _ _ h => h.elim)
theorem RL.lenM (hΓ : TysOk P Γ) {x : Operand} {t e : TypeId} {i : TI} {b n : Nat} (hg : guardOf ops env o = some true) (hd : o.dst = some d) (hN : Nat.blt d N = true) (ho : o.op = .call { callee := .builtin .len, args := #[x], argTypes := #[t] }) (ht : Γ.get? t = some i) (htd : i.td = .slc e) (hx : ev env x = some (.mslc b n))
    (h : RL P N ops l Q ((d, .int .i64 (n : Int)) :: env) s) : RL P N ops (o :: l) Q env s :=
  RL.op hg hd hN (OW.lenM hΓ ho ht htd hx (X := fun _ _ => False)) (fun x s' ⟨h1, h2⟩ => by subst h1; subst h2; exact h) (fun _ _ h => h.elim)
end

def bools (l : List Bool) : List AV := l.map .bool
theorem bools_length (l : List Bool) : (bools l).length = l.length := by simp [bools]
theorem bools_set (l : List Bool) (j : Nat) (b : Bool) : (bools l).set j (.bool b) = bools (l.set j b) := by simp [bools, List.map_set]
theorem bools_get {l : List Bool} {j : Nat} {b : Bool} (h : l[j]? = some b) : (bools l)[j]? = some (.bool b) := by simp [bools, h]

theorem setL_one (x : AV) : ∀ (l : List AV) (j : Nat), j < l.length → setL j [x] l = l.set j x
  | [], _, h => by simp at h
  | y :: l, 0, _ => by simp [setL]
  | y :: l, j + 1, h => by
    have := setL_one x l j (by simpa using h)
    simp [setL, this]
end Go.Proofs.Ytaafacnoddjhgaa

/- Contracts of the reference: place, above, SlotsOf, classes. -/
namespace Go.Proofs.Ytaafacnoddjhgaa
open Go.AE

theorem dropC_get {v : AV} : ∀ {cells : List AV} {j : Nat}, cells[j]? = some v → ∃ r, dropC j cells = some (v :: r)
  | [], j, h => by simp at h
  | x :: r, 0, h => by simp at h; subst h; exact ⟨r, rfl⟩
  | x :: r, j + 1, h => by
    obtain ⟨r', hr⟩ := dropC_get (cells := r) (j := j) (by simpa using h)
    exact ⟨r', hr⟩
theorem loadC_bool {i : TI} (hi : i.td = .bool) {cells : List AV} {j : Nat} {v : AV} (h : cells[j]? = some v) : loadC i cells j = some v := by
  obtain ⟨r, hr⟩ := dropC_get h
  unfold loadC
  rw [hr]
  simp only [hi]

set_option maxRecDepth 10000 in
theorem refPlace_spec (P : FProg) (name : Str) (s : Store) (hl : P.classes.length < big) :
    ACalls Try.prog 65 [P.av, .str name] s (fun o s' => o = .ret (.int .i64 (placeOf P.classes name 0)) ∧ s' = s) := by
  have hb : big = 1099511627776 := rfl
  refine ACalls.of_CW tysOk call65 Try.func65 rfl rfl ?_
  repeat (first | with_reducible refine CW.seq ?_ | with_reducible refine andThen_normal ?_ | with_reducible refine CW.block ?_ | refine CW.reg (RL.run tysOk rfl (RL.nil ?_)))
  refine CW.loop (σ := Nat) (fun j => [(1, .str name), (2, .fptr P.cells 0), (5, .int .i64 (j : Int))]) (fun _ => s) (fun j => j ≤ P.classes.length ∧ placeOf P.classes name 0 = placeOf P.classes name j) (fun j => P.classes.length - j) 0 ⟨by omega, rfl⟩ (by repeat (first | exact trivial | refine ⟨⟨_, rfl, AVle.refl _⟩, ?_⟩)) (Store.sub_refl _) ?_
  rintro j ⟨hj, hI⟩
  repeat (first | with_reducible refine CW.seq ?_ | with_reducible refine andThen_normal ?_ | refine CW.reg (RL.run tysOk rfl (RL.nil ?_)))
  refine CW.cond rfl (fun h => ?_) (fun h => ?_)
  · have hlt : j < P.classes.length := by simpa using h
    obtain ⟨c, hy⟩ : ∃ y, P.classes[j]? = some y := ⟨_, List.getElem?_eq_getElem hlt⟩
    have hy' : (P.classes.map FClass.av)[j]? = some (.agg c.cells) := by rw [List.getElem?_map, hy]; rfl
    repeat (first | with_reducible refine CW.seq ?_ | with_reducible refine andThen_normal ?_ | with_reducible refine CW.skip ?_ | with_reducible refine CW.block ?_ | refine CW.reg ?_ | refine RL.nil ?_ | refine RL.step tysOk rfl rfl rfl rfl ?_ | refine RL.idx tysOk _ rfl rfl rfl rfl rfl rfl rfl rfl rfl rfl rfl (by assumption) rfl ?_)
    refine CW.cond rfl (fun hc => ?_) (fun hc => ?_)
    · repeat (first | with_reducible refine CW.seq ?_ | with_reducible refine andThen_normal ?_ | with_reducible refine andThen_ret ?_ | with_reducible refine inBlock_ret ?_ | with_reducible refine CW.ret ?_ | refine CW.reg (RL.run tysOk rfl (RL.nil ?_)))
      exact ⟨_, _, _, rfl, AVle.refl _, Store.sub_refl _, by rw [hI, placeOf_hit hy hc], rfl⟩
    · repeat (first | with_reducible refine andThen_normal ?_ | with_reducible refine inBlock_normal ?_ | with_reducible refine CW.skip ?_ | refine CW.reg (RL.run tysOk rfl (RL.nil ?_)))
      exact ⟨j + 1, ⟨hlt, by rw [hI, placeOf_miss hy hc]⟩, (by repeat (first | exact trivial | refine ⟨⟨_, rfl, AVle.refl _⟩, ?_⟩ | refine ⟨⟨_, rfl, AVle.of_eq (by (rw [i64_succ (by omega)]))⟩, ?_⟩)), Store.sub_refl _, by omega⟩
  · have hge : P.classes.length ≤ j := by simpa using h
    repeat (first | with_reducible refine CW.seq ?_ | with_reducible refine andThen_normal ?_ | with_reducible refine andThen_exit ?_ | with_reducible refine inBlock_here ?_ | with_reducible refine CW.ret ?_ | with_reducible refine CW.exit ?_ | refine CW.reg (RL.run tysOk rfl (RL.nil ?_)))
    exact ⟨_, _, _, rfl, AVle.refl _, Store.sub_refl _, by rw [hI, placeOf_end hge], rfl⟩

/-! ### The classes above one -/
def at_ (cls : List FClass) (p : Str) : Nat := (cls.findIdx? fun c => c.name == p).getD 0
def upStep (cls : List FClass) (ps : List Str) (out : List Bool) : List Bool := ps.foldl (fun out p => out.set (at_ cls p) true) out
def upGo (cls : List FClass) (n : Nat) : Nat → List Bool → List Bool
  | 0, out => out
  | i + 1, out => upGo cls n i (if i == n || out.getD i false then upStep cls ((cls[i]?.map FClass.parents).getD []) out else out)
def aboveB (cls : List FClass) (n : Nat) : List Bool := upGo cls n (n + 1) (List.replicate cls.length false)

/-- All parents are classes. -/
def Known (cls : List FClass) : Prop := ∀ c ∈ cls, ∀ p ∈ c.parents, (cls.findIdx? fun c => c.name == p).isSome = true

theorem placeOf_at {cls : List FClass} {p : Str} (h : (cls.findIdx? fun c => c.name == p).isSome = true) : placeOf cls p 0 = (at_ cls p : Int) ∧ at_ cls p < cls.length := by
  obtain ⟨j, hj⟩ := Option.isSome_iff_exists.1 h
  unfold placeOf at_
  rw [List.drop_zero, hj]
  simp only [Option.getD_some, Nat.zero_add]
  refine ⟨trivial, ?_⟩
  rw [List.findIdx?_eq_some_iff_getElem] at hj
  exact hj.1

theorem upStep_len (cls : List FClass) : ∀ (ps : List Str) (out : List Bool), (upStep cls ps out).length = out.length
  | [], _ => rfl
  | p :: ps, out => by
    show (upStep cls ps (out.set _ true)).length = _
    rw [upStep_len cls ps, List.length_set]

def boolBox (l : List Bool) : AObj := .box 4 (bools l)

set_option maxRecDepth 10000 in
set_option maxHeartbeats 2000000 in
theorem refAbove_spec (P : FProg) (n : Nat) (s : Store) (hl : P.classes.length < big) (hn : n < P.classes.length) (hk : Known P.classes) (hp : ∀ c ∈ P.classes, c.parents.length < big) :
    ACalls Try.prog 66 [P.av, .int .i64 (n : Int)] s (fun o s' => ∃ b, s b = none ∧ o = .ret (.mslc b P.classes.length) ∧ s' = s.set b (boolBox (aboveB P.classes n))) := by
  have hb : big = 1099511627776 := rfl
  have hml : (P.classes.map FClass.av).length = P.classes.length := List.length_map ..
  refine ACalls.of_CW tysOk call66 Try.func66 rfl rfl ?_
  refine CW.seqCut [(1, .int .i64 (n : Int)), (2, .fptr P.cells 0)] s ?_ ?_
  · repeat (first | refine CW.reg (RL.run tysOk rfl (RL.nil ?_)))
    exact ⟨rfl, (by repeat (first | exact trivial | refine ⟨⟨_, rfl, AVle.refl _⟩, ?_⟩)), Store.sub_refl _⟩
  refine CW.seqCutX (σ := Nat) (fun b => [(1, .int .i64 (n : Int)), (2, .fptr P.cells 0), (5, .mslc b P.classes.length)]) (fun b => s.set b (boolBox (List.replicate P.classes.length false))) (fun b => s b = none) ?_ ?_
  · repeat (first | refine CW.reg ?_ | refine RL.step tysOk rfl rfl rfl rfl ?_)
    rw [hml]
    refine RL.mkSlice tysOk rfl rfl rfl rfl rfl rfl rfl rfl rfl rfl rfl rfl (by show (1 : Int) * _ ≤ _; omega) (by omega) (fun b hb => ?_)
    repeat (first | refine RL.nil ?_ | refine RL.step tysOk rfl rfl rfl rfl ?_)
    refine ⟨rfl, b, hb, (by repeat (first | exact trivial | refine ⟨⟨_, rfl, AVle.refl _⟩, ?_⟩)), ?_⟩
    have : bools (List.replicate P.classes.length false) = List.replicate P.classes.length (.bool false) := by simp [bools]
    rw [boolBox, this]; exact Store.sub_refl _
  intro b hbn
  repeat (first | with_reducible refine CW.seq ?_ | with_reducible refine andThen_normal ?_ | with_reducible refine CW.block ?_ | refine CW.reg (RL.run tysOk rfl (RL.nil ?_)))
  refine CW.loop (σ := Nat × List Bool) (fun q => [(1, .int .i64 (n : Int)), (2, .fptr P.cells 0), (5, .mslc b P.classes.length), (6, .int .i64 ((n : Int) - (q.1 : Int)))]) (fun q => s.set b (boolBox q.2))
    (fun q => q.1 ≤ n + 1 ∧ q.2.length = P.classes.length ∧ upGo P.classes n (n + 1 - q.1) q.2 = aboveB P.classes n) (fun q => n + 1 - q.1) (0, List.replicate P.classes.length false) ⟨by simp, by simp, rfl⟩ (by repeat (first | exact trivial | refine ⟨⟨_, rfl, AVle.refl _⟩, ?_⟩ | refine ⟨⟨_, rfl, AVle.of_eq (by (simp))⟩, ?_⟩)) (Store.sub_refl _) ?_
  rintro ⟨k, out⟩ ⟨hk1, hol, hI⟩
  simp only at hk1 hol hI
  repeat (first | with_reducible refine CW.seq ?_ | with_reducible refine andThen_normal ?_ | refine CW.reg (RL.run tysOk rfl (RL.nil ?_)))
  refine CW.cond rfl (fun h => ?_) (fun h => ?_)
  · have hlt : k ≤ n := by simp only [decide_eq_true_eq] at h; omega
    have hin : (n : Int) - (k : Int) = ((n - k : Nat) : Int) := by omega
    have hil : n - k < P.classes.length := by omega
    obtain ⟨c, hc⟩ : ∃ c, P.classes[n - k]? = some c := ⟨_, List.getElem?_eq_getElem hil⟩
    have hc' : (P.classes.map FClass.av)[n - k]? = some (.agg c.cells) := by rw [List.getElem?_map, hc]; rfl
    obtain ⟨v, hv⟩ : ∃ v, out[n - k]? = some v := ⟨_, List.getElem?_eq_getElem (by omega)⟩
    have hgo : upGo P.classes n (n + 1 - k) out = upGo P.classes n (n - k) (if n - k == n || v then upStep P.classes c.parents out else out) := by
      rw [show n + 1 - k = (n - k) + 1 by omega, upGo, hc]
      simp [hv]
    rw [hgo] at hI
    have hcm : c ∈ P.classes := List.mem_of_getElem? hc
    have hcp := hp c hcm
    refine CW.skip (andThen_normal (CW.seq (CW.block ?_)))
    refine CW.seq ?_
    refine CW.seqCut [(1, .int .i64 (n : Int)), (2, .fptr P.cells 0), (5, .mslc b P.classes.length), (6, .int .i64 ((n : Int) - (k : Int))), (27, .bool (!(n - k == n || v)))] (s.set b (boolBox out)) ?_ ?_
    · repeat (first | refine CW.reg ?_ | refine RL.step tysOk rfl rfl rfl rfl ?_)
      by_cases hk0 : k = 0
      · subst hk0
        refine RL.knowF 21 rfl (by simp) ?_
        repeat (first | refine RL.nil ?_ | refine RL.step tysOk rfl rfl rfl rfl ?_ | refine RL.skip rfl rfl rfl ?_)
        exact ⟨rfl, (by repeat (first | exact trivial | refine ⟨⟨_, rfl, AVle.refl _⟩, ?_⟩ | refine ⟨⟨_, rfl, AVle.of_eq (by (simp))⟩, ?_⟩)), Store.sub_refl _⟩
      · refine RL.knowT 21 rfl (by simp; omega) ?_
        repeat (first | refine RL.step tysOk rfl rfl rfl rfl ?_)
        refine RL.idxM tysOk (n - k) rfl rfl rfl rfl rfl rfl rfl rfl rfl rfl hin hil ?_
        refine RL.loadP tysOk rfl rfl rfl rfl rfl rfl (Store.set_same _ _ _) (loadC_bool rfl (bools_get hv)) ?_
        repeat (first | refine RL.nil ?_ | refine RL.step tysOk rfl rfl rfl rfl ?_)
        have hne : (n - k == n) = false := by simp; omega
        exact ⟨rfl, (by repeat (first | exact trivial | refine ⟨⟨_, rfl, AVle.refl _⟩, ?_⟩ | refine ⟨⟨_, rfl, AVle.of_eq (by (rw [hne]; rfl))⟩, ?_⟩)), Store.sub_refl _⟩
    cases hu : n - k == n || v with
    | false =>
      rw [hu, if_neg (by simp)] at hI
      repeat (first | with_reducible refine andThen_normal ?_ | with_reducible refine andThen_exit ?_ | with_reducible refine inBlock_here ?_ | with_reducible refine CW.exit ?_ | refine CW.reg (RL.run tysOk rfl (RL.nil ?_)) | refine CW.condT rfl ?_)
      exact ⟨(k + 1, out), ⟨by show k + 1 ≤ n + 1; omega, hol, by rw [show n + 1 - (k + 1) = n - k by omega]; exact hI⟩, (by repeat (first | exact trivial | refine ⟨⟨_, rfl, AVle.refl _⟩, ?_⟩ | refine ⟨⟨_, rfl, AVle.of_eq (by (rw [i64_wrap (by omega) (by omega)]; congr 1; omega))⟩, ?_⟩)), Store.sub_refl _, by show n + 1 - (k + 1) < n + 1 - k; omega⟩
    | true =>
      rw [hu, if_pos rfl] at hI
      refine CW.condF rfl (CW.skip (andThen_normal ?_))
      refine CW.seqCut [(1, .int .i64 (n : Int)), (2, .fptr P.cells 0), (5, .mslc b P.classes.length), (6, .int .i64 ((n : Int) - (k : Int))), (7, .slc 1 (strs c.parents) .fro)] (s.set b (boolBox out)) ?_ ?_
      · repeat (first | refine CW.reg ?_ | refine RL.step tysOk rfl rfl rfl rfl ?_)
        refine RL.idx tysOk (n - k) rfl rfl rfl rfl rfl rfl rfl rfl rfl rfl hin hc' rfl ?_
        repeat (first | refine RL.nil ?_ | refine RL.step tysOk rfl rfl rfl rfl ?_)
        exact ⟨rfl, (by repeat (first | exact trivial | refine ⟨⟨_, rfl, AVle.refl _⟩, ?_⟩)), Store.sub_refl _⟩
      repeat (first | with_reducible refine CW.seq ?_ | with_reducible refine andThen_normal ?_ | with_reducible refine CW.block ?_ | refine CW.reg (RL.run tysOk rfl (RL.nil ?_)))
      refine CW.loop (σ := Nat × List Bool) (fun q => [(1, .int .i64 (n : Int)), (2, .fptr P.cells 0), (5, .mslc b P.classes.length), (6, .int .i64 ((n : Int) - (k : Int))), (7, .slc 1 (strs c.parents) .fro), (8, .int .i64 (q.1 : Int))]) (fun q => s.set b (boolBox q.2))
        (fun q => q.1 ≤ c.parents.length ∧ q.2.length = P.classes.length ∧ upStep P.classes (c.parents.drop q.1) q.2 = upStep P.classes c.parents out) (fun q => c.parents.length - q.1) (0, out) ⟨by simp, hol, rfl⟩ (by repeat (first | exact trivial | refine ⟨⟨_, rfl, AVle.refl _⟩, ?_⟩)) (Store.sub_refl _) ?_
      rintro ⟨j, out2⟩ ⟨hj, hol2, hJ⟩
      simp only at hj hol2 hJ
      repeat (first | with_reducible refine CW.seq ?_ | with_reducible refine andThen_normal ?_ | refine CW.reg (RL.run tysOk rfl (RL.nil ?_)))
      refine CW.cond rfl (fun h => ?_) (fun h => ?_)
      · have hltj : j < c.parents.length := by simpa using h
        obtain ⟨p, hpj⟩ : ∃ p, c.parents[j]? = some p := ⟨_, List.getElem?_eq_getElem hltj⟩
        have hpj' : (strs c.parents)[j]? = some (.str p) := by rw [strs_get, hpj]; rfl
        obtain ⟨q1, q2⟩ := placeOf_at (hk c hcm p (List.mem_of_getElem? hpj))
        rw [drop_cons hpj] at hJ
        have hJ' : upStep P.classes (c.parents.drop (j + 1)) (out2.set (at_ P.classes p) true) = upStep P.classes c.parents out := hJ
        repeat (first | with_reducible refine CW.seq ?_ | with_reducible refine andThen_normal ?_ | with_reducible refine CW.skip ?_ | with_reducible refine CW.block ?_ | refine CW.drw tysOk mixed rfl (RD.run rfl ?_))
        refine RD.idx 4 j rfl rfl rfl rfl rfl rfl rfl rfl rfl rfl rfl rfl rfl hpj' rfl ?_
        refine RD.run rfl ?_
        refine RD.callP (i := 6) rfl rfl rfl rfl rfl rfl rfl (refPlace_spec P p _ hl) ?_
        rw [q1]
        refine RD.one (i := 7) rfl rfl rfl rfl rfl (OW.idxM tysOk rfl rfl rfl rfl rfl rfl rfl rfl q2 (X := fun _ _ => False)) ?_ (fun _ _ h => False.elim h)
        rintro _ s2 ⟨rfl, hs2⟩
        rw [hs2]
        clear hs2 s2
        refine RD.run rfl ?_
        refine RD.oneN (i := 8) rfl rfl rfl rfl (OW.storeP tysOk rfl rfl rfl rfl rfl rfl rfl (Store.set_same _ _ _) (by rw [Nat.ble_eq, bools_length]; show at_ P.classes p + 1 ≤ out2.length; omega) (X := fun _ _ => False)) ?_ (fun _ _ h => False.elim h)
        rintro _ _ rfl
        refine RD.run rfl (RD.done rfl ?_)
        rw [Store.set_set]
        repeat (first | with_reducible refine andThen_normal ?_ | with_reducible refine inBlock_normal ?_ | refine CW.reg (RL.run tysOk rfl (RL.nil ?_)))
        refine ⟨(j + 1, out2.set (at_ P.classes p) true), ⟨hltj, by rw [List.length_set]; exact hol2, hJ'⟩, (by repeat (first | exact trivial | refine ⟨⟨_, rfl, AVle.refl _⟩, ?_⟩ | refine ⟨⟨_, rfl, AVle.of_eq (by (show AV.int .i64 (IntKind.wrap .i64 ((j : Int) + 1)) = .int .i64 ((j + 1 : Nat) : Int); rw [i64_succ (by omega)]))⟩, ?_⟩)), ?_, by show c.parents.length - (j + 1) < c.parents.length - j; omega⟩
        show Store.Sub (s.set b (boolBox (out2.set (at_ P.classes p) true))) _
        rw [boolBox, ← bools_set]
        exact Store.sub_refl _
      · have hge : c.parents.length ≤ j := by simpa using h
        rw [List.drop_eq_nil_of_le hge] at hJ
        have hJ' : out2 = upStep P.classes c.parents out := hJ
        rw [← hJ'] at hI
        repeat (first | with_reducible refine andThen_normal ?_ | with_reducible refine andThen_exit ?_ | with_reducible refine inBlock_normal ?_ | with_reducible refine inBlock_here ?_ | with_reducible refine CW.exit ?_ | refine CW.reg (RL.run tysOk rfl (RL.nil ?_)))
        exact ⟨(k + 1, out2), ⟨by show k + 1 ≤ n + 1; omega, hol2, by rw [show n + 1 - (k + 1) = n - k by omega]; exact hI⟩, (by repeat (first | exact trivial | refine ⟨⟨_, rfl, AVle.refl _⟩, ?_⟩ | refine ⟨⟨_, rfl, AVle.of_eq (by (rw [i64_wrap (by omega) (by omega)]; congr 1; omega))⟩, ?_⟩)), Store.sub_refl _, by show n + 1 - (k + 1) < n + 1 - k; omega⟩
  · have hge : k = n + 1 := by simp only [decide_eq_false_iff_not] at h; omega
    subst hge
    have hI' : out = aboveB P.classes n := by rw [← hI]; simp [upGo]
    repeat (first | with_reducible refine CW.seq ?_ | with_reducible refine andThen_normal ?_ | with_reducible refine andThen_exit ?_ | with_reducible refine inBlock_here ?_ | with_reducible refine CW.ret ?_ | with_reducible refine CW.exit ?_ | refine CW.reg (RL.run tysOk rfl (RL.nil ?_)))
    exact ⟨_, _, _, rfl, AVle.refl _, Store.sub_refl _, b, hbn, rfl, by rw [hI']⟩

set_option maxRecDepth 10000 in
theorem refSlotsOf_spec (P : FProg) (s : Store) (hl : P.classes.length < big) (hs : (P.classes.flatMap FClass.slots).length < big) :
    ACalls Try.prog 62 [P.av] s (fun o s' => o = .ret (.slc 1 (strs (P.classes.flatMap FClass.slots)) .fro) ∧ s' = s) := by
  have hb : big = 1099511627776 := rfl
  refine ACalls.of_CW tysOk call62 Try.func62 rfl rfl ?_
  repeat (first | with_reducible refine CW.seq ?_ | with_reducible refine andThen_normal ?_ | with_reducible refine CW.block ?_ | refine CW.reg (RL.run tysOk rfl (RL.nil ?_)))
  refine CW.loop (σ := Nat × Own) (fun q => [(1, .fptr P.cells 0), (3, .slc 1 (strs ((P.classes.take q.1).flatMap FClass.slots)) q.2), (4, .int .i64 (q.1 : Int))])
    (fun q => rowOf s 9 1 ((P.classes.take q.1).flatMap FClass.slots).length q.2) (fun q => q.1 ≤ P.classes.length ∧ OwnOk s 0 q.2) (fun q => P.classes.length - q.1) (0, .nil) ⟨by simp, trivial⟩ ?_ (Store.sub_refl _) ?_
  · exact ⟨⟨_, rfl, AVle.refl _⟩, ⟨_, rfl, AVle.nil (by simp)⟩, ⟨_, rfl, AVle.refl _⟩, trivial⟩
  rintro ⟨i, own⟩ ⟨hi, hown⟩
  simp only at hi hown
  repeat (first | with_reducible refine CW.seq ?_ | with_reducible refine andThen_normal ?_ | refine CW.reg (RL.run tysOk rfl (RL.nil ?_)))
  refine CW.cond rfl (fun h => ?_) (fun h => ?_)
  · have hlt : i < P.classes.length := by simpa using h
    obtain ⟨c, hci⟩ : ∃ c, P.classes[i]? = some c := ⟨_, List.getElem?_eq_getElem hlt⟩
    have hci' : (P.classes.map FClass.av)[i]? = some (.agg c.cells) := by rw [List.getElem?_map, hci]; rfl
    have hle := flatMap_take_le FClass.slots P.classes (i + 1)
    rw [flatMap_take_succ _ hci, List.length_append] at hle
    repeat (first | with_reducible refine CW.seq ?_ | with_reducible refine andThen_normal ?_ | with_reducible refine CW.skip ?_ | with_reducible refine CW.block ?_ | refine CW.reg ?_ | refine RL.step tysOk rfl rfl rfl rfl ?_ | refine RL.idx tysOk _ rfl rfl rfl rfl rfl rfl rfl rfl rfl rfl rfl (by assumption) rfl ?_)
    refine RL.appendR tysOk rfl rfl rfl rfl rfl rfl rfl (by intro k; simp) rfl rfl rfl rfl (.inr rfl) rfl (strs_elem _) (n := ((P.classes.take i).flatMap FClass.slots).length) ?_ ?_ (strs_length _).symm rfl (OwnOk.sub' hown) ?_
    · simp only [strs_length]; show _ * 16 ≤ _; omega
    · simp only [strs_length]; omega
    rintro own' h1
    repeat (first | with_reducible refine andThen_normal ?_ | with_reducible refine inBlock_normal ?_ | refine CW.reg (RL.run tysOk rfl (RL.nil ?_)) | refine RL.nil ?_ | refine RL.step tysOk rfl rfl rfl rfl ?_)
    refine ⟨(i + 1, own'), ⟨hlt, OwnOk.sub' h1⟩, ⟨⟨_, rfl, AVle.refl _⟩, ⟨_, rfl, AVle.of_eq ?_⟩, ⟨_, rfl, AVle.of_eq ?_⟩, trivial⟩, ?_, by show P.classes.length - (i + 1) < P.classes.length - i; omega⟩
    · rw [flatMap_take_succ _ hci]; simp [strs]
    · rw [i64_succ (by omega)]
    · have e : (strs ((P.classes.take i).flatMap FClass.slots)).length + (strs c.slots).length = ((P.classes.take (i + 1)).flatMap FClass.slots).length := by
        rw [flatMap_take_succ _ hci]; simp
      show Store.Sub (rowOf s _ 1 _ own') _
      rw [← e]; exact Store.sub_refl _
  · have hge : P.classes.length ≤ i := by simpa using h
    rw [List.take_of_length_le hge]
    repeat (first | with_reducible refine CW.seq ?_ | with_reducible refine andThen_normal ?_ | with_reducible refine andThen_exit ?_ | with_reducible refine inBlock_here ?_ | with_reducible refine CW.ret ?_ | with_reducible refine CW.exit ?_ | refine CW.reg (RL.run tysOk rfl (RL.nil ?_)))
    exact ⟨_, _, s, rfl, AVle.fro, rowOf_sub hown, rfl, rfl⟩

/-! ### Classes -/
def clsOkR (pre : List Str) (c : FClass) : Bool := ((decide (c.parents.length ≤ 3) && decide (c.slots.length ≤ 4)) && decide c.parents.Nodup) && c.parents.all pre.contains
def allPreN : List Str → List FClass → Bool
  | _, [] => true
  | pre, c :: r => clsOkR pre c && allPreN (pre ++ [c.name]) r
def classesR (cls : List FClass) : Bool := decide (cls.length ≤ 10) && (allPreN [] cls && (((cls.map FClass.name).all nameS && decide (cls.map FClass.name).Nodup) && ((cls.flatMap FClass.slots).all nameS && decide (cls.flatMap FClass.slots).Nodup)))

set_option maxRecDepth 10000 in
set_option maxHeartbeats 2000000 in
theorem refClasses_spec (P : FProg) (s : Store) (hP : P.Fair) :
    ACalls Try.prog 87 [P.av] s (fun o s' => o = .ret (.bool (classesR P.classes)) ∧ s' = s) := by
  have hb : big = 1099511627776 := rfl
  have hl := hP.clen
  have hsl := hP.slen
  have hml : (P.classes.map FClass.av).length = P.classes.length := List.length_map ..
  refine ACalls.of_CW tysOk call87 Try.func87 rfl rfl ?_
  repeat (first | with_reducible refine CW.seq ?_ | with_reducible refine andThen_normal ?_ | refine CW.reg (RL.run tysOk rfl (RL.nil ?_)))
  refine CW.cond rfl (fun h => ?_) (fun h => ?_)
  · have hgt : ¬ P.classes.length ≤ 10 := by rw [hml] at h; simp at h; omega
    have : classesR P.classes = false := by unfold classesR; rw [decide_eq_false hgt]; rfl
    rw [this]
    repeat (first | with_reducible refine CW.seq ?_ | with_reducible refine andThen_normal ?_ | with_reducible refine andThen_ret ?_ | with_reducible refine CW.ret ?_ | refine CW.reg (RL.run tysOk rfl (RL.nil ?_)))
    exact ⟨_, _, _, rfl, AVle.refl _, Store.sub_refl _, rfl, rfl⟩
  have hle : P.classes.length ≤ 10 := by rw [hml] at h; simp at h; omega
  have hdef : classesR P.classes = (allPreN [] P.classes && (((P.classes.map FClass.name).all nameS && decide (P.classes.map FClass.name).Nodup) && ((P.classes.flatMap FClass.slots).all nameS && decide (P.classes.flatMap FClass.slots).Nodup))) := by
    unfold classesR; rw [decide_eq_true hle]; rfl
  repeat (first | with_reducible refine CW.seq ?_ | with_reducible refine andThen_normal ?_ | with_reducible refine CW.skip ?_ | with_reducible refine CW.block ?_ | refine CW.reg (RL.run tysOk rfl (RL.nil ?_)))
  refine CW.loop (σ := Nat × Own) (fun q => [(1, .fptr P.cells 0), (3, .slc 1 (strs ((P.classes.take q.1).map FClass.name)) q.2), (4, .int .i64 (q.1 : Int))])
    (fun q => rowOf s 9 1 q.1 q.2) (fun q => q.1 ≤ P.classes.length ∧ OwnOk s 0 q.2 ∧ allPreN [] P.classes = allPreN ((P.classes.take q.1).map FClass.name) (P.classes.drop q.1)) (fun q => P.classes.length - q.1) (0, .nil) ⟨by simp, trivial, rfl⟩ ?_ (Store.sub_refl _) ?_
  · exact ⟨⟨_, rfl, AVle.refl _⟩, ⟨_, rfl, AVle.nil (by simp)⟩, ⟨_, rfl, AVle.refl _⟩, trivial⟩
  rintro ⟨i, own⟩ ⟨hi, hown, hI⟩
  simp only at hi hown hI
  have hln : ((P.classes.take i).map FClass.name).length = i := by simp; omega
  repeat (first | with_reducible refine CW.seq ?_ | with_reducible refine andThen_normal ?_ | refine CW.reg (RL.run tysOk rfl (RL.nil ?_)))
  refine CW.cond rfl (fun h => ?_) (fun h => ?_)
  · have hlt : i < P.classes.length := by rw [hml] at h; simpa using h
    obtain ⟨c, hci⟩ : ∃ c, P.classes[i]? = some c := ⟨_, List.getElem?_eq_getElem hlt⟩
    have hci' : (P.classes.map FClass.av)[i]? = some (.agg c.cells) := by rw [List.getElem?_map, hci]; rfl
    have hcf := hP.cls c (List.mem_of_getElem? hci)
    have hpl := hcf.parents.len
    rw [drop_cons hci, allPreN] at hI
    have hbad : clsOkR ((P.classes.take i).map FClass.name) c = false → classesR P.classes = false := fun hc => by rw [hdef, hI, hc]; rfl
    have hnx : (P.classes.take i).map FClass.name ++ [c.name] = (P.classes.take (i + 1)).map FClass.name := by rw [← take_snoc hci]; simp
    rw [hnx] at hI
    refine CW.skip (andThen_normal (CW.seq (CW.block ?_)))
    refine CW.seqCut [(1, .fptr P.cells 0), (3, .slc 1 (strs ((P.classes.take i).map FClass.name)) own), (4, .int .i64 (i : Int)), (5, .fptr c.cells 0)] (rowOf s 9 1 i own) ?_ ?_
    · repeat (first | refine CW.reg ?_ | refine RL.step tysOk rfl rfl rfl rfl ?_ | refine RL.idx tysOk _ rfl rfl rfl rfl rfl rfl rfl rfl rfl rfl rfl (by assumption) rfl ?_)
      refine RL.newBox tysOk rfl rfl rfl rfl rfl rfl rfl (fun _ => rfl) rfl rfl (fun _ => rfl) rfl rfl rfl rfl ?_
      repeat (first | refine RL.nil ?_)
      exact ⟨rfl, (by repeat (first | exact trivial | refine ⟨⟨_, rfl, AVle.refl _⟩, ?_⟩)), Store.sub_refl _⟩
    refine CW.seqCutX (σ := Own) (fun o' => [(1, .fptr P.cells 0), (3, .slc 1 (strs ((P.classes.take (i + 1)).map FClass.name)) o'), (4, .int .i64 (i : Int)), (5, .fptr c.cells 0)]) (fun o' => rowOf s 9 1 (i + 1) o') (fun o' => OwnOk s 0 o') ?_ ?_
    · repeat (first | refine CW.reg ?_ | refine RL.step tysOk rfl rfl rfl rfl ?_)
      refine RL.append1 tysOk rfl rfl rfl rfl rfl rfl rfl (by intro k; simp) rfl rfl rfl rfl rfl rfl rfl (n := i) (by rw [strs_length, hln]) (by show (i + 1) * 16 ≤ _; omega) (by omega) (s := s) rfl (OwnOk.sub' hown) (fun rb hrb => ?_)
      repeat (first | refine RL.nil ?_ | refine RL.step tysOk rfl rfl rfl rfl ?_)
      exact ⟨rfl, .own rb, hrb, (by repeat (first | exact trivial | refine ⟨⟨_, rfl, AVle.refl _⟩, ?_⟩ | refine ⟨⟨_, rfl, AVle.of_eq (by (rw [← hnx]; simp [strs]))⟩, ?_⟩)), Store.sub_refl _⟩
    intro o' ho'
    have hln2 : ((P.classes.take (i + 1)).map FClass.name).length = i + 1 := by simp; omega
    have hdf := fun s => differ_spec c.parents .fro s (by omega)
    refine CW.seq ?_
    refine CW.seqCut [(1, .fptr P.cells 0), (3, .slc 1 (strs ((P.classes.take (i + 1)).map FClass.name)) o'), (4, .int .i64 (i : Int)), (5, .fptr c.cells 0), (43, .bool (!((decide (c.parents.length ≤ 3) && decide (c.slots.length ≤ 4)) && decide c.parents.Nodup)))] (rowOf s 9 1 (i + 1) o') ?_ ?_
    · generalize decide c.parents.Nodup = nd at hdf
      repeat' (first | refine CW.reg ?_ | refine RL.nil ?_ | refine RL.step tysOk rfl rfl rfl rfl ?_ | refine RL.skip rfl rfl rfl ?_ | refine RL.gstepF tysOk rfl rfl rfl rfl rfl rfl rfl (fun _ => ?_) (fun _ => ?_) | refine RL.callP rfl rfl rfl rfl rfl (hdf _) ?_)
      all_goals refine ⟨rfl, (by repeat (first | exact trivial | refine ⟨⟨_, rfl, AVle.refl _⟩, ?_⟩ | refine ⟨⟨_, rfl, AVle.of_eq (by (simp_all; (try (rw [Bool.eq_iff_iff]; simp; omega)); (try omega)))⟩, ?_⟩)), Store.sub_refl _⟩
    cases hc1 : (decide (c.parents.length ≤ 3) && decide (c.slots.length ≤ 4)) && decide c.parents.Nodup with
    | false =>
      rw [hbad (by unfold clsOkR; rw [hc1]; rfl)]
      repeat (first | with_reducible refine CW.seq ?_ | with_reducible refine andThen_normal ?_ | with_reducible refine andThen_ret ?_ | with_reducible refine inBlock_ret ?_ | with_reducible refine CW.ret ?_ | refine CW.reg (RL.run tysOk rfl (RL.nil ?_)) | refine CW.condT rfl ?_)
      exact ⟨_, _, s, rfl, AVle.refl _, rowOf_sub ho', rfl, rfl⟩
    | true =>
    have hck : clsOkR ((P.classes.take i).map FClass.name) c = c.parents.all ((P.classes.take i).map FClass.name).contains := by unfold clsOkR; rw [hc1]; rfl
    refine CW.condF rfl (CW.skip (andThen_normal ?_))
    have htk : ((strs ((P.classes.take (i + 1)).map FClass.name)).take i).drop 0 = strs ((P.classes.take i).map FClass.name) := by
      rw [← hnx]
      have : strs ((P.classes.take i).map FClass.name ++ [c.name]) = strs ((P.classes.take i).map FClass.name) ++ [.str c.name] := by simp [strs]
      rw [this, List.drop_zero]
      exact List.take_left' (by rw [strs_length, hln])
    generalize (P.classes.take i).map FClass.name = pre at hln hck hI hbad htk
    repeat (first | with_reducible refine CW.seq ?_ | with_reducible refine andThen_normal ?_ | with_reducible refine CW.block ?_ | refine CW.reg (RL.run tysOk rfl (RL.nil ?_)))
    refine CW.loop (σ := Nat) (fun j => [(1, .fptr P.cells 0), (3, .slc 1 (strs ((P.classes.take (i + 1)).map FClass.name)) o'), (4, .int .i64 (i : Int)), (5, .fptr c.cells 0), (6, .int .i64 (j : Int))]) (fun _ => rowOf s 9 1 (i + 1) o')
      (fun j => j ≤ c.parents.length ∧ c.parents.all pre.contains = (c.parents.drop j).all pre.contains) (fun j => c.parents.length - j) 0 ⟨by omega, rfl⟩ (by repeat (first | exact trivial | refine ⟨⟨_, rfl, AVle.refl _⟩, ?_⟩)) (Store.sub_refl _) ?_
    rintro j ⟨hj, hJ⟩
    repeat (first | with_reducible refine CW.seq ?_ | with_reducible refine andThen_normal ?_ | refine CW.reg (RL.run tysOk rfl (RL.nil ?_)))
    refine CW.cond rfl (fun h => ?_) (fun h => ?_)
    · have hltj : j < c.parents.length := by simpa using h
      obtain ⟨p, hpj⟩ : ∃ p, c.parents[j]? = some p := ⟨_, List.getElem?_eq_getElem hltj⟩
      have hpj' : (strs c.parents)[j]? = some (.str p) := by rw [strs_get, hpj]; rfl
      repeat (first | with_reducible refine CW.seq ?_ | with_reducible refine andThen_normal ?_ | with_reducible refine CW.skip ?_ | with_reducible refine CW.block ?_ | refine CW.drw tysOk mixed rfl (RD.run rfl ?_))
      refine RD.slice 2 0 i rfl rfl rfl rfl rfl rfl rfl rfl rfl rfl (.inr rfl) (.inl ⟨rfl, rfl⟩) (.inr ⟨_, _, rfl, rfl⟩) (.inl ⟨rfl, rfl⟩) (by omega) (by rw [strs_length, hln2]; omega) ?_
      rw [htk]
      refine RD.idx 6 j rfl rfl rfl rfl rfl rfl rfl rfl rfl rfl rfl rfl rfl hpj' rfl ?_
      refine RD.run rfl ?_
      refine RD.callP (i := 8) rfl rfl rfl rfl rfl rfl rfl (refHas_spec pre .fro p _ (by omega)) ?_
      refine RD.run rfl (RD.done rfl ?_)
      cases hpc : pre.contains p with
      | true =>
        repeat (first | with_reducible refine andThen_normal ?_ | with_reducible refine inBlock_normal ?_ | with_reducible refine CW.skip ?_ | refine CW.reg (RL.run tysOk rfl (RL.nil ?_)) | refine CW.condF rfl ?_)
        exact ⟨j + 1, ⟨hltj, all_take hpj hJ hpc⟩, (by repeat (first | exact trivial | refine ⟨⟨_, rfl, AVle.refl _⟩, ?_⟩ | refine ⟨⟨_, rfl, AVle.of_eq (by (rw [i64_succ (by omega)]))⟩, ?_⟩)), Store.sub_refl _, by omega⟩
      | false =>
        rw [hbad (by rw [hck]; exact all_miss hpj hpc)]
        repeat (first | with_reducible refine CW.seq ?_ | with_reducible refine andThen_normal ?_ | with_reducible refine andThen_ret ?_ | with_reducible refine inBlock_ret ?_ | with_reducible refine CW.ret ?_ | refine CW.reg (RL.run tysOk rfl (RL.nil ?_)) | refine CW.condT rfl ?_)
        exact ⟨_, _, s, rfl, AVle.refl _, rowOf_sub ho', rfl, rfl⟩
    · have hge : c.parents.length ≤ j := by simpa using h
      rw [List.drop_eq_nil_of_le hge] at hJ
      rw [hck, hJ] at hI
      repeat (first | with_reducible refine andThen_normal ?_ | with_reducible refine andThen_exit ?_ | with_reducible refine inBlock_normal ?_ | with_reducible refine inBlock_here ?_ | with_reducible refine CW.exit ?_ | refine CW.reg (RL.run tysOk rfl (RL.nil ?_)))
      exact ⟨(i + 1, o'), ⟨hlt, ho', hI⟩, (by repeat (first | exact trivial | refine ⟨⟨_, rfl, AVle.refl _⟩, ?_⟩ | refine ⟨⟨_, rfl, AVle.of_eq (by (show AV.int .i64 (IntKind.wrap .i64 ((i : Int) + 1)) = .int .i64 ((i + 1 : Nat) : Int); rw [i64_succ (by omega)]))⟩, ?_⟩)), Store.sub_refl _, by show P.classes.length - (i + 1) < P.classes.length - i; omega⟩
  · have hge : P.classes.length ≤ i := by rw [hml] at h; simpa using h
    rw [List.drop_eq_nil_of_le hge, allPreN] at hI
    rw [hI, Bool.true_and] at hdef
    rw [List.take_of_length_le hge] at hln ⊢
    have hn1 := fun s => refNames_spec (P.classes.map FClass.name) own s (by rw [List.length_map]; omega) (by
      intro x hx
      obtain ⟨c, hc, rfl⟩ := List.mem_map.1 hx
      exact (hP.cls c hc).name)
    have hn2 := fun s => refNames_spec (P.classes.flatMap FClass.slots) .fro s (by omega) (by
      intro x hx
      obtain ⟨c, hc, hx⟩ := List.mem_flatMap.1 hx
      exact (hP.cls c hc).slots.sh x hx)
    rw [hdef]
    generalize ((P.classes.map FClass.name).all nameS && decide (P.classes.map FClass.name).Nodup) = n1 at hn1 ⊢
    generalize ((P.classes.flatMap FClass.slots).all nameS && decide (P.classes.flatMap FClass.slots).Nodup) = n2 at hn2 ⊢
    repeat (first | with_reducible refine CW.seq ?_ | with_reducible refine andThen_normal ?_ | with_reducible refine andThen_exit ?_ | with_reducible refine inBlock_here ?_ | with_reducible refine CW.exit ?_ | refine CW.reg ?_ | refine RL.step tysOk rfl rfl rfl rfl ?_)
    refine RL.callP rfl rfl rfl rfl rfl (hn1 _) ?_
    cases n1 with
    | false =>
      repeat (first | with_reducible refine andThen_normal ?_ | with_reducible refine CW.ret ?_ | refine RL.nil ?_ | refine RL.step tysOk rfl rfl rfl rfl ?_ | refine RL.skip rfl rfl rfl ?_)
      exact ⟨_, _, s, rfl, AVle.refl _, rowOf_sub hown, rfl, rfl⟩
    | true =>
      repeat (first | refine RL.step tysOk rfl rfl rfl rfl ?_)
      refine RL.callP rfl rfl rfl rfl rfl (refSlotsOf_spec P _ hl hsl) ?_
      skip
      refine RL.callP rfl rfl rfl rfl rfl (hn2 _) ?_
      repeat (first | with_reducible refine andThen_normal ?_ | with_reducible refine CW.ret ?_ | refine RL.nil ?_ | refine RL.step tysOk rfl rfl rfl rfl ?_)
      exact ⟨_, _, s, rfl, AVle.refl _, rowOf_sub hown, rfl, rfl⟩
end Go.Proofs.Ytaafacnoddjhgaa

