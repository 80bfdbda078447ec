import Derived.Test.YtaafacnoddjhgaaMk
import Derived.WalkKit
import Derived.OpenShut
import Derived.JoinedCond
/- Contracts of the reference: what an expression's node has to have. -/
namespace Go.Proofs.Ytaafacnoddjhgaa
open Go.AE

set_option maxRecDepth 10000 in
theorem refIn_spec (n : Int) (s : Store) : ACalls Try.prog 124 [.int .i64 n] s (fun o s' => o = .ret (.bool (between n)) ∧ s' = s) := by
  refine ACalls.of_CW tysOk call124 Try.func124 rfl rfl ?_
  repeat' (first | with_reducible refine CW.seq ?_ | with_reducible refine andThen_normal ?_ | with_reducible refine CW.ret ?_ | refine CW.reg (RL.run tysOk rfl (RL.nil ?_)) | refine CW.reg ?_ | refine RL.nil ?_ | refine RL.step tysOk rfl rfl rfl rfl ?_ | refine RL.skip rfl rfl rfl ?_ | refine RL.gstepT tysOk rfl rfl rfl rfl rfl rfl rfl (fun _ => ?_) (fun _ => ?_))
  all_goals refine ⟨_, _, _, rfl, AVle.refl _, Store.sub_refl _, ?_, rfl⟩
  all_goals first | (simp_all [between]; done) | (simp_all [between]; omega)

/-- How many Kids, and whether a name, by the kind. -/
def rowR (op : Int) (len : Nat) : Option (Int × Bool) :=
  if op == 2 || op == 18 then some (0, false) else if op == 3 || op == 6 then some (0, true) else if op == 4 || op == 8 then some (1, true) else if op == 7 || op == 9 then some (2, true)
  else if op == 5 then some (max 1 (min (len : Int) 3), true) else if op == 10 then some (3, false) else if op == 17 then some (1, false)
  else if ((((op == 11 || op == 12) || op == 13) || op == 14) || op == 15) || op == 16 then some (2, false) else none

def lastR (e : FExp) (r : Int × Bool) : Bool := ((e.n == 0 && ((e.kids.length : Int) == r.1)) && (r.2 == !(e.text == []))) && (!r.2 || nameS e.text)
def shapedB (e : FExp) : Bool :=
  if e.op == 1 then (between e.n && e.text == []) && ((e.kids.length : Int) == 0) else match rowR e.op e.kids.length with | none => false | some r => lastR e r

set_option maxRecDepth 10000 in
set_option maxHeartbeats 2000000 in
theorem refShaped_spec (e : FExp) (s : Store) (ht : e.text.length < 9223372036854775807) (hk : e.kids.length < 9223372036854775807) :
    ACalls Try.prog 101 [e.av] s (fun o s' => o = .ret (.bool (shapedB e)) ∧ s' = s) := by
  have hkl := e.kav_length
  by_cases h1 : e.op = 1
  · refine ACalls.of_CW tysOk call101 Try.func101 rfl rfl ?_
    obtain ⟨o, n, t, ks⟩ := e
    simp only [FExp.op] at h1
    subst h1
    repeat' (first | with_reducible refine CW.seq ?_ | with_reducible refine andThen_normal ?_ | with_reducible refine andThen_ret ?_ | with_reducible refine inBlock_ret ?_ | with_reducible refine CW.ret ?_ | with_reducible refine CW.block ?_ | refine CW.reg (RL.run tysOk rfl (RL.nil ?_)) | refine CW.reg ?_ | refine RL.nil ?_ | refine CW.condT rfl ?_ | refine RL.step tysOk rfl rfl rfl rfl ?_ | refine RL.skip rfl rfl rfl ?_ | refine RL.gstepT tysOk rfl rfl rfl rfl rfl rfl rfl (fun _ => ?_) (fun _ => ?_) | refine RL.callP rfl rfl rfl rfl rfl (refIn_spec n s) ?_)
    all_goals refine ⟨_, _, _, rfl, AVle.of_eq ?_, Store.sub_refl _, rfl, rfl⟩
    all_goals simp_all [shapedB, FExp.op, FExp.n, FExp.text, FExp.kids]
  by_cases hn : rowR e.op e.kids.length = none
  · have hall : e.op ≠ 2 ∧ e.op ≠ 18 ∧ e.op ≠ 3 ∧ e.op ≠ 6 ∧ e.op ≠ 4 ∧ e.op ≠ 8 ∧ e.op ≠ 7 ∧ e.op ≠ 9 ∧ e.op ≠ 5 ∧ e.op ≠ 10 ∧ e.op ≠ 17 ∧ e.op ≠ 11 ∧ e.op ≠ 12 ∧ e.op ≠ 13 ∧ e.op ≠ 14 ∧ e.op ≠ 15 ∧ e.op ≠ 16 := by
      refine ⟨?_, ?_, ?_, ?_, ?_, ?_, ?_, ?_, ?_, ?_, ?_, ?_, ?_, ?_, ?_, ?_, ?_⟩ <;> (intro h; rw [h] at hn; simp [rowR] at hn)
    have hs : shapedB e = false := by
      unfold shapedB
      rw [if_neg (by simpa using h1), hn]
    rw [hs]
    refine ACalls.of_CW tysOk call101 Try.func101 rfl rfl ?_
    repeat (first | with_reducible refine CW.seq ?_ | with_reducible refine andThen_normal ?_ | with_reducible refine CW.block ?_ | refine CW.reg (RL.run tysOk rfl (RL.nil ?_)))
    refine CW.cond rfl (fun h => absurd h (by simp; omega)) (fun _ => ?_)
    repeat (first | with_reducible refine CW.seq ?_ | with_reducible refine andThen_normal ?_ | refine CW.reg (RL.run tysOk rfl (RL.nil ?_)))
    refine CW.cond rfl (fun h => absurd h (by simp; omega)) (fun _ => ?_)
    repeat (first | with_reducible refine andThen_normal ?_ | refine CW.reg (RL.run tysOk rfl (RL.nil ?_)))
    refine CW.cond rfl (fun h => absurd h (by simp; omega)) (fun _ => ?_)
    repeat (first | with_reducible refine CW.seq ?_ | with_reducible refine andThen_normal ?_ | refine CW.reg (RL.run tysOk rfl (RL.nil ?_)))
    refine CW.cond rfl (fun h => absurd h (by simp; omega)) (fun _ => ?_)
    repeat (first | with_reducible refine andThen_normal ?_ | refine CW.reg (RL.run tysOk rfl (RL.nil ?_)))
    refine CW.cond rfl (fun h => absurd h (by simp; omega)) (fun _ => ?_)
    repeat (first | with_reducible refine CW.seq ?_ | with_reducible refine andThen_normal ?_ | refine CW.reg (RL.run tysOk rfl (RL.nil ?_)))
    refine CW.cond rfl (fun h => absurd h (by simp; omega)) (fun _ => ?_)
    repeat (first | with_reducible refine andThen_normal ?_ | refine CW.reg (RL.run tysOk rfl (RL.nil ?_)))
    refine CW.cond rfl (fun h => absurd h (by simp; omega)) (fun _ => ?_)
    repeat (first | with_reducible refine CW.seq ?_ | with_reducible refine andThen_normal ?_ | refine CW.reg (RL.run tysOk rfl (RL.nil ?_)))
    refine CW.cond rfl (fun h => absurd h (by simp; omega)) (fun _ => ?_)
    repeat (first | with_reducible refine andThen_normal ?_ | refine CW.reg (RL.run tysOk rfl (RL.nil ?_)))
    refine CW.cond rfl (fun h => absurd h (by simp; omega)) (fun _ => ?_)
    repeat (first | with_reducible refine CW.seq ?_ | with_reducible refine andThen_normal ?_ | refine CW.reg (RL.run tysOk rfl (RL.nil ?_)))
    refine CW.cond rfl (fun h => absurd h (by simp; omega)) (fun _ => ?_)
    repeat (first | with_reducible refine CW.seq ?_ | with_reducible refine andThen_normal ?_ | refine CW.reg (RL.run tysOk rfl (RL.nil ?_)))
    refine CW.cond rfl (fun h => absurd h (by simp; omega)) (fun _ => ?_)
    repeat (first | with_reducible refine CW.seq ?_ | with_reducible refine andThen_normal ?_ | refine CW.reg (RL.run tysOk rfl (RL.nil ?_)))
    refine CW.cond rfl (fun h => absurd h (by simp; omega)) (fun _ => ?_)
    repeat (first | with_reducible refine CW.seq ?_ | with_reducible refine andThen_normal ?_ | refine CW.reg (RL.run tysOk rfl (RL.nil ?_)))
    refine CW.cond rfl (fun h => absurd h (by simp; omega)) (fun _ => ?_)
    repeat (first | with_reducible refine CW.seq ?_ | with_reducible refine andThen_normal ?_ | refine CW.reg (RL.run tysOk rfl (RL.nil ?_)))
    refine CW.cond rfl (fun h => absurd h (by simp; omega)) (fun _ => ?_)
    repeat (first | with_reducible refine CW.seq ?_ | with_reducible refine andThen_normal ?_ | refine CW.reg (RL.run tysOk rfl (RL.nil ?_)))
    refine CW.cond rfl (fun h => absurd h (by simp; omega)) (fun _ => ?_)
    repeat (first | with_reducible refine CW.seq ?_ | with_reducible refine andThen_normal ?_ | refine CW.reg (RL.run tysOk rfl (RL.nil ?_)))
    refine CW.cond rfl (fun h => absurd h (by simp; omega)) (fun _ => ?_)
    repeat (first | with_reducible refine CW.seq ?_ | with_reducible refine andThen_normal ?_ | refine CW.reg (RL.run tysOk rfl (RL.nil ?_)))
    refine CW.cond rfl (fun h => absurd h (by simp; omega)) (fun _ => ?_)
    repeat (first | with_reducible refine andThen_normal ?_ | refine CW.reg (RL.run tysOk rfl (RL.nil ?_)))
    refine CW.cond rfl (fun h => absurd h (by simp; omega)) (fun _ => ?_)
    repeat (first | with_reducible refine CW.seq ?_ | with_reducible refine andThen_normal ?_ | with_reducible refine andThen_ret ?_ | with_reducible refine inBlock_ret ?_ | with_reducible refine CW.ret ?_ | refine CW.reg (RL.run tysOk rfl (RL.nil ?_)))
    exact ⟨_, _, _, rfl, AVle.refl _, Store.sub_refl _, rfl, rfl⟩
  · obtain ⟨r, hr⟩ := Option.ne_none_iff_exists'.1 hn
    have hs : shapedB e = lastR e r := by
      unfold shapedB
      rw [if_neg (by simpa using h1), hr]
    rw [hs]
    refine ACalls.of_CW tysOk call101 Try.func101 rfl rfl ?_
    repeat (first | with_reducible refine CW.seq ?_ | with_reducible refine andThen_normal ?_ | refine CW.reg (RL.run tysOk rfl (RL.nil ?_)))
    refine CW.atCut (σ := Unit) (fun _ => [(1, .fptr e.cells 0), (3, .int .i64 r.1), (4, .bool r.2)]) (fun _ => s) (fun _ => True) ?_ ?_
    · have hop : e.op = 2 ∨ e.op = 18 ∨ e.op = 3 ∨ e.op = 6 ∨ e.op = 4 ∨ e.op = 8 ∨ e.op = 7 ∨ e.op = 9 ∨ e.op = 5 ∨ e.op = 10 ∨ e.op = 17 ∨ e.op = 11 ∨ e.op = 12 ∨ e.op = 13 ∨ e.op = 14 ∨ e.op = 15 ∨ e.op = 16 := by
        refine Classical.byContradiction fun hc => hn ?_
        simp only [not_or] at hc
        obtain ⟨k2, k18, k3, k6, k4, k8, k7, k9, k5, k10, k17, k11, k12, k13, k14, k15, k16⟩ := hc
        simp [rowR, k2, k18, k3, k6, k4, k8, k7, k9, k5, k10, k17, k11, k12, k13, k14, k15, k16]
      obtain ⟨o, n, t, ks⟩ := e
      simp only [FExp.op, FExp.kids] at hop hr h1
      rcases hop with rfl | rfl | rfl | rfl | rfl | rfl | rfl | rfl | rfl | rfl | rfl | rfl | rfl | rfl | rfl | rfl | rfl
      all_goals (simp [rowR] at hr; subst hr)
      all_goals repeat (first | with_reducible refine CW.seq ?_ | with_reducible refine andThen_normal ?_ | with_reducible refine inBlock_normal ?_ | with_reducible refine CW.skip ?_ | with_reducible refine CW.block ?_ | refine CW.reg (RL.run tysOk rfl (RL.nil ?_)) | refine CW.reg ?_ | refine RL.nil ?_ | refine CW.condT rfl ?_ | refine CW.condF rfl ?_ | refine RL.step tysOk rfl rfl rfl rfl ?_ | refine RL.stepX tysOk rfl rfl rfl rfl ?_)
      all_goals exact ⟨rfl, (), trivial, (by repeat (first | exact trivial | refine ⟨⟨_, rfl, AVle.refl _⟩, ?_⟩ | refine ⟨⟨_, rfl, AVle.of_eq (by (rw [hkl]; simp only [FExp.kids]; congr 1; (repeat' split) <;> omega))⟩, ?_⟩)), Store.sub_refl _⟩
    · intro _ _
      repeat' (first | with_reducible refine CW.seq ?_ | with_reducible refine andThen_normal ?_ | with_reducible refine CW.ret ?_ | refine CW.reg ?_ | refine RL.nil ?_ | refine RL.step tysOk rfl rfl rfl rfl ?_ | refine RL.skip rfl rfl rfl ?_ | refine RL.gstepT tysOk rfl rfl rfl rfl rfl rfl rfl (fun _ => ?_) (fun _ => ?_) | refine RL.gstepF tysOk rfl rfl rfl rfl rfl rfl rfl (fun _ => ?_) (fun _ => ?_) | refine RL.callP rfl rfl rfl rfl rfl (refName_spec e.text s ht) ?_)
      all_goals refine ⟨_, _, _, rfl, AVle.of_eq ?_, Store.sub_refl _, rfl, rfl⟩
      all_goals simp_all [lastR]
end Go.Proofs.Ytaafacnoddjhgaa

/- Contracts of the reference: what an expression has to be. -/
namespace Go.Proofs.Ytaafacnoddjhgaa
open Go.AE

mutual
/-- The nodes counted down from k: whether all are right, and what is left. -/
def FExp.cnt (d : Nat) (k : Int) : FExp → Bool × Int
  | .mk o n t ks => if (decide (k - 1 < 0) || decide (d > 12)) || !shapedB (.mk o n t ks) then (false, k - 1) else FExp.cnts (d + 1) (k - 1) ks
def FExp.cnts (d : Nat) (k : Int) : List FExp → Bool × Int
  | [] => (true, k)
  | e :: r => if (FExp.cnt d k e).1 then FExp.cnts d (FExp.cnt d k e).2 r else (false, (FExp.cnt d k e).2)
end

theorem FExp.cnt_def (d : Nat) (k : Int) (e : FExp) : FExp.cnt d k e = if (decide (k - 1 < 0) || decide (d > 12)) || !shapedB e then (false, k - 1) else FExp.cnts (d + 1) (k - 1) e.kids := by
  cases e; rw [FExp.cnt]; rfl

mutual
theorem FExp.cnt_le : ∀ (e : FExp) (d : Nat) (k : Int), (FExp.cnt d k e).1 = true → 0 ≤ (FExp.cnt d k e).2 ∧ (FExp.cnt d k e).2 ≤ k
  | .mk o n t ks, d, k, h => by
    rw [FExp.cnt] at h ⊢
    split at h
    · cases h
    · rename_i hc
      rw [if_neg hc]
      have := FExp.cnts_le ks (d + 1) (k - 1) (by simp only [Bool.or_eq_true, decide_eq_true_eq, not_or] at hc; omega) h
      omega
theorem FExp.cnts_le : ∀ (l : List FExp) (d : Nat) (k : Int), 0 ≤ k → (FExp.cnts d k l).1 = true → 0 ≤ (FExp.cnts d k l).2 ∧ (FExp.cnts d k l).2 ≤ k
  | [], d, k, hk, h => by rw [FExp.cnts]; exact ⟨hk, Int.le_refl _⟩
  | e :: r, d, k, hk, h => by
    rw [FExp.cnts] at h ⊢
    split at h
    · rename_i hc
      rw [if_pos hc]
      obtain ⟨h1, h2⟩ := FExp.cnt_le e d k hc
      obtain ⟨h3, h4⟩ := FExp.cnts_le r d _ h1 h
      exact ⟨h3, Int.le_trans h4 h2⟩
    · cases h
end

/-! ### It is the same as the other layer's look -/

theorem max3 (n : Nat) : ((n : Int) == max 1 (min (n : Int) 3)) = (decide ((n : Int) ≥ 1) && decide ((n : Int) ≤ 3)) := by
  rw [Bool.eq_iff_iff]; simp; omega

theorem shaped_node (e : FExp) : shapedB e = nodeE e := by
  obtain ⟨o, n, t, ks⟩ := e
  have hkl : (FExp.mk o n t ks).kav.length = ks.length := FExp.kav_length _
  simp only [nodeE, nodeE1, nodeE2, shapedB, lastR, FExp.op, FExp.n, FExp.text, FExp.kids, hkl]
  by_cases h : o ∈ shapeL.map (·.1)
  · simp only [shapeL, List.map_cons, List.map_nil, List.mem_cons, List.not_mem_nil, or_false] at h
    rcases h with rfl | rfl | rfl | rfl | rfl | rfl | rfl | rfl | rfl | rfl | rfl | rfl | rfl | rfl | rfl | rfl | rfl | rfl
    all_goals simp only [shapeOf, shapeL, rowR, shA, shB, shN, max3]
    all_goals (rw [Bool.eq_iff_iff]; simp; (try omega); (try grind))
    have hb0 : between 0 = true := by decide
    by_cases hn0 : n = 0
    · subst hn0; constructor <;> intro h <;> simp_all
    · constructor <;> intro h <;> simp_all
  · simp only [shapeL, List.map_cons, List.map_nil, List.mem_cons, List.not_mem_nil, or_false, not_or] at h
    obtain ⟨k1, k2, k18, k3, k6, k4, k8, k7, k9, k5, k10, k17, k11, k12, k13, k14, k15, k16⟩ := h
    simp [shapeOf, shapeL, rowR, k1, k2, k18, k3, k6, k4, k8, k7, k9, k5, k10, k17, k11, k12, k13, k14, k15, k16]

theorem exp_nodes (e : FExp) (d : Nat) : (Part.exp e).nodes d = (d, .exp e) :: e.kids.flatMap (fun k => (Part.exp k).nodes (d + 1)) := by
  rw [Part.nodes_eq]
  show _ :: (e.kids.map Part.exp).flatMap _ = _
  rw [List.flatMap_map]

mutual
theorem cnt_nodes : ∀ (e : FExp) (d : Nat) (k : Int), 0 ≤ k → (FExp.cnt d k e).1 = (decide ((e.size : Int) ≤ k) && ((Part.exp e).nodes d).all nodeOk) ∧ ((FExp.cnt d k e).1 = true → (FExp.cnt d k e).2 = k - e.size)
  | .mk o n t ks, d, k, hk => by
    have hsz : (FExp.mk o n t ks).size = 1 + FExp.sizes ks := by rw [FExp.size]
    rw [FExp.cnt, exp_nodes, List.all_cons]
    have hok : nodeOk (d, .exp (.mk o n t ks)) = (decide (d ≤ 12) && shapedB (.mk o n t ks)) := by rw [shaped_node]; rfl
    rw [hok]
    split
    · rename_i h
      refine ⟨?_, fun h => by cases h⟩
      simp only [Bool.or_eq_true, decide_eq_true_eq, Bool.not_eq_true'] at h
      rcases h with (h | h) | h
      · rw [decide_eq_false (by rw [hsz]; omega)]; rfl
      · rw [decide_eq_false (by omega : ¬ d ≤ 12)]; simp
      · rw [h]; simp
    · rename_i h
      simp only [Bool.or_eq_true, decide_eq_true_eq, Bool.not_eq_true', not_or, Bool.not_eq_false] at h
      obtain ⟨⟨h1, h2⟩, h3⟩ := h
      obtain ⟨g1, g2⟩ := cnts_nodes ks (d + 1) (k - 1) (by omega)
      refine ⟨?_, fun h => by rw [g2 h, hsz]; omega⟩
      rw [g1, h3, decide_eq_true (by omega : d ≤ 12), hsz]
      have : (decide (((1 + FExp.sizes ks : Nat) : Int) ≤ k)) = decide ((FExp.sizes ks : Int) ≤ k - 1) := by
        rw [Bool.eq_iff_iff]; simp; omega
      rw [this]; simp [FExp.kids]
theorem cnts_nodes : ∀ (l : List FExp) (d : Nat) (k : Int), 0 ≤ k → (FExp.cnts d k l).1 = (decide ((FExp.sizes l : Int) ≤ k) && (l.flatMap fun e => (Part.exp e).nodes d).all nodeOk) ∧ ((FExp.cnts d k l).1 = true → (FExp.cnts d k l).2 = k - FExp.sizes l)
  | [], d, k, hk => by simp [FExp.cnts, FExp.sizes, hk]
  | e :: r, d, k, hk => by
    obtain ⟨g1, g2⟩ := cnt_nodes e d k hk
    rw [FExp.cnts, FExp.sizes, List.flatMap_cons, List.all_append]
    split
    · rename_i h
      rw [g2 h]
      rw [h] at g1
      have g1' := g1.symm
      simp only [Bool.and_eq_true, decide_eq_true_eq] at g1'
      obtain ⟨q1, q2⟩ := cnts_nodes r d (k - e.size) (by omega)
      refine ⟨?_, fun h => by rw [q2 h]; omega⟩
      rw [q1, g1'.2]
      have : (decide (((e.size + FExp.sizes r : Nat) : Int) ≤ k)) = decide ((FExp.sizes r : Int) ≤ k - e.size) := by
        rw [Bool.eq_iff_iff]; simp; omega
      rw [this]; simp
    · rename_i h
      rw [Bool.not_eq_true] at h
      refine ⟨?_, fun h => by cases h⟩
      rw [h] at g1
      cases ha : ((Part.exp e).nodes d).all nodeOk with
      | false => simp
      | true =>
        rw [ha] at g1
        simp only [Bool.and_true] at g1
        have := of_decide_eq_false g1.symm
        rw [decide_eq_false (by omega)]; rfl
end

def leftO (k : Int) : AObj := .box 3 [.int .i64 k]

set_option maxRecDepth 10000 in
set_option maxHeartbeats 1000000 in
theorem refCount_spec (lb : Nat) : ∀ (n : Nat) (e : FExp) (dd d : Nat) (k : Int) (s : Store), e.size ≤ n → e.size ≤ big → (∀ x ∈ (Part.exp e).nodes dd, x.2.short) → 0 ≤ k → k ≤ 120 → d ≤ 13 → s lb = some (leftO k) →
    ACalls Try.prog 67 [e.av, .int .i64 (d : Int), .ptr lb 0] s (fun o s' => o = .ret (.bool (FExp.cnt d k e).1) ∧ s' = s.set lb (leftO (FExp.cnt d k e).2)) := by
  intro n
  induction n with
  | zero => intro e dd d k s h; have := e.size_pos; omega
  | succ n ih =>
    intro e dd d k s hn hbig hsh hk0 hk hd hs
    have hlen := e.kids_length
    have hkl := e.kav_length
    have hb : big = 1099511627776 := rfl
    have het : e.text.length < 9223372036854775807 := hsh (dd, .exp e) (by rw [Part.nodes_eq]; exact List.mem_cons_self)
    refine ACalls.of_CW tysOk call67 Try.func67 rfl rfl ?_
    refine CW.seqCut [(1, .int .i64 (d : Int)), (2, .ptr lb 0), (3, .fptr e.cells 0)] s ?_ ?_
    · repeat (first | refine CW.reg (RL.run tysOk rfl (RL.nil ?_)))
      exact ⟨rfl, (by repeat (first | exact trivial | refine ⟨⟨_, rfl, AVle.refl _⟩, ?_⟩)), Store.sub_refl _⟩
    refine CW.seqCut [(1, .int .i64 (d : Int)), (2, .ptr lb 0), (3, .fptr e.cells 0)] (s.set lb (leftO (k - 1))) ?_ ?_
    · repeat (first | refine CW.reg ?_ | refine RL.step tysOk rfl rfl rfl rfl ?_ | refine RL.loadP tysOk rfl rfl rfl rfl rfl rfl (by assumption) rfl ?_)
      refine RL.storeP tysOk rfl rfl rfl rfl rfl rfl rfl rfl rfl hs rfl ?_
      repeat (first | refine RL.nil ?_)
      refine ⟨rfl, (by repeat (first | exact trivial | refine ⟨⟨_, rfl, AVle.refl _⟩, ?_⟩)), ?_⟩
      show Store.Sub (s.set lb (leftO (k - 1))) (s.set lb (leftO (IntKind.wrap .i64 (k - 1))))
      rw [i64_wrap (by omega) (by omega)]; exact Store.sub_refl _
    have hs1 : (s.set lb (leftO (k - 1))) lb = some (leftO (k - 1)) := Store.set_same _ _ _
    refine CW.seq ?_
    refine CW.seqCut [(1, .int .i64 (d : Int)), (2, .ptr lb 0), (3, .fptr e.cells 0), (26, .bool ((decide (k - 1 < 0) || decide (d > 12)) || !shapedB e))] (s.set lb (leftO (k - 1))) ?_ ?_
    · repeat' (first | refine CW.reg ?_ | refine RL.nil ?_ | refine RL.step tysOk rfl rfl rfl rfl ?_ | refine RL.skip rfl rfl rfl ?_ | refine RL.gstepF tysOk rfl rfl rfl rfl rfl rfl rfl (fun _ => ?_) (fun _ => ?_) | refine RL.loadP tysOk rfl rfl rfl rfl rfl rfl hs1 rfl ?_ | refine RL.callP rfl rfl rfl rfl rfl (refShaped_spec e _ het (by omega)) ?_)
      all_goals refine ⟨rfl, (by repeat (first | exact trivial | refine ⟨⟨_, rfl, AVle.refl _⟩, ?_⟩ | refine ⟨⟨_, rfl, AVle.of_eq (by (congr 1; rw [Bool.eq_iff_iff]; simp_all; (try omega)))⟩, ?_⟩)), Store.sub_refl _⟩
    have hcd := FExp.cnt_def d k e
    cases hc : (decide (k - 1 < 0) || decide (d > 12)) || !shapedB e with
    | true =>
      rw [hc, if_pos rfl] at hcd
      rw [hcd]
      repeat (first | with_reducible refine CW.seq ?_ | with_reducible refine andThen_normal ?_ | with_reducible refine andThen_ret ?_ | with_reducible refine CW.ret ?_ | refine CW.reg (RL.run tysOk rfl (RL.nil ?_)) | refine CW.condT rfl ?_)
      exact ⟨_, _, _, rfl, AVle.refl _, Store.sub_refl _, rfl, rfl⟩
    | false =>
      rw [hc, if_neg (by simp)] at hcd
      rw [hcd]
      simp only [Bool.or_eq_false_iff, decide_eq_false_iff_not] at hc
      repeat (first | with_reducible refine CW.seq ?_ | with_reducible refine andThen_normal ?_ | with_reducible refine CW.skip ?_ | with_reducible refine CW.block ?_ | refine CW.reg (RL.run tysOk rfl (RL.nil ?_)) | refine CW.condF rfl ?_)
      refine CW.loop (σ := Nat × Int) (fun q => [(1, .int .i64 (d : Int)), (2, .ptr lb 0), (3, .fptr e.cells 0), (7, .int .i64 (q.1 : Int))]) (fun q => s.set lb (leftO q.2))
        (fun q => q.1 ≤ e.kids.length ∧ 0 ≤ q.2 ∧ q.2 ≤ 120 ∧ FExp.cnts (d + 1) q.2 (e.kids.drop q.1) = FExp.cnts (d + 1) (k - 1) e.kids) (fun q => e.kids.length - q.1) (0, k - 1) ⟨by simp, by show 0 ≤ k - 1; omega, by show k - 1 ≤ 120; omega, rfl⟩ ?_ (Store.sub_refl _) ?_
      · exact (by repeat (first | exact trivial | refine ⟨⟨_, rfl, AVle.refl _⟩, ?_⟩))
      · rintro ⟨j, kq⟩ ⟨hj, h0, h120, hI⟩
        simp only at hj h0 h120 hI
        repeat (first | with_reducible refine CW.seq ?_ | with_reducible refine andThen_normal ?_ | refine CW.reg (RL.run tysOk rfl (RL.nil ?_)))
        refine CW.cond rfl (fun h => ?_) (fun h => ?_)
        · have hlt : j < e.kids.length := by rw [hkl] at h; simpa using h
          obtain ⟨c, hk1, hk', hks⟩ := FExp.kid_at hlt
          rw [drop_cons hk1, FExp.cnts] at hI
          have hshc : ∀ x ∈ (Part.exp c).nodes (dd + 1), x.2.short := fun x hx => hsh x (by rw [exp_nodes]; exact List.mem_cons_of_mem _ (List.mem_flatMap.2 ⟨c, List.mem_of_getElem? hk1, hx⟩))
          have hcall := ih c (dd + 1) (d + 1) kq (s.set lb (leftO kq)) (by omega) (by omega) hshc h0 h120 (by omega) (Store.set_same _ _ _)
          rw [Store.set_set] at hcall
          have hle := FExp.cnt_le c (d + 1) kq
          generalize FExp.cnt (d + 1) kq c = pk at hcall hle hI
          obtain ⟨b, k'⟩ := pk
          have hd1 : IntKind.wrap .i64 ((d : Int) + 1) = ((d + 1 : Nat) : Int) := i64_succ (by omega)
          cases b with
          | true =>
            obtain ⟨g0, g1⟩ := hle rfl
            repeat (first | with_reducible refine CW.seq ?_ | with_reducible refine andThen_normal ?_ | with_reducible refine CW.skip ?_ | with_reducible refine CW.block ?_ | refine CW.reg ?_ | refine RL.step tysOk rfl rfl rfl rfl ?_ | refine RL.idx tysOk _ rfl rfl rfl rfl rfl rfl rfl rfl rfl rfl rfl (by assumption) rfl ?_)
            rw [hd1]
            refine RL.call rfl rfl rfl rfl rfl hcall ?_ (fun _ _ ⟨h, _⟩ => by cases h)
            rintro _ _ ⟨⟨⟩, rfl⟩
            repeat (first | with_reducible refine andThen_normal ?_ | with_reducible refine inBlock_normal ?_ | with_reducible refine CW.skip ?_ | refine CW.reg (RL.run tysOk rfl (RL.nil ?_)) | refine RL.nil ?_ | refine CW.condF rfl ?_ | refine RL.step tysOk rfl rfl rfl rfl ?_)
            refine ⟨(j + 1, k'), ⟨hlt, g0, by show k' ≤ 120; simp only at g1; omega, by simpa using hI⟩, (by repeat (first | exact trivial | refine ⟨⟨_, rfl, AVle.refl _⟩, ?_⟩ | refine ⟨⟨_, rfl, AVle.of_eq (by (show AV.int .i64 (IntKind.wrap .i64 ((j : Int) + 1)) = .int .i64 ((j + 1 : Nat) : Int); rw [i64_succ (by omega)]))⟩, ?_⟩)), Store.sub_refl _, by show e.kids.length - (j + 1) < e.kids.length - j; omega⟩
          | false =>
            rw [← hI]
            repeat (first | with_reducible refine CW.seq ?_ | with_reducible refine andThen_normal ?_ | with_reducible refine CW.skip ?_ | with_reducible refine CW.block ?_ | refine CW.reg ?_ | refine RL.step tysOk rfl rfl rfl rfl ?_ | refine RL.idx tysOk _ rfl rfl rfl rfl rfl rfl rfl rfl rfl rfl rfl (by assumption) rfl ?_)
            rw [hd1]
            refine RL.call rfl rfl rfl rfl rfl hcall ?_ (fun _ _ ⟨h, _⟩ => by cases h)
            rintro _ _ ⟨⟨⟩, rfl⟩
            repeat (first | with_reducible refine CW.seq ?_ | with_reducible refine andThen_normal ?_ | with_reducible refine andThen_ret ?_ | with_reducible refine inBlock_ret ?_ | with_reducible refine CW.ret ?_ | refine CW.reg (RL.run tysOk rfl (RL.nil ?_)) | refine RL.nil ?_ | refine CW.condT rfl ?_ | refine RL.step tysOk rfl rfl rfl rfl ?_)
            exact ⟨_, _, _, rfl, AVle.refl _, Store.sub_refl _, rfl, rfl⟩
        · have hge : e.kids.length ≤ j := by rw [hkl] at h; simpa using h
          rw [List.drop_eq_nil_of_le hge, FExp.cnts] at hI
          rw [← hI]
          repeat (first | with_reducible refine CW.seq ?_ | with_reducible refine andThen_normal ?_ | with_reducible refine andThen_exit ?_ | with_reducible refine inBlock_here ?_ | with_reducible refine CW.ret ?_ | with_reducible refine CW.exit ?_ | refine CW.reg (RL.run tysOk rfl (RL.nil ?_)))
          exact ⟨_, _, _, rfl, AVle.refl _, Store.sub_refl _, rfl, rfl⟩
end Go.Proofs.Ytaafacnoddjhgaa

/- Contracts of the reference: Formed, CheckExp, All, DepthOf, Depth. -/
namespace Go.Proofs.Ytaafacnoddjhgaa
open Go.AE

theorem part_len : ∀ (e : FExp) (d : Nat), ((Part.exp e).nodes d).length = e.size := by
  intro e d
  exact Part.nodes_size _ _ _ (Nat.le_refl _)

theorem cnt_good (e : FExp) : (FExp.cnt 1 120 e).1 = goodB e := by
  rw [(cnt_nodes e 1 120 (by omega)).1, goodB, lookB, part_len]
  congr 1
  rw [Bool.eq_iff_iff]; simp; omega

set_option maxRecDepth 10000 in
theorem refFormed_spec (e : FExp) (s : Store) (h : e.Fair) : ACalls Try.prog 28 [e.av] s (fun o s' => o = .ret (.bool (goodB e)) ∧ s' = s) := by
  refine ACalls.of_CW tysOk call28 Try.func28 rfl rfl ?_
  repeat (first | with_reducible refine CW.seq ?_ | with_reducible refine andThen_normal ?_ | refine CW.reg (RL.run tysOk rfl (RL.nil ?_)) | refine CW.reg ?_)
  refine RL.alloc tysOk rfl rfl rfl rfl rfl rfl rfl (fun b hb => ?_)
  repeat (first | with_reducible refine CW.seq ?_ | with_reducible refine andThen_normal ?_ | refine CW.reg ?_ | refine RL.nil ?_ | refine RL.step tysOk rfl rfl rfl rfl ?_ | (refine RL.storeP tysOk rfl rfl rfl rfl rfl rfl rfl rfl rfl (Store.set_same _ _ _) rfl ?_; try with_reducible rw [Store.set_set]))
  refine RL.call rfl rfl rfl rfl rfl (refCount_spec b e.size e 1 1 120 _ (Nat.le_refl _) (Nat.le_of_lt h.size) h.short (by omega) (by omega) (by omega) (Store.set_same _ _ _)) ?_ (fun _ _ ⟨h, _⟩ => by cases h)
  rintro _ _ ⟨⟨⟩, rfl⟩
  rw [Store.set_set, cnt_good]
  repeat (first | with_reducible refine andThen_normal ?_ | with_reducible refine CW.ret ?_ | refine RL.nil ?_ | refine RL.step tysOk rfl rfl rfl rfl ?_)
  exact ⟨_, _, _, rfl, AVle.refl _, Store.sub_set _ _ _ hb, rfl, rfl⟩

set_option maxRecDepth 10000 in
theorem refCheckExp_spec (e : FExp) (s : Store) (h : e.Fair) : ACalls Try.prog 37 [e.av] s (fun o s' => o = .ret (err (goodB e)) ∧ s' = s) := by
  refine ACalls.of_CW tysOk call37 Try.func37 rfl rfl ?_
  repeat (first | with_reducible refine CW.seq ?_ | with_reducible refine andThen_normal ?_ | refine CW.reg (RL.run tysOk rfl (RL.nil ?_)) | refine CW.reg ?_ | refine RL.step tysOk rfl rfl rfl rfl ?_)
  refine RL.callP rfl rfl rfl rfl rfl (refFormed_spec e s h) ?_
  cases hg : goodB e with
  | false =>
    repeat (first | with_reducible refine CW.seq ?_ | with_reducible refine andThen_normal ?_ | with_reducible refine andThen_ret ?_ | with_reducible refine CW.ret ?_ | refine CW.reg (RL.run tysOk rfl (RL.nil ?_)) | refine RL.nil ?_ | refine CW.condT rfl ?_ | refine RL.step tysOk rfl rfl rfl rfl ?_)
    exact ⟨_, _, _, rfl, AVle.refl _, Store.sub_refl _, rfl, rfl⟩
  | true =>
    repeat (first | with_reducible refine CW.seq ?_ | with_reducible refine andThen_normal ?_ | with_reducible refine CW.ret ?_ | with_reducible refine CW.skip ?_ | refine CW.reg (RL.run tysOk rfl (RL.nil ?_)) | refine RL.nil ?_ | refine CW.condF rfl ?_ | refine RL.step tysOk rfl rfl rfl rfl ?_)
    exact ⟨_, _, _, rfl, AVle.refl _, Store.sub_refl _, rfl, rfl⟩

theorem exps_elem (l : List FExp) : ∀ y ∈ l.map FExp.av, elemOk 4 y = true := by
  intro y hy; simp only [List.mem_map] at hy; obtain ⟨z, -, rfl⟩ := hy; rfl

/-- The nodes of the first Kids, and the one itself. -/
def allUpto (e : FExp) (j : Nat) : List FExp := e :: (e.kids.take j).flatMap FExp.allE
theorem allUpto_succ {e k : FExp} {j : Nat} (h : e.kids[j]? = some k) : allUpto e (j + 1) = allUpto e j ++ k.allE := by
  unfold allUpto; rw [flatMap_take_succ _ h]; rfl
theorem allUpto_le (e : FExp) (j : Nat) : (allUpto e j).length ≤ e.size := by
  have := flatMap_take_le FExp.allE e.kids j
  rw [← allE_length, FExp.allE_eq]
  simp only [allUpto, List.length_cons]; omega
theorem allUpto_end {e : FExp} {j : Nat} (h : e.kids.length ≤ j) : allUpto e j = e.allE := by
  unfold allUpto; rw [List.take_of_length_le h, FExp.allE_eq]

set_option maxRecDepth 10000 in
theorem refAll_spec : ∀ (n : Nat) (e : FExp) (s : Store), e.size ≤ n → e.size ≤ big → ACalls Try.prog 52 [e.av] s (fun o s' => o = .ret (.slc 4 (e.allE.map FExp.av) .fro) ∧ s' = s) := by
  intro n
  induction n with
  | zero => intro e s h; have := e.size_pos; omega
  | succ n ih =>
    intro e s hn hbig
    have hlen := e.kids_length
    have hkl := e.kav_length
    have hb : big = 1099511627776 := rfl
    refine ACalls.of_CW tysOk call52 Try.func52 rfl rfl ?_
    repeat (first | with_reducible refine CW.seq ?_ | with_reducible refine andThen_normal ?_ | with_reducible refine CW.block ?_ | refine CW.reg (RL.run tysOk rfl (RL.nil ?_)))
    refine CW.loop (σ := Nat × Own) (fun q => [(1, .fptr e.cells 0), (3, .slc 4 ((allUpto e q.1).map FExp.av) q.2), (4, .int .i64 (q.1 : Int))])
      (fun q => rowOf s 32 4 (allUpto e q.1).length q.2) (fun q => q.1 ≤ e.kids.length ∧ OwnOk s 0 q.2) (fun q => e.kids.length - q.1) (0, .clip) ⟨by simp, trivial⟩ ?_ (Store.sub_refl _) ?_
    · exact (by repeat (first | exact trivial | refine ⟨⟨_, rfl, AVle.refl _⟩, ?_⟩))
    · rintro ⟨j, own⟩ ⟨hj, hok⟩
      simp only at hj hok
      repeat (first | with_reducible refine CW.seq ?_ | with_reducible refine andThen_normal ?_ | refine CW.reg (RL.run tysOk rfl (RL.nil ?_)))
      refine CW.cond rfl (fun h => ?_) (fun h => ?_)
      · have hlt : j < e.kids.length := by rw [hkl] at h; simpa using h
        obtain ⟨k, hk, hk', hks⟩ := FExp.kid_at hlt
        have hle := allUpto_le e (j + 1)
        rw [allUpto_succ hk, List.length_append] at hle
        repeat (first | with_reducible refine CW.seq ?_ | with_reducible refine andThen_normal ?_ | with_reducible refine CW.skip ?_ | with_reducible refine CW.block ?_ | refine CW.reg ?_ | refine RL.step tysOk rfl rfl rfl rfl ?_ | refine RL.idx tysOk _ rfl rfl rfl rfl rfl rfl rfl rfl rfl rfl rfl (by assumption) rfl ?_)
        refine RL.callP rfl rfl rfl rfl rfl (ih k _ (by omega) (by omega)) ?_
        refine RL.appendR tysOk rfl rfl rfl rfl rfl rfl rfl (by intro k; simp) rfl rfl rfl rfl (.inr rfl) rfl (exps_elem _) (n := (allUpto e j).length) ?_ ?_ (List.length_map ..).symm rfl (OwnOk.sub' hok) ?_
        · simp only [List.length_map]; show _ * 56 ≤ _; omega
        · simp only [List.length_map]; omega
        rintro own' h1
        repeat (first | with_reducible refine andThen_normal ?_ | with_reducible refine inBlock_normal ?_ | refine CW.reg (RL.run tysOk rfl (RL.nil ?_)) | refine RL.nil ?_ | refine RL.step tysOk rfl rfl rfl rfl ?_)
        refine ⟨(j + 1, own'), ⟨hlt, OwnOk.sub' h1⟩, (by repeat (first | exact trivial | refine ⟨⟨_, rfl, AVle.refl _⟩, ?_⟩ | refine ⟨⟨_, rfl, AVle.of_eq (by (first | (show AV.int .i64 (IntKind.wrap .i64 ((j : Int) + 1)) = .int .i64 ((j + 1 : Nat) : Int); rw [i64_succ (by omega)]) | (rw [allUpto_succ hk, List.map_append])))⟩, ?_⟩)), ?_, by show e.kids.length - (j + 1) < e.kids.length - j; omega⟩
        show Store.Sub (rowOf s _ 4 _ own') _
        rw [allUpto_succ hk, List.length_append, List.length_map, List.length_map]
        exact Store.sub_refl _
      · have hge : e.kids.length ≤ j := by rw [hkl] at h; simpa using h
        repeat (first | with_reducible refine CW.seq ?_ | with_reducible refine andThen_normal ?_ | with_reducible refine andThen_exit ?_ | with_reducible refine inBlock_here ?_ | with_reducible refine CW.ret ?_ | with_reducible refine CW.exit ?_ | refine CW.reg (RL.run tysOk rfl (RL.nil ?_)))
        refine ⟨_, _, s, rfl, AVle.fro, rowOf_sub hok, ?_, rfl⟩
        rw [allUpto_end hge]

mutual
/-- The depth of an expression. -/
def FExp.dep : FExp → Nat
  | .mk _ _ _ ks => FExp.deps ks + 1
def FExp.deps : List FExp → Nat
  | [] => 0
  | k :: r => max (FExp.dep k) (FExp.deps r)
end
theorem FExp.dep_def (e : FExp) : e.dep = FExp.deps e.kids + 1 := by cases e; rw [FExp.dep]; rfl
mutual
theorem dep_size : ∀ (e : FExp), e.dep ≤ e.size
  | .mk _ _ _ ks => by rw [FExp.dep, FExp.size]; have := deps_size ks; omega
theorem deps_size : ∀ (l : List FExp), FExp.deps l ≤ FExp.sizes l
  | [] => Nat.le_refl _
  | k :: r => by rw [FExp.deps, FExp.sizes]; have := dep_size k; have := deps_size r; omega
end

set_option maxRecDepth 10000 in
theorem refDepthOf_spec : ∀ (n : Nat) (e : FExp) (s : Store), e.size ≤ n → e.size ≤ big → ACalls Try.prog 73 [e.av] s (fun o s' => o = .ret (.int .i64 (e.dep : Int)) ∧ s' = s) := by
  intro n
  induction n with
  | zero => intro e s h; have := e.size_pos; omega
  | succ n ih =>
    intro e s hn hbig
    have hlen := e.kids_length
    have hkl := e.kav_length
    have hb : big = 1099511627776 := rfl
    refine ACalls.of_CW tysOk call73 Try.func73 rfl rfl ?_
    repeat (first | with_reducible refine CW.seq ?_ | with_reducible refine andThen_normal ?_ | with_reducible refine CW.block ?_ | refine CW.reg (RL.run tysOk rfl (RL.nil ?_)))
    refine CW.loop (σ := Nat × Nat) (fun q => [(1, .fptr e.cells 0), (3, .int .i64 (q.2 : Int)), (4, .int .i64 (q.1 : Int))])
      (fun _ => s) (fun q => q.1 ≤ e.kids.length ∧ max q.2 (FExp.deps (e.kids.drop q.1)) = FExp.deps e.kids) (fun q => e.kids.length - q.1) (0, 0) ⟨by simp, by simp⟩ ?_ (Store.sub_refl _) ?_
    · exact (by repeat (first | exact trivial | refine ⟨⟨_, rfl, AVle.refl _⟩, ?_⟩))
    · rintro ⟨j, m⟩ ⟨hj, hI⟩
      simp only at hj hI
      repeat (first | with_reducible refine CW.seq ?_ | with_reducible refine andThen_normal ?_ | refine CW.reg (RL.run tysOk rfl (RL.nil ?_)))
      refine CW.cond rfl (fun h => ?_) (fun h => ?_)
      · have hlt : j < e.kids.length := by rw [hkl] at h; simpa using h
        obtain ⟨k, hk, hk', hks⟩ := FExp.kid_at hlt
        rw [drop_cons hk, FExp.deps] at hI
        repeat (first | with_reducible refine CW.seq ?_ | with_reducible refine andThen_normal ?_ | with_reducible refine CW.skip ?_ | with_reducible refine CW.block ?_ | refine CW.reg ?_ | refine RL.step tysOk rfl rfl rfl rfl ?_ | refine RL.idx tysOk _ rfl rfl rfl rfl rfl rfl rfl rfl rfl rfl rfl (by assumption) rfl ?_)
        refine RL.callP rfl rfl rfl rfl rfl (ih k _ (by omega) (by omega)) ?_
        repeat (first | with_reducible refine andThen_normal ?_ | with_reducible refine inBlock_normal ?_ | refine CW.reg (RL.run tysOk rfl (RL.nil ?_)) | refine RL.nil ?_ | refine RL.step tysOk rfl rfl rfl rfl ?_ | refine RL.stepX tysOk rfl rfl rfl rfl ?_)
        refine ⟨(j + 1, max m k.dep), ⟨hlt, by simp only; omega⟩, (by repeat (first | exact trivial | refine ⟨⟨_, rfl, AVle.refl _⟩, ?_⟩ | refine ⟨⟨_, rfl, AVle.of_eq (by (first | (show AV.int .i64 (IntKind.wrap .i64 ((j : Int) + 1)) = .int .i64 ((j + 1 : Nat) : Int); rw [i64_succ (by omega)]) | (congr 1; simp only; omega)))⟩, ?_⟩)), Store.sub_refl _, by show e.kids.length - (j + 1) < e.kids.length - j; omega⟩
      · have hge : e.kids.length ≤ j := by rw [hkl] at h; simpa using h
        rw [List.drop_eq_nil_of_le hge, FExp.deps] at hI
        have hds := deps_size e.kids
        have hsz := e.size_def
        repeat (first | with_reducible refine CW.seq ?_ | with_reducible refine andThen_normal ?_ | with_reducible refine andThen_exit ?_ | with_reducible refine inBlock_here ?_ | with_reducible refine CW.ret ?_ | with_reducible refine CW.exit ?_ | refine CW.reg (RL.run tysOk rfl (RL.nil ?_)))
        refine ⟨_, _, s, rfl, AVle.refl _, Store.sub_refl _, ?_, rfl⟩
        rw [FExp.dep_def, i64_wrap (by omega) (by omega)]
        congr 2
        simp only; omega

mutual
theorem maxD_nodes : ∀ (e : FExp) (d m : Nat), 1 ≤ d → maxD m ((Part.exp e).nodes d) = max m (d - 1 + e.dep)
  | .mk o n t ks, d, m, hd => by
    rw [exp_nodes]
    show maxD (max m d) _ = _
    have := maxDs_nodes ks (d + 1) (max m d) (by omega) (by omega)
    rw [FExp.dep]
    show maxD (max m d) (ks.flatMap _) = _
    rw [this]; omega
theorem maxDs_nodes : ∀ (l : List FExp) (d m : Nat), 1 ≤ d → d - 1 ≤ m → maxD m (l.flatMap fun e => (Part.exp e).nodes d) = max m (d - 1 + FExp.deps l)
  | [], d, m, h1, h2 => by simp [maxD, FExp.deps]; omega
  | k :: r, d, m, h1, h2 => by
    rw [List.flatMap_cons]
    have e1 := maxD_nodes k d m h1
    have e2 := maxDs_nodes r d (max m (d - 1 + k.dep)) h1 (by omega)
    have : maxD m ((Part.exp k).nodes d ++ r.flatMap fun e => (Part.exp e).nodes d) = maxD (maxD m ((Part.exp k).nodes d)) (r.flatMap fun e => (Part.exp e).nodes d) := by simp [maxD]
    rw [this, e1, e2, FExp.deps]; omega
end
theorem depthE_dep (e : FExp) : depthE e = e.dep := by unfold depthE; rw [maxD_nodes e 1 0 (by omega)]; omega

set_option maxRecDepth 10000 in
theorem refDepth_spec (e : FExp) (s : Store) (h : e.Fair) :
    ACalls Try.prog 35 [e.av] s (fun o s' => o = .ret (.tup [.int .i64 (if goodB e then (depthE e : Int) else 0), err (goodB e)]) ∧ s' = s) := by
  refine ACalls.of_CW tysOk call35 Try.func35 rfl rfl ?_
  repeat (first | with_reducible refine CW.seq ?_ | with_reducible refine andThen_normal ?_ | refine CW.reg (RL.run tysOk rfl (RL.nil ?_)) | refine CW.reg ?_ | refine RL.step tysOk rfl rfl rfl rfl ?_)
  refine RL.callP rfl rfl rfl rfl rfl (refFormed_spec e s h) ?_
  cases hg : goodB e with
  | false =>
    repeat (first | with_reducible refine CW.seq ?_ | with_reducible refine andThen_normal ?_ | with_reducible refine andThen_ret ?_ | with_reducible refine CW.ret ?_ | refine CW.reg (RL.run tysOk rfl (RL.nil ?_)) | refine RL.nil ?_ | refine CW.condT rfl ?_ | refine RL.step tysOk rfl rfl rfl rfl ?_)
    exact ⟨_, _, _, rfl, AVle.refl _, Store.sub_refl _, rfl, rfl⟩
  | true =>
    repeat (first | with_reducible refine CW.seq ?_ | with_reducible refine andThen_normal ?_ | with_reducible refine CW.skip ?_ | refine CW.reg ?_ | refine RL.nil ?_ | refine CW.condF rfl ?_ | refine RL.step tysOk rfl rfl rfl rfl ?_)
    refine RL.callP rfl rfl rfl rfl rfl (refDepthOf_spec _ e s (Nat.le_refl _) (Nat.le_of_lt h.size)) ?_
    repeat (first | with_reducible refine andThen_normal ?_ | with_reducible refine CW.ret ?_ | refine RL.nil ?_ | refine RL.step tysOk rfl rfl rfl rfl ?_)
    exact ⟨_, _, _, rfl, AVle.refl _, Store.sub_refl _, by rw [depthE_dep]; rfl, rfl⟩
end Go.Proofs.Ytaafacnoddjhgaa

/- How the arguments of a law are read. -/
namespace Go.Proofs.Ytaafacnoddjhgaa
open Go.AE Go.ChangeShapes Go.WideShapes Go.ChangeAt Go.RowKit

theorem val_str {P : Program} {W : World} {r : Reach} {b : Nat} {t : TypeId} {v : Value} (ht : P.underlying t = some .string) (h : Value.okWide P W r b t v) : v.cells = #[v] := by
  obtain ⟨s, rfl⟩ := okWide_string ht h
  rfl

theorem val_slice {P : Program} {W : World} {r : Reach} {b : Nat} {t e : TypeId} {v : Value} (ht : P.underlying t = some (.slice e)) (h : Value.okWide P W r b t v) : v.cells = #[v] := by
  obtain ⟨a, n, c, rfl⟩ := okWide_slice ht h
  rfl

theorem val_agg {P : Program} {W : World} {r : Reach} {b : Nat} {t : TypeId} {fs : Array Field} {v : Value} (ht : P.underlying t = some (.struct fs)) (h : Value.okWide P W r b t v) : ∃ cs, v = .agg cs := by
  obtain ⟨cs, h1, -⟩ := okWide_struct ht h
  exact ⟨cs, h1⟩

theorem rel_one {w : World} {p : Prot} {v : Value} {x : AV} (hv : v.cells = #[v]) (h : RelL w p v.cells.toList [x]) : Rel w p v x := by
  rw [hv] at h
  cases h with
  | cons _ _ _ _ h _ => exact h

theorem rel_agg {w : World} {p : Prot} {v : Value} {xs : List AV} (hv : ∃ cs, v = .agg cs) (h : RelL w p v.cells.toList xs) : Rel w p v (.agg xs) := by
  obtain ⟨cs, rfl⟩ := hv
  exact .agg _ _ h

theorem sum_ge (l : List Str) : l.length ≤ (l.map fun s => s.length + 1).sum := by
  induction l with
  | nil => simp
  | cons a l ih => simp only [List.map_cons, List.sum_cons, List.length_cons]; omega

end Go.Proofs.Ytaafacnoddjhgaa

/- General rules: known guards in drawn regions, rows that grow in stores that are known in part. -/
namespace Go.Proofs.Ytaafacnoddjhgaa
open Go.AE

theorem RD.knowT {P : Program} {Γ : Tys} {N : Nat} {ops : Array Oper} {Q : AEx → Env → Store → Prop} {D : Nat → Bool} {env : Env} {s : Store} (t : Nat) {b : Bool} (hv : env.get? t = some (.bool b)) (he : b = true)
    (h : RD P Γ N ops Q D ((t, .bool true) :: env) s) : RD P Γ N ops Q D env s := by
  subst he
  refine RD.congr _ (fun x => ?_) h
  show (if Nat.beq t x then _ else _) = _
  split
  · rename_i hx
    rw [← hv, Nat.eq_of_beq_eq_true hx]
  · rfl
theorem RD.knowF {P : Program} {Γ : Tys} {N : Nat} {ops : Array Oper} {Q : AEx → Env → Store → Prop} {D : Nat → Bool} {env : Env} {s : Store} (t : Nat) {b : Bool} (hv : env.get? t = some (.bool b)) (he : b = false)
    (h : RD P Γ N ops Q D ((t, .bool false) :: env) s) : RD P Γ N ops Q D env s := by
  subst he
  refine RD.congr _ (fun x => ?_) h
  show (if Nat.beq t x then _ else _) = _
  split
  · rename_i hx
    rw [← hv, Nat.eq_of_beq_eq_true hx]
  · rfl

/-! ### A row that grows in a store that is known in part -/
section
variable {s t : Store} {e e2 : TypeId} {sz n m sz2 n2 x : Nat} {own own' own2 : Own} {o : AObj}

theorem row_ne (h : RowIs t e sz n own) (hx : t x = some o) (ho : notRow o = true) : ∀ b, own = .own b → x ≠ b := fun b hb he => by
  subst hb; subst he
  simp only [RowIs] at h; rw [h] at hx; cases hx; cases ho
theorem base_keep (hx : t x = some o) (hne : ∀ b, own = .own b → x ≠ b) : rowBase t own x = some o := by
  cases own with
  | own b => exact (Store.del_ne _ (hne b rfl)).trans hx
  | nil => exact hx
  | clip => exact hx
  | fro => exact hx
theorem grow_at (hok : OwnOk (rowBase t own) n own') (hx : rowBase t own x = some o) : rowOf (rowBase t own) e sz m own' x = some o := by
  cases own' with
  | own b => exact (Store.set_ne _ _ (fun he => by subst he; have : rowBase t own x = none := hok; rw [hx] at this; cases this)).trans hx
  | nil => exact hx
  | clip => exact hx
  | fro => exact hok.elim
theorem grow_keep (h : RowIs t e2 sz2 n2 own) (hok : OwnOk (rowBase t own) n own') (hx : t x = some o) (ho : notRow o = true) : rowOf (rowBase t own) e sz m own' x = some o := grow_at hok (base_keep hx (row_ne h hx ho))
theorem grow_row (h2 : RowIs t e2 sz2 n2 own2) (hd : ∀ b, own = .own b → own2 ≠ .own b) (hok : OwnOk (rowBase t own) n own') : RowIs (rowOf (rowBase t own) e sz m own') e2 sz2 n2 own2 := by
  cases own2 with
  | own b2 => exact grow_at hok (base_keep h2 (fun b hb he => hd b hb (by rw [he])))
  | nil => trivial
  | clip => trivial
  | fro => exact h2
theorem grow_dis (h2 : RowIs t e2 sz2 n2 own2) (hd : ∀ b, own = .own b → own2 ≠ .own b) (hok : OwnOk (rowBase t own) n own') : ∀ b, own' = .own b → own2 ≠ .own b := fun b hb hb2 => by
  subst hb; subst hb2
  have h1 : rowBase t own b = some _ := base_keep h2 (fun c hc he => hd c hc (by rw [he]))
  have h2 : rowBase t own b = none := hok
  rw [h1] at h2; cases h2
theorem grow_own (hok : OwnOk (rowBase t own) n own') : RowIs (rowOf (rowBase t own) e sz m own') e sz m own' := by
  cases own' with
  | own b => exact Store.set_same _ _ _
  | nil => trivial
  | clip => trivial
  | fro => exact hok
theorem grow_sub (hsub : Store.Sub s t) (hs : ∀ b, own = .own b → s b = none) (hok : OwnOk (rowBase t own) n own') : Store.Sub s (rowOf (rowBase t own) e sz m own') ∧ ∀ b, own' = .own b → s b = none := by
  have h1 : Store.Sub s (rowBase t own) := by
    cases own with
    | own b => exact Store.subDel hsub (hs b rfl)
    | nil => exact hsub
    | clip => exact hsub
    | fro => exact hsub
  have h2 : ∀ b, own' = .own b → s b = none := fun b hb => by
    subst hb
    have : rowBase t own b = none := hok
    rcases h1 b with q | q
    · rw [q]; exact this
    · exact q
  exact ⟨Store.subRow h1 (m := n) (by
    cases own' with
    | own b => exact h2 b rfl
    | nil => trivial
    | clip => trivial
    | fro => exact hok.elim), h2⟩
theorem set_row {b : Nat} {o' : AObj} (h : RowIs t e sz n own) (hx : t b = some o) (ho : notRow o = true) : RowIs (t.set b o') e sz n own := by
  cases own with
  | own c => exact (Store.set_ne _ _ (fun he => by subst he; simp only [RowIs] at h; rw [h] at hx; cases hx; cases ho)).trans h
  | nil => trivial
  | clip => trivial
  | fro => exact h
end

section
variable {P : Program} {Γ : Tys} {N : Nat} {Q : AEx → Env → Store → Prop} {env : Env} {s : Store} {l : List Oper} {m : Nat}
theorem RD.appendR (hΓ : TysOk P Γ) {i : Nat} {o : Oper} {d : Nat} {t t' e : TypeId} {x y : Operand} {it it' ie : TI} {sx sy n : Nat} {xs ys : List AV} {own oy : Own} (hr : readyL l.toArray m (idxs 0 l) = [i]) (ho : l.toArray[i]? = some o) (hd : o.dst = some d) (hN : Nat.blt d N = true)
    (hg : guardOf l.toArray (pickE env (looks l.toArray o)) o = some true) (hop : o.op = .call { callee := .builtin .append, args := #[x, y], argTypes := #[t, t'] }) (ht : Γ.get? t = some it) (htd : it.td = .slc e) (ht' : Γ.get? t' = some it') (htd' : ∀ k, it'.td ≠ .int k)
    (hie : Γ.get? e = some ie) (hx : ev (pickE env (looks l.toArray o)) x = some (.slc sx xs own)) (hy : ev (pickE env (looks l.toArray o)) y = some (.slc sy ys oy)) (hsx : sx = ie.size) (hsy : ys = [] ∨ sy = ie.size)
    (hzs' : Nat.beq ie.zero.cells.size ie.size = true) (hel : ∀ y ∈ ys, elemOk ie.size y = true) (hb : (xs.length + ys.length) * ie.bytes ≤ 140737488355328) (h63 : xs.length + ys.length ≤ 9223372036854775807) (hn : n = xs.length)
    {s₀ : Store} (hs : s₀ = rowOf s e ie.size n own) (hok : OwnOk s n own)
    (h : ∀ own', OwnOk s (xs.length + ys.length) own' → RD P Γ N l.toArray Q (dn (m ||| 2 ^ i)) ((d, .slc ie.size (xs ++ ys) own') :: env) (rowOf s e ie.size (xs.length + ys.length) own')) : RD P Γ N l.toArray Q (dn m) env s₀ := by
  subst hs
  subst hn
  refine RD.one hr ho hd hN hg (OW.appendR hΓ hop ht htd ht' htd' hie hx hy hsx hsy hzs' hel hb h63 rfl hok (X := fun _ _ => False)) ?_ (fun _ _ h => h.elim)
  rintro r s' ⟨own', h1, -, -, rfl, rfl⟩
  exact h own' h1
end

end Go.Proofs.Ytaafacnoddjhgaa

/- Expressions that weigh little are fair. -/
namespace Go.Proofs.Ytaafacnoddjhgaa
open Go.AE

mutual
theorem exp_light {W : Nat} : ∀ (e : FExp), e.weight ≤ W → e.size ≤ e.weight ∧ e.AllT (fun t => t.length ≤ W)
  | .mk o n t ks, h => by
    rw [FExp.weight] at h ⊢
    rw [FExp.size, FExp.AllT]
    have := exps_light ks (by omega : FExp.weights ks ≤ W)
    exact ⟨by omega, by omega, this.2⟩
theorem exps_light {W : Nat} : ∀ (l : List FExp), FExp.weights l ≤ W → FExp.sizes l ≤ FExp.weights l ∧ FExp.AllTs (fun t => t.length ≤ W) l
  | [], _ => ⟨Nat.le_refl _, trivial⟩
  | k :: r, h => by
    rw [FExp.weights] at h ⊢
    rw [FExp.sizes, FExp.AllTs]
    have h1 := exp_light k (by omega : k.weight ≤ W)
    have h2 := exps_light r (by omega : FExp.weights r ≤ W)
    exact ⟨by omega, h1.2, h2.2⟩
end
theorem exp_fair {e : FExp} (h : e.weight ≤ 1048576) : e.Fair := by
  obtain ⟨h1, h2⟩ := exp_light e h
  have hb : big = 1099511627776 := rfl
  refine ⟨by omega, fun x hx => ?_⟩
  obtain ⟨g, hg⟩ := nodes_exp hx
  have := AllT_iff.1 h2 x.2.expOf (mem_nodes_all hx)
  rw [hg] at this ⊢
  show g.text.length < _
  have h3 : g.text.length ≤ 1048576 := this
  omega

end Go.Proofs.Ytaafacnoddjhgaa

