import Derived.Test.YtaafacnoddjhgaaTys
/- Contracts of the layer 'shape' and of its reference: lists of strings. -/
namespace Go.Proofs.Ytaafacnoddjhgaa
open Go.AE

abbrev Str := List UInt8

/-- A list of strings. -/
def strs (l : List Str) : List AV := l.map .str

@[simp] theorem strs_length (l : List Str) : (strs l).length = l.length := by simp [strs]
theorem strs_get (l : List Str) (j : Nat) : (strs l)[j]? = l[j]?.map .str := by simp [strs]

/-- Where a string stands, from a place on. -/
def idxFrom (l : List Str) (s : Str) : Nat → Int := fun j => match (l.drop j).findIdx? (· == s) with
  | some k => ((j + k : Nat) : Int)
  | none => -1

theorem idxFrom_hit {l : List Str} {j : Nat} {x y : Str} (hy : l[j]? = some y) (h : (x == y) = true) : idxFrom l x j = (j : Int) := by
  have hlt := (List.getElem?_eq_some_iff.1 hy).1
  have hd : l.drop j = y :: l.drop (j + 1) := by rw [List.drop_eq_getElem_cons hlt]; congr; exact (List.getElem?_eq_some_iff.1 hy).2
  have hxy : x = y := by simpa using h
  simp [idxFrom, hd, List.findIdx?_cons, hxy]

theorem idxFrom_miss {l : List Str} {j : Nat} {x y : Str} (hy : l[j]? = some y) (h : (x == y) = false) : idxFrom l x j = idxFrom l x (j + 1) := by
  have hlt := (List.getElem?_eq_some_iff.1 hy).1
  have hd : l.drop j = y :: l.drop (j + 1) := by rw [List.drop_eq_getElem_cons hlt]; congr; exact (List.getElem?_eq_some_iff.1 hy).2
  have hxy : ¬ y = x := fun e => by subst e; simp at h
  simp only [idxFrom, hd, List.findIdx?_cons]
  have : (y == x) = false := by simpa using hxy
  rw [this]
  cases (l.drop (j + 1)).findIdx? (· == x) <;> simp [Nat.add_assoc, Nat.add_comm 1]

theorem idxFrom_end {l : List Str} {j : Nat} {x : Str} (h : l.length ≤ j) : idxFrom l x j = -1 := by
  simp [idxFrom, List.drop_eq_nil_of_le h]

set_option maxRecDepth 10000 in
theorem index1_spec (l : List Str) (own : Own) (x : Str) (s : Store) (hl : l.length < 9223372036854775807) :
    ACalls Try.prog 130 [.slc 1 (strs l) own, .str x] s (fun o s' => o = .ret (.int .i64 (idxFrom l x 0)) ∧ s' = s) := by
  refine ACalls.of_CW tysOk call130 Try.func130 rfl rfl ?_
  repeat (first | with_reducible refine CW.seq ?_ | with_reducible refine andThen_normal ?_ | with_reducible refine CW.block ?_ | refine CW.reg (RL.run tysOk rfl (RL.nil ?_)))
  refine CW.loop (σ := Nat) (fun j => [(0, .slc 1 (strs l) own), (1, .str x), (7, .int .i64 (strs l).length), (8, .int .i64 (j : Int))]) (fun _ => s) (fun j => j ≤ l.length ∧ idxFrom l x 0 = idxFrom l x j) (fun j => l.length - j) 0 ⟨by omega, rfl⟩ ?_ (Store.sub_refl _) ?_
  · exact ⟨⟨_, rfl, AVle.refl _⟩, ⟨_, rfl, AVle.refl _⟩, ⟨_, rfl, AVle.refl _⟩, ⟨_, rfl, AVle.refl _⟩, trivial⟩
  · rintro j ⟨hj, hI⟩
    repeat (first | with_reducible refine CW.seq ?_ | with_reducible refine andThen_normal ?_ | refine CW.reg (RL.run tysOk rfl (RL.nil ?_)))
    refine CW.cond rfl (fun h => ?_) (fun h => ?_)
    · have hlt : j < l.length := by simpa using h
      obtain ⟨y, hy⟩ : ∃ y, l[j]? = some y := ⟨_, List.getElem?_eq_getElem hlt⟩
      repeat (first | with_reducible refine CW.seq ?_ | with_reducible refine andThen_normal ?_ | with_reducible refine CW.skip ?_ | with_reducible refine CW.block ?_ | refine CW.reg (RL.run tysOk rfl (RL.nil ?_)) | refine CW.reg ?_ | refine RL.step tysOk rfl rfl rfl rfl ?_)
      refine RL.idx tysOk j rfl rfl rfl rfl rfl rfl rfl rfl rfl rfl rfl (by rw [strs_get, hy]; rfl) rfl ?_
      repeat (first | with_reducible refine andThen_normal ?_ | refine RL.nil ?_ | refine RL.step tysOk rfl rfl rfl rfl ?_)
      refine CW.cond rfl (fun h1 => ?_) (fun h1 => ?_)
      · repeat (first | with_reducible refine CW.seq ?_ | with_reducible refine andThen_normal ?_ | with_reducible refine andThen_ret ?_ | with_reducible refine inBlock_ret ?_ | with_reducible refine CW.ret ?_ | refine CW.reg (RL.run tysOk rfl (RL.nil ?_)))
        refine ⟨_, _, _, rfl, AVle.refl _, Store.sub_refl _, ?_, rfl⟩
        rw [hI, idxFrom_hit hy h1]
      · repeat (first | with_reducible refine andThen_normal ?_ | with_reducible refine inBlock_normal ?_ | with_reducible refine CW.skip ?_ | refine CW.reg (RL.run tysOk rfl (RL.nil ?_)))
        refine ⟨j + 1, ⟨hlt, ?_⟩, ⟨⟨_, rfl, AVle.refl _⟩, ⟨_, rfl, AVle.refl _⟩, ⟨_, rfl, AVle.refl _⟩, ⟨_, rfl, AVle.of_eq ?_⟩, trivial⟩, Store.sub_refl _, by omega⟩
        · rw [hI, idxFrom_miss hy h1]
        · rw [i64_succ (by omega)]
    · repeat (first | with_reducible refine CW.seq ?_ | with_reducible refine andThen_normal ?_ | with_reducible refine andThen_exit ?_ | with_reducible refine inBlock_here ?_ | with_reducible refine CW.ret ?_ | with_reducible refine CW.exit ?_ | refine CW.reg (RL.run tysOk rfl (RL.nil ?_)))
      refine ⟨_, _, _, rfl, AVle.refl _, Store.sub_refl _, ?_, rfl⟩
      have : l.length ≤ j := by simpa using h
      rw [hI, idxFrom_end this]

set_option maxRecDepth 10000 in
theorem refIndex_spec (l : List Str) (own : Own) (x : Str) (s : Store) (hl : l.length < 9223372036854775807) :
    ACalls Try.prog 71 [.slc 1 (strs l) own, .str x] s (fun o s' => o = .ret (.int .i64 (idxFrom l x 0)) ∧ s' = s) := by
  refine ACalls.of_CW tysOk call71 Try.func71 rfl rfl ?_
  repeat (first | with_reducible refine CW.seq ?_ | with_reducible refine andThen_normal ?_ | with_reducible refine CW.block ?_ | refine CW.reg (RL.run tysOk rfl (RL.nil ?_)))
  refine CW.loop (σ := Nat) (fun j => [(0, .slc 1 (strs l) own), (1, .str x), (5, .int .i64 (j : Int))]) (fun _ => s) (fun j => j ≤ l.length ∧ idxFrom l x 0 = idxFrom l x j) (fun j => l.length - j) 0 ⟨by omega, rfl⟩ ?_ (Store.sub_refl _) ?_
  · exact ⟨⟨_, rfl, AVle.refl _⟩, ⟨_, rfl, AVle.refl _⟩, ⟨_, rfl, AVle.refl _⟩, trivial⟩
  · rintro j ⟨hj, hI⟩
    repeat (first | with_reducible refine CW.seq ?_ | with_reducible refine andThen_normal ?_ | refine CW.reg (RL.run tysOk rfl (RL.nil ?_)))
    refine CW.cond rfl (fun h => ?_) (fun h => ?_)
    · have hlt : j < l.length := by simpa using h
      obtain ⟨y, hy⟩ : ∃ y, l[j]? = some y := ⟨_, List.getElem?_eq_getElem hlt⟩
      repeat (first | with_reducible refine CW.seq ?_ | with_reducible refine andThen_normal ?_ | with_reducible refine CW.skip ?_ | with_reducible refine CW.block ?_ | refine CW.reg ?_ | refine RL.step tysOk rfl rfl rfl rfl ?_)
      refine RL.idx tysOk j rfl rfl rfl rfl rfl rfl rfl rfl rfl rfl rfl (by rw [strs_get, hy]; rfl) rfl ?_
      repeat (first | with_reducible refine andThen_normal ?_ | refine RL.nil ?_ | refine RL.step tysOk rfl rfl rfl rfl ?_)
      refine CW.cond rfl (fun h1 => ?_) (fun h1 => ?_)
      · repeat (first | with_reducible refine CW.seq ?_ | with_reducible refine andThen_normal ?_ | with_reducible refine andThen_ret ?_ | with_reducible refine inBlock_ret ?_ | with_reducible refine CW.ret ?_ | refine CW.reg (RL.run tysOk rfl (RL.nil ?_)))
        refine ⟨_, _, _, rfl, AVle.refl _, Store.sub_refl _, ?_, rfl⟩
        rw [hI, idxFrom_hit hy (by rw [BEq.comm]; exact h1)]
      · repeat (first | with_reducible refine andThen_normal ?_ | with_reducible refine inBlock_normal ?_ | with_reducible refine CW.skip ?_ | refine CW.reg (RL.run tysOk rfl (RL.nil ?_)))
        refine ⟨j + 1, ⟨hlt, ?_⟩, ⟨⟨_, rfl, AVle.refl _⟩, ⟨_, rfl, AVle.refl _⟩, ⟨_, rfl, AVle.of_eq ?_⟩, trivial⟩, Store.sub_refl _, by omega⟩
        · rw [hI, idxFrom_miss hy (by rw [BEq.comm]; exact h1)]
        · rw [i64_succ (by omega)]
    · repeat (first | with_reducible refine CW.seq ?_ | with_reducible refine andThen_normal ?_ | with_reducible refine andThen_exit ?_ | with_reducible refine inBlock_here ?_ | with_reducible refine CW.ret ?_ | with_reducible refine CW.exit ?_ | refine CW.reg (RL.run tysOk rfl (RL.nil ?_)))
      refine ⟨_, _, _, rfl, AVle.refl _, Store.sub_refl _, ?_, rfl⟩
      have : l.length ≤ j := by simpa using h
      rw [hI, idxFrom_end this]

theorem idxFrom_nonneg (l : List Str) (x : Str) : decide (idxFrom l x 0 ≥ 0) = l.contains x := by
  simp only [idxFrom, List.drop_zero]
  cases h : l.findIdx? (· == x) with
  | none =>
    have h' := List.findIdx?_eq_none_iff.1 h
    have : l.contains x = false := by
      rw [Bool.eq_false_iff]; intro hc
      have hm : x ∈ l := by simpa using hc
      have := h' x hm; simp at this
    rw [this]; rfl
  | some k =>
    obtain ⟨hk, h1, -⟩ := List.findIdx?_eq_some_iff_getElem.1 h
    have hm : x ∈ l := by
      have : l[k] = x := by simpa using h1
      rw [← this]; exact List.getElem_mem hk
    have : l.contains x = true := by simpa using hm
    rw [this]; simp

set_option maxRecDepth 10000 in
theorem refHas_spec (l : List Str) (own : Own) (x : Str) (s : Store) (hl : l.length < 9223372036854775807) :
    ACalls Try.prog 33 [.slc 1 (strs l) own, .str x] s (fun o s' => o = .ret (.bool (l.contains x)) ∧ s' = s) := by
  refine ACalls.of_CW tysOk call33 Try.func33 rfl rfl ?_
  repeat (first | with_reducible refine CW.seq ?_ | with_reducible refine andThen_normal ?_ | refine CW.reg (RL.run tysOk rfl (RL.nil ?_)) | refine CW.reg ?_ | refine RL.step tysOk rfl rfl rfl rfl ?_)
  refine RL.callP rfl rfl rfl rfl rfl (refIndex_spec l own x s hl) ?_
  repeat (first | with_reducible refine andThen_normal ?_ | with_reducible refine CW.ret ?_ | refine RL.nil ?_ | refine RL.step tysOk rfl rfl rfl rfl ?_)
  exact ⟨_, _, _, rfl, AVle.refl _, Store.sub_refl _, by rw [idxFrom_nonneg], rfl⟩

set_option maxRecDepth 10000 in
theorem contains1_spec (l : List Str) (own : Own) (x : Str) (s : Store) (hl : l.length < 9223372036854775807) :
    ACalls Try.prog 120 [.slc 1 (strs l) own, .str x] s (fun o s' => o = .ret (.bool (l.contains x)) ∧ s' = s) := by
  refine ACalls.of_CW tysOk call120 Try.func120 rfl rfl ?_
  repeat (first | with_reducible refine CW.seq ?_ | with_reducible refine andThen_normal ?_ | refine CW.reg (RL.run tysOk rfl (RL.nil ?_)) | refine CW.reg ?_ | refine RL.step tysOk rfl rfl rfl rfl ?_)
  refine RL.callP rfl rfl rfl rfl rfl (index1_spec l own x s hl) ?_
  repeat (first | with_reducible refine andThen_normal ?_ | with_reducible refine CW.ret ?_ | refine RL.nil ?_ | refine RL.step tysOk rfl rfl rfl rfl ?_)
  exact ⟨_, _, _, rfl, AVle.refl _, Store.sub_refl _, by rw [idxFrom_nonneg], rfl⟩

/-- The first strings of one list are those of another. -/
def sameTo (a b : List Str) (j : Nat) : Prop := ∀ i, i < j → a[i]? = b[i]?

set_option maxRecDepth 10000 in
theorem sameTexts_spec (a b : List Str) (oa ob : Own) (s : Store) (hl : a.length < 9223372036854775807) :
    ACalls Try.prog 23 [.slc 1 (strs a) oa, .slc 1 (strs b) ob] s (fun o s' => o = .ret (.bool (a == b)) ∧ s' = s) := by
  refine ACalls.of_CW tysOk call23 Try.func23 rfl rfl ?_
  repeat (first | with_reducible refine CW.seq ?_ | with_reducible refine andThen_normal ?_ | refine CW.reg (RL.run tysOk rfl (RL.nil ?_)))
  refine CW.cond rfl (fun h => ?_) (fun h => ?_)
  · repeat (first | with_reducible refine CW.seq ?_ | with_reducible refine andThen_normal ?_ | with_reducible refine andThen_ret ?_ | with_reducible refine CW.ret ?_ | refine CW.reg (RL.run tysOk rfl (RL.nil ?_)))
    refine ⟨_, _, _, rfl, AVle.refl _, Store.sub_refl _, ?_, rfl⟩
    have hne : a.length ≠ b.length := fun e => by simp [e] at h
    have : (a == b) = false := by
      rw [Bool.eq_false_iff]; intro hc
      have : a = b := by simpa using hc
      exact hne (by rw [this])
    rw [this]
  · have hlen : a.length = b.length := by simp at h; omega
    repeat (first | with_reducible refine CW.seq ?_ | with_reducible refine andThen_normal ?_ | with_reducible refine CW.skip ?_ | with_reducible refine CW.block ?_ | refine CW.reg (RL.run tysOk rfl (RL.nil ?_)))
    refine CW.loop (σ := Nat) (fun j => [(0, .slc 1 (strs a) oa), (1, .slc 1 (strs b) ob), (5, .int .i64 (j : Int))]) (fun _ => s) (fun j => j ≤ a.length ∧ sameTo a b j) (fun j => a.length - j) 0 ⟨by omega, fun i hi => by omega⟩ ?_ (Store.sub_refl _) ?_
    · exact ⟨⟨_, rfl, AVle.refl _⟩, ⟨_, rfl, AVle.refl _⟩, ⟨_, rfl, AVle.refl _⟩, trivial⟩
    · rintro j ⟨hj, hI⟩
      repeat (first | with_reducible refine CW.seq ?_ | with_reducible refine andThen_normal ?_ | refine CW.reg (RL.run tysOk rfl (RL.nil ?_)))
      refine CW.cond rfl (fun h => ?_) (fun h => ?_)
      · have hlt : j < a.length := by simpa using h
        obtain ⟨y, hy⟩ : ∃ y, a[j]? = some y := ⟨_, List.getElem?_eq_getElem hlt⟩
        obtain ⟨z, hz⟩ : ∃ z, b[j]? = some z := ⟨_, List.getElem?_eq_getElem (by omega)⟩
        repeat (first | with_reducible refine CW.seq ?_ | with_reducible refine andThen_normal ?_ | with_reducible refine CW.skip ?_ | with_reducible refine CW.block ?_ | refine CW.drw tysOk mixed rfl (RD.run rfl ?_))
        refine RD.idx 2 j rfl rfl rfl rfl rfl rfl rfl rfl rfl rfl rfl rfl rfl (by rw [strs_get, hy]; rfl) rfl ?_
        refine RD.idx 6 j rfl rfl rfl rfl rfl rfl rfl rfl rfl rfl rfl rfl rfl (by rw [strs_get, hz]; rfl) rfl ?_
        refine RD.run rfl (RD.done rfl ?_)
        repeat (first | with_reducible refine andThen_normal ?_)
        refine CW.cond rfl (fun h1 => ?_) (fun h1 => ?_)
        · repeat (first | with_reducible refine CW.seq ?_ | with_reducible refine andThen_normal ?_ | with_reducible refine andThen_ret ?_ | with_reducible refine inBlock_ret ?_ | with_reducible refine CW.ret ?_ | refine CW.reg (RL.run tysOk rfl (RL.nil ?_)))
          refine ⟨_, _, _, rfl, AVle.refl _, Store.sub_refl _, ?_, rfl⟩
          have : (a == b) = false := by
            rw [Bool.eq_false_iff]; intro hc
            have hab : a = b := by simpa using hc
            subst hab
            rw [hy] at hz; cases hz; simp at h1
          rw [this]
        · repeat (first | with_reducible refine andThen_normal ?_ | with_reducible refine inBlock_normal ?_ | with_reducible refine CW.skip ?_ | refine CW.reg (RL.run tysOk rfl (RL.nil ?_)))
          refine ⟨j + 1, ⟨hlt, fun i hi => ?_⟩, ⟨⟨_, rfl, AVle.refl _⟩, ⟨_, rfl, AVle.refl _⟩, ⟨_, rfl, AVle.of_eq ?_⟩, trivial⟩, Store.sub_refl _, by omega⟩
          · have hyz : y = z := by simpa using h1
            by_cases e : i = j
            · subst e; rw [hy, hz, hyz]
            · exact hI i (by omega)
          · rw [i64_succ (by omega)]
      · repeat (first | with_reducible refine CW.seq ?_ | with_reducible refine andThen_normal ?_ | with_reducible refine andThen_exit ?_ | with_reducible refine inBlock_here ?_ | with_reducible refine CW.ret ?_ | with_reducible refine CW.exit ?_ | refine CW.reg (RL.run tysOk rfl (RL.nil ?_)))
        refine ⟨_, _, _, rfl, AVle.refl _, Store.sub_refl _, ?_, rfl⟩
        have hge : a.length ≤ j := by simpa using h
        have : a = b := List.ext_getElem? fun i => by
          by_cases hi : i < j
          · exact hI i hi
          · rw [List.getElem?_eq_none (by omega), List.getElem?_eq_none (by omega)]
        subst this; simp
end Go.Proofs.Ytaafacnoddjhgaa

/- Contracts of the layer 'shape' and of its reference: sets of strings; keywords; which strings are names. -/
namespace Go.Proofs.Ytaafacnoddjhgaa
open Go.AE

/-- The words that are no names. -/
def kws : List Str := [[97, 102, 116, 101, 114],
  [97, 110, 100],
  [97, 110, 121],
  [97, 114, 111, 117, 110, 100],
  [98, 101, 102, 111, 114, 101],
  [99, 108, 97, 115, 115],
  [101, 108, 115, 101],
  [105, 102],
  [105, 110],
  [105, 110, 116],
  [105, 115],
  [108, 101, 116],
  [109, 101, 116, 104, 111, 100],
  [110, 101, 119],
  [110, 101, 120, 116],
  [110, 111, 110, 101],
  [110, 111, 116],
  [111, 114],
  [111, 117, 116],
  [115, 101, 116],
  [116, 104, 101, 110],
  [116, 114, 117, 101],
  [116, 117, 114, 110],
  [119, 104, 101, 114, 101]]

/-- The strings of a list, each once. -/
def setOf (l : List Str) : List Str := l.foldl insS []

theorem setOf_succ (l : List Str) (j : Nat) (y : Str) (hy : l[j]? = some y) : setOf (l.take (j + 1)) = insS (setOf (l.take j)) y := by
  rw [List.take_add_one, hy]
  simp [setOf]

theorem mem_setOf {l : List Str} {x : Str} : x ∈ setOf l ↔ x ∈ l := by
  have key : ∀ (l acc : List Str), x ∈ l.foldl insS acc ↔ x ∈ acc ∨ x ∈ l := by
    intro l
    induction l with
    | nil => simp
    | cons y l ih => intro acc; simp only [List.foldl_cons, ih, mem_insS, List.mem_cons, or_assoc]
  simpa [setOf] using key l []

theorem contains_setOf (l : List Str) (x : Str) : (setOf l).contains x = l.contains x := by
  rw [Bool.eq_iff_iff]; simp [mem_setOf]

theorem setOf_kws : setOf kws = kws := by decide

set_option maxRecDepth 10000 in
theorem set_spec (l : List Str) (own : Own) (s : Store) (hl : l.length < 9223372036854775807) :
    ACalls Try.prog 48 [.slc 1 (strs l) own] s (fun o s' => ∃ b, s b = none ∧ o = .ret (.map b) ∧ s' = s.set b (.map (setA (setOf l)))) := by
  refine ACalls.of_CW tysOk call48 Try.func48 rfl rfl ?_
  repeat (first | with_reducible refine CW.seq ?_ | with_reducible refine andThen_normal ?_ | refine CW.reg (RL.run tysOk rfl (RL.nil ?_)) | refine CW.reg ?_)
  refine RL.makeMap rfl rfl rfl rfl (fun b hb => ?_)
  repeat (first | with_reducible refine CW.seq ?_ | with_reducible refine andThen_normal ?_ | with_reducible refine CW.block ?_ | refine CW.reg (RL.run tysOk rfl (RL.nil ?_)) | refine RL.nil ?_ | refine RL.step tysOk rfl rfl rfl rfl ?_)
  refine CW.loop (σ := Nat) (fun j => [(3, .map b), (7, .slc 1 (strs l) own), (8, .int .i64 (strs l).length), (9, .int .i64 (j : Int))]) (fun j => s.set b (.map (setA (setOf (l.take j))))) (fun j => j ≤ l.length) (fun j => l.length - j) 0 (by omega) ?_ (Store.sub_refl _) ?_
  · exact ⟨⟨_, rfl, AVle.refl _⟩, ⟨_, rfl, AVle.refl _⟩, ⟨_, rfl, AVle.refl _⟩, ⟨_, rfl, AVle.refl _⟩, trivial⟩
  · rintro j hj
    repeat (first | with_reducible refine CW.seq ?_ | with_reducible refine andThen_normal ?_ | refine CW.reg (RL.run tysOk rfl (RL.nil ?_)))
    refine CW.cond rfl (fun h => ?_) (fun h => ?_)
    · have hlt : j < l.length := by simpa using h
      obtain ⟨y, hy⟩ : ∃ y, l[j]? = some y := ⟨_, List.getElem?_eq_getElem hlt⟩
      repeat (first | with_reducible refine CW.seq ?_ | with_reducible refine andThen_normal ?_ | with_reducible refine CW.skip ?_ | with_reducible refine CW.block ?_ | refine CW.reg ?_)
      refine RL.idx tysOk j rfl rfl rfl rfl rfl rfl rfl rfl rfl rfl rfl (by rw [strs_get, hy]; rfl) rfl ?_
      repeat (first | with_reducible refine andThen_normal ?_ | refine CW.reg ?_ | refine RL.nil ?_ | refine RL.step tysOk rfl rfl rfl rfl ?_)
      refine RL.mapUpdate tysOk rfl rfl (.inl rfl) rfl rfl rfl rfl rfl rfl (Store.set_same _ _ _) rfl (putA_set _ _) ?_
      rw [Store.set_set]
      repeat (first | with_reducible refine andThen_normal ?_ | with_reducible refine inBlock_normal ?_ | refine CW.reg (RL.run tysOk rfl (RL.nil ?_)) | refine RL.nil ?_)
      refine ⟨j + 1, hlt, ⟨⟨_, rfl, AVle.refl _⟩, ⟨_, rfl, AVle.refl _⟩, ⟨_, rfl, AVle.refl _⟩, ⟨_, rfl, AVle.of_eq ?_⟩, trivial⟩, ?_, by omega⟩
      · rw [i64_succ (by omega)]
      · rw [setOf_succ l j y hy]; exact Store.sub_refl _
    · repeat (first | with_reducible refine CW.seq ?_ | with_reducible refine andThen_normal ?_ | with_reducible refine andThen_exit ?_ | with_reducible refine inBlock_here ?_ | with_reducible refine CW.ret ?_ | with_reducible refine CW.exit ?_ | refine CW.reg (RL.run tysOk rfl (RL.nil ?_)))
      have : l.length ≤ j := by simpa using h
      rw [List.take_of_length_le this]
      exact ⟨_, _, _, rfl, AVle.refl _, Store.sub_refl _, b, hb, rfl, rfl⟩

set_option maxRecDepth 10000 in
theorem keywords_spec (s : Store) :
    ACalls Try.prog 45 [] s (fun o s' => ∃ b, s b = none ∧ o = .ret (.map b) ∧ s' = s.set b (.map (setA kws))) := by
  refine ACalls.of_CW tysOk call45 Try.func45 rfl rfl ?_
  repeat (first | with_reducible refine CW.seq ?_ | with_reducible refine andThen_normal ?_ | refine CW.reg (RL.run tysOk rfl (RL.nil ?_)) | refine CW.reg ?_)
  refine RL.makeMap rfl rfl rfl rfl (fun b hb => ?_)
  repeat (first | with_reducible refine CW.seq ?_ | with_reducible refine andThen_normal ?_ | with_reducible refine CW.block ?_ | refine CW.reg (RL.run tysOk rfl (RL.nil ?_)) | refine RL.nil ?_ | refine RL.step tysOk rfl rfl rfl rfl ?_)
  refine CW.loop (σ := Nat) (fun j => [(1, .map b), (5, .slc 1 (strs kws) .clip), (6, .int .i64 24), (7, .int .i64 (j : Int))]) (fun j => s.set b (.map (setA (setOf (kws.take j))))) (fun j => j ≤ 24) (fun j => 24 - j) 0 (by omega) ?_ (Store.sub_refl _) ?_
  · exact ⟨⟨_, rfl, AVle.refl _⟩, ⟨_, rfl, AVle.refl _⟩, ⟨_, rfl, AVle.refl _⟩, ⟨_, rfl, AVle.refl _⟩, trivial⟩
  · rintro j hj
    repeat (first | with_reducible refine CW.seq ?_ | with_reducible refine andThen_normal ?_ | refine CW.reg (RL.run tysOk rfl (RL.nil ?_)))
    refine CW.cond rfl (fun h => ?_) (fun h => ?_)
    · have hlt : j < 24 := by simp at h; omega
      obtain ⟨y, hy⟩ : ∃ y, kws[j]? = some y := ⟨_, List.getElem?_eq_getElem hlt⟩
      repeat (first | with_reducible refine CW.seq ?_ | with_reducible refine andThen_normal ?_ | with_reducible refine CW.skip ?_ | with_reducible refine CW.block ?_ | refine CW.reg ?_)
      refine RL.idx tysOk j rfl rfl rfl rfl rfl rfl rfl rfl rfl rfl rfl (by rw [strs_get, hy]; rfl) rfl ?_
      repeat (first | with_reducible refine andThen_normal ?_ | refine CW.reg ?_ | refine RL.nil ?_ | refine RL.step tysOk rfl rfl rfl rfl ?_)
      refine RL.mapUpdate tysOk rfl rfl (.inl rfl) rfl rfl rfl rfl rfl rfl (Store.set_same _ _ _) rfl (putA_set _ _) ?_
      rw [Store.set_set]
      repeat (first | with_reducible refine andThen_normal ?_ | with_reducible refine inBlock_normal ?_ | refine CW.reg (RL.run tysOk rfl (RL.nil ?_)) | refine RL.nil ?_)
      refine ⟨j + 1, hlt, ⟨⟨_, rfl, AVle.refl _⟩, ⟨_, rfl, AVle.refl _⟩, ⟨_, rfl, AVle.refl _⟩, ⟨_, rfl, AVle.of_eq ?_⟩, trivial⟩, ?_, by omega⟩
      · rw [i64_succ (by omega)]
      · rw [setOf_succ kws j y hy]; exact Store.sub_refl _
    · repeat (first | with_reducible refine CW.seq ?_ | with_reducible refine andThen_normal ?_ | with_reducible refine andThen_exit ?_ | with_reducible refine inBlock_here ?_ | with_reducible refine CW.ret ?_ | with_reducible refine CW.exit ?_ | refine CW.reg (RL.run tysOk rfl (RL.nil ?_)))
      have : j = 24 := by simp at h; omega
      subst this
      exact ⟨_, _, _, rfl, AVle.refl _, Store.sub_refl _, b, hb, rfl, rfl⟩

set_option maxRecDepth 10000 in
theorem refKeywords_spec (s : Store) : ACalls Try.prog 46 [] s (fun o s' => o = .ret (.slc 1 (strs kws) .clip) ∧ s' = s) := by
  refine ACalls.of_CW tysOk call46 Try.func46 rfl rfl ?_
  repeat (first | with_reducible refine CW.seq ?_ | with_reducible refine andThen_normal ?_ | with_reducible refine CW.ret ?_ | refine CW.reg (RL.run tysOk rfl (RL.nil ?_)))
  exact ⟨_, _, _, rfl, AVle.refl _, Store.sub_refl _, rfl, rfl⟩
end Go.Proofs.Ytaafacnoddjhgaa

/- Contracts of the layer 'shape' and of its reference: which strings are names. -/
namespace Go.Proofs.Ytaafacnoddjhgaa
open Go.AE

def letter (c : UInt8) : Bool := decide (97 ≤ c.toNat) && decide (c.toNat ≤ 122)

/-- A string that is a name, where some words are none. -/
def nameIn (x : Str) (no : List Str) : Bool := !(x == []) && decide (x.length ≤ 8) && !no.contains x && x.all letter
def nameS (x : Str) : Bool := nameIn x kws

theorem all_take_succ {x : Str} {j : Nat} {c : UInt8} (hc : x[j]? = some c) (h : (x.take j).all letter = true) (hl : letter c = true) : (x.take (j + 1)).all letter = true := by
  rw [List.take_add_one, hc]; simp [hl]
  simpa using h

theorem not_all {x : Str} {j : Nat} {c : UInt8} (hc : x[j]? = some c) (hl : letter c = false) : x.all letter = false := by
  rw [Bool.eq_false_iff]; intro h
  have := List.all_eq_true.1 h c (List.mem_of_getElem? hc)
  rw [hl] at this; cases this

theorem bts_get (l : List UInt8) (j : Nat) : (bts l)[j]? = l[j]?.map fun b => .int .u8 b.toNat := by simp [bts]

set_option maxRecDepth 10000 in
theorem name_spec (x : Str) (no : List Str) (b : Nat) (s : Store) (hs : s b = some (.map (setA no))) (hx : x.length < 9223372036854775807) :
    ACalls Try.prog 44 [.str x, .map b] s (fun o s' => o = .ret (.bool (nameIn x no)) ∧ s' = s) := by
  refine ACalls.of_CW tysOk call44 Try.func44 rfl rfl ?_
  repeat (first | with_reducible refine CW.seq ?_ | with_reducible refine andThen_normal ?_ | refine CW.reg (RL.run tysOk rfl (RL.nil ?_)) | refine CW.reg ?_ | refine RL.step tysOk rfl rfl rfl rfl ?_)
  cases h0 : (x == []) with
  | true =>
    repeat (first | with_reducible refine CW.seq ?_ | with_reducible refine andThen_normal ?_ | with_reducible refine andThen_ret ?_ | with_reducible refine CW.ret ?_ | refine CW.reg (RL.run tysOk rfl (RL.nil ?_)) | refine RL.nil ?_ | refine CW.condT rfl ?_ | refine RL.step tysOk rfl rfl rfl rfl ?_ | refine RL.skip rfl rfl rfl ?_)
    refine ⟨_, _, _, rfl, AVle.refl _, Store.sub_refl _, ?_, rfl⟩
    simp [nameIn, h0]
  | false =>
    repeat (first | refine RL.step tysOk rfl rfl rfl rfl ?_)
    by_cases h8 : x.length ≤ 8
    · refine RL.knowF 14 rfl (by simp; omega) ?_
      repeat (first | refine RL.step tysOk rfl rfl rfl rfl ?_)
      refine RL.lookup tysOk rfl rfl rfl rfl rfl rfl rfl rfl rfl rfl hs rfl (getA_set _ _) rfl ?_
      rw [gotA_set]
      repeat (first | with_reducible refine andThen_normal ?_ | refine RL.nil ?_ | refine RL.step tysOk rfl rfl rfl rfl ?_)
      refine CW.cond rfl (fun h => ?_) (fun h => ?_)
      · repeat (first | with_reducible refine CW.seq ?_ | with_reducible refine andThen_normal ?_ | with_reducible refine andThen_ret ?_ | with_reducible refine CW.ret ?_ | refine CW.reg (RL.run tysOk rfl (RL.nil ?_)))
        refine ⟨_, _, _, rfl, AVle.refl _, Store.sub_refl _, ?_, rfl⟩
        simp only [nameIn, h]; simp
      · repeat (first | with_reducible refine CW.seq ?_ | with_reducible refine andThen_normal ?_ | with_reducible refine CW.skip ?_ | refine CW.reg ?_ | refine RL.step tysOk rfl rfl rfl rfl ?_)
        refine RL.toBytes tysOk rfl rfl rfl rfl rfl rfl rfl rfl rfl rfl rfl (by omega) ?_
        repeat (first | with_reducible refine andThen_normal ?_ | with_reducible refine CW.block ?_ | refine RL.nil ?_ | refine RL.step tysOk rfl rfl rfl rfl ?_)
        refine CW.loop (σ := Nat) (fun j => [(20, .slc 1 (bts x) .fro), (21, .int .i64 (bts x).length), (22, .int .i64 (j : Int))]) (fun _ => s) (fun j => j ≤ x.length ∧ (x.take j).all letter = true) (fun j => x.length - j) 0 ⟨by omega, rfl⟩ ?_ (Store.sub_refl _) ?_
        · exact ⟨⟨_, rfl, AVle.refl _⟩, ⟨_, rfl, AVle.refl _⟩, ⟨_, rfl, AVle.refl _⟩, trivial⟩
        · rintro j ⟨hj, hI⟩
          repeat (first | with_reducible refine CW.seq ?_ | with_reducible refine andThen_normal ?_ | refine CW.reg (RL.run tysOk rfl (RL.nil ?_)))
          refine CW.cond rfl (fun h' => ?_) (fun h' => ?_)
          · have hlt : j < x.length := by simpa [bts_length] using h'
            obtain ⟨c, hc⟩ : ∃ c, x[j]? = some c := ⟨_, List.getElem?_eq_getElem hlt⟩
            repeat (first | with_reducible refine CW.seq ?_ | with_reducible refine andThen_normal ?_ | with_reducible refine CW.skip ?_ | with_reducible refine CW.block ?_ | refine CW.reg ?_)
            refine RL.idx tysOk j rfl rfl rfl rfl rfl rfl rfl rfl rfl rfl rfl (by rw [bts_get, hc]; rfl) rfl ?_
            repeat (first | with_reducible refine CW.seq ?_ | with_reducible refine andThen_normal ?_ | refine CW.reg ?_ | refine RL.nil ?_ | refine RL.step tysOk rfl rfl rfl rfl ?_)
            by_cases h1 : c.toNat < 97
            · refine RL.knowT 28 rfl (by simp; omega) ?_
              repeat (first | with_reducible refine CW.seq ?_ | with_reducible refine andThen_normal ?_ | with_reducible refine andThen_ret ?_ | with_reducible refine inBlock_ret ?_ | with_reducible refine CW.ret ?_ | refine CW.reg (RL.run tysOk rfl (RL.nil ?_)) | refine RL.nil ?_ | refine CW.condT rfl ?_ | refine RL.step tysOk rfl rfl rfl rfl ?_ | refine RL.skip rfl rfl rfl ?_)
              refine ⟨_, _, _, rfl, AVle.refl _, Store.sub_refl _, ?_, rfl⟩
              have : x.all letter = false := not_all hc (by simp [letter]; omega)
              simp [nameIn, this]
            · refine RL.knowF 28 rfl (by simp; omega) ?_
              repeat (first | with_reducible refine andThen_normal ?_ | refine RL.nil ?_ | refine RL.step tysOk rfl rfl rfl rfl ?_)
              refine CW.cond rfl (fun h2 => ?_) (fun h2 => ?_)
              · repeat (first | with_reducible refine CW.seq ?_ | with_reducible refine andThen_normal ?_ | with_reducible refine andThen_ret ?_ | with_reducible refine inBlock_ret ?_ | with_reducible refine CW.ret ?_ | refine CW.reg (RL.run tysOk rfl (RL.nil ?_)))
                refine ⟨_, _, _, rfl, AVle.refl _, Store.sub_refl _, ?_, rfl⟩
                have h2' : 122 < c.toNat := by simp at h2; omega
                have : x.all letter = false := not_all hc (by simp [letter]; omega)
                simp [nameIn, this]
              · have h2' : c.toNat ≤ 122 := by simp at h2; omega
                repeat (first | with_reducible refine andThen_normal ?_ | with_reducible refine inBlock_normal ?_ | with_reducible refine CW.skip ?_ | refine CW.reg (RL.run tysOk rfl (RL.nil ?_)))
                refine ⟨j + 1, ⟨hlt, all_take_succ hc hI (by simp [letter]; omega)⟩, ⟨⟨_, rfl, AVle.refl _⟩, ⟨_, rfl, AVle.refl _⟩, ⟨_, rfl, AVle.of_eq ?_⟩, trivial⟩, Store.sub_refl _, by omega⟩
                rw [i64_succ (by omega)]
          · repeat (first | with_reducible refine CW.seq ?_ | with_reducible refine andThen_normal ?_ | with_reducible refine andThen_exit ?_ | with_reducible refine inBlock_here ?_ | with_reducible refine CW.ret ?_ | with_reducible refine CW.exit ?_ | refine CW.reg (RL.run tysOk rfl (RL.nil ?_)))
            refine ⟨_, _, _, rfl, AVle.refl _, Store.sub_refl _, ?_, rfl⟩
            have : x.length ≤ j := by simpa [bts_length] using h'
            rw [List.take_of_length_le this] at hI
            simp only [nameIn, h0, hI, h, h8]
            rfl
    · refine RL.knowT 14 rfl (by simp; omega) ?_
      repeat (first | with_reducible refine CW.seq ?_ | with_reducible refine andThen_normal ?_ | with_reducible refine andThen_ret ?_ | with_reducible refine CW.ret ?_ | refine CW.reg (RL.run tysOk rfl (RL.nil ?_)) | refine RL.nil ?_ | refine CW.condT rfl ?_ | refine RL.step tysOk rfl rfl rfl rfl ?_ | refine RL.skip rfl rfl rfl ?_)
      refine ⟨_, _, _, rfl, AVle.refl _, Store.sub_refl _, ?_, rfl⟩
      simp [nameIn, h8]

set_option maxRecDepth 10000 in
theorem shapeName_spec (x : Str) (s : Store) (hx : x.length < 9223372036854775807) :
    ACalls Try.prog 10 [.str x] s (fun o s' => o = .ret (.bool (nameS x)) ∧ s' = s) := by
  refine ACalls.of_CW tysOk call10 Try.func10 rfl rfl ?_
  repeat (first | with_reducible refine CW.seq ?_ | with_reducible refine andThen_normal ?_ | refine CW.reg (RL.run tysOk rfl (RL.nil ?_)) | refine CW.reg ?_ | refine RL.step tysOk rfl rfl rfl rfl ?_)
  refine RL.call rfl rfl rfl rfl rfl (keywords_spec s) ?_ (fun _ _ ⟨_, _, h, _⟩ => by cases h)
  rintro _ _ ⟨b, hb, ⟨⟩, rfl⟩
  refine RL.callP rfl rfl rfl rfl rfl (name_spec x kws b _ (Store.set_same _ _ _) hx) ?_
  repeat (first | with_reducible refine andThen_normal ?_ | with_reducible refine CW.ret ?_ | refine RL.nil ?_ | refine RL.step tysOk rfl rfl rfl rfl ?_)
  exact ⟨_, _, _, rfl, AVle.refl _, Store.sub_set _ _ _ hb, rfl, rfl⟩

set_option maxRecDepth 10000 in
theorem refName_spec (x : Str) (s : Store) (hx : x.length < 9223372036854775807) :
    ACalls Try.prog 11 [.str x] s (fun o s' => o = .ret (.bool (nameS x)) ∧ s' = s) := by
  refine ACalls.of_CW tysOk call11 Try.func11 rfl rfl ?_
  repeat (first | with_reducible refine CW.seq ?_ | with_reducible refine andThen_normal ?_ | with_reducible refine CW.block ?_ | refine CW.reg (RL.run tysOk rfl (RL.nil ?_)))
  refine CW.loop (σ := Nat) (fun j => [(0, .str x), (3, .int .i64 (j : Int))]) (fun _ => s) (fun j => j ≤ x.length ∧ (x.take j).all letter = true) (fun j => x.length - j) 0 ⟨by omega, rfl⟩ ?_ (Store.sub_refl _) ?_
  · exact ⟨⟨_, rfl, AVle.refl _⟩, ⟨_, rfl, AVle.refl _⟩, trivial⟩
  · rintro j ⟨hj, hI⟩
    repeat (first | with_reducible refine CW.seq ?_ | with_reducible refine andThen_normal ?_ | refine CW.reg (RL.run tysOk rfl (RL.nil ?_)))
    refine CW.cond rfl (fun h' => ?_) (fun h' => ?_)
    · have hlt : j < x.length := by simpa using h'
      obtain ⟨c, hc⟩ : ∃ c, x[j]? = some c := ⟨_, List.getElem?_eq_getElem hlt⟩
      repeat (first | with_reducible refine CW.seq ?_ | with_reducible refine andThen_normal ?_ | with_reducible refine CW.skip ?_ | with_reducible refine CW.block ?_ | refine CW.reg ?_ | refine RL.step tysOk rfl rfl rfl rfl ?_)
      refine RL.sidx tysOk j rfl rfl rfl rfl rfl rfl rfl rfl rfl hc ?_
      repeat (first | refine RL.step tysOk rfl rfl rfl rfl ?_)
      by_cases h1 : c.toNat < 97
      · refine RL.knowT 14 rfl (by simp; omega) ?_
        repeat (first | with_reducible refine CW.seq ?_ | with_reducible refine andThen_normal ?_ | with_reducible refine andThen_ret ?_ | with_reducible refine inBlock_ret ?_ | with_reducible refine CW.ret ?_ | refine CW.reg (RL.run tysOk rfl (RL.nil ?_)) | refine RL.nil ?_ | refine CW.condT rfl ?_ | refine RL.step tysOk rfl rfl rfl rfl ?_ | refine RL.skip rfl rfl rfl ?_)
        refine ⟨_, _, _, rfl, AVle.refl _, Store.sub_refl _, ?_, rfl⟩
        have : x.all letter = false := not_all hc (by simp [letter]; omega)
        simp [nameS, nameIn, this]
      · refine RL.knowF 14 rfl (by simp; omega) ?_
        repeat (first | refine RL.step tysOk rfl rfl rfl rfl ?_)
        refine RL.sidx tysOk j rfl rfl rfl rfl rfl rfl rfl rfl rfl hc ?_
        repeat (first | with_reducible refine andThen_normal ?_ | refine RL.nil ?_ | refine RL.step tysOk rfl rfl rfl rfl ?_)
        refine CW.cond rfl (fun h2 => ?_) (fun h2 => ?_)
        · repeat (first | with_reducible refine CW.seq ?_ | with_reducible refine andThen_normal ?_ | with_reducible refine andThen_ret ?_ | with_reducible refine inBlock_ret ?_ | with_reducible refine CW.ret ?_ | refine CW.reg (RL.run tysOk rfl (RL.nil ?_)))
          refine ⟨_, _, _, rfl, AVle.refl _, Store.sub_refl _, ?_, rfl⟩
          have h2' : 122 < c.toNat := by simp at h2; omega
          have : x.all letter = false := not_all hc (by simp [letter]; omega)
          simp [nameS, nameIn, this]
        · have h2' : c.toNat ≤ 122 := by simp at h2; omega
          repeat (first | with_reducible refine andThen_normal ?_ | with_reducible refine inBlock_normal ?_ | with_reducible refine CW.skip ?_ | refine CW.reg (RL.run tysOk rfl (RL.nil ?_)))
          refine ⟨j + 1, ⟨hlt, all_take_succ hc hI (by simp [letter]; omega)⟩, ⟨⟨_, rfl, AVle.refl _⟩, ⟨_, rfl, AVle.of_eq ?_⟩, trivial⟩, Store.sub_refl _, by omega⟩
          rw [i64_succ (by omega)]
    · repeat (first | with_reducible refine CW.seq ?_ | with_reducible refine andThen_normal ?_ | with_reducible refine andThen_exit ?_ | with_reducible refine inBlock_here ?_ | with_reducible refine CW.exit ?_ | refine CW.reg ?_ | refine RL.step tysOk rfl rfl rfl rfl ?_)
      have hle : x.length ≤ j := by simpa using h'
      rw [List.take_of_length_le hle] at hI
      by_cases h1 : x.length ≥ 1
      · refine RL.knowT 23 rfl (by simp; omega) ?_
        repeat (first | refine RL.step tysOk rfl rfl rfl rfl ?_)
        by_cases h8 : x.length ≤ 8
        · refine RL.knowT 28 rfl (by simp; omega) ?_
          skip
          refine RL.callP rfl rfl rfl rfl rfl (refKeywords_spec s) ?_
          repeat (first | refine RL.step tysOk rfl rfl rfl rfl ?_)
          refine RL.callP rfl rfl rfl rfl rfl (refHas_spec kws _ x s (by decide)) ?_
          repeat (first | with_reducible refine andThen_normal ?_ | with_reducible refine CW.ret ?_ | refine RL.nil ?_ | refine RL.step tysOk rfl rfl rfl rfl ?_)
          refine ⟨_, _, _, rfl, AVle.refl _, Store.sub_refl _, ?_, rfl⟩
          have h0 : (x == []) = false := by cases x <;> simp at h1 ⊢
          simp only [nameS, nameIn, h0, hI, h8]
          simp
        · refine RL.knowF 28 rfl (by simp; omega) ?_
          repeat (first | with_reducible refine andThen_normal ?_ | with_reducible refine CW.ret ?_ | refine RL.nil ?_ | refine RL.step tysOk rfl rfl rfl rfl ?_ | refine RL.skip rfl rfl rfl ?_)
          refine ⟨_, _, _, rfl, AVle.refl _, Store.sub_refl _, ?_, rfl⟩
          simp [nameS, nameIn, h8]
      · refine RL.knowF 23 rfl (by simp; omega) ?_
        repeat (first | with_reducible refine andThen_normal ?_ | with_reducible refine CW.ret ?_ | refine RL.nil ?_ | refine RL.step tysOk rfl rfl rfl rfl ?_ | refine RL.skip rfl rfl rfl ?_)
        refine ⟨_, _, _, rfl, AVle.refl _, Store.sub_refl _, ?_, rfl⟩
        have h0 : x = [] := List.eq_nil_of_length_eq_zero (by omega)
        simp [nameS, nameIn, h0]
end Go.Proofs.Ytaafacnoddjhgaa

/- Contracts of the reference's layer 1: words by numbers, the first free name. -/
namespace Go.Proofs.Ytaafacnoddjhgaa
open Go.AE

def letterOf (n : Nat) : UInt8 := UInt8.ofNat (97 + n % 26)

/-- The letters of a number, ahead of some. -/
def wordF : Nat → Nat → Str → Str
  | 0, _, s => s
  | f + 1, n, s => if n = 0 then s else wordF f ((n - 1) / 26) (letterOf (n - 1) :: s)

def word (n : Nat) : Str := wordF n n []

theorem wordF_fuel : ∀ (f g n : Nat) (s : Str), n ≤ f → n ≤ g → wordF f n s = wordF g n s := by
  intro f
  induction f with
  | zero =>
    intro g n s h1 h2
    have : n = 0 := by omega
    subst this
    cases g <;> simp [wordF]
  | succ f ih =>
    intro g n s h1 h2
    by_cases h0 : n = 0
    · subst h0; cases g <;> simp [wordF]
    · cases g with
      | zero => omega
      | succ g =>
        simp only [wordF, h0, if_false]
        exact ih g _ _ (by omega) (by omega)

theorem wordF_step {n : Nat} (h : n ≠ 0) (s : Str) : wordF n n s = wordF ((n - 1) / 26) ((n - 1) / 26) (letterOf (n - 1) :: s) := by
  cases n with
  | zero => exact absurd rfl h
  | succ n =>
    simp only [wordF, h, if_false]
    exact wordF_fuel _ _ _ _ (by omega) (Nat.le_refl _)

theorem letterOf_toNat (n : Nat) : (letterOf n).toNat = 97 + n % 26 := by
  unfold letterOf
  rw [UInt8.toNat_ofNat']
  omega

theorem u8_wrap {n : Int} (h0 : 0 ≤ n) (h1 : n ≤ 255) : IntKind.wrap .u8 n = n := by
  unfold IntKind.wrap IntKind.bits IntKind.signed
  simp
  omega

theorem wordVal {n : Nat} (h : n ≠ 0) (h63 : n < 9223372036854775807) :
    IntKind.wrap .u8 (IntKind.wrap .i64 (97 + (IntKind.wrap .i64 ((n : Int) - 1)).tmod (Int.ofNat 26))) = ((letterOf (n - 1)).toNat : Int) := by
  rw [i64_wrap (n := (n : Int) - 1) (by omega) (by omega), letterOf_toNat]
  have e : (n : Int) - 1 = ((n - 1 : Nat) : Int) := by omega
  have e2 : (((n - 1 : Nat) : Int)).tmod (Int.ofNat 26) = (((n - 1) % 26 : Nat) : Int) := rfl
  rw [e, e2, i64_wrap (by omega) (by omega), u8_wrap (by omega) (by omega)]
  omega

set_option maxRecDepth 10000 in
theorem word_spec (n : Nat) (s : Store) (hn : n < 9223372036854775807) :
    ACalls Try.prog 49 [.int .i64 n] s (fun o s' => o = .ret (.str (word n)) ∧ s' = s) := by
  refine ACalls.of_CW tysOk call49 Try.func49 rfl rfl ?_
  repeat (first | with_reducible refine CW.seq ?_ | with_reducible refine andThen_normal ?_ | with_reducible refine CW.block ?_ | refine CW.reg (RL.run tysOk rfl (RL.nil ?_)))
  refine CW.loop (σ := Nat × Str) (fun q => [(0, .int .i64 (q.1 : Int)), (3, .str q.2)]) (fun _ => s) (fun q => q.1 + q.2.length ≤ n ∧ wordF q.1 q.1 q.2 = word n) (fun q => q.1) (n, []) ⟨by simp, rfl⟩ ?_ (Store.sub_refl _) ?_
  · exact ⟨⟨_, rfl, AVle.refl _⟩, ⟨_, rfl, AVle.refl _⟩, trivial⟩
  · rintro ⟨k, u⟩ ⟨hk, hI⟩
    simp only at hk hI
    repeat (first | with_reducible refine CW.seq ?_ | with_reducible refine andThen_normal ?_ | refine CW.reg (RL.run tysOk rfl (RL.nil ?_)))
    refine CW.cond rfl (fun h => ?_) (fun h => ?_)
    · have h0 : k ≠ 0 := by simp at h; omega
      repeat (first | with_reducible refine CW.seq ?_ | with_reducible refine andThen_normal ?_ | with_reducible refine CW.skip ?_ | with_reducible refine CW.block ?_ | refine CW.reg ?_ | refine RL.step tysOk rfl rfl rfl rfl ?_ | refine RL.stepX tysOk rfl rfl rfl rfl ?_)
      refine RL.know 11 (v' := .slc 1 (bts [letterOf (k - 1)]) .clip) rfl ?_ ?_
      · simp only [bts, List.map_cons, List.map_nil]
        rw [← wordVal h0 (by omega)]
      refine RL.toStr tysOk rfl rfl rfl rfl rfl rfl rfl rfl rfl rfl rfl ?_
      repeat (first | refine RL.step tysOk rfl rfl rfl rfl ?_)
      refine RL.cat tysOk rfl rfl rfl rfl rfl rfl (by simp; omega) ?_
      repeat (first | with_reducible refine andThen_normal ?_ | with_reducible refine inBlock_normal ?_ | refine CW.reg ?_ | refine RL.nil ?_ | refine RL.step tysOk rfl rfl rfl rfl ?_ | refine RL.stepX tysOk rfl rfl rfl rfl ?_)
      refine ⟨((k - 1) / 26, letterOf (k - 1) :: u), ⟨by simp; omega, ?_⟩, ⟨⟨_, rfl, AVle.of_eq ?_⟩, ⟨_, rfl, AVle.refl _⟩, trivial⟩, Store.sub_refl _, by show (k - 1) / 26 < k; omega⟩
      · rw [← hI]; exact (wordF_step h0 u).symm
      · have e : IntKind.wrap .i64 ((k : Int) - 1) = ((k - 1 : Nat) : Int) := by rw [i64_wrap (by omega) (by omega)]; omega
        have e2 : (((k - 1 : Nat) : Int)).tdiv (Int.ofNat 26) = (((k - 1) / 26 : Nat) : Int) := rfl
        rw [e, e2, i64_wrap (by omega) (by omega)]
    · repeat (first | with_reducible refine CW.seq ?_ | with_reducible refine andThen_normal ?_ | with_reducible refine andThen_exit ?_ | with_reducible refine inBlock_here ?_ | with_reducible refine CW.ret ?_ | with_reducible refine CW.exit ?_ | refine CW.reg (RL.run tysOk rfl (RL.nil ?_)))
      have h0 : k = 0 := by simp at h; omega
      subst h0
      refine ⟨_, _, _, rfl, AVle.refl _, Store.sub_refl _, ?_, rfl⟩
      rw [← hI]; rfl

/-- The word with a number (from 0 on) is a name, and none of some strings. -/
def free1 (l : List Str) (k : Nat) : Bool := nameS (word (k + 1)) && !l.contains (word (k + 1))

/-- How many words stand ahead of the first name that is none of some strings (there are 702 of at most two letters). -/
def freshK (l : List Str) : Nat := ((List.range 702).findIdx? (free1 l)).getD 0
def freshS (l : List Str) : Str := word (freshK l + 1)

/-- There is a free name of at most two letters. -/
def HasFree (l : List Str) : Prop := ∃ k, k < 702 ∧ free1 l k = true

theorem freshK_spec {l : List Str} (h : HasFree l) : freshK l < 702 ∧ free1 l (freshK l) = true ∧ ∀ j, j < freshK l → free1 l j = false := by
  obtain ⟨k, hk, hf⟩ := h
  unfold freshK
  cases hx : (List.range 702).findIdx? (free1 l) with
  | none =>
    have := List.findIdx?_eq_none_iff.1 hx k (List.mem_range.2 hk)
    rw [hf] at this; cases this
  | some i =>
    obtain ⟨h1, h2, h3⟩ := List.findIdx?_eq_some_iff_getElem.1 hx
    simp only [List.length_range] at h1
    refine ⟨h1, by simpa using h2, fun j hj => ?_⟩
    have := h3 j hj
    simpa using this

theorem word_len {k : Nat} (hk : k < 702) : (word (k + 1)).length ≤ 2 := by
  unfold word
  rw [wordF_step (by omega)]
  by_cases h : (k + 1 - 1) / 26 = 0
  · rw [h]; simp [wordF]
  · rw [wordF_step h]
    have : ((k + 1 - 1) / 26 - 1) / 26 = 0 := by omega
    rw [this]; simp [wordF]

set_option maxRecDepth 10000 in
theorem refFresh_spec (l : List Str) (own : Own) (s : Store) (hl : l.length < 9223372036854775807) (hf : HasFree l) :
    ACalls Try.prog 13 [.slc 1 (strs l) own] s (fun o s' => o = .ret (.str (freshS l)) ∧ s' = s) := by
  obtain ⟨hK, hK1, hK2⟩ := freshK_spec hf
  refine ACalls.of_CW tysOk call13 Try.func13 rfl rfl ?_
  repeat (first | with_reducible refine CW.seq ?_ | with_reducible refine andThen_normal ?_ | with_reducible refine CW.block ?_ | refine CW.reg (RL.run tysOk rfl (RL.nil ?_)))
  refine CW.loop (σ := Nat) (fun j => [(0, .slc 1 (strs l) own), (3, .int .i64 ((j + 1 : Nat) : Int))]) (fun _ => s) (fun j => j ≤ freshK l) (fun j => 702 - j) 0 (by omega) ?_ (Store.sub_refl _) ?_
  · exact ⟨⟨_, rfl, AVle.refl _⟩, ⟨_, rfl, AVle.refl _⟩, trivial⟩
  · rintro j hj
    have hw := word_len (k := j) (by omega)
    repeat (first | with_reducible refine CW.seq ?_ | refine CW.reg ?_ | refine RL.step tysOk rfl rfl rfl rfl ?_)
    refine RL.callP rfl rfl rfl rfl rfl (word_spec (j + 1) s (by omega)) ?_
    skip
    refine RL.callP rfl rfl rfl rfl rfl (refName_spec _ s (by omega)) ?_
    repeat (first | refine RL.step tysOk rfl rfl rfl rfl ?_)
    cases hn : nameS (word (j + 1)) with
    | false =>
      repeat (first | with_reducible refine andThen_normal ?_ | with_reducible refine inBlock_normal ?_ | with_reducible refine CW.skip ?_ | with_reducible refine CW.block ?_ | refine CW.reg (RL.run tysOk rfl (RL.nil ?_)) | refine RL.nil ?_ | refine CW.condT rfl ?_ | refine RL.step tysOk rfl rfl rfl rfl ?_ | refine RL.skip rfl rfl rfl ?_)
      refine ⟨j + 1, ?_, ⟨⟨_, rfl, AVle.refl _⟩, ⟨_, rfl, AVle.of_eq ?_⟩, trivial⟩, Store.sub_refl _, by omega⟩
      · have hne : j ≠ freshK l := fun e => by rw [← e] at hK1; simp [free1, hn] at hK1
        omega
      · rw [i64_succ (by omega)]
    | true =>
      repeat (first | refine RL.step tysOk rfl rfl rfl rfl ?_)
      refine RL.callP rfl rfl rfl rfl rfl (word_spec (j + 1) s (by omega)) ?_
      skip
      refine RL.callP rfl rfl rfl rfl rfl (refHas_spec l own _ s hl) ?_
      repeat (first | with_reducible refine andThen_normal ?_ | refine RL.nil ?_ | refine RL.step tysOk rfl rfl rfl rfl ?_)
      refine CW.cond rfl (fun h => ?_) (fun h => ?_)
      · repeat (first | with_reducible refine andThen_normal ?_ | with_reducible refine inBlock_normal ?_ | with_reducible refine CW.skip ?_ | with_reducible refine CW.block ?_ | refine CW.reg (RL.run tysOk rfl (RL.nil ?_)))
        refine ⟨j + 1, ?_, ⟨⟨_, rfl, AVle.refl _⟩, ⟨_, rfl, AVle.of_eq ?_⟩, trivial⟩, Store.sub_refl _, by omega⟩
        · have hne : j ≠ freshK l := fun e => by rw [← e] at hK1; simp only [free1, hn, h] at hK1; simp at hK1
          omega
        · rw [i64_succ (by omega)]
      · repeat (first | with_reducible refine CW.seq ?_ | with_reducible refine andThen_normal ?_ | with_reducible refine andThen_exit ?_ | with_reducible refine inBlock_here ?_ | with_reducible refine CW.exit ?_ | refine CW.reg ?_ | refine RL.step tysOk rfl rfl rfl rfl ?_)
        have he : j = freshK l := by
          by_cases e : j = freshK l
          · exact e
          · have := hK2 j (by omega)
            simp only [free1, hn, h] at this; simp at this
        refine RL.callP rfl rfl rfl rfl rfl (word_spec (j + 1) s (by omega)) ?_
        repeat (first | with_reducible refine andThen_normal ?_ | with_reducible refine CW.ret ?_ | refine RL.nil ?_ | refine RL.step tysOk rfl rfl rfl rfl ?_)
        refine ⟨_, _, _, rfl, AVle.refl _, Store.sub_refl _, ?_, rfl⟩
        rw [he]; rfl
end Go.Proofs.Ytaafacnoddjhgaa

/- Contracts of the layer 'shape': the names one after the other, the first free one. -/
namespace Go.Proofs.Ytaafacnoddjhgaa
open Go.AE

theorem ne_of_set_none {s : Store} {b b' : Nat} {o : AObj} (h : (s.set b o) b' = none) : b ≠ b' := Ne.symm (Store.set_none h).1

/-- The words with a beginning and so many letters more. -/
def leaves : Nat → Str → List Str
  | 0, p => [p]
  | d + 1, p => (List.range 26).flatMap fun j => leaves d (p ++ [letterOf j])

/-- Those of some words that are no keywords. -/
def nonKw (l : List Str) : List Str := l.filter fun w => !kws.contains w

theorem nonKw_append (a b : List Str) : nonKw (a ++ b) = nonKw a ++ nonKw b := by simp [nonKw]

def growAV (size kb b4 l : Nat) : AV := .func 117 [] [.fptr [.int .i64 (size : Int)] 0, .fptr [.map kb] 0, .fptr [yieldV l] 0, .ptr b4 0]

/-- The store of the iterator: the keywords, and the variable of the closure that calls itself. -/
def grows (T : TypeId) (size kb b4 l : Nat) (s : Store) : Store := (s.set kb (.map (setA kws))).set b4 (.box T [growAV size kb b4 l])

set_option maxRecDepth 10000 in
theorem clipBytes_spec (p : Str) (sz : Nat) (own : Own) (s : Store) (hsz : p = [] ∨ sz = 1) :
    ACalls Try.prog 118 [.slc sz (bts p) own] s (fun o s' => o = .ret (.slc sz (bts p) .clip) ∧ s' = s) := by
  refine ACalls.of_CW tysOk call118 Try.func118 rfl rfl ?_
  repeat (first | with_reducible refine CW.seq ?_ | with_reducible refine andThen_normal ?_ | refine CW.reg (RL.run tysOk rfl (RL.nil ?_)) | refine CW.reg ?_ | refine RL.step tysOk rfl rfl rfl rfl ?_)
  refine RL.slice tysOk 0 (bts p).length rfl rfl rfl rfl rfl rfl rfl rfl (by rcases hsz with rfl | rfl; exact .inl rfl; exact .inr rfl) (.inl ⟨rfl, rfl⟩) (.inr ⟨_, _, rfl, rfl⟩) (.inr ⟨_, _, rfl, rfl, rfl⟩) (by omega) (Nat.le_refl _) ?_
  rw [List.take_length, List.drop_zero]
  repeat (first | with_reducible refine andThen_normal ?_ | with_reducible refine CW.ret ?_ | refine RL.nil ?_ | refine RL.step tysOk rfl rfl rfl rfl ?_)
  exact ⟨_, _, _, rfl, AVle.refl _, Store.sub_refl _, rfl, rfl⟩

theorem bts_append (a b : Str) : bts (a ++ b) = bts a ++ bts b := by simp [bts]

theorem leaves_drop (d : Nat) (p : Str) (j : Nat) (hj : j < 26) :
    ((List.range 26).drop j).flatMap (fun j => leaves d (p ++ [letterOf j])) = leaves d (p ++ [letterOf j]) ++ ((List.range 26).drop (j + 1)).flatMap (fun j => leaves d (p ++ [letterOf j])) := by
  rw [List.drop_eq_getElem_cons (by simpa using hj)]
  simp

/-- What is asked of the function to which the names are handed: it says yes and goes on, or it says no and is done. -/
def Yields (l : Nat) (Go : List Str → Store → Prop) (Done : Store → Prop) : Prop :=
  ∀ w rem s, Go (w :: rem) s → ACallV Try.prog (yieldV l) [.str w] s (fun o s' => (o = .ret (.bool true) ∧ Go rem s') ∨ (o = .ret (.bool false) ∧ Done s'))

/-- How a walk of the names ends. -/
def GrowEnds (T : TypeId) (size kb b4 l : Nat) (Go Done : Store → Prop) (o : AOut) (s' : Store) : Prop :=
  ∃ s₁, s₁ kb = none ∧ s₁ b4 = none ∧ s' = grows T size kb b4 l s₁ ∧ ((o = .ret (.bool true) ∧ Go s₁) ∨ (o = .ret (.bool false) ∧ Done s₁))

theorem yield_grows {T : TypeId} {size kb b4 l : Nat} (hne : kb ≠ b4) {Go : List Str → Store → Prop} {Done : Store → Prop} (hY : Yields l Go Done) {w : Str} {rem : List Str} {s : Store} (hg : Go (w :: rem) s) (h1 : s kb = none) (h2 : s b4 = none) :
    ACallV Try.prog (yieldV l) [.str w] (grows T size kb b4 l s) (GrowEnds T size kb b4 l (Go rem) Done) := by
  have f1 := ACallV.frame kb (.map (setA kws)) h1 rfl (hY w rem s hg)
  have f2 := ACallV.frame b4 (.box T [growAV size kb b4 l]) (by rw [Store.set_ne _ _ (Ne.symm hne)]; exact h2) rfl f1
  refine f2.mono ?_
  rintro o s' ⟨s₂, k1, rfl, s₁, k2, rfl, h⟩
  exact ⟨s₁, k2, by rw [Store.set_ne _ _ (Ne.symm hne)] at k1; exact k1, rfl, h⟩

set_option maxRecDepth 10000 in
theorem grow_spec (T : TypeId) (size kb b4 l : Nat) (hne : kb ≠ b4) (Go : List Str → Store → Prop) (Done : Store → Prop) (hY : Yields l Go Done) (h8 : size ≤ 8) :
    ∀ d p sz own rest s, p.length + d = size → (p = [] ∨ sz = 1) → Go (nonKw (leaves d p) ++ rest) s → s kb = none → s b4 = none →
    ACalls Try.prog 117 [.slc sz (bts p) own, .fptr [.int .i64 (size : Int)] 0, .fptr [.map kb] 0, .fptr [yieldV l] 0, .ptr b4 0] (grows T size kb b4 l s)
      (GrowEnds T size kb b4 l (Go rest) Done) := by
  intro d
  induction d with
  | zero =>
    intro p sz own rest s hp hsz hg h1 h2
    have hkb : grows T size kb b4 l s kb = some (.map (setA kws)) := by rw [grows, Store.set_ne _ _ hne, Store.set_same]
    refine ACalls.of_CW tysOk call117 Try.func117 rfl rfl ?_
    repeat (first | with_reducible refine CW.seq ?_ | with_reducible refine andThen_normal ?_ | refine CW.reg (RL.run tysOk rfl (RL.nil ?_)))
    refine CW.cond rfl (fun h => ?_) (fun h => ?_)
    · repeat (first | with_reducible refine CW.seq ?_ | refine CW.reg ?_ | refine RL.step tysOk rfl rfl rfl rfl ?_)
      refine RL.toStr (u := p) tysOk rfl rfl rfl rfl rfl rfl rfl rfl rfl rfl rfl ?_
      skip
      refine RL.lookup tysOk rfl rfl rfl rfl rfl rfl rfl rfl rfl rfl hkb rfl (getA_set _ _) rfl ?_
      rw [gotA_set]
      cases hk : kws.contains p with
      | true =>
        repeat (first | with_reducible refine andThen_normal ?_ | with_reducible refine andThen_ret ?_ | with_reducible refine CW.ret ?_ | refine RL.nil ?_ | refine RL.step tysOk rfl rfl rfl rfl ?_ | refine RL.skip rfl rfl rfl ?_)
        refine ⟨_, _, _, rfl, AVle.refl _, Store.sub_refl _, s, h1, h2, rfl, .inl ⟨rfl, ?_⟩⟩
        have : nonKw (leaves 0 p) = [] := by simp only [nonKw, leaves, List.filter_cons, hk]; rfl
        rw [this] at hg; exact hg
      | false =>
        have : nonKw (leaves 0 p) = [p] := by simp only [nonKw, leaves, List.filter_cons, hk]; rfl
        rw [this] at hg
        repeat (first | refine RL.step tysOk rfl rfl rfl rfl ?_)
        refine RL.toStr (u := p) tysOk rfl rfl rfl rfl rfl rfl rfl rfl rfl rfl rfl ?_
        skip
        refine RL.callV rfl rfl rfl rfl rfl rfl (yield_grows hne hY hg h1 h2) ?_ ?_
        · rintro x s' ⟨s₁, k1, k2, rfl, h⟩
          rcases h with ⟨⟨⟩, hgo⟩ | ⟨⟨⟩, hdo⟩
          · repeat (first | with_reducible refine andThen_normal ?_ | with_reducible refine andThen_ret ?_ | with_reducible refine CW.ret ?_ | refine RL.nil ?_ | refine RL.step tysOk rfl rfl rfl rfl ?_)
            exact ⟨_, _, _, rfl, AVle.refl _, Store.sub_refl _, s₁, k1, k2, rfl, .inl ⟨rfl, hgo⟩⟩
          · repeat (first | with_reducible refine andThen_normal ?_ | with_reducible refine andThen_ret ?_ | with_reducible refine CW.ret ?_ | refine RL.nil ?_ | refine RL.step tysOk rfl rfl rfl rfl ?_)
            exact ⟨_, _, _, rfl, AVle.refl _, Store.sub_refl _, s₁, k1, k2, rfl, .inr ⟨rfl, hdo⟩⟩
        · rintro x s' ⟨s₁, k1, k2, rfl, h⟩
          rcases h with ⟨h, -⟩ | ⟨h, -⟩ <;> cases h
    · exfalso
      simp [bts_length] at h; omega
  | succ d ih =>
    intro p sz own rest s hp hsz hg h1 h2
    have hsz1 : p ≠ [] → sz = 1 := fun h => hsz.resolve_left h
    refine ACalls.of_CW tysOk call117 Try.func117 rfl rfl ?_
    repeat (first | with_reducible refine CW.seq ?_ | with_reducible refine andThen_normal ?_ | refine CW.reg (RL.run tysOk rfl (RL.nil ?_)))
    refine CW.cond rfl (fun h => ?_) (fun h => ?_)
    · exfalso
      simp [bts_length] at h; omega
    · repeat (first | with_reducible refine CW.seq ?_ | with_reducible refine andThen_normal ?_ | with_reducible refine CW.skip ?_ | with_reducible refine CW.block ?_ | refine CW.reg (RL.run tysOk rfl (RL.nil ?_)))
      refine CW.loop (σ := Nat × Store) (fun q => [(0, .slc sz (bts p) own), (4, .ptr b4 0), (7, .int .u8 ((97 + q.1 : Nat) : Int))]) (fun q => grows T size kb b4 l q.2)
        (fun q => q.1 ≤ 26 ∧ Go (nonKw (((List.range 26).drop q.1).flatMap fun j => leaves d (p ++ [letterOf j])) ++ rest) q.2 ∧ q.2 kb = none ∧ q.2 b4 = none) (fun q => 26 - q.1) (0, s) ⟨by omega, hg, h1, h2⟩ ?_ (Store.sub_refl _) ?_
      · exact ⟨⟨_, rfl, AVle.refl _⟩, ⟨_, rfl, AVle.refl _⟩, ⟨_, rfl, AVle.refl _⟩, trivial⟩
      · rintro ⟨j, s₀⟩ ⟨hj, hI, k1, k2⟩
        simp only at hj hI k1 k2
        repeat (first | with_reducible refine CW.seq ?_ | with_reducible refine andThen_normal ?_ | refine CW.reg (RL.run tysOk rfl (RL.nil ?_)))
        refine CW.cond rfl (fun h => ?_) (fun h => ?_)
        · have hlt : j < 26 := by simp at h; omega
          rw [leaves_drop d p j hlt, nonKw_append, List.append_assoc] at hI
          have hsb : bts p = [] ∨ sz = 1 := by rcases hsz with rfl | rfl; exact .inl rfl; exact .inr rfl
          have hel : ∀ y ∈ [AV.int .u8 ((97 + j : Nat) : Int)], elemOk 1 y = true := by intro y hy; simp at hy; subst hy; rfl
          have hlet : bts p ++ [AV.int .u8 ((97 + j : Nat) : Int)] = bts (p ++ [letterOf j]) := by
            rw [bts_append]; simp only [bts, List.map_cons, List.map_nil, letterOf_toNat]
            rw [Nat.mod_eq_of_lt hlt]
          repeat (first | with_reducible refine CW.seq ?_ | with_reducible refine andThen_normal ?_ | with_reducible refine CW.skip ?_ | with_reducible refine CW.block ?_ | refine CW.drw tysOk mixed rfl (RD.run rfl ?_))
          refine RD.two (i := 0) (j := 2) rfl rfl rfl rfl rfl rfl rfl rfl rfl rfl (OW.loadP tysOk rfl rfl rfl (Store.set_same _ _ _) rfl (X := fun _ _ => False))
            (OW.call rfl (fv := .func 118 [] []) rfl rfl (ACallV.of_calls (clipBytes_spec p sz own _ hsz))) ?_ ?_ (fun _ _ h => h.elim) (fun _ _ ⟨h, _⟩ => by cases h)
          · rintro x s' ⟨rfl, rfl⟩
            refine RD.callP (i := 2) rfl rfl rfl rfl rfl rfl rfl (clipBytes_spec p sz own _ hsz) ?_
            refine RD.append0 (i := 5) tysOk rfl rfl rfl rfl rfl rfl rfl rfl rfl (by intro k h; cases h) rfl rfl rfl hsb (.inr rfl) rfl hel (by simp [bts_length]; omega) (by simp [bts_length]; omega) (.inr rfl) (fun h => by cases h) (fun b hb => ?_)
            refine RD.callV (i := 6) rfl rfl rfl rfl rfl rfl rfl rfl (ACallV.drop (Store.sub_set _ _ _ hb) (ACallV.of_calls (by
              rw [hlet]; exact ih (p ++ [letterOf j]) 1 (.own b) _ s₀ (by simp; omega) (.inr rfl) hI k1 k2))) ?_ ?_
            · rintro x s' ⟨s₁, q1, q2, rfl, h⟩
              rcases h with ⟨⟨⟩, hgo⟩ | ⟨⟨⟩, hdo⟩
              · refine RD.run rfl (RD.done rfl ?_)
                repeat (first | with_reducible refine andThen_normal ?_ | with_reducible refine inBlock_normal ?_ | with_reducible refine CW.skip ?_ | refine CW.reg (RL.run tysOk rfl (RL.nil ?_)) | refine CW.condF rfl ?_)
                refine ⟨(j + 1, s₁), ⟨by show j + 1 ≤ 26; omega, hgo, q1, q2⟩, ⟨⟨_, rfl, AVle.refl _⟩, ⟨_, rfl, AVle.refl _⟩, ⟨_, rfl, AVle.of_eq ?_⟩, trivial⟩, Store.sub_refl _, by show 26 - (j + 1) < 26 - j; omega⟩
                rw [u8_wrap (by omega) (by omega)]; simp; omega
              · refine RD.run rfl (RD.done rfl ?_)
                repeat (first | with_reducible refine CW.seq ?_ | with_reducible refine andThen_normal ?_ | with_reducible refine andThen_ret ?_ | with_reducible refine inBlock_ret ?_ | with_reducible refine CW.ret ?_ | refine CW.reg (RL.run tysOk rfl (RL.nil ?_)) | refine CW.condT rfl ?_)
                exact ⟨_, _, _, rfl, AVle.refl _, Store.sub_refl _, s₁, q1, q2, rfl, .inr ⟨rfl, hdo⟩⟩
            · rintro x s' ⟨s₁, q1, q2, rfl, h⟩
              rcases h with ⟨h, -⟩ | ⟨h, -⟩ <;> cases h
          · rintro x s' ⟨⟨⟩, rfl⟩
            refine RD.two (i := 0) (j := 5) rfl rfl rfl rfl rfl rfl rfl rfl rfl rfl (OW.loadP tysOk rfl rfl rfl (Store.set_same _ _ _) rfl (X := fun _ _ => False))
              (OW.append tysOk rfl rfl rfl rfl (by intro k h; cases h) rfl rfl rfl hsb (.inr rfl) rfl hel (by simp [bts_length]; omega) (by simp [bts_length]; omega) (.inl (.inr rfl)) (X := fun _ _ => False)) ?_ ?_ (fun _ _ h => h.elim) (fun _ _ h => h.elim)
            · rintro x s' ⟨rfl, rfl⟩
              refine RD.append0 (i := 5) tysOk rfl rfl rfl rfl rfl rfl rfl rfl rfl (by intro k h; cases h) rfl rfl rfl hsb (.inr rfl) rfl hel (by simp [bts_length]; omega) (by simp [bts_length]; omega) (.inr rfl) (fun h => by cases h) (fun b hb => ?_)
              refine RD.callV (i := 6) rfl rfl rfl rfl rfl rfl rfl rfl (ACallV.drop (Store.sub_set _ _ _ hb) (ACallV.of_calls (by
                rw [hlet]; exact ih (p ++ [letterOf j]) 1 (.own b) _ s₀ (by simp; omega) (.inr rfl) hI k1 k2))) ?_ ?_
              · rintro x s' ⟨s₁, q1, q2, rfl, h⟩
                rcases h with ⟨⟨⟩, hgo⟩ | ⟨⟨⟩, hdo⟩
                · refine RD.run rfl (RD.done rfl ?_)
                  repeat (first | with_reducible refine andThen_normal ?_ | with_reducible refine inBlock_normal ?_ | with_reducible refine CW.skip ?_ | refine CW.reg (RL.run tysOk rfl (RL.nil ?_)) | refine CW.condF rfl ?_)
                  refine ⟨(j + 1, s₁), ⟨by show j + 1 ≤ 26; omega, hgo, q1, q2⟩, ⟨⟨_, rfl, AVle.refl _⟩, ⟨_, rfl, AVle.refl _⟩, ⟨_, rfl, AVle.of_eq ?_⟩, trivial⟩, Store.sub_refl _, by show 26 - (j + 1) < 26 - j; omega⟩
                  rw [u8_wrap (by omega) (by omega)]; simp; omega
                · refine RD.run rfl (RD.done rfl ?_)
                  repeat (first | with_reducible refine CW.seq ?_ | with_reducible refine andThen_normal ?_ | with_reducible refine andThen_ret ?_ | with_reducible refine inBlock_ret ?_ | with_reducible refine CW.ret ?_ | refine CW.reg (RL.run tysOk rfl (RL.nil ?_)) | refine CW.condT rfl ?_)
                  exact ⟨_, _, _, rfl, AVle.refl _, Store.sub_refl _, s₁, q1, q2, rfl, .inr ⟨rfl, hdo⟩⟩
              · rintro x s' ⟨s₁, q1, q2, rfl, h⟩
                rcases h with ⟨h, -⟩ | ⟨h, -⟩ <;> cases h
            · rintro x s' (⟨h, -⟩ | ⟨s₁, hs₁, b, hb, rfl, rfl⟩)
              · cases h
              · rcases hs₁ with rfl | ⟨b', h, -⟩
                · refine RD.one (i := 0) rfl rfl rfl rfl rfl (OW.loadP tysOk rfl rfl rfl (by rw [Store.set_ne _ _ (ne_of_set_none hb)]; exact Store.set_same _ _ _) rfl (X := fun _ _ => False)) ?_ (fun _ _ h => h.elim)
                  rintro x s' ⟨rfl, rfl⟩
                  refine RD.callV (i := 6) rfl rfl rfl rfl rfl rfl rfl rfl (ACallV.drop (Store.sub_set _ _ _ hb) (ACallV.of_calls (by
                    rw [hlet]; exact ih (p ++ [letterOf j]) 1 (.own b) _ s₀ (by simp; omega) (.inr rfl) hI k1 k2))) ?_ ?_
                  · rintro x s' ⟨s₁, q1, q2, rfl, h⟩
                    rcases h with ⟨⟨⟩, hgo⟩ | ⟨⟨⟩, hdo⟩
                    · refine RD.run rfl (RD.done rfl ?_)
                      repeat (first | with_reducible refine andThen_normal ?_ | with_reducible refine inBlock_normal ?_ | with_reducible refine CW.skip ?_ | refine CW.reg (RL.run tysOk rfl (RL.nil ?_)) | refine CW.condF rfl ?_)
                      refine ⟨(j + 1, s₁), ⟨by show j + 1 ≤ 26; omega, hgo, q1, q2⟩, ⟨⟨_, rfl, AVle.refl _⟩, ⟨_, rfl, AVle.refl _⟩, ⟨_, rfl, AVle.of_eq ?_⟩, trivial⟩, Store.sub_refl _, by show 26 - (j + 1) < 26 - j; omega⟩
                      rw [u8_wrap (by omega) (by omega)]; simp; omega
                    · refine RD.run rfl (RD.done rfl ?_)
                      repeat (first | with_reducible refine CW.seq ?_ | with_reducible refine andThen_normal ?_ | with_reducible refine andThen_ret ?_ | with_reducible refine inBlock_ret ?_ | with_reducible refine CW.ret ?_ | refine CW.reg (RL.run tysOk rfl (RL.nil ?_)) | refine CW.condT rfl ?_)
                      exact ⟨_, _, _, rfl, AVle.refl _, Store.sub_refl _, s₁, q1, q2, rfl, .inr ⟨rfl, hdo⟩⟩
                  · rintro x s' ⟨s₁, q1, q2, rfl, h⟩
                    rcases h with ⟨h, -⟩ | ⟨h, -⟩ <;> cases h
                · cases h
        · repeat (first | with_reducible refine CW.seq ?_ | with_reducible refine andThen_normal ?_ | with_reducible refine andThen_exit ?_ | with_reducible refine inBlock_here ?_ | with_reducible refine CW.ret ?_ | with_reducible refine CW.exit ?_ | refine CW.reg (RL.run tysOk rfl (RL.nil ?_)))
          have : j = 26 := by simp at h; omega
          subst this
          exact ⟨_, _, _, rfl, AVle.refl _, Store.sub_refl _, s₀, k1, k2, rfl, .inl ⟨rfl, by rw [List.drop_of_length_le (by simp)] at hI; exact hI⟩⟩
end Go.Proofs.Ytaafacnoddjhgaa

/- Contracts of the layer 'shape': the names one after the other, the first free one. -/
namespace Go.Proofs.Ytaafacnoddjhgaa
open Go.AE

/-- All names of at most two letters. -/
def names12 : List Str := nonKw (leaves 1 []) ++ nonKw (leaves 2 [])

def kwStore (kb : Nat) (s : Store) : Store := s.set kb (.map (setA kws))

/-- The store at the loop's head: keywords, and the size's variable. -/
def sized (kb b3 size : Nat) (s : Store) : Store := (kwStore kb s).set b3 (.box 3 [.int .i64 (size : Int)])

set_option maxRecDepth 10000 in
theorem names_spec (l : Nat) (Go : List Str → Store → Prop) (Done : Store → Prop) (hY : Yields l Go Done) (hN : ∀ s, ¬ Go [] s) (s : Store) (hg : Go names12 s) :
    ACalls Try.prog 81 [yieldV l] s (fun o s' => o = .ret (.tup []) ∧ Done s') := by
  refine ACalls.of_CW tysOk call81 Try.func81 rfl rfl ?_
  repeat (first | with_reducible refine CW.seq ?_ | with_reducible refine andThen_normal ?_ | refine CW.reg (RL.run tysOk rfl (RL.nil ?_)) | refine CW.reg ?_)
  refine RL.call rfl rfl rfl rfl rfl (keywords_spec s) ?_ (fun _ _ ⟨_, _, h, _⟩ => by cases h)
  rintro _ _ ⟨kb, hkb, ⟨⟩, rfl⟩
  refine RL.alloc tysOk rfl rfl rfl rfl rfl rfl rfl (fun b2 hb2 => ?_)
  refine RL.storeP tysOk rfl rfl rfl rfl rfl rfl rfl rfl rfl (Store.set_same _ _ _) rfl ?_
  rw [Store.set_set]
  refine RL.freeze 2 b2 rfl (Store.set_same _ _ _) ?_
  rw [Store.del_set _ _ _ hb2]
  repeat (first | with_reducible refine CW.seq ?_ | with_reducible refine andThen_normal ?_ | refine CW.reg ?_ | refine RL.nil ?_)
  refine RL.alloc tysOk rfl rfl rfl rfl rfl rfl rfl (fun b3 hb3 => ?_)
  refine RL.storeP tysOk rfl rfl rfl rfl rfl rfl rfl rfl rfl (Store.set_same _ _ _) rfl ?_
  rw [Store.set_set]
  repeat (first | with_reducible refine andThen_normal ?_ | with_reducible refine CW.block ?_ | refine RL.nil ?_)
  refine CW.loop (σ := Nat × Nat × Store) (fun q => [(1, .fptr [yieldV l] 0), (2, .fptr [.map kb] 0), (3, .ptr q.2.1 0)]) (fun q => sized kb q.2.1 q.1 q.2.2)
    (fun q => ((q.1 = 1 ∧ Go (nonKw (leaves 1 []) ++ (nonKw (leaves 2 []) ++ [])) q.2.2) ∨ (q.1 = 2 ∧ Go (nonKw (leaves 2 []) ++ []) q.2.2)) ∧ q.2.2 kb = none ∧ q.2.2 q.2.1 = none ∧ q.2.1 ≠ kb) (fun q => 3 - q.1) (1, b3, s) ⟨.inl ⟨rfl, by simpa [names12] using hg⟩, hkb, (Store.set_none hb3).2, (Store.set_none hb3).1⟩ ?_ (Store.sub_refl _) ?_
  · exact ⟨⟨_, rfl, AVle.refl _⟩, ⟨_, rfl, AVle.refl _⟩, ⟨_, rfl, AVle.refl _⟩, trivial⟩
  · rintro ⟨size, b, s₀⟩ ⟨hI, k1, k2, k3⟩
    simp only at hI k1 k2 k3
    have hs2 : size ≤ 2 := by rcases hI with ⟨h, -⟩ | ⟨h, -⟩ <;> omega
    repeat (first | with_reducible refine CW.seq ?_ | refine CW.reg ?_)
    refine RL.loadP tysOk rfl rfl rfl rfl rfl rfl (Store.set_same _ _ _) rfl ?_
    repeat (first | with_reducible refine andThen_normal ?_ | refine RL.nil ?_ | refine RL.step tysOk rfl rfl rfl rfl ?_)
    refine CW.cond rfl (fun h => ?_) (fun h => by simp at h; omega)
    repeat (first | with_reducible refine CW.seq ?_ | with_reducible refine andThen_normal ?_ | with_reducible refine CW.skip ?_ | with_reducible refine CW.block ?_ | refine CW.reg ?_)
    refine RL.alloc tysOk rfl rfl rfl rfl rfl rfl rfl (fun b4 hb4 => ?_)
    obtain ⟨n1, n2⟩ := Store.set_none hb4
    obtain ⟨n3, n4⟩ := Store.set_none n2
    refine RL.freeze 3 b rfl (by rw [Store.set_ne _ _ (Ne.symm n1)]; exact Store.set_same _ _ _) ?_
    repeat (first | with_reducible refine CW.seq ?_ | with_reducible refine andThen_normal ?_ | refine CW.reg ?_ | refine RL.nil ?_ | refine RL.step tysOk rfl rfl rfl rfl ?_)
    refine RL.storeP tysOk rfl rfl rfl rfl rfl rfl rfl rfl rfl (by rw [Store.del_ne _ n1]; exact Store.set_same _ _ _) rfl ?_
    repeat (first | with_reducible refine CW.seq ?_ | with_reducible refine andThen_normal ?_ | refine CW.reg ?_ | refine RL.nil ?_)
    refine RL.loadP tysOk rfl rfl rfl rfl rfl rfl (Store.set_same _ _ _) rfl ?_
    obtain ⟨rest, hgo, hrest⟩ : ∃ rest, Go (nonKw (leaves size []) ++ rest) s₀ ∧ ∀ s₁, Go rest s₁ → size = 1 ∧ Go (nonKw (leaves 2 []) ++ []) s₁ := by
      rcases hI with ⟨rfl, hh⟩ | ⟨rfl, hh⟩
      · exact ⟨_, hh, fun _ h => ⟨rfl, h⟩⟩
      · exact ⟨[], hh, fun _ h => absurd h (hN _)⟩
    have n4' : s₀ b4 = none := n4
    have n1' : b4 ≠ b := n1
    refine RL.callV rfl rfl rfl rfl rfl rfl (ACallV.drop (s' := grows 179 size kb b4 l s₀) ?_ (ACallV.of_calls (grow_spec 179 size kb b4 l (Ne.symm n3) Go Done hY (by omega) size [] 0 .nil rest s₀ (by simp) (.inl rfl) hgo k1 n4))) ?_ ?_
    · intro x
      by_cases e1 : x = b4
      · subst e1; left; rw [grows, Store.set_same, Store.set_same]; rfl
      · by_cases e2 : x = b
        · subst e2; right; rw [grows, Store.set_ne _ _ e1, Store.set_ne _ _ k3]; exact k2
        · left; rw [grows, Store.set_ne _ _ e1, Store.set_ne _ _ e1, Store.del_ne _ e2, Store.set_ne _ _ e1, sized, Store.set_ne _ _ e2]; rfl
    · rintro x s' ⟨s₁, q1, q2, rfl, h⟩
      rcases h with ⟨⟨⟩, hgo'⟩ | ⟨⟨⟩, hdo⟩
      · obtain ⟨hsz, hgo2⟩ := hrest _ hgo'
        subst hsz
        repeat (first | with_reducible refine CW.seq ?_ | with_reducible refine andThen_normal ?_ | with_reducible refine inBlock_normal ?_ | with_reducible refine CW.skip ?_ | refine CW.reg (RL.run tysOk rfl (RL.nil ?_)) | refine CW.reg ?_ | refine RL.nil ?_ | refine CW.condF rfl ?_ | refine RL.step tysOk rfl rfl rfl rfl ?_)
        refine RL.alloc tysOk rfl rfl rfl rfl rfl rfl rfl (fun b5 hb5 => ?_)
        refine RL.storeP tysOk rfl rfl rfl rfl rfl rfl rfl rfl rfl (Store.set_same _ _ _) rfl ?_
        rw [Store.set_set]
        repeat (first | with_reducible refine andThen_normal ?_ | refine CW.reg ?_ | refine RL.nil ?_)
        refine RL.loadP tysOk rfl rfl rfl rfl rfl rfl (Store.set_same _ _ _) rfl ?_
        repeat (first | refine RL.step tysOk rfl rfl rfl rfl ?_)
        refine RL.storeP tysOk rfl rfl rfl rfl rfl rfl rfl rfl rfl (Store.set_same _ _ _) rfl ?_
        rw [Store.set_set]
        repeat (first | with_reducible refine andThen_normal ?_ | refine RL.nil ?_)
        obtain ⟨m1, m2⟩ := Store.set_none hb5
        obtain ⟨m3, m4⟩ := Store.set_none m2
        refine ⟨(2, b5, s₁), ⟨.inr ⟨rfl, hgo2⟩, q1, m4, m3⟩, ⟨⟨_, rfl, AVle.refl _⟩, ⟨_, rfl, AVle.refl _⟩, ⟨_, rfl, AVle.refl _⟩, trivial⟩, ?_, by show 3 - 2 < 3 - 1; omega⟩
        intro x
        by_cases e1 : x = b5
        · subst e1; left; rw [Store.set_same, sized, Store.set_same]; rfl
        · by_cases e2 : x = b4
          · subst e2; right; rw [sized, Store.set_ne _ _ e1, kwStore, Store.set_ne _ _ n3]; exact q2
          · left; rw [sized, Store.set_ne _ _ e1, Store.set_ne _ _ e1, grows, Store.set_ne _ _ e2]; rfl
      · repeat (first | with_reducible refine andThen_normal ?_ | with_reducible refine andThen_ret ?_ | with_reducible refine inBlock_ret ?_ | with_reducible refine CW.ret ?_ | refine RL.nil ?_ | refine CW.condT rfl ?_ | refine RL.step tysOk rfl rfl rfl rfl ?_)
        refine ⟨_, _, s₁, rfl, AVle.refl _, ?_, rfl, hdo⟩
        intro x
        by_cases e1 : x = b4
        · subst e1; exact .inr q2
        · by_cases e2 : x = kb
          · subst e2; exact .inr q1
          · left; rw [grows, Store.set_ne _ _ e1, Store.set_ne _ _ e2]
    · rintro x s' ⟨s₁, q1, q2, rfl, h⟩
      rcases h with ⟨h, -⟩ | ⟨h, -⟩ <;> cases h
end Go.Proofs.Ytaafacnoddjhgaa

/- Contracts of the layer 'shape': the first free name; that there is one. -/
namespace Go.Proofs.Ytaafacnoddjhgaa
open Go.AE

theorem names12_eq : names12 = ((List.range 702).map fun k => word (k + 1)).filter nameS := by decide +kernel

theorem find_names (l : List Str) (h : HasFree l) : names12.find? (fun w => !l.contains w) = some (freshS l) := by
  obtain ⟨h1, h2, h3⟩ := freshK_spec h
  rw [names12_eq, List.find?_filter, List.find?_map]
  have : (List.range 702).find? ((fun w => decide (nameS w = true ∧ (!l.contains w) = true)) ∘ fun k => word (k + 1)) = some (freshK l) := by
    rw [List.find?_range_eq_some]
    refine ⟨by simpa [free1] using h2, List.mem_range.2 h1, fun j hj => ?_⟩
    have := h3 j hj
    simp only [free1] at this
    cases hn : nameS (word (j + 1)) <;> simp_all
  rw [this]; rfl

set_option maxRecDepth 10000 in
theorem fresh_spec (tk : List Str) (mb : Nat) (s : Store) (hs : s mb = some (.map (setA tk))) (hf : HasFree tk) :
    ACalls Try.prog 47 [.map mb] s (fun o s' => o = .ret (.str (freshS tk)) ∧ s' = s) := by
  refine ACalls.of_CW tysOk call47 Try.func47 rfl rfl ?_
  repeat (first | with_reducible refine CW.seq ?_ | refine CW.reg ?_ | refine RL.step tysOk rfl rfl rfl rfl ?_)
  refine RL.alloc tysOk rfl rfl rfl rfl rfl rfl rfl (fun b2 hb2 => ?_)
  have hne : mb ≠ b2 := fun e => by rw [e, hb2] at hs; cases hs
  repeat (first | with_reducible refine CW.seq ?_ | with_reducible refine andThen_normal ?_ | with_reducible refine CW.block ?_ | refine RL.nil ?_)
  refine CW.rangeF (f := 81) (first := []) (cap := []) rfl (by intro t ht; simp at ht; subst ht; decide) ?_
  intro l r hl hyield
  generalize hB : s.set b2 (.box 9 [.str []]) = sB at hl hyield ⊢
  have hBm : sB mb = some (.map (setA tk)) := by rw [← hB, Store.set_ne _ _ hne]; exact hs
  have hBl : (s.set b2 (.box 9 [.str (freshS tk)])) l = none := by
    rw [← hB] at hl
    obtain ⟨q1, q2⟩ := Store.set_none hl
    rw [Store.set_ne _ _ q1]; exact q2
  have hcall := names_spec l (fun rem s' => s' = sB.set l (.loop r ((2, .ptr b2 0) :: (1, .fptr [.map mb] 0) :: envOf 0 [.map mb])) ∧ rem.find? (fun w => !tk.contains w) = some (freshS tk))
    (fun s' => s' = (s.set b2 (.box 9 [.str (freshS tk)])).set l (.loop (over r .ret) ((2, .ptr b2 0) :: (1, .fptr [.map mb] 0) :: envOf 0 [.map mb]))) ?_ (fun _ h => by cases h.2) _ ⟨rfl, find_names tk hf⟩
  · refine hcall.mono ?_
    rintro o s' ⟨rfl, rfl⟩
    refine .inr ⟨.ret, _, hBl, rfl, ?_⟩
    refine CW.freeze 2 b2 rfl (Store.set_same _ _ _) ?_
    rw [Store.del_set _ _ _ hb2]
    refine CW.ret ?_
    repeat (first | with_reducible refine andThen_ret ?_ | with_reducible refine inBlock_ret ?_)
    exact ⟨_, _, _, rfl, AVle.refl _, Store.sub_refl _, rfl, rfl⟩
  · rintro w rem s' ⟨rfl, hfind⟩
    refine (hyield [.str w] _ (fun s₂ => s₂ = sB ∧ rem.find? (fun w => !tk.contains w) = some (freshS tk)) (fun j s₂ => j = .ret ∧ s₂ = s.set b2 (.box 9 [.str (freshS tk)])) (fun _ _ => False) (Store.set_same _ _ _) rfl ?_).mono ?_
    · rw [Store.del_set _ _ _ hl]
      repeat (first | with_reducible refine CW.seq ?_ | with_reducible refine andThen_normal ?_ | with_reducible refine CW.block ?_ | refine CW.reg (RL.run tysOk rfl (RL.nil ?_)) | refine CW.reg ?_ | refine RL.step tysOk rfl rfl rfl rfl ?_)
      refine RL.lookup tysOk rfl rfl rfl rfl rfl rfl rfl rfl rfl rfl hBm rfl (getA_set _ _) rfl ?_
      rw [gotA_set]
      cases hc : tk.contains w with
      | true =>
        repeat (first | with_reducible refine andThen_normal ?_ | with_reducible refine inBlock_normal ?_ | with_reducible refine CW.skip ?_ | refine RL.nil ?_ | refine CW.condF rfl ?_ | refine RL.step tysOk rfl rfl rfl rfl ?_)
        refine ⟨rfl, ?_⟩
        rw [List.find?_cons, hc] at hfind
        exact hfind
      | false =>
        have hw : w = freshS tk := by rw [List.find?_cons, hc] at hfind; cases hfind; rfl
        repeat (first | with_reducible refine CW.seq ?_ | with_reducible refine andThen_normal ?_ | refine CW.reg ?_ | refine RL.nil ?_ | refine CW.condT rfl ?_ | refine RL.step tysOk rfl rfl rfl rfl ?_)
        refine RL.storeP tysOk rfl rfl rfl rfl rfl rfl rfl rfl rfl (by rw [← hB]; exact Store.set_same _ _ _) rfl ?_
        repeat (first | with_reducible refine andThen_normal ?_ | with_reducible refine inBlock_ret ?_ | with_reducible refine CW.ret ?_ | refine RL.nil ?_)
        refine ⟨rfl, ?_⟩
        rw [← hB, Store.set_set, ← hw]; rfl
    · rintro o s' (⟨rfl, s₂, -, rfl, rfl, h⟩ | ⟨rfl, j, s₂, -, rfl, rfl, rfl⟩ | ⟨v, s₂, -, -, -, h⟩)
      · exact .inl ⟨rfl, rfl, h⟩
      · exact .inr ⟨rfl, rfl⟩
      · exact h.elim

set_option maxRecDepth 10000 in
theorem shapeFresh_spec (l : List Str) (own : Own) (s : Store) (hl : l.length < 9223372036854775807) (hf : HasFree (setOf l)) :
    ACalls Try.prog 12 [.slc 1 (strs l) own] s (fun o s' => o = .ret (.str (freshS (setOf l))) ∧ s' = s) := by
  refine ACalls.of_CW tysOk call12 Try.func12 rfl rfl ?_
  repeat (first | with_reducible refine CW.seq ?_ | with_reducible refine andThen_normal ?_ | refine CW.reg (RL.run tysOk rfl (RL.nil ?_)) | refine CW.reg ?_ | refine RL.step tysOk rfl rfl rfl rfl ?_)
  refine RL.call rfl rfl rfl rfl rfl (set_spec l own s hl) ?_ (fun _ _ ⟨_, _, h, _⟩ => by cases h)
  rintro _ _ ⟨b, hb, ⟨⟩, rfl⟩
  refine RL.callP rfl rfl rfl rfl rfl (fresh_spec (setOf l) b _ (Store.set_same _ _ _) hf) ?_
  repeat (first | with_reducible refine andThen_normal ?_ | with_reducible refine CW.ret ?_ | refine RL.nil ?_ | refine RL.step tysOk rfl rfl rfl rfl ?_)
  exact ⟨_, _, _, rfl, AVle.refl _, Store.sub_set _ _ _ hb, rfl, rfl⟩

/-! ### There is a free name -/

theorem free1_congr {l m : List Str} (h : ∀ x, l.contains x = m.contains x) : free1 l = free1 m := by
  funext k; simp only [free1, h]

theorem freshS_congr {l m : List Str} (h : ∀ x, l.contains x = m.contains x) : freshS l = freshS m := by
  unfold freshS freshK; rw [free1_congr h]

theorem nodup_length : ∀ (xs l : List Str), xs.Nodup → (∀ x ∈ xs, x ∈ l) → xs.length ≤ l.length := by
  intro xs
  induction xs with
  | nil => intro l _ _; simp
  | cons x xs ih =>
    intro l hn hs
    obtain ⟨h1, h2⟩ := List.nodup_cons.1 hn
    have hx := hs x (List.mem_cons_self ..)
    have := ih (l.erase x) h2 (fun y hy => (List.mem_erase_of_ne (fun e => h1 (by rw [← e]; exact hy))).2 (hs y (List.mem_cons_of_mem _ hy)))
    rw [List.length_erase_of_mem hx] at this
    have : 0 < l.length := List.length_pos_of_mem hx
    simp; omega

/-- The number of a word. -/
def unword (w : Str) : Nat := w.foldl (fun n c => n * 26 + (c.toNat - 96)) 0

theorem unword_word : ∀ k, k < 702 → unword (word (k + 1)) = k + 1 := by
  have : (List.range 702).all (fun k => unword (word (k + 1)) == k + 1) = true := by decide +kernel
  intro k hk
  simpa using List.all_eq_true.1 this k (List.mem_range.2 hk)

theorem names12_length : (((List.range 702).map fun k => word (k + 1)).filter nameS).length = 698 := by decide +kernel

theorem names12_nodup : (((List.range 702).map fun k => word (k + 1)).filter nameS).Nodup := by
  refine List.Nodup.sublist List.filter_sublist ?_
  rw [List.nodup_iff_pairwise_ne, List.pairwise_map]
  refine List.Pairwise.imp_of_mem ?_ List.nodup_range
  intro a b ha hb hab e
  have h1 := unword_word a (List.mem_range.1 ha)
  have h2 := unword_word b (List.mem_range.1 hb)
  rw [e] at h1
  omega

theorem hasFree_of {l : List Str} (h : l.length < 698) : HasFree l := by
  refine Classical.byContradiction fun hc => ?_
  have hall : ∀ x ∈ ((List.range 702).map fun k => word (k + 1)).filter nameS, x ∈ l := by
    intro x hx
    obtain ⟨h1, h2⟩ := List.mem_filter.1 hx
    obtain ⟨k, hk, rfl⟩ := List.mem_map.1 h1
    refine Classical.byContradiction fun hn => hc ⟨k, List.mem_range.1 hk, ?_⟩
    have : l.contains (word (k + 1)) = false := by rw [Bool.eq_false_iff]; simpa using hn
    simp [free1, h2]
    simpa using hn
  have := nodup_length _ l names12_nodup hall
  rw [names12_length] at this
  omega
end Go.Proofs.Ytaafacnoddjhgaa

