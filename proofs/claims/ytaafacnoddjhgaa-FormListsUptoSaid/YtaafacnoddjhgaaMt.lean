import Derived.Test.YtaafacnoddjhgaaMr
/- The plain law of FormLists: what stands above a class, told twice. -/
namespace Go.Proofs.Ytaafacnoddjhgaa
open Go.AE

def nameAt (cls : List FClass) (j : Nat) : List Str := (cls[j]?.map fun c => [c.name]).getD []
/-- The names of the classes that are marked, among the first k. -/
def namesUpto (cls : List FClass) (up : List Bool) (k : Nat) : List Str := (List.range k).flatMap fun j => if up.getD j false then nameAt cls j else []
theorem namesUpto_succ (cls : List FClass) (up : List Bool) (k : Nat) : namesUpto cls up (k + 1) = namesUpto cls up k ++ (if up.getD k false then nameAt cls k else []) := by
  unfold namesUpto; rw [List.range_succ, List.flatMap_append]; simp
theorem namesUpto_len (cls : List FClass) (up : List Bool) : ∀ k, (namesUpto cls up k).length ≤ k
  | 0 => by simp [namesUpto]
  | k + 1 => by
    rw [namesUpto_succ, List.length_append]
    have := namesUpto_len cls up k
    have : (if up.getD k false then nameAt cls k else []).length ≤ 1 := by
      split
      · unfold nameAt; cases cls[k]? <;> simp
      · simp
    omega

/-- A name is at one place only. -/
theorem Plain.one {cls : List FClass} (h : Plain cls) {i j : Nat} {c d : FClass} (hi : cls[i]? = some c) (hj : cls[j]? = some d) (e : c.name = d.name) : i = j := by
  refine Classical.byContradiction fun hne => ?_
  have key : ∀ {i j : Nat} {c d : FClass}, cls[i]? = some c → cls[j]? = some d → c.name = d.name → ¬ i < j := by
    intro i j c d hi hj e hlt
    refine (h j d hj).2.1.2 (e ▸ List.mem_map_of_mem (List.mem_of_getElem? (i := i) ?_))
    rw [List.getElem?_take, if_pos hlt]; exact hi
  rcases Nat.lt_or_gt_of_ne hne with hlt | hlt
  · exact key hi hj e hlt
  · exact key hj hi e.symm hlt

theorem Tidy.name {cls : List FClass} (h : Tidy cls) {j : Nat} {p : Str} (hp : p ∈ parsAt cls j) : ∃ c, cls[at_ cls p]? = some c ∧ c.name = p := by
  obtain ⟨h1, -, -⟩ := h.find hp
  rw [List.findIdx?_eq_some_iff_getElem] at h1
  obtain ⟨q1, q2, -⟩ := h1
  exact ⟨_, List.getElem?_eq_getElem q1, by simpa using q2⟩

theorem mem_addAllF {l : List Str} {x : Str} : ∀ {acc : List Str}, x ∈ addAll acc l ↔ x ∈ acc ∨ x ∈ l := by
  induction l with
  | nil => intro acc; simp [addAll]
  | cons y l ih =>
    intro acc
    show x ∈ addAll (insS acc y) l ↔ _
    rw [ih]
    have : x ∈ insS acc y ↔ x ∈ acc ∨ x = y := by
      unfold insS
      split
      · rename_i hc
        constructor
        · exact .inl
        · rintro (h | rfl)
          · exact h
          · exact List.contains_iff_mem.1 hc
      · simp
    rw [this, List.mem_cons, or_assoc]

theorem ups_up {cls : List FClass} (hp : Plain cls) {k : Nat} {ck : FClass} (hk : cls[k]? = some ck) : ∀ (m : Nat) (acc : List Str), m ≤ k + 1 →
    (∀ x, x ∈ acc ↔ x = ck.name ∨ ∃ m', m ≤ m' ∧ Up cls k m' ∧ x ∈ parsAt cls m') →
    ∀ x, (x ∈ upsS (cls.take m).reverse acc ↔ x = ck.name ∨ ∃ m', Up cls k m' ∧ x ∈ parsAt cls m')
  | 0, acc, _, h, x => by
    rw [List.take_zero, List.reverse_nil, upsS, h x]
    exact or_congr Iff.rfl ⟨fun ⟨m, _, h⟩ => ⟨m, h⟩, fun ⟨m, h⟩ => ⟨m, Nat.zero_le _, h⟩⟩
  | m + 1, acc, hm, h, x => by
    have hkl := (List.getElem?_eq_some_iff.1 hk).1
    obtain ⟨c, hc⟩ : ∃ c, cls[m]? = some c := ⟨_, List.getElem?_eq_getElem (by omega)⟩
    have ht := hp.tidy
    have hpar : parsAt cls m = c.parents := by simp [parsAt, hc]
    have hup : acc.contains c.name = true ↔ Up cls k m := by
      rw [List.contains_iff_mem, h c.name]
      constructor
      · rintro (e | ⟨m', _, hu, hq⟩)
        · rw [hp.one hc hk e]; exact .self
        · obtain ⟨d, hd, e⟩ := ht.name hq
          have := hp.one hd hc e
          rw [← this]
          exact hu.step hq
      · intro hu
        rcases hu.tail with rfl | ⟨m', hu', p, hq, e⟩
        · rw [hk] at hc; cases hc; exact .inl rfl
        · obtain ⟨d, hd, e2⟩ := ht.name hq
          rw [← e, hc] at hd
          cases hd
          have := ht.ahead _ _ hq
          exact .inr ⟨m', by omega, hu', e2 ▸ hq⟩
    have hstep : ∀ x, (∃ m', m ≤ m' ∧ Up cls k m' ∧ x ∈ parsAt cls m') ↔ (Up cls k m ∧ x ∈ c.parents) ∨ ∃ m', m + 1 ≤ m' ∧ Up cls k m' ∧ x ∈ parsAt cls m' := by
      intro x
      constructor
      · rintro ⟨m', hm', hu, hx⟩
        by_cases e : m' = m
        · subst e; exact .inl ⟨hu, hpar ▸ hx⟩
        · exact .inr ⟨m', by omega, hu, hx⟩
      · rintro (⟨hu, hx⟩ | ⟨m', hm', hu, hx⟩)
        · exact ⟨m, Nat.le_refl _, hu, hpar ▸ hx⟩
        · exact ⟨m', by omega, hu, hx⟩
    rw [take_rev hc, upsS]
    refine ups_up hp hk m _ (by omega) (fun x => ?_) x
    rw [hstep x]
    by_cases hu : Up cls k m
    · rw [if_pos (hup.2 hu), mem_addAllF, h x]
      constructor
      · rintro ((e | e) | e)
        · exact .inl e
        · exact .inr (.inr e)
        · exact .inr (.inl ⟨hu, e⟩)
      · rintro (e | ⟨-, e⟩ | e)
        · exact .inl (.inl e)
        · exact .inr e
        · exact .inl (.inr e)
    · rw [if_neg (fun h' => hu (hup.1 h')), h x]
      simp [hu]

theorem upOf_up {cls : List FClass} (hp : Plain cls) {k j : Nat} {ck c : FClass} (hk : cls[k]? = some ck) (hc : cls[j]? = some c) : (upOf cls k ck.name).contains c.name = true ↔ Up cls k j := by
  have ht := hp.tidy
  unfold upOf
  rw [List.contains_iff_mem, ups_up hp hk (k + 1) [ck.name] (Nat.le_refl _) (fun x => ?_)]
  · constructor
    · rintro (e | ⟨m, hu, hx⟩)
      · rw [hp.one hc hk e]; exact .self
      · obtain ⟨d, hd, e⟩ := ht.name hx
        rw [← hp.one hd hc e]
        exact hu.step hx
    · intro hu
      rcases hu.tail with rfl | ⟨m, hu', p, hq, rfl⟩
      · rw [hk] at hc; cases hc; exact .inl rfl
      · obtain ⟨d, hd, e2⟩ := ht.name hq
        rw [hc] at hd; cases hd
        exact .inr ⟨m, hu', e2 ▸ hq⟩
  · rw [List.mem_singleton]
    constructor
    · exact .inl
    · rintro (e | ⟨m, hm, hu, -⟩)
      · exact e
      · have := hu.le ht.ahead; omega

theorem filter_range {cls : List FClass} (f : FClass → Bool) (up : List Bool) : ∀ n, n ≤ cls.length → (∀ j c, j < n → cls[j]? = some c → (f c = true ↔ up.getD j false = true)) → ((cls.take n).filter f).map FClass.name = namesUpto cls up n
  | 0, _, _ => rfl
  | n + 1, hn, h => by
    obtain ⟨c, hc⟩ : ∃ c, cls[n]? = some c := ⟨_, List.getElem?_eq_getElem (by omega)⟩
    rw [← take_snoc hc, List.filter_append, List.map_append, namesUpto_succ, filter_range f up n (by omega) (fun j d hj hd => h j d (by omega) hd)]
    congr 1
    have := h n c (by omega) hc
    have hna : nameAt cls n = [c.name] := by simp [nameAt, hc]
    rw [hna]
    cases hf : f c with
    | true => rw [if_pos (this.1 hf)]; simp [hf]
    | false =>
      have : ¬ up.getD n false = true := fun h' => by rw [this.2 h'] at hf; cases hf
      rw [if_neg this]; simp [hf]

theorem names_above {cls : List FClass} (hp : Plain cls) {k : Nat} (hk : k < cls.length) : ∀ n, k ≤ n → namesUpto cls (aboveB cls k) n = namesUpto cls (aboveB cls k) k
  | n, hn => by
    induction n with
    | zero => rw [Nat.le_zero.1 hn]
    | succ n ih =>
      by_cases e : k = n + 1
      · rw [e]
      · rw [namesUpto_succ, ih (by omega)]
        have : ¬ (aboveB cls k).getD n false = true := by
          rw [aboveB_up hp.tidy.ahead hk]
          rintro ⟨m, hu, p, hq, e⟩
          have h1 := hu.le hp.tidy.ahead
          have h2 := hp.tidy.ahead _ _ hq
          omega
        rw [if_neg this, List.append_nil]

theorem above_same {cls : List FClass} (hp : Plain cls) {name : Str} {k : Nat} (hk : (cls.findIdx? fun c => c.name == name) = some k) : aboveS cls name = some (namesUpto cls (aboveB cls k) cls.length) := by
  have hkl := hk
  rw [List.findIdx?_eq_some_iff_getElem] at hkl
  obtain ⟨q1, q2, -⟩ := hkl
  have hck := List.getElem?_eq_getElem q1
  have hn : name = cls[k].name := (by simpa using q2 : cls[k].name = name).symm
  unfold aboveS
  rw [hk]
  simp only
  rw [names_above hp q1 cls.length (by omega)]
  congr 1
  refine filter_range _ _ k (by omega) fun j c hj hc => ?_
  rw [hn, upOf_up hp hck hc, aboveB_up hp.tidy.ahead q1]
  constructor
  · intro hu
    rcases hu.tail with e | h
    · omega
    · exact h
  · rintro ⟨m, hu, p, hq, rfl⟩
    exact hu.step hq
end Go.Proofs.Ytaafacnoddjhgaa

/- Contracts of the reference: GensOf, Gens, Slots, Above; the law FormLists. -/
namespace Go.Proofs.Ytaafacnoddjhgaa
open Go.AE

set_option maxRecDepth 10000 in
theorem refGensOf_spec (P : FProg) (s : Store) (hP : P.Fair) :
    ACalls Try.prog 61 [P.av] s (fun o s' => o = .ret (.tup [.slc 1 (strs ((progGens P).1.map (·.1))) .fro, .slc 1 (ints ((progGens P).1.map (·.2))) .fro]) ∧ s' = s) := by
  refine ACalls.of_CW tysOk call61 Try.func61 rfl rfl ?_
  repeat (first | with_reducible refine CW.seq ?_ | with_reducible refine andThen_normal ?_ | refine CW.reg (RL.run tysOk rfl (RL.nil ?_)) | refine CW.reg ?_ | refine RL.step tysOk rfl rfl rfl rfl ?_)
  refine RL.callP rfl rfl rfl rfl rfl (refFunctions_spec P s hP) ?_
  repeat (first | with_reducible refine CW.seq ?_ | with_reducible refine andThen_normal ?_ | with_reducible refine CW.ret ?_ | refine CW.reg (RL.run tysOk rfl (RL.nil ?_)) | refine RL.nil ?_ | refine RL.step tysOk rfl rfl rfl rfl ?_)
  exact ⟨_, _, _, rfl, AVle.refl _, Store.sub_refl _, rfl, rfl⟩

set_option maxRecDepth 10000 in
theorem refGens_spec (P : FProg) (s : Store) (hP : P.Fair) :
    ACalls Try.prog 22 [P.av] s (fun o s' => o = .ret (.tup [.slc 1 (strs (if progOk P then (progGens P).1.map (·.1) else [])) .fro, err (progOk P)]) ∧ s' = s) := by
  have hpr := refProg_spec P s hP
  rw [prog_known] at hpr
  refine ACalls.of_CW tysOk call22 Try.func22 rfl rfl ?_
  cases hok : progOk P with
  | true =>
    rw [hok] at hpr
    repeat (first | with_reducible refine CW.seq ?_ | with_reducible refine andThen_normal ?_ | refine CW.reg (RL.run tysOk rfl (RL.nil ?_)) | refine CW.reg ?_ | refine RL.step tysOk rfl rfl rfl rfl ?_)
    refine RL.callP rfl rfl rfl rfl rfl hpr ?_
    repeat (first | with_reducible refine CW.seq ?_ | with_reducible refine andThen_normal ?_ | with_reducible refine CW.skip ?_ | refine CW.reg ?_ | refine RL.nil ?_ | refine CW.condF rfl ?_ | refine RL.step tysOk rfl rfl rfl rfl ?_)
    refine RL.callP rfl rfl rfl rfl rfl (refGensOf_spec P s hP) ?_
    repeat (first | with_reducible refine CW.seq ?_ | with_reducible refine andThen_normal ?_ | with_reducible refine CW.ret ?_ | refine CW.reg (RL.run tysOk rfl (RL.nil ?_)) | refine RL.nil ?_ | refine RL.step tysOk rfl rfl rfl rfl ?_)
    exact ⟨_, _, _, rfl, AVle.refl _, Store.sub_refl _, rfl, rfl⟩
  | false =>
    rw [hok] at hpr
    repeat (first | with_reducible refine CW.seq ?_ | with_reducible refine andThen_normal ?_ | refine CW.reg (RL.run tysOk rfl (RL.nil ?_)) | refine CW.reg ?_ | refine RL.step tysOk rfl rfl rfl rfl ?_)
    refine RL.callP rfl rfl rfl rfl rfl hpr ?_
    repeat (first | with_reducible refine CW.seq ?_ | with_reducible refine andThen_normal ?_ | with_reducible refine andThen_ret ?_ | with_reducible refine CW.ret ?_ | refine CW.reg (RL.run tysOk rfl (RL.nil ?_)) | refine RL.nil ?_ | refine CW.condT rfl ?_ | refine RL.step tysOk rfl rfl rfl rfl ?_)
    exact ⟨_, _, _, rfl, AVle.tup (.cons strs_nil_le (AVleL.refl _)), Store.sub_refl _, rfl, rfl⟩

set_option maxRecDepth 10000 in
theorem refSlots_spec (P : FProg) (s : Store) (hP : P.Fair) :
    ACalls Try.prog 25 [P.av] s (fun o s' => o = .ret (.tup [.slc 1 (strs (if progOk P then P.classes.flatMap FClass.slots else [])) .fro, err (progOk P)]) ∧ s' = s) := by
  have hpr := refProg_spec P s hP
  rw [prog_known] at hpr
  refine ACalls.of_CW tysOk call25 Try.func25 rfl rfl ?_
  cases hok : progOk P with
  | true =>
    rw [hok] at hpr
    repeat (first | with_reducible refine CW.seq ?_ | with_reducible refine andThen_normal ?_ | refine CW.reg (RL.run tysOk rfl (RL.nil ?_)) | refine CW.reg ?_ | refine RL.step tysOk rfl rfl rfl rfl ?_)
    refine RL.callP rfl rfl rfl rfl rfl hpr ?_
    repeat (first | with_reducible refine CW.seq ?_ | with_reducible refine andThen_normal ?_ | with_reducible refine CW.skip ?_ | refine CW.reg ?_ | refine RL.nil ?_ | refine CW.condF rfl ?_ | refine RL.step tysOk rfl rfl rfl rfl ?_)
    refine RL.callP rfl rfl rfl rfl rfl (refSlotsOf_spec P s hP.clen hP.slen) ?_
    repeat (first | with_reducible refine andThen_normal ?_ | with_reducible refine CW.ret ?_ | refine RL.nil ?_ | refine RL.step tysOk rfl rfl rfl rfl ?_)
    exact ⟨_, _, _, rfl, AVle.refl _, Store.sub_refl _, rfl, rfl⟩
  | false =>
    rw [hok] at hpr
    repeat (first | with_reducible refine CW.seq ?_ | with_reducible refine andThen_normal ?_ | refine CW.reg (RL.run tysOk rfl (RL.nil ?_)) | refine CW.reg ?_ | refine RL.step tysOk rfl rfl rfl rfl ?_)
    refine RL.callP rfl rfl rfl rfl rfl hpr ?_
    repeat (first | with_reducible refine CW.seq ?_ | with_reducible refine andThen_normal ?_ | with_reducible refine andThen_ret ?_ | with_reducible refine CW.ret ?_ | refine CW.reg (RL.run tysOk rfl (RL.nil ?_)) | refine RL.nil ?_ | refine CW.condT rfl ?_ | refine RL.step tysOk rfl rfl rfl rfl ?_)
    exact ⟨_, _, _, rfl, AVle.tup (.cons strs_nil_le (AVleL.refl _)), Store.sub_refl _, rfl, rfl⟩

theorem progOk_plain {P : FProg} (h : progOk P = true) : classesR P.classes = true ∧ P.classes.length ≤ 10 ∧ Plain P.classes := by
  unfold progOk at h
  rw [classes_known] at h
  cases hc : classesR P.classes with
  | false => rw [hc] at h; simp at h
  | true => exact ⟨rfl, (classesR_iff _).1 hc⟩

theorem progOk_gens {P : FProg} (h : progOk P = true) : (progGens P).1.length ≤ 8 := by
  unfold progOk at h
  split at h
  · cases h
  · simp only [Bool.and_eq_true, decide_eq_true_eq] at h
    exact h.2.2.2.2
theorem aboveS_len (cls : List FClass) (name : Str) : ((aboveS cls name).getD []).length ≤ cls.length := by
  unfold aboveS
  split
  · simp
  · rename_i k _
    simp only [Option.getD_some, List.length_map]
    refine Nat.le_trans (List.length_filter_le _ _) ?_
    rw [List.length_take]; omega

set_option maxRecDepth 10000 in
set_option maxHeartbeats 2000000 in
theorem refAboveP_spec (P : FProg) (name : Str) (s : Store) (hP : P.Fair) :
    ACalls Try.prog 27 [P.av, .str name] s (fun o s' => o = .ret (.tup [.slc 1 (strs (if progOk P then (aboveS P.classes name).getD [] else [])) .fro, err (progOk P && (aboveS P.classes name).isSome)]) ∧ s' = s) := by
  have hb : big = 1099511627776 := rfl
  have hcl := hP.clen
  have hml : (P.classes.map FClass.av).length = P.classes.length := List.length_map ..
  have hpr := refProg_spec P s hP
  rw [prog_known] at hpr
  have hpl := fun s => refPlace_spec P name s hP.clen
  simp only [placeOf_zero] at hpl
  refine ACalls.of_CW tysOk call27 Try.func27 rfl rfl ?_
  cases hok : progOk P with
  | false =>
    rw [hok] at hpr
    repeat (first | with_reducible refine CW.seq ?_ | with_reducible refine andThen_normal ?_ | refine CW.reg (RL.run tysOk rfl (RL.nil ?_)) | refine CW.reg ?_ | refine RL.step tysOk rfl rfl rfl rfl ?_)
    refine RL.callP rfl rfl rfl rfl rfl hpr ?_
    repeat (first | with_reducible refine CW.seq ?_ | with_reducible refine andThen_normal ?_ | with_reducible refine andThen_ret ?_ | with_reducible refine CW.ret ?_ | refine CW.reg (RL.run tysOk rfl (RL.nil ?_)) | refine RL.nil ?_ | refine CW.condT rfl ?_ | refine RL.step tysOk rfl rfl rfl rfl ?_ | refine RL.skip rfl rfl rfl ?_)
    exact ⟨_, _, _, rfl, AVle.tup (.cons strs_nil_le (AVleL.refl _)), Store.sub_refl _, rfl, rfl⟩
  | true =>
  rw [hok] at hpr
  obtain ⟨hcR, hle10, hplain⟩ := progOk_plain hok
  cases hfi : P.classes.findIdx? (fun c => c.name == name) with
  | none =>
    rw [hfi] at hpl
    repeat (first | with_reducible refine CW.seq ?_ | with_reducible refine andThen_normal ?_ | refine CW.reg (RL.run tysOk rfl (RL.nil ?_)) | refine CW.reg ?_ | refine RL.step tysOk rfl rfl rfl rfl ?_)
    refine RL.callP rfl rfl rfl rfl rfl hpr ?_
    repeat (first | refine RL.step tysOk rfl rfl rfl rfl ?_)
    refine RL.callP rfl rfl rfl rfl rfl (hpl _) ?_
    repeat (first | with_reducible refine CW.seq ?_ | with_reducible refine andThen_normal ?_ | with_reducible refine andThen_ret ?_ | with_reducible refine CW.ret ?_ | refine CW.reg (RL.run tysOk rfl (RL.nil ?_)) | refine RL.nil ?_ | refine CW.condT rfl ?_ | refine RL.step tysOk rfl rfl rfl rfl ?_)
    refine ⟨_, _, _, rfl, AVle.tup (.cons strs_nil_le (AVleL.refl _)), Store.sub_refl _, ?_, rfl⟩
    rw [aboveS, hfi]; rfl
  | some k =>
  rw [hfi] at hpl
  simp only at hpl
  have hk : k < P.classes.length := (List.findIdx?_eq_some_iff_getElem.1 hfi).1
  rw [above_same hplain hfi]
  have hpar : ∀ c ∈ P.classes, c.parents.length < big := fun c hc => (hP.cls c hc).parents.len
  have hab := aboveB_len P.classes k
  refine CW.seqCut [(1, .str name), (2, .fptr P.cells 0)] s ?_ ?_
  · repeat (first | refine CW.reg (RL.run tysOk rfl (RL.nil ?_)))
    exact ⟨rfl, (by repeat (first | exact trivial | refine ⟨⟨_, rfl, AVle.refl _⟩, ?_⟩)), Store.sub_refl _⟩
  refine CW.seq ?_
  refine CW.seqCut [(1, .str name), (2, .fptr P.cells 0), (17, .bool false)] s ?_ ?_
  · repeat (first | refine CW.reg ?_ | refine RL.step tysOk rfl rfl rfl rfl ?_)
    refine RL.callP rfl rfl rfl rfl rfl hpr ?_
    repeat (first | refine RL.step tysOk rfl rfl rfl rfl ?_)
    refine RL.callP rfl rfl rfl rfl rfl (hpl _) ?_
    repeat (first | refine RL.nil ?_ | refine RL.step tysOk rfl rfl rfl rfl ?_)
    exact ⟨rfl, (by repeat (first | exact trivial | refine ⟨⟨_, rfl, AVle.refl _⟩, ?_⟩ | refine ⟨⟨_, rfl, AVle.of_eq (by (congr 1; simp; omega))⟩, ?_⟩)), Store.sub_refl _⟩
  refine CW.condF rfl (CW.skip (andThen_normal ?_))
  refine CW.seqCutX (σ := Nat) (fun b => [(2, .fptr P.cells 0), (6, .mslc b P.classes.length)]) (fun b => s.set b (boolBox (aboveB P.classes k))) (fun b => s b = none) ?_ ?_
  · repeat (first | refine CW.drw tysOk mixed rfl (RD.run rfl ?_))
    refine RD.callP (i := 3) rfl rfl rfl rfl rfl rfl rfl (hpl _) ?_
    refine RD.run rfl ?_
    refine RD.call (i := 4) rfl rfl rfl rfl rfl rfl rfl (refAbove_spec P k s hcl hk (known_of hcR) hpar) ?_ (fun _ _ ⟨_, _, h, _⟩ => by cases h)
    rintro _ _ ⟨b, hbn, ⟨⟩, rfl⟩
    refine RD.run rfl (RD.done rfl ?_)
    exact ⟨rfl, b, hbn, (by repeat (first | exact trivial | refine ⟨⟨_, rfl, AVle.refl _⟩, ?_⟩)), Store.sub_refl _⟩
  intro b hbn
  generalize aboveB P.classes k = up at hab ⊢
  repeat (first | with_reducible refine CW.seq ?_ | with_reducible refine andThen_normal ?_ | with_reducible refine CW.block ?_ | refine CW.reg (RL.run tysOk rfl (RL.nil ?_)))
  refine CW.loop (σ := Nat × Own) (fun q => [(2, .fptr P.cells 0), (6, .mslc b P.classes.length), (7, .slc 1 (strs (namesUpto P.classes up q.1)) q.2), (8, .int .i64 (q.1 : Int))])
    (fun q => rowOf (s.set b (boolBox up)) 9 1 (namesUpto P.classes up q.1).length q.2) (fun q => q.1 ≤ P.classes.length ∧ OwnOk (s.set b (boolBox up)) 0 q.2) (fun q => P.classes.length - q.1) (0, .nil) ⟨by simp, trivial⟩ ?_ (Store.sub_refl _) ?_
  · exact ⟨⟨_, rfl, AVle.refl _⟩, ⟨_, rfl, AVle.refl _⟩, ⟨_, rfl, AVle.nil (by simp)⟩, ⟨_, rfl, AVle.refl _⟩, trivial⟩
  rintro ⟨j, ow⟩ ⟨hj1, hok2⟩
  simp only at hj1 hok2
  have hbx : rowOf (s.set b (boolBox up)) 9 1 (namesUpto P.classes up j).length ow b = some (boolBox up) := rowOf_get (m := 0) hok2 (Store.set_same _ _ _)
  have hnl := namesUpto_len P.classes up j
  repeat (first | with_reducible refine CW.seq ?_ | refine CW.reg ?_ | refine RL.step tysOk rfl rfl rfl rfl ?_)
  refine RL.lenM tysOk rfl rfl rfl rfl rfl rfl rfl ?_
  repeat (first | with_reducible refine andThen_normal ?_ | refine RL.nil ?_ | refine RL.step tysOk rfl rfl rfl rfl ?_)
  refine CW.cond rfl (fun h => ?_) (fun h => ?_)
  · have hlt : j < P.classes.length := by simpa using h
    obtain ⟨d, hdj⟩ : ∃ d, P.classes[j]? = some d := ⟨_, List.getElem?_eq_getElem hlt⟩
    have hdj' : (P.classes.map FClass.av)[j]? = some (.agg d.cells) := by rw [List.getElem?_map, hdj]; rfl
    obtain ⟨v, hv⟩ : ∃ v, up[j]? = some v := ⟨_, List.getElem?_eq_getElem (by omega)⟩
    have hna : nameAt P.classes j = [d.name] := by simp [nameAt, hdj]
    have hms := namesUpto_succ P.classes up j
    have hgd : up.getD j false = v := by simp [hv]
    rw [hgd, hna] at hms
    repeat (first | with_reducible refine CW.seq ?_ | with_reducible refine andThen_normal ?_ | with_reducible refine CW.skip ?_ | with_reducible refine CW.block ?_ | refine CW.reg ?_ | refine RL.step tysOk rfl rfl rfl rfl ?_)
    refine RL.idxM tysOk j rfl rfl rfl rfl rfl rfl rfl rfl rfl rfl rfl hlt ?_
    refine RL.loadP tysOk rfl rfl rfl rfl rfl rfl hbx (loadC_bool rfl (bools_get hv)) ?_
    cases v with
    | true =>
      rw [if_pos rfl] at hms
      repeat (first | with_reducible refine andThen_normal ?_ | refine CW.reg ?_ | refine RL.nil ?_ | refine CW.condT rfl ?_ | refine RL.step tysOk rfl rfl rfl rfl ?_ | refine RL.idx tysOk _ rfl rfl rfl rfl rfl rfl rfl rfl rfl rfl rfl (by assumption) rfl ?_)
      refine RL.append1 tysOk rfl rfl rfl rfl rfl rfl rfl (by intro k; simp) rfl rfl rfl rfl rfl rfl rfl (n := (namesUpto P.classes up j).length) (by rw [strs_length]) (by show (_ + 1) * 16 ≤ _; omega) (by omega) (s := s.set b (boolBox up)) rfl (OwnOk.sub' hok2) (fun rb hrb => ?_)
      repeat (first | with_reducible refine andThen_normal ?_ | with_reducible refine inBlock_normal ?_ | refine CW.reg (RL.run tysOk rfl (RL.nil ?_)) | refine RL.nil ?_ | refine RL.step tysOk rfl rfl rfl rfl ?_)
      refine ⟨(j + 1, .own rb), ⟨hlt, hrb⟩, (by repeat (first | exact trivial | refine ⟨⟨_, rfl, AVle.refl _⟩, ?_⟩ | refine ⟨⟨_, rfl, AVle.of_eq (by (first | (show AV.int .i64 (IntKind.wrap .i64 ((j : Int) + 1)) = .int .i64 ((j + 1 : Nat) : Int); rw [i64_succ (by omega)]) | (simp only [hms]; simp [strs])))⟩, ?_⟩)), ?_, by show P.classes.length - (j + 1) < P.classes.length - j; omega⟩
      show Store.Sub (rowOf _ _ 1 (namesUpto P.classes up (j + 1)).length (.own rb)) _
      rw [hms, List.length_append]
      exact Store.sub_refl _
    | false =>
      rw [if_neg (by simp), List.append_nil] at hms
      repeat (first | with_reducible refine andThen_normal ?_ | with_reducible refine inBlock_normal ?_ | with_reducible refine CW.skip ?_ | refine CW.reg (RL.run tysOk rfl (RL.nil ?_)) | refine RL.nil ?_ | refine CW.condF rfl ?_)
      refine ⟨(j + 1, ow), ⟨hlt, hok2⟩, (by repeat (first | exact trivial | refine ⟨⟨_, rfl, AVle.refl _⟩, ?_⟩ | refine ⟨⟨_, rfl, AVle.of_eq (by (first | (show AV.int .i64 (IntKind.wrap .i64 ((j : Int) + 1)) = .int .i64 ((j + 1 : Nat) : Int); rw [i64_succ (by omega)]) | (simp only [hms])))⟩, ?_⟩)), ?_, by show P.classes.length - (j + 1) < P.classes.length - j; omega⟩
      show Store.Sub (rowOf _ _ 1 (namesUpto P.classes up (j + 1)).length ow) _
      rw [hms]; exact Store.sub_refl _
  · have hge : j = P.classes.length := by
      have : P.classes.length ≤ j := by simpa using h
      omega
    subst hge
    repeat (first | with_reducible refine CW.seq ?_ | with_reducible refine andThen_normal ?_ | with_reducible refine andThen_exit ?_ | with_reducible refine inBlock_here ?_ | with_reducible refine CW.ret ?_ | with_reducible refine CW.exit ?_ | refine CW.reg (RL.run tysOk rfl (RL.nil ?_)))
    exact ⟨_, _, s, rfl, AVle.tup (.cons AVle.fro (AVleL.refl _)), (Store.sub_set _ _ _ hbn).trans (rowOf_sub hok2), rfl, rfl⟩

set_option maxRecDepth 10000 in
set_option maxHeartbeats 2000000 in
theorem formLists_spec (P : FProg) (name : Str) (s : Store) (hP : P.Fair) :
    ACalls Try.prog 6 [P.av, .str name] s (fun o s' => o = .ret (.bool true) ∧ s' = s) := by
  have hb : big = 1099511627776 := rfl
  have hsl := hP.slen
  have hcl := hP.clen
  have g1 := shapeGens_spec P s hP
  have g2 := refGens_spec P s hP
  have l1 := shapeSlots_spec P s hP
  have l2 := refSlots_spec P s hP
  have a1 := shapeAbove_spec P name s hP
  have a2 := refAboveP_spec P name s hP
  have hG : (if progOk P then (progGens P).1.map (·.1) else []).length < 9223372036854775807 := by
    split
    · rename_i h
      have := progOk_gens h
      rw [List.length_map]; omega
    · simp
  have hS : (if progOk P then P.classes.flatMap FClass.slots else []).length < 9223372036854775807 := by
    split
    · omega
    · simp
  have hA : (if progOk P then (aboveS P.classes name).getD [] else []).length < 9223372036854775807 := by
    split
    · have := aboveS_len P.classes name; omega
    · simp
  generalize (if progOk P then (progGens P).1.map (·.1) else []) = G at *
  generalize (if progOk P then P.classes.flatMap FClass.slots else []) = L at *
  generalize (if progOk P then (aboveS P.classes name).getD [] else []) = U at *
  generalize (progOk P && (aboveS P.classes name).isSome) = ok2 at *
  generalize progOk P = ok1 at *
  have t1 := fun s => sameTexts_spec G G .fro .fro s hG
  have t2 := fun s => sameTexts_spec L L .fro .fro s hS
  have t3 := fun s => sameTexts_spec U U .fro .fro s hA
  simp only [beq_self_eq_true] at t1 t2 t3
  refine ACalls.of_CW tysOk call6 Try.func6 rfl rfl ?_
  cases ok1 <;> cases ok2
  all_goals
    repeat (first | with_reducible refine CW.seq ?_ | with_reducible refine andThen_normal ?_ | refine CW.reg (RL.run tysOk rfl (RL.nil ?_)) | refine CW.reg ?_ | refine RL.step tysOk rfl rfl rfl rfl ?_)
  all_goals
    refine RL.callP rfl rfl rfl rfl rfl g1 ?_
  all_goals
    repeat (first | with_reducible refine CW.seq ?_ | with_reducible refine andThen_normal ?_ | refine CW.reg ?_ | refine RL.nil ?_ | refine RL.step tysOk rfl rfl rfl rfl ?_)
  all_goals
    refine RL.callP rfl rfl rfl rfl rfl g2 ?_
  all_goals
    repeat (first | with_reducible refine CW.seq ?_ | with_reducible refine andThen_normal ?_ | refine CW.reg ?_ | refine RL.nil ?_ | refine RL.step tysOk rfl rfl rfl rfl ?_)
  all_goals
    refine RL.callP rfl rfl rfl rfl rfl (t1 _) ?_
  all_goals
    repeat (first | with_reducible refine CW.seq ?_ | with_reducible refine andThen_normal ?_ | with_reducible refine CW.skip ?_ | refine CW.reg ?_ | refine RL.nil ?_ | refine CW.condF rfl ?_ | refine RL.step tysOk rfl rfl rfl rfl ?_)
  all_goals
    refine RL.callP rfl rfl rfl rfl rfl l1 ?_
  all_goals
    repeat (first | with_reducible refine CW.seq ?_ | with_reducible refine andThen_normal ?_ | refine CW.reg ?_ | refine RL.nil ?_ | refine RL.step tysOk rfl rfl rfl rfl ?_)
  all_goals
    refine RL.callP rfl rfl rfl rfl rfl l2 ?_
  all_goals
    repeat (first | with_reducible refine CW.seq ?_ | with_reducible refine andThen_normal ?_ | refine CW.reg ?_ | refine RL.nil ?_ | refine RL.step tysOk rfl rfl rfl rfl ?_)
  all_goals
    refine RL.callP rfl rfl rfl rfl rfl (t2 _) ?_
  all_goals
    repeat (first | with_reducible refine CW.seq ?_ | with_reducible refine andThen_normal ?_ | with_reducible refine CW.skip ?_ | refine CW.reg ?_ | refine RL.nil ?_ | refine CW.condF rfl ?_ | refine RL.step tysOk rfl rfl rfl rfl ?_)
  all_goals
    refine RL.callP rfl rfl rfl rfl rfl a1 ?_
  all_goals
    repeat (first | with_reducible refine CW.seq ?_ | with_reducible refine andThen_normal ?_ | refine CW.reg ?_ | refine RL.nil ?_ | refine RL.step tysOk rfl rfl rfl rfl ?_)
  all_goals
    refine RL.callP rfl rfl rfl rfl rfl a2 ?_
  all_goals
    repeat (first | with_reducible refine CW.seq ?_ | with_reducible refine andThen_normal ?_ | refine CW.reg ?_ | refine RL.nil ?_ | refine RL.step tysOk rfl rfl rfl rfl ?_)
  all_goals
    refine RL.callP rfl rfl rfl rfl rfl (t3 _) ?_
  all_goals
    repeat (first | refine RL.step tysOk rfl rfl rfl rfl ?_)
  all_goals
    refine RL.callP rfl rfl rfl rfl rfl (known_true _) ?_
  all_goals
    repeat (first | with_reducible refine andThen_normal ?_ | with_reducible refine CW.ret ?_ | refine RL.nil ?_ | refine RL.step tysOk rfl rfl rfl rfl ?_)
  all_goals exact ⟨_, _, _, rfl, AVle.refl _, Store.sub_refl _, rfl, rfl⟩
end Go.Proofs.Ytaafacnoddjhgaa

