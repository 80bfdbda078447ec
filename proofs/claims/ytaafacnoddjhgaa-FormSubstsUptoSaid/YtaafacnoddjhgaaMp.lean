import Derived.Test.YtaafacnoddjhgaaMn
import Derived.Test.YtaafacnoddjhgaaMo
/- The theorem of substitution, in plain Lean: what is the same up to bound names; the theorem itself. -/
namespace Go.Proofs.Ytaafacnoddjhgaa
open Go.AE

/-- Two names within pairs of bound names (the innermost first): does the first pair that has one of them have both? -/
def pairs : List (Str × Str) → Str → Str → Option Bool
  | [], _, _ => none
  | q :: r, a, b => if q.1 == a || q.2 == b then some (q.1 == a && q.2 == b) else pairs r a b

mutual
def FExp.eqv (sc : List (Str × Str)) : FExp → FExp → Bool
  | .mk o n t ks, .mk o' n' t' ks' => if !(o == o' && n == n' && ks.length == ks'.length) then false else match (if o == 3 then pairs sc t t' else none) with
    | some r => r
    | none => if !(o == 9) && !(t == t') then false else FExp.eqvs (o == 9) t t' sc 0 ks ks'
def FExp.eqvs (isLet : Bool) (t t' : Str) (sc : List (Str × Str)) : Nat → List FExp → List FExp → Bool
  | _, [], [] => true
  | i, k :: r, k' :: r' => FExp.eqv (if isLet && i == 1 then (t, t') :: sc else sc) k k' && FExp.eqvs isLet t t' sc (i + 1) r r'
  | _, _, _ => false
end

theorem pairs_none : ∀ {sc : List (Str × Str)} {a b : Str}, pairs sc a b = none → posn (sc.map (·.1)) a = none ∧ posn (sc.map (·.2)) b = none
  | [], _, _, _ => ⟨rfl, rfl⟩
  | q :: sc, a, b, h => by
    rw [pairs] at h
    split at h
    · cases h
    · rename_i hc
      simp only [Bool.or_eq_true, beq_iff_eq, not_or] at hc
      have := pairs_none h
      simp [posn, hc, this]
theorem pairs_true : ∀ {sc : List (Str × Str)} {a b : Str}, pairs sc a b = some true → ∃ i, posn (sc.map (·.1)) a = some i ∧ posn (sc.map (·.2)) b = some i
  | q :: sc, a, b, h => by
    rw [pairs] at h
    split at h
    · simp at h
      exact ⟨0, by simp [posn, h], by simp [posn, h]⟩
    · rename_i hc
      simp only [Bool.or_eq_true, beq_iff_eq, not_or] at hc
      obtain ⟨i, h1, h2⟩ := pairs_true h
      exact ⟨i + 1, by simp [posn, hc, h1], by simp [posn, hc, h2]⟩
theorem pairs_false : ∀ {sc : List (Str × Str)} {a b : Str}, pairs sc a b = some false → posn (sc.map (·.1)) a ≠ posn (sc.map (·.2)) b
  | q :: sc, a, b, h => by
    rw [pairs] at h
    split at h
    · rename_i hc
      simp only [Bool.or_eq_true, beq_iff_eq] at hc
      simp only [Option.some.injEq, Bool.and_eq_false_iff, beq_eq_false_iff_ne] at h
      simp only [List.map_cons, posn]
      rcases hc with hc | hc
      · have : ¬ (q.2 = b) := fun e => by rcases h with h | h; exact h hc; exact h e
        simp only [hc, beq_self_eq_true, if_true, beq_iff_eq, this, if_false]
        cases posn (sc.map (·.2)) b <;> simp
      · have : ¬ (q.1 = a) := fun e => by rcases h with h | h; exact h e; exact h hc
        simp only [hc, beq_self_eq_true, if_true, beq_iff_eq, this, if_false]
        cases posn (sc.map (·.1)) a <;> simp
    · rename_i hc
      simp only [Bool.or_eq_true, beq_iff_eq, not_or] at hc
      have := pairs_false h
      simp only [List.map_cons, posn, beq_iff_eq, hc, if_false]
      intro he
      refine this ?_
      cases h1 : posn (sc.map (·.1)) a <;> cases h2 : posn (sc.map (·.2)) b <;> rw [h1, h2] at he <;> simp_all
theorem pairs_iff (sc : List (Str × Str)) (a b : Str) :
    ((match posn (sc.map (·.1)) a with | some i => FExp.mk 3 ((i : Int) + 1) [] [] | none => .mk 3 0 a []) = (match posn (sc.map (·.2)) b with | some i => FExp.mk 3 ((i : Int) + 1) [] [] | none => .mk 3 0 b [])) ↔
      (match pairs sc a b with | some r => r = true | none => a = b) := by
  cases h : pairs sc a b with
  | none =>
    obtain ⟨h1, h2⟩ := pairs_none h
    rw [h1, h2]; simp
  | some r =>
    cases r with
    | true =>
      obtain ⟨i, h1, h2⟩ := pairs_true h
      rw [h1, h2]; simp
    | false =>
      have := pairs_false h
      simp only [Bool.false_eq_true, iff_false]
      cases h1 : posn (sc.map (·.1)) a <;> cases h2 : posn (sc.map (·.2)) b <;> rw [h1, h2] at this <;> simp_all <;> omega

theorem dbs_length : ∀ (ks : List FExp) (isLet : Bool) (t : Str) (b : List Str) (i : Nat), (FExp.dbs isLet t b i ks).length = ks.length
  | [], _, _, _, _ => rfl
  | k :: r, isLet, t, b, i => by rw [FExp.dbs, List.length_cons, List.length_cons, dbs_length r]

mutual
theorem eqv_db : ∀ (a b : FExp) (sc : List (Str × Str)), a.neat = true → b.neat = true → (a.eqv sc b = true ↔ a.db (sc.map (·.1)) = b.db (sc.map (·.2)))
  | .mk o n t ks, .mk o' n' t' ks', sc, ha, hb => by
    rw [FExp.neat, Bool.and_eq_true] at ha hb
    rw [FExp.eqv]
    by_cases ho : o = o'
    · subst ho
      by_cases h3 : o = 3
      · subst h3
        have h1 : n = 0 ∧ ks = [] := by have := ha.1; simpa [neat1, FExp.op, FExp.n, FExp.kids] using this
        have h2 : n' = 0 ∧ ks' = [] := by have := hb.1; simpa [neat1, FExp.op, FExp.n, FExp.kids] using this
        obtain ⟨rfl, rfl⟩ := h1
        obtain ⟨rfl, rfl⟩ := h2
        have hi := pairs_iff sc t t'
        rw [FExp.db, FExp.db]
        simp only [beq_self_eq_true, if_true]
        refine Iff.trans ?_ hi.symm
        cases pairs sc t t' with
        | some r => simp
        | none => simp [FExp.eqvs]
      · have h3' : (o == 3) = false := by simpa using h3
        rw [FExp.db, FExp.db]
        simp only [h3', Bool.false_eq_true, if_false]
        by_cases hn : n = n'
        · subst hn
          by_cases hl : ks.length = ks'.length
          · have hks := eqvs_dbs ks ks' (o == 9) t t' sc 0 ha.2 hb.2 hl
            by_cases h9 : o = 9
            · subst h9
              simp only [beq_self_eq_true] at hks
              simp [hl, hks]
            · have h9' : (o == 9) = false := by simpa using h9
              rw [h9'] at hks
              by_cases ht : t = t'
              · subst ht; simp [hl, h9', hks]
              · simp [hl, h9', ht]
          · have : ¬ (FExp.dbs (o == 9) t (sc.map (·.1)) 0 ks = FExp.dbs (o == 9) t' (sc.map (·.2)) 0 ks') := fun e => hl (by have := congrArg List.length e; rwa [dbs_length, dbs_length] at this)
            simp [hl, this]
        · simp [hn]
    · have : ¬ ((FExp.mk o n t ks).db (sc.map (·.1)) = (FExp.mk o' n' t' ks').db (sc.map (·.2))) := by
        intro e
        have h1 : ∀ (o n : Int) (t : Str) (ks : List FExp) (b : List Str), ((FExp.mk o n t ks).db b).op = o := by
          intro o n t ks b
          rw [FExp.db]
          by_cases h3 : o = 3
          · subst h3; simp only [beq_self_eq_true, if_true]; cases posn b t <;> rfl
          · have h3' : (o == 3) = false := by simpa using h3
            simp only [h3', Bool.false_eq_true, if_false]; rfl
        have := congrArg FExp.op e
        rw [h1, h1] at this; exact ho this
      simp [ho, this]
theorem eqvs_dbs : ∀ (ks ks' : List FExp) (isLet : Bool) (t t' : Str) (sc : List (Str × Str)) (i : Nat), FExp.neats ks = true → FExp.neats ks' = true → ks.length = ks'.length →
    (FExp.eqvs isLet t t' sc i ks ks' = true ↔ FExp.dbs isLet t (sc.map (·.1)) i ks = FExp.dbs isLet t' (sc.map (·.2)) i ks')
  | [], [], _, _, _, _, _, _, _, _ => by simp [FExp.eqvs, FExp.dbs]
  | k :: r, k' :: r', isLet, t, t', sc, i, ha, hb, hl => by
    rw [FExp.neats, Bool.and_eq_true] at ha hb
    have h1 := eqv_db k k' (if isLet && i == 1 then (t, t') :: sc else sc) ha.1 hb.1
    have h2 := eqvs_dbs r r' isLet t t' sc (i + 1) ha.2 hb.2 (by simpa using hl)
    rw [FExp.eqvs, FExp.dbs, FExp.dbs, Bool.and_eq_true, h1, h2, List.cons.injEq]
    cases isLet && i == 1 <;> rfl
  | [], _ :: _, _, _, _, _, _, _, _, h => by simp at h
  | _ :: _, [], _, _, _, _, _, _, _, h => by simp at h
end

/-- The same up to bound names. -/
def sameB (a b : FExp) : Bool := a.eqv [] b
theorem sameB_iff {a b : FExp} (ha : goodB a = true) (hb : goodB b = true) : sameB a b = true ↔ a.db [] = b.db [] := eqv_db a b [] (good_neat ha) (good_neat hb)

/-- Putting in, when it goes well. -/
theorem putR_db {e y a : FExp} {x : Str} (h : putR e x y = (a, 0)) : goodB e = true ∧ goodB y = true ∧ goodB a = true ∧ a.db [] = (e.db []).sub x (y.db []) := by
  unfold putR at h
  split at h
  · cases h
  · rename_i hc
    simp only [Bool.not_eq_true', Bool.not_eq_false, Bool.and_eq_true] at hc
    obtain ⟨⟨he, hx⟩, hy⟩ := hc
    simp only at h
    split at h
    · rename_i hg
      cases h
      refine ⟨he, hy, hg, ?_⟩
      have hE := goodB_size he
      have hY := goodB_size hy
      have h1 := frees_length y
      have h2 : (textsOf e.allE).length ≤ e.size := by
        rw [← allE_length]; unfold textsOf; rw [List.length_map]; exact List.length_filter_le _ _
      have hB : Sane x y.frees (taken0 e x y) (taken0 e x y) [] true := ⟨rfl, fun _ h => h, fun _ h => by cases h⟩
      have := put_db x y y.frees (taken0 e x y) (fun u hu => mem_frees.2 hu) (fun u hu => by unfold taken0; exact List.mem_cons_of_mem _ (List.mem_append_left _ hu)) e [] true (taken0 e x y) (good_neat he) hB
        (fun u hu => by unfold taken0; exact List.mem_cons_of_mem _ (List.mem_append_right _ hu))
        (fun v _ => by show if v = x then _ else _; split <;> simp) (by unfold taken0; simp only [List.length_cons, List.length_append]; omega)
      exact this.1
    · cases h

theorem mem_frees_db {e : FExp} {v : Str} (h : goodB e = true) : v ∈ e.frees ↔ v ∈ (e.db []).fv := by rw [mem_frees, fv_db e [] v (good_neat h)]

/-- Which names are free behind it. -/
theorem putR_frees {e y a : FExp} {x : Str} (h : putR e x y = (a, 0)) (v : Str) : v ∈ a.frees ↔ (v ∈ e.frees ∧ v ≠ x) ∨ (x ∈ e.frees ∧ v ∈ y.frees) := by
  obtain ⟨he, hy, ha, hd⟩ := putR_db h
  rw [mem_frees_db ha, mem_frees_db he, mem_frees_db hy, mem_frees_db he, hd, fv_sub]

theorem putR_self {e a : FExp} {x : Str} (h : putR e x (nameE x) = (a, 0)) : sameB a e = true := by
  obtain ⟨he, hy, ha, hd⟩ := putR_db h
  rw [sameB_iff ha he, hd]
  exact sub_self x e []

theorem putR_twice {t y z a b c l r : FExp} {x w : Str} (hxw : x ≠ w) (hz : x ∉ z.frees) (h1 : putR t x y = (a, 0)) (h2 : putR a w z = (l, 0)) (h3 : putR t w z = (b, 0)) (h4 : putR y w z = (c, 0)) (h5 : putR b x c = (r, 0)) : sameB l r = true := by
  obtain ⟨-, -, -, d1⟩ := putR_db h1
  obtain ⟨-, hzg, hl, d2⟩ := putR_db h2
  obtain ⟨-, -, -, d3⟩ := putR_db h3
  obtain ⟨-, -, -, d4⟩ := putR_db h4
  obtain ⟨-, -, hr, d5⟩ := putR_db h5
  rw [sameB_iff hl hr, d2, d1, d5, d3, d4]
  exact sub_sub hxw (fun hc => hz ((mem_frees_db hzg).2 hc)) _
end Go.Proofs.Ytaafacnoddjhgaa

/- Contracts of the law's own functions: frees, equal, same. -/
namespace Go.Proofs.Ytaafacnoddjhgaa
open Go.AE

/-- Two parts of which the first one may end the function. -/
theorem CW.seqOr {P : Program} {N : Nat} {Q : AEx → Env → Store → Prop} {env : Env} {s : Store} {x y : Code} (J : Prop) (E' : Env) (S' : Store)
    (h₁ : CW P N x (AEx.andThen (fun env' s' => J ∧ Env.Sub E' env' ∧ Store.Sub S' s') Q) env s) (h₂ : J → CW P N y Q E' S') : CW P N (.seq x y) Q env s := by
  refine CW.seq (h₁.mono ?_)
  intro e env' s' h
  cases e with
  | normal =>
    obtain ⟨j, h1, h2⟩ := h
    exact CW.sub _ h1 (CW.drop _ h2 (h₂ j))
  | exit id => exact h
  | ret => exact h
  | panic v => exact h

def freesW (t y : List Str) (x : Str) : List Str := t.filter (fun z => !(z == x)) ++ (if t.contains x then y else [])

set_option maxRecDepth 10000 in
set_option maxHeartbeats 1000000 in
theorem lawFrees_spec (t y a : List Str) (ot oy oa : Own) (x : Str) (s : Store) (hty : t.length + y.length < big) (ha : a.length < big) :
    ACalls Try.prog 29 [.slc 1 (strs t) ot, .slc 1 (strs y) oy, .slc 1 (strs a) oa, .str x] s (fun o s' => o = .ret (.bool (sortS (freesW t y x) == a)) ∧ s' = s) := by
  have hb : big = 1099511627776 := rfl
  refine ACalls.of_CW tysOk call29 Try.func29 rfl rfl ?_
  repeat (first | with_reducible refine CW.seq ?_ | with_reducible refine andThen_normal ?_ | with_reducible refine CW.block ?_ | refine CW.reg (RL.run tysOk rfl (RL.nil ?_)))
  refine CW.loop (σ := Nat × Own) (fun q => [(0, .slc 1 (strs t) ot), (1, .slc 1 (strs y) oy), (2, .slc 1 (strs a) oa), (3, .str x), (9, .slc 1 (strs ((t.take q.1).filter fun z => !(z == x))) q.2), (10, .int .i64 (q.1 : Int))])
    (fun q => rowOf s 9 1 ((t.take q.1).filter fun z => !(z == x)).length q.2) (fun q => q.1 ≤ t.length ∧ OwnOk s 0 q.2) (fun q => t.length - q.1) (0, .nil) ⟨by simp, trivial⟩ ?_ (Store.sub_refl _) ?_
  · exact ⟨⟨_, rfl, AVle.refl _⟩, ⟨_, rfl, AVle.refl _⟩, ⟨_, rfl, AVle.refl _⟩, ⟨_, rfl, AVle.refl _⟩, ⟨_, rfl, AVle.nil (by simp)⟩, ⟨_, rfl, AVle.refl _⟩, trivial⟩
  rintro ⟨i, ow⟩ ⟨hi, hok⟩
  simp only at hi hok
  have hfl : ((t.take i).filter fun z => !(z == x)).length ≤ i := Nat.le_trans (List.length_filter_le _ _) (by simp; omega)
  repeat (first | with_reducible refine CW.seq ?_ | with_reducible refine andThen_normal ?_ | refine CW.reg (RL.run tysOk rfl (RL.nil ?_)))
  refine CW.cond rfl (fun h => ?_) (fun h => ?_)
  · have hlt : i < t.length := by simpa using h
    obtain ⟨z, hz⟩ : ∃ z, t[i]? = some z := ⟨_, List.getElem?_eq_getElem hlt⟩
    have hz' : (strs t)[i]? = some (.str z) := by rw [strs_get, hz]; rfl
    have htk : ((t.take (i + 1)).filter fun z => !(z == x)) = ((t.take i).filter fun z => !(z == x)) ++ (if !(z == x) then [z] else []) := by
      rw [← take_snoc hz, List.filter_append]; simp [List.filter_cons]
    repeat (first | with_reducible refine CW.seq ?_ | with_reducible refine andThen_normal ?_ | with_reducible refine CW.skip ?_ | with_reducible refine CW.block ?_ | refine CW.reg ?_ | refine RL.nil ?_ | refine RL.step tysOk rfl rfl rfl rfl ?_ | refine RL.idx tysOk _ rfl rfl rfl rfl rfl rfl rfl rfl rfl rfl rfl (by assumption) rfl ?_)
    refine CW.cond rfl (fun hc => ?_) (fun hc => ?_)
    · rw [hc, if_pos rfl] at htk
      repeat (first | refine CW.reg ?_ | refine RL.step tysOk rfl rfl rfl rfl ?_ | refine RL.idx tysOk _ rfl rfl rfl rfl rfl rfl rfl rfl rfl rfl rfl (by assumption) rfl ?_)
      refine RL.append1 tysOk rfl rfl rfl rfl rfl rfl rfl (by intro k h; cases h) rfl rfl rfl rfl rfl rfl rfl (strs_length _).symm ?_ ?_ (s := s) rfl (OwnOk.sub' hok) (fun rb hrb => ?_)
      · show (((t.take i).filter fun z => !(z == x)).length + 1) * 16 ≤ _; omega
      · show ((t.take i).filter fun z => !(z == x)).length + 1 ≤ _; omega
      repeat (first | with_reducible refine andThen_normal ?_ | with_reducible refine inBlock_normal ?_ | refine CW.reg (RL.run tysOk rfl (RL.nil ?_)) | refine RL.nil ?_ | refine RL.step tysOk rfl rfl rfl rfl ?_)
      refine ⟨(i + 1, .own rb), ⟨hlt, hrb⟩, (by repeat (first | exact trivial | refine ⟨⟨_, rfl, AVle.refl _⟩, ?_⟩ | refine ⟨⟨_, rfl, AVle.of_eq (by (first | (show AV.int .i64 (IntKind.wrap .i64 ((i : Int) + 1)) = .int .i64 ((i + 1 : Nat) : Int); rw [i64_succ (by omega)]) | (simp only [htk]; simp [strs])))⟩, ?_⟩)), ?_, by show t.length - (i + 1) < t.length - i; omega⟩
      show Store.Sub (rowOf s _ 1 ((t.take (i + 1)).filter fun z => !(z == x)).length _) _
      rw [htk, List.length_append]; exact Store.sub_refl _
    · rw [hc, if_neg (by simp), List.append_nil] at htk
      repeat (first | with_reducible refine andThen_normal ?_ | with_reducible refine inBlock_normal ?_ | with_reducible refine CW.skip ?_ | refine CW.reg (RL.run tysOk rfl (RL.nil ?_)))
      refine ⟨(i + 1, ow), ⟨hlt, hok⟩, (by repeat (first | exact trivial | refine ⟨⟨_, rfl, AVle.refl _⟩, ?_⟩ | refine ⟨⟨_, rfl, AVle.of_eq (by (first | (show AV.int .i64 (IntKind.wrap .i64 ((i : Int) + 1)) = .int .i64 ((i + 1 : Nat) : Int); rw [i64_succ (by omega)]) | (simp only [htk])))⟩, ?_⟩)), ?_, by show t.length - (i + 1) < t.length - i; omega⟩
      show Store.Sub (rowOf s _ 1 ((t.take (i + 1)).filter fun z => !(z == x)).length _) _
      rw [htk]; exact Store.sub_refl _
  · have hge : t.length ≤ i := by simpa using h
    rw [List.take_of_length_le hge] at hfl ⊢
    have hcall := fun s => refHas_spec t ot x s (by omega)
    repeat (first | with_reducible refine CW.seq ?_ | with_reducible refine andThen_normal ?_ | with_reducible refine andThen_exit ?_ | with_reducible refine inBlock_here ?_ | with_reducible refine CW.exit ?_ | refine CW.reg ?_ | refine RL.step tysOk rfl rfl rfl rfl ?_)
    cases hc : t.contains x with
    | true =>
      rw [hc] at hcall
      refine RL.callP rfl rfl rfl rfl rfl (hcall _) ?_
      repeat (first | with_reducible refine andThen_normal ?_ | refine CW.reg ?_ | refine RL.nil ?_ | refine CW.condT rfl ?_ | refine RL.step tysOk rfl rfl rfl rfl ?_)
      refine RL.appendR tysOk rfl rfl rfl rfl rfl rfl rfl (by intro k h; cases h) rfl rfl rfl rfl (.inr rfl) rfl (strs_elem _) (n := (t.filter fun z => !(z == x)).length) ?_ ?_ (strs_length _).symm rfl (OwnOk.sub' hok) ?_
      · simp only [strs_length]; show _ * 16 ≤ _; omega
      · simp only [strs_length]; omega
      rintro own' h1
      have hw : freesW t y x = (t.filter fun z => !(z == x)) ++ y := by unfold freesW; rw [hc, if_pos rfl]
      have he : strs (t.filter fun z => !(z == x)) ++ strs y = strs (freesW t y x) := by rw [hw]; simp [strs]
      have hwl : (freesW t y x).length < big := by rw [hw, List.length_append]; omega
      rw [he]
      repeat (first | with_reducible refine CW.seq ?_ | with_reducible refine andThen_normal ?_ | refine CW.reg ?_ | refine RL.nil ?_ | refine RL.step tysOk rfl rfl rfl rfl ?_)
      refine RL.callP rfl rfl rfl rfl rfl (refSort_spec _ own' _ hwl) ?_
      repeat (first | refine RL.step tysOk rfl rfl rfl rfl ?_)
      refine RL.callP rfl rfl rfl rfl rfl (sameTexts_spec _ a .fro oa _ ?_) ?_
      · have := sortS_len (freesW t y x); omega
      repeat (first | with_reducible refine andThen_normal ?_ | with_reducible refine CW.ret ?_ | refine RL.nil ?_ | refine RL.step tysOk rfl rfl rfl rfl ?_)
      exact ⟨_, _, s, rfl, AVle.refl _, rowOf_sub h1, rfl, rfl⟩
    | false =>
      rw [hc] at hcall
      have hw : freesW t y x = (t.filter fun z => !(z == x)) := by unfold freesW; rw [hc, if_neg (by simp), List.append_nil]
      refine RL.callP rfl rfl rfl rfl rfl (hcall _) ?_
      rw [← hw] at hfl ⊢
      repeat (first | with_reducible refine CW.seq ?_ | with_reducible refine andThen_normal ?_ | with_reducible refine CW.skip ?_ | refine CW.reg ?_ | refine RL.nil ?_ | refine CW.condF rfl ?_ | refine RL.step tysOk rfl rfl rfl rfl ?_)
      refine RL.callP rfl rfl rfl rfl rfl (refSort_spec _ ow _ (by omega)) ?_
      repeat (first | refine RL.step tysOk rfl rfl rfl rfl ?_)
      refine RL.callP rfl rfl rfl rfl rfl (sameTexts_spec _ a .fro oa _ ?_) ?_
      · have := sortS_len (freesW t y x); omega
      repeat (first | with_reducible refine andThen_normal ?_ | with_reducible refine CW.ret ?_ | refine RL.nil ?_ | refine RL.step tysOk rfl rfl rfl rfl ?_)
      exact ⟨_, _, s, rfl, AVle.refl _, rowOf_sub hok, rfl, rfl⟩

theorem FExp.eqv_def (a b : FExp) (sc : List (Str × Str)) : a.eqv sc b = if !(a.op == b.op && a.n == b.n && a.kids.length == b.kids.length) then false else match (if a.op == 3 then pairs sc a.text b.text else none) with
    | some r => r
    | none => if !(a.op == 9) && !(a.text == b.text) then false else FExp.eqvs (a.op == 9) a.text b.text sc 0 a.kids b.kids := by cases a; cases b; rw [FExp.eqv]; rfl

theorem pairs_drop {sc : List (Str × Str)} {k : Nat} {q : Str × Str} {a b : Str} (h : sc[k]? = some q) : pairs (sc.drop k) a b = if q.1 == a || q.2 == b then some (q.1 == a && q.2 == b) else pairs (sc.drop (k + 1)) a b := by rw [drop_cons h, pairs]

set_option maxRecDepth 10000 in
set_option maxHeartbeats 4000000 in
theorem lawEqual_spec : ∀ (n : Nat) (a b : FExp) (sc : List (Str × Str)) (ol om : Own) (s : Store), a.size ≤ n → a.size ≤ big → b.size ≤ big → sc.length + a.size < big →
    ACalls Try.prog 70 [a.av, b.av, .slc 1 (strs (olds sc)) ol, .slc 1 (strs (nows sc)) om] s (fun o s' => o = .ret (.bool (a.eqv sc b)) ∧ s' = s) := by
  intro n
  induction n with
  | zero => intro a b sc ol om s h; have := a.size_pos; omega
  | succ n ih =>
    intro a b sc ol om s hn hbig hbig2 hsc
    have hb : big = 1099511627776 := rfl
    have hlen := a.kids_length
    have hkl := a.kav_length
    have hkl2 := b.kav_length
    have hol := olds_length sc
    have hnl := nows_length sc
    have hdef := FExp.eqv_def a b sc
    refine ACalls.of_CW tysOk call70 Try.func70 rfl rfl ?_
    refine CW.seqCut [(2, .slc 1 (strs (olds sc)) ol), (3, .slc 1 (strs (nows sc)) om), (4, .fptr a.cells 0), (5, .fptr b.cells 0)] s ?_ ?_
    · repeat (first | refine CW.reg (RL.run tysOk rfl (RL.nil ?_)))
      exact ⟨rfl, (by repeat (first | exact trivial | refine ⟨⟨_, rfl, AVle.refl _⟩, ?_⟩)), Store.sub_refl _⟩
    refine CW.seq ?_
    refine CW.seqCut [(2, .slc 1 (strs (olds sc)) ol), (3, .slc 1 (strs (nows sc)) om), (4, .fptr a.cells 0), (5, .fptr b.cells 0), (33, .bool (!(a.op == b.op && a.n == b.n && a.kids.length == b.kids.length)))] s ?_ ?_
    · repeat' (first | refine CW.reg ?_ | refine RL.nil ?_ | refine RL.step tysOk rfl rfl rfl rfl ?_ | refine RL.skip rfl rfl rfl ?_ | refine RL.gstepF tysOk rfl rfl rfl rfl rfl rfl rfl (fun _ => ?_) (fun _ => ?_))
      all_goals refine ⟨rfl, (by repeat (first | exact trivial | refine ⟨⟨_, rfl, AVle.refl _⟩, ?_⟩ | refine ⟨⟨_, rfl, AVle.of_eq (by (first | (simp_all; done) | (simp_all; rw [Bool.eq_iff_iff]; simp; omega)))⟩, ?_⟩)), Store.sub_refl _⟩
    cases hc : !(a.op == b.op && a.n == b.n && a.kids.length == b.kids.length) with
    | true =>
      rw [hc, if_pos rfl] at hdef
      rw [hdef]
      repeat (first | with_reducible refine CW.seq ?_ | with_reducible refine andThen_normal ?_ | with_reducible refine andThen_ret ?_ | with_reducible refine CW.ret ?_ | refine CW.reg (RL.run tysOk rfl (RL.nil ?_)) | refine CW.condT rfl ?_)
      exact ⟨_, _, _, rfl, AVle.refl _, Store.sub_refl _, rfl, rfl⟩
    | false =>
    rw [hc, if_neg (by simp)] at hdef
    have hll : a.kids.length = b.kids.length := by
      simp only [Bool.not_eq_false', Bool.and_eq_true, beq_iff_eq] at hc
      exact hc.2
    refine CW.condF rfl (CW.skip (andThen_normal ?_))
    refine CW.seqOr ((if a.op == 3 then pairs sc a.text b.text else none) = none) [(2, .slc 1 (strs (olds sc)) ol), (3, .slc 1 (strs (nows sc)) om), (4, .fptr a.cells 0), (5, .fptr b.cells 0)] s ?_ ?_
    · cases h3 : a.op == 3 with
      | false =>
        have h3' := h3
        repeat (first | with_reducible refine CW.seq ?_ | with_reducible refine andThen_normal ?_ | refine CW.reg (RL.run tysOk rfl (RL.nil ?_)))
        refine CW.cond rfl (fun h => ?_) (fun h => ?_)
        · have h' : (a.op == 3) = true := h
          rw [h3] at h'; cases h'
        · repeat (first | with_reducible refine andThen_normal ?_ | with_reducible refine CW.skip ?_)
          exact ⟨by simp, (by repeat (first | exact trivial | refine ⟨⟨_, rfl, AVle.refl _⟩, ?_⟩)), Store.sub_refl _⟩
      | true =>
        rw [h3, if_pos rfl] at hdef
        repeat (first | with_reducible refine CW.seq ?_ | with_reducible refine andThen_normal ?_ | refine CW.reg (RL.run tysOk rfl (RL.nil ?_)))
        refine CW.cond rfl (fun h => ?_) (fun h => ?_)
        rotate_left
        · have h' : (a.op == 3) = false := h
          rw [h3] at h'; cases h'
        repeat (first | with_reducible refine CW.seq ?_ | with_reducible refine andThen_normal ?_ | with_reducible refine CW.block ?_ | refine CW.reg (RL.run tysOk rfl (RL.nil ?_)))
        refine CW.loop (σ := Nat) (fun k => [(2, .slc 1 (strs (olds sc)) ol), (3, .slc 1 (strs (nows sc)) om), (4, .fptr a.cells 0), (5, .fptr b.cells 0), (9, .int .i64 ((sc.length : Int) - 1 - (k : Int)))]) (fun _ => s)
          (fun k => k ≤ sc.length ∧ pairs sc a.text b.text = pairs (sc.drop k) a.text b.text) (fun k => sc.length - k) 0 ⟨by omega, rfl⟩ (by repeat (first | exact trivial | refine ⟨⟨_, rfl, AVle.refl _⟩, ?_⟩ | refine ⟨⟨_, rfl, AVle.of_eq (by (rw [strs_length, hol, i64_wrap (by omega) (by omega)]; simp))⟩, ?_⟩)) (Store.sub_refl _) ?_
        rintro k ⟨hk, hK⟩
        repeat (first | with_reducible refine CW.seq ?_ | with_reducible refine andThen_normal ?_ | refine CW.reg (RL.run tysOk rfl (RL.nil ?_)))
        refine CW.cond rfl (fun h => ?_) (fun h => ?_)
        · have hlt : k < sc.length := by simp only [decide_eq_true_eq] at h; omega
          obtain ⟨q, hq⟩ : ∃ q, sc[k]? = some q := ⟨_, List.getElem?_eq_getElem hlt⟩
          rw [pairs_drop hq] at hK
          have ho := olds_get hq
          have hno := nows_get hq
          have hij : (sc.length : Int) - 1 - (k : Int) = ((sc.length - 1 - k : Nat) : Int) := by omega
          repeat (first | with_reducible refine CW.seq ?_ | with_reducible refine andThen_normal ?_ | with_reducible refine CW.skip ?_ | with_reducible refine CW.block ?_ | refine CW.drw tysOk mixed rfl (RD.run rfl ?_))
          refine RD.idx 2 (sc.length - 1 - k) rfl rfl rfl rfl rfl rfl rfl rfl rfl rfl rfl rfl hij ho rfl ?_
          refine RD.runs (is := [3, 4, 5, 6, 7]) rfl ?_
          cases h1 : q.1 == a.text with
          | true =>
            rw [h1] at hK
            simp only [Bool.true_or, if_true, Bool.true_and] at hK
            refine RD.run rfl (RD.done rfl ?_)
            repeat (first | with_reducible refine CW.seq ?_ | with_reducible refine andThen_normal ?_ | refine CW.condT rfl ?_ | refine CW.drw tysOk mixed rfl (RD.run rfl ?_))
            refine RD.idx 2 (sc.length - 1 - k) rfl rfl rfl rfl rfl rfl rfl rfl rfl rfl rfl rfl hij ho rfl ?_
            refine RD.runs (is := [3, 4, 5, 6, 7]) rfl ?_
            rw [h1]
            refine RD.run rfl ?_
            refine RD.idx 10 (sc.length - 1 - k) rfl rfl rfl rfl rfl rfl rfl rfl rfl rfl rfl rfl hij hno rfl ?_
            refine RD.run rfl (RD.done rfl ?_)
            repeat (first | with_reducible refine andThen_normal ?_ | with_reducible refine andThen_ret ?_ | with_reducible refine inBlock_ret ?_ | with_reducible refine CW.ret ?_)
            refine ⟨_, _, _, rfl, AVle.refl _, Store.sub_refl _, ?_, rfl⟩
            rw [hdef, hK]
          | false =>
            rw [h1] at hK
            simp only [Bool.false_or, Bool.false_and] at hK
            refine RD.run rfl ?_
            refine RD.idx 10 (sc.length - 1 - k) rfl rfl rfl rfl rfl rfl rfl rfl rfl rfl rfl rfl hij hno rfl ?_
            refine RD.run rfl (RD.done rfl ?_)
            cases h2 : q.2 == b.text with
            | true =>
              rw [h2, if_pos rfl] at hK
              repeat (first | with_reducible refine CW.seq ?_ | with_reducible refine andThen_normal ?_ | refine CW.condT rfl ?_ | refine CW.drw tysOk mixed rfl (RD.run rfl ?_))
              refine RD.idx 2 (sc.length - 1 - k) rfl rfl rfl rfl rfl rfl rfl rfl rfl rfl rfl rfl hij ho rfl ?_
              refine RD.runs (is := [3, 4, 5, 6, 7]) rfl ?_
              rw [h1]
              refine RD.run rfl (RD.done rfl ?_)
              repeat (first | with_reducible refine andThen_normal ?_ | with_reducible refine andThen_ret ?_ | with_reducible refine inBlock_ret ?_ | with_reducible refine CW.ret ?_)
              refine ⟨_, _, _, rfl, AVle.refl _, Store.sub_refl _, ?_, rfl⟩
              rw [hdef, hK]
            | false =>
              rw [h2, if_neg (by simp)] at hK
              repeat (first | with_reducible refine andThen_normal ?_ | with_reducible refine inBlock_normal ?_ | with_reducible refine CW.skip ?_ | refine CW.reg (RL.run tysOk rfl (RL.nil ?_)) | refine CW.condF rfl ?_)
              exact ⟨k + 1, ⟨hlt, hK⟩, (by repeat (first | exact trivial | refine ⟨⟨_, rfl, AVle.refl _⟩, ?_⟩ | refine ⟨⟨_, rfl, AVle.of_eq (by (rw [i64_wrap (by omega) (by omega)]; congr 1; omega))⟩, ?_⟩)), Store.sub_refl _, by omega⟩
        · have hge : sc.length ≤ k := by simp only [decide_eq_false_iff_not] at h; omega
          rw [List.drop_eq_nil_of_le hge, pairs] at hK
          repeat (first | with_reducible refine andThen_normal ?_ | with_reducible refine andThen_exit ?_ | with_reducible refine inBlock_here ?_ | with_reducible refine CW.exit ?_)
          exact ⟨by simpa using hK, (by repeat (first | exact trivial | refine ⟨⟨_, rfl, AVle.refl _⟩, ?_⟩)), Store.sub_refl _⟩
    intro hnone
    rw [hnone] at hdef
    simp only at hdef
    refine CW.seq ?_
    refine CW.seqCut [(2, .slc 1 (strs (olds sc)) ol), (3, .slc 1 (strs (nows sc)) om), (4, .fptr a.cells 0), (5, .fptr b.cells 0), (85, .bool (!(a.op == 9) && !(a.text == b.text)))] s ?_ ?_
    · repeat' (first | refine CW.reg ?_ | refine RL.nil ?_ | refine RL.step tysOk rfl rfl rfl rfl ?_ | refine RL.skip rfl rfl rfl ?_ | refine RL.gstepT tysOk rfl rfl rfl rfl rfl rfl rfl (fun _ => ?_) (fun _ => ?_))
      all_goals refine ⟨rfl, (by repeat (first | exact trivial | refine ⟨⟨_, rfl, AVle.refl _⟩, ?_⟩ | refine ⟨⟨_, rfl, AVle.of_eq (by (simp_all))⟩, ?_⟩)), Store.sub_refl _⟩
    cases hc9 : !(a.op == 9) && !(a.text == b.text) with
    | true =>
      rw [hc9, if_pos rfl] at hdef
      rw [hdef]
      repeat (first | with_reducible refine CW.seq ?_ | with_reducible refine andThen_normal ?_ | with_reducible refine andThen_ret ?_ | with_reducible refine CW.ret ?_ | refine CW.reg (RL.run tysOk rfl (RL.nil ?_)) | refine CW.condT rfl ?_)
      exact ⟨_, _, _, rfl, AVle.refl _, Store.sub_refl _, rfl, rfl⟩
    | false =>
    rw [hc9, if_neg (by simp)] at hdef
    refine CW.condF rfl (CW.skip (andThen_normal ?_))
    repeat (first | with_reducible refine CW.seq ?_ | with_reducible refine andThen_normal ?_ | with_reducible refine CW.block ?_ | refine CW.reg (RL.run tysOk rfl (RL.nil ?_)))
    refine CW.loop (σ := Nat) (fun j => [(2, .slc 1 (strs (olds sc)) ol), (3, .slc 1 (strs (nows sc)) om), (4, .fptr a.cells 0), (5, .fptr b.cells 0), (10, .int .i64 (j : Int))]) (fun _ => s)
      (fun j => j ≤ a.kids.length ∧ a.eqv sc b = FExp.eqvs (a.op == 9) a.text b.text sc j (a.kids.drop j) (b.kids.drop j)) (fun j => a.kids.length - j) 0 ⟨by omega, by rw [hdef]; rfl⟩ (by repeat (first | exact trivial | refine ⟨⟨_, rfl, AVle.refl _⟩, ?_⟩)) (Store.sub_refl _) ?_
    rintro j ⟨hj, hI⟩
    repeat (first | with_reducible refine CW.seq ?_ | with_reducible refine andThen_normal ?_ | refine CW.reg (RL.run tysOk rfl (RL.nil ?_)))
    refine CW.cond rfl (fun h => ?_) (fun h => ?_)
    · have hlt : j < a.kids.length := by rw [hkl] at h; simpa using h
      obtain ⟨p, hp, hp', hps⟩ := FExp.kid_at hlt
      obtain ⟨q, hq, hq', hqs⟩ := FExp.kid_at (e := b) (by omega : j < b.kids.length)
      rw [drop_cons hp, drop_cons hq, FExp.eqvs] at hI
      refine CW.skip (andThen_normal (CW.seq (CW.block ?_)))
      refine CW.seqCut [(2, .slc 1 (strs (olds sc)) ol), (3, .slc 1 (strs (nows sc)) om), (4, .fptr a.cells 0), (5, .fptr b.cells 0), (10, .int .i64 (j : Int)), (11, .slc 1 (strs (olds sc)) .fro), (12, .slc 1 (strs (nows sc)) .fro)] s ?_ ?_
      · repeat (first | refine CW.reg (RL.run tysOk rfl (RL.nil ?_)))
        exact ⟨rfl, ⟨⟨_, rfl, AVle.refl _⟩, ⟨_, rfl, AVle.refl _⟩, ⟨_, rfl, AVle.refl _⟩, ⟨_, rfl, AVle.refl _⟩, ⟨_, rfl, AVle.refl _⟩, ⟨_, rfl, AVle.fro⟩, ⟨_, rfl, AVle.fro⟩, trivial⟩, Store.sub_refl _⟩
      refine CW.seqCut [(2, .slc 1 (strs (olds sc)) ol), (3, .slc 1 (strs (nows sc)) om), (4, .fptr a.cells 0), (5, .fptr b.cells 0), (10, .int .i64 (j : Int)), (11, .slc 1 (strs (olds (if a.op == 9 && j == 1 then (a.text, b.text) :: sc else sc))) .fro), (12, .slc 1 (strs (nows (if a.op == 9 && j == 1 then (a.text, b.text) :: sc else sc))) .fro)] s ?_ ?_
      · refine CW.seqCut [(2, .slc 1 (strs (olds sc)) ol), (3, .slc 1 (strs (nows sc)) om), (4, .fptr a.cells 0), (5, .fptr b.cells 0), (10, .int .i64 (j : Int)), (11, .slc 1 (strs (olds sc)) .fro), (12, .slc 1 (strs (nows sc)) .fro), (101, .bool (a.op == 9 && j == 1))] s ?_ ?_
        · repeat' (first | refine CW.reg ?_ | refine RL.nil ?_ | refine RL.step tysOk rfl rfl rfl rfl ?_ | refine RL.skip rfl rfl rfl ?_ | refine RL.gstepT tysOk rfl rfl rfl rfl rfl rfl rfl (fun _ => ?_) (fun _ => ?_))
          all_goals refine ⟨rfl, (by repeat (first | exact trivial | refine ⟨⟨_, rfl, AVle.refl _⟩, ?_⟩ | refine ⟨⟨_, rfl, AVle.of_eq (by (first | (simp_all; done) | (simp_all; rw [Bool.eq_iff_iff]; simp; omega)))⟩, ?_⟩)), Store.sub_refl _⟩
        cases hl9 : a.op == 9 && j == 1 with
        | true =>
          have e1 : strs (olds ((a.text, b.text) :: sc)) = strs (olds sc) ++ [.str a.text] := by simp [olds, strs]
          have e2 : strs (nows ((a.text, b.text) :: sc)) = strs (nows sc) ++ [.str b.text] := by simp [nows, strs]
          have a1 : (strs (olds sc)).length = sc.length := by rw [strs_length, hol]
          have a2 : (strs (nows sc)).length = sc.length := by rw [strs_length, hnl]
          simp only [if_true, e1, e2]
          repeat (first | refine CW.condT rfl ?_ | refine CW.drw tysOk mixed rfl (RD.run rfl ?_))
          refine RD.appendN (i := 1) tysOk rfl rfl rfl rfl rfl rfl rfl rfl rfl (by intro k h; cases h) rfl rfl rfl (.inr rfl) rfl (strs_elem _) (n := (strs (olds sc)).length) rfl (by show _ * 16 ≤ _; omega) (by omega) (fun p1 hp1 => ?_)
          refine RD.run rfl ?_
          refine RD.one (i := 5) rfl rfl rfl rfl rfl (OW.append1F tysOk s rfl rfl rfl rfl (by intro k h; cases h) rfl rfl rfl rfl rfl rfl rfl rfl (by show (_ + 1) * 16 ≤ _; omega) (by omega) rfl hp1 (Store.sub_refl _) (X := fun _ _ => False)) ?_ (fun _ _ h => False.elim h)
          rintro _ s2 ⟨rfl, hs2⟩
          rw [hs2]
          clear hs2 s2
          refine RD.run rfl ?_
          refine RD.appendN (i := 7) tysOk rfl rfl rfl rfl rfl rfl rfl rfl rfl (by intro k h; cases h) rfl rfl rfl (.inr rfl) rfl (strs_elem _) (n := (strs (nows sc)).length) rfl (by show _ * 16 ≤ _; omega) (by omega) (fun p2 hp2 => ?_)
          refine RD.run rfl ?_
          refine RD.one (i := 11) rfl rfl rfl rfl rfl (OW.append1F tysOk s rfl rfl rfl rfl (by intro k h; cases h) rfl rfl rfl rfl rfl rfl rfl rfl (by show (_ + 1) * 16 ≤ _; omega) (by omega) rfl hp2 (Store.sub_refl _) (X := fun _ _ => False)) ?_ (fun _ _ h => False.elim h)
          rintro _ s2 ⟨rfl, hs2⟩
          rw [hs2]
          clear hs2 s2
          refine RD.run rfl (RD.done rfl ?_)
          exact ⟨rfl, (by repeat (first | exact trivial | refine ⟨⟨_, rfl, AVle.refl _⟩, ?_⟩)), Store.sub_refl _⟩
        | false =>
          repeat (first | with_reducible refine CW.skip ?_ | refine CW.condF rfl ?_)
          exact ⟨rfl, (by repeat (first | exact trivial | refine ⟨⟨_, rfl, AVle.refl _⟩, ?_⟩)), Store.sub_refl _⟩
      have hsl : (if a.op == 9 && j == 1 then (a.text, b.text) :: sc else sc).length ≤ sc.length + 1 := by split <;> simp
      generalize (if a.op == 9 && j == 1 then (a.text, b.text) :: sc else sc) = sc' at hsl hI ⊢
      have hcall := fun s => ih p q sc' .fro .fro s (by omega) (by omega) (by omega) (by omega)
      repeat (first | with_reducible refine CW.seq ?_ | refine CW.drw tysOk mixed rfl (RD.run rfl ?_))
      refine RD.idx 3 j rfl rfl rfl rfl rfl rfl rfl rfl rfl rfl rfl rfl rfl hp' rfl ?_
      refine RD.idx 8 j rfl rfl rfl rfl rfl rfl rfl rfl rfl rfl rfl rfl rfl hq' rfl ?_
      refine RD.run rfl ?_
      refine RD.callP (i := 12) rfl rfl rfl rfl rfl rfl rfl (hcall _) ?_
      refine RD.run rfl (RD.done rfl ?_)
      cases hpq : p.eqv sc' q with
      | true =>
        rw [hpq, Bool.true_and] at hI
        repeat (first | with_reducible refine andThen_normal ?_ | with_reducible refine inBlock_normal ?_ | with_reducible refine CW.skip ?_ | refine CW.reg (RL.run tysOk rfl (RL.nil ?_)) | refine CW.condF rfl ?_)
        exact ⟨j + 1, ⟨hlt, hI⟩, (by repeat (first | exact trivial | refine ⟨⟨_, rfl, AVle.refl _⟩, ?_⟩ | refine ⟨⟨_, rfl, AVle.of_eq (by (rw [i64_succ (by omega)]))⟩, ?_⟩)), Store.sub_refl _, by omega⟩
      | false =>
        rw [hpq, Bool.false_and] at hI
        rw [hI]
        repeat (first | with_reducible refine CW.seq ?_ | with_reducible refine andThen_normal ?_ | with_reducible refine andThen_ret ?_ | with_reducible refine inBlock_ret ?_ | with_reducible refine CW.ret ?_ | refine CW.reg (RL.run tysOk rfl (RL.nil ?_)) | refine CW.condT rfl ?_)
        exact ⟨_, _, _, rfl, AVle.refl _, Store.sub_refl _, rfl, rfl⟩
    · have hge : a.kids.length ≤ j := by rw [hkl] at h; simpa using h
      rw [List.drop_eq_nil_of_le hge, List.drop_eq_nil_of_le (by omega), FExp.eqvs] at hI
      rw [hI]
      repeat (first | with_reducible refine CW.seq ?_ | with_reducible refine andThen_normal ?_ | with_reducible refine andThen_exit ?_ | with_reducible refine inBlock_here ?_ | with_reducible refine CW.ret ?_ | with_reducible refine CW.exit ?_ | refine CW.reg (RL.run tysOk rfl (RL.nil ?_)))
      exact ⟨_, _, _, rfl, AVle.refl _, Store.sub_refl _, rfl, rfl⟩

set_option maxRecDepth 10000 in
theorem lawSame_spec (a b : FExp) (s : Store) (ha : a.size < big) (hbs : b.size ≤ big) : ACalls Try.prog 32 [a.av, b.av] s (fun o s' => o = .ret (.bool (sameB a b)) ∧ s' = s) := by
  refine ACalls.of_CW tysOk call32 Try.func32 rfl rfl ?_
  repeat (first | with_reducible refine CW.seq ?_ | with_reducible refine andThen_normal ?_ | refine CW.reg (RL.run tysOk rfl (RL.nil ?_)) | refine CW.reg ?_ | refine RL.step tysOk rfl rfl rfl rfl ?_)
  refine RL.callP rfl rfl rfl rfl rfl (ACalls.weakArgs (.cons (AVle.refl _) (.cons (AVle.refl _) (.cons (AVle.nil (by simp)) (.one (AVle.nil (by simp)))))) (lawEqual_spec a.size a b [] .nil .nil s (Nat.le_refl _) (Nat.le_of_lt ha) hbs (by simpa using ha))) ?_
  repeat (first | with_reducible refine andThen_normal ?_ | with_reducible refine CW.ret ?_ | refine RL.nil ?_ | refine RL.step tysOk rfl rfl rfl rfl ?_)
  exact ⟨_, _, _, rfl, AVle.refl _, Store.sub_refl _, rfl, rfl⟩
end Go.Proofs.Ytaafacnoddjhgaa

/- The law FormSubsts. -/
namespace Go.Proofs.Ytaafacnoddjhgaa
open Go.AE

theorem good_fair {e : FExp} (h : goodB e = true) : e.Fair := by
  have hb : big = 1099511627776 := rfl
  have hs := goodB_size h
  refine Fair.of (by omega) (AllT_iff.2 fun g hg => ?_)
  have hn := goodB_node h hg
  simp only [nodeE, nodeE1, nodeE2, Bool.and_eq_true] at hn
  obtain ⟨⟨-, -, -, h1⟩, h2, -⟩ := hn
  cases hsn : shN (shapeOf g.op) with
  | true =>
    rw [hsn] at h2
    have h3 : nameS g.text = true := by simpa using h2
    simp only [nameS, nameIn, Bool.and_eq_true, decide_eq_true_eq] at h3
    have := h3.1.1.2
    show g.text.length < _
    omega
  | false =>
    rw [hsn] at h1
    have h3 : g.text = [] := by simpa using h1
    show g.text.length < _
    rw [h3]; simp

theorem frees_nameE (x : Str) : (nameE x).frees = [x] := by
  have : (nameE x).loose [] = [x] := by rw [nameE, FExp.loose]; simp [FExp.looses]
  rw [FExp.frees, this]; rfl

mutual
theorem put_id (x : Str) : ∀ (e : FExp) (sc : List (Str × Str)) (on : Bool) (tk : List Str), e.neat = true → (∀ q ∈ sc, q.2 = q.1) → FExp.put x (nameE x) [x] sc on tk e = (e, tk)
  | .mk o n t ks, sc, on, tk, hne, hsc => by
    have hne' := hne
    rw [FExp.neat, Bool.and_eq_true] at hne
    rw [FExp.put]
    by_cases h3 : o = 3
    · subst h3
      have hnm := neat_name hne' rfl
      rw [if_pos (by rfl)]
      rw [hnm]
      show ((match stands sc t with | some to => nameE to | none => if on && t == x then nameE x else nameE t), tk) = (nameE t, tk)
      cases hs : stands sc t with
      | some to =>
        obtain ⟨q, hq, h1, h2⟩ := stands_mem hs
        rw [← h1, ← h2, hsc q hq]
      | none =>
        simp only
        cases hc : on && t == x with
        | true =>
          simp only [Bool.and_eq_true, beq_iff_eq] at hc
          rw [if_pos rfl, hc.2]
        | false => rw [if_neg (by simp)]
    · have h3' : (o == 3) = false := by simpa using h3
      rw [if_neg (by rw [h3']; simp)]
      have hl : (if o == 9 then letS x [x] tk on t ks else (t, tk)) = (t, tk) := by
        split
        · have hq : (!on || t == x || !([x] : List Str).contains t) = true := by
            cases hx : t == x with
            | true => simp
            | false =>
              have : ([x] : List Str).contains t = false := by
                rw [List.contains_cons, hx]; rfl
              rw [this]; simp
          rw [letS]
          simp only [hq, Bool.true_or, if_true]
        · rfl
      simp only [hl]
      rw [puts_id x ks (o == 9) t sc on 0 tk hne.2 hsc]
theorem puts_id (x : Str) : ∀ (ks : List FExp) (isLet : Bool) (t : Str) (sc : List (Str × Str)) (on : Bool) (i : Nat) (tk : List Str), FExp.neats ks = true → (∀ q ∈ sc, q.2 = q.1) → FExp.puts x (nameE x) [x] isLet t t sc on i tk ks = (ks, tk)
  | [], _, _, _, _, _, _, _, _ => rfl
  | k :: r, isLet, t, sc, on, i, tk, hne, hsc => by
    rw [FExp.neats, Bool.and_eq_true] at hne
    have h1 := put_id x k (if isLet && i == 1 then (t, t) :: sc else sc) (if isLet && i == 1 then on && !(t == x) else on) tk hne.1 (by
      intro q hq
      split at hq
      · rcases List.mem_cons.1 hq with rfl | hq
        · rfl
        · exact hsc q hq
      · exact hsc q hq)
    have h2 := puts_id x r isLet t sc on (i + 1) tk hne.2 hsc
    simp only [FExp.puts]
    rw [h1, h2]
end

theorem nameE_good {x : Str} (h : nameS x = true) : goodB (nameE x) = true := by
  have hnodes : (Part.exp (nameE x)).nodes 1 = [(1, .exp (nameE x))] := by rw [exp_nodes]; rfl
  rw [goodB, lookB, hnodes]
  have hx : (x == []) = false := by
    cases hx : x == [] with
    | false => rfl
    | true => rw [(by simpa using hx : x = [])] at h; exact absurd h (by decide)
  have h3 : shapeOf 3 = some (true, 0, 0) := by decide
  have : nodeE (nameE x) = true := by
    have hkl : (nameE x).kav.length = 0 := by rw [FExp.kav_length]; rfl
    rw [nodeE, nodeE1, nodeE2, hkl]
    show (((shapeOf 3).isSome && (decide (((0 : Nat) : Int) ≥ shA (shapeOf 3)) && (decide (((0 : Nat) : Int) ≤ shB (shapeOf 3)) && (shN (shapeOf 3) == !(x == []))))) && ((!shN (shapeOf 3) || nameS x) && ((0 : Int) == 0 || ((3 : Int) == 1 && between 0)))) = true
    rw [h3, hx, h]; decide
  simp [nodeOk, nodeP, this]

theorem putR_id {t : FExp} {x : Str} (h : goodB t = true) (hx : nameS x = true) : putR t x (nameE x) = (t, 0) := by
  unfold putR
  rw [h, hx, nameE_good hx, if_neg (by simp), frees_nameE, put_id x t [] true _ (good_neat h) (by simp)]
  simp [h]

theorem putR_cases {e y : FExp} {x : Str} (he : goodB e = true) (hx : nameS x = true) (hy : goodB y = true) : (∃ a, putR e x y = (a, 0) ∧ goodB a = true) ∨ putR e x y = (zeroE, 3) := by
  unfold putR
  rw [he, hx, hy, if_neg (by simp)]
  simp only
  split
  · rename_i h; exact .inl ⟨_, rfl, h⟩
  · exact .inr rfl

/-! ### Sorted strings -/
theorem less_irrefl : ∀ (a : Str), Op.bytesLess a a = false
  | [] => rfl
  | x :: a => by
    rw [Op.bytesLess, less_irrefl a]
    simp
theorem less_trans : ∀ {a b c : Str}, Op.bytesLess a b = true → Op.bytesLess b c = true → Op.bytesLess a c = true
  | a, [], _, h1, _ => by cases a <;> simp [Op.bytesLess] at h1
  | _, _ :: _, [], _, h2 => by simp [Op.bytesLess] at h2
  | [], _ :: _, _ :: _, _, _ => rfl
  | x :: a, y :: b, z :: c, h1, h2 => by
    rw [Op.bytesLess, Bool.or_eq_true, Bool.and_eq_true, decide_eq_true_eq, beq_iff_eq] at h1 h2 ⊢
    rcases h1 with h1 | ⟨rfl, h1⟩
    · rcases h2 with h2 | ⟨rfl, h2⟩
      · exact .inl (UInt8.lt_trans h1 h2)
      · exact .inl h1
    · rcases h2 with h2 | ⟨rfl, h2⟩
      · exact .inl h2
      · exact .inr ⟨rfl, less_trans h1 h2⟩
theorem less_total : ∀ {a b : Str}, Op.bytesLess a b = false → a ≠ b → Op.bytesLess b a = true
  | [], [], _, h => absurd rfl h
  | [], _ :: _, h, _ => by simp [Op.bytesLess] at h
  | _ :: _, [], _, _ => rfl
  | x :: a, y :: b, h1, h2 => by
    rw [Op.bytesLess, Bool.or_eq_false_iff, Bool.and_eq_false_iff, decide_eq_false_iff_not, beq_eq_false_iff_ne] at h1
    rw [Op.bytesLess, Bool.or_eq_true, Bool.and_eq_true, decide_eq_true_eq, beq_iff_eq]
    by_cases hxy : x = y
    · subst hxy
      refine .inr ⟨rfl, less_total ?_ (fun e => h2 (by rw [e]))⟩
      rcases h1.2 with h | h
      · exact absurd rfl h
      · exact h
    · refine .inl ?_
      have h3 : ¬ x.toNat < y.toNat := fun h => h1.1 (UInt8.lt_iff_toNat_lt.2 h)
      have h4 : x.toNat ≠ y.toNat := fun h => hxy (UInt8.toNat_inj.1 h)
      exact UInt8.lt_iff_toNat_lt.2 (by omega)
theorem less_asymm {a b : Str} (h : Op.bytesLess a b = true) : Op.bytesLess b a = false := by
  cases h2 : Op.bytesLess b a with
  | false => rfl
  | true => have := less_trans h h2; rw [less_irrefl] at this; cases this

def Ordered (l : List Str) : Prop := l.Pairwise fun a b => Op.bytesLess a b = true

theorem ordered_eq : ∀ {a b : List Str}, Ordered a → Ordered b → (∀ z, z ∈ a ↔ z ∈ b) → a = b
  | [], [], _, _, _ => rfl
  | [], y :: b, _, _, h => absurd ((h y).2 (List.mem_cons_self ..)) (by simp)
  | x :: a, [], _, _, h => absurd ((h x).1 (List.mem_cons_self ..)) (by simp)
  | x :: a, y :: b, ha, hb, h => by
    unfold Ordered at ha hb
    rw [List.pairwise_cons] at ha hb
    have hxy : x = y := by
      refine Classical.byContradiction fun hne => ?_
      have h1 : x ∈ b := by
        rcases List.mem_cons.1 ((h x).1 (List.mem_cons_self ..)) with e | e
        · exact absurd e hne
        · exact e
      have h2 : y ∈ a := by
        rcases List.mem_cons.1 ((h y).2 (List.mem_cons_self ..)) with e | e
        · exact absurd e.symm hne
        · exact e
      have h3 := less_asymm (ha.1 y h2)
      rw [hb.1 x h1] at h3; cases h3
    subst hxy
    rw [ordered_eq ha.2 hb.2 fun z => ?_]
    have hxa : x ∉ a := fun hc => by have := ha.1 x hc; rw [less_irrefl] at this; cases this
    have hxb : x ∉ b := fun hc => by have := hb.1 x hc; rw [less_irrefl] at this; cases this
    have := h z
    rw [List.mem_cons, List.mem_cons] at this
    constructor
    · intro hz
      rcases this.1 (.inr hz) with e | e
      · subst e; exact absurd hz hxa
      · exact e
    · intro hz
      rcases this.2 (.inr hz) with e | e
      · subst e; exact absurd hz hxb
      · exact e

theorem cut_parts (out : List Str) (x : Str) : out.take (cutS out x) = out.takeWhile (fun y => Op.bytesLess y x) ∧ out.drop (cutS out x) = out.dropWhile (fun y => Op.bytesLess y x) := by
  have h := List.takeWhile_append_dropWhile (p := fun y => Op.bytesLess y x) (l := out)
  unfold cutS
  generalize out.takeWhile (fun y => Op.bytesLess y x) = a at h ⊢
  generalize out.dropWhile (fun y => Op.bytesLess y x) = b at h ⊢
  rw [← h]
  exact ⟨List.take_left' rfl, List.drop_left' rfl⟩

theorem mem_takeWhile' {p : Str → Bool} {y : Str} : ∀ {l : List Str}, y ∈ l.takeWhile p → p y = true
  | [], h => by simp at h
  | x :: l, h => by
    rw [List.takeWhile_cons] at h
    cases hx : p x with
    | true =>
      rw [hx, if_pos rfl] at h
      rcases List.mem_cons.1 h with rfl | h
      · exact hx
      · exact mem_takeWhile' h
    | false => rw [hx, if_neg (by simp)] at h; cases h

theorem insSo_ordered {out : List Str} (x : Str) (h : Ordered out) : Ordered (insSo out x) := by
  unfold insSo
  split
  · rename_i hc
    obtain ⟨e1, e2⟩ := cut_parts out x
    have hsplit : out = out.take (cutS out x) ++ out.drop (cutS out x) := (List.take_append_drop _ _).symm
    have hlow : ∀ y ∈ out.take (cutS out x), Op.bytesLess y x = true := fun y hy => by
      rw [e1] at hy; exact mem_takeWhile' (p := fun y => Op.bytesLess y x) hy
    have hord := h
    rw [hsplit] at hord
    unfold Ordered at hord ⊢
    rw [List.pairwise_append] at hord
    obtain ⟨p1, p2, p3⟩ := hord
    have hhigh : ∀ z ∈ out.drop (cutS out x), Op.bytesLess x z = true := by
      cases hd : out.drop (cutS out x) with
      | nil => intro z hz; cases hz
      | cons w r =>
        have hw1 : Op.bytesLess w x = false := by
          rw [e2] at hd
          have := List.head?_dropWhile_not (fun y => Op.bytesLess y x) out
          rw [hd] at this
          simpa using this
        have hwx : w ≠ x := by
          intro e
          have hat : out[cutS out x]? = some w := by
            have := congrArg List.head? hd
            rw [List.head?_drop] at this
            simpa using this
          have hlt : cutS out x < out.length := (List.getElem?_eq_some_iff.1 hat).1
          rw [hat, e] at hc
          simp at hc
          omega
        have hxw := less_total hw1 hwx
        rw [hd, List.pairwise_cons] at p2
        intro z hz
        rcases List.mem_cons.1 hz with rfl | hz
        · exact hxw
        · exact less_trans hxw (p2.1 z hz)
    rw [List.append_assoc, List.pairwise_append]
    refine ⟨p1, ?_, fun a ha b hb => ?_⟩
    · rw [List.singleton_append, List.pairwise_cons]
      exact ⟨hhigh, p2⟩
    · rw [List.singleton_append, List.mem_cons] at hb
      rcases hb with rfl | hb
      · exact hlow a ha
      · exact p3 a ha b hb
  · exact h

theorem sortS_ordered (l : List Str) : Ordered (sortS l) := by
  have : ∀ (l out : List Str), Ordered out → Ordered (l.foldl insSo out) := by
    intro l
    induction l with
    | nil => intro out h; exact h
    | cons x l ih => intro out h; exact ih _ (insSo_ordered x h)
  exact this l [] List.Pairwise.nil

theorem sortS_congr {a b : List Str} (h : ∀ z, z ∈ a ↔ z ∈ b) : sortS a = sortS b :=
  ordered_eq (sortS_ordered a) (sortS_ordered b) fun z => by rw [mem_sortS, mem_sortS]; exact h z

/-- The free names behind a substitution. -/
theorem frees_put {t y a : FExp} {x : Str} (h : putR t x y = (a, 0)) : (sortS (freesW (sortS (t.looseR [])) (sortS (y.looseR [])) x) == sortS (a.looseR [])) = true := by
  rw [beq_iff_eq]
  obtain ⟨ht, hy, ha, -⟩ := putR_db h
  refine sortS_congr fun z => ?_
  have hm : ∀ {e : FExp} (_ : goodB e = true) (v : Str), v ∈ sortS (e.looseR []) ↔ v ∈ e.frees := fun he v => by
    rw [mem_sortS, looseR_eq _ [] [] (good_neat he) (fun _ => Iff.rfl), mem_frees]
  have h1 := putR_frees h z
  rw [looseR_eq a [] [] (good_neat ha) (fun _ => Iff.rfl), ← mem_frees, h1]
  unfold freesW
  rw [List.mem_append, List.mem_filter, hm ht z]
  simp only [Bool.not_eq_true', beq_eq_false_iff_ne, ne_eq]
  cases hc : (sortS (t.looseR [])).contains x with
  | true =>
    have : x ∈ t.frees := (hm ht x).1 (List.contains_iff_mem.1 hc)
    rw [if_pos rfl, hm hy z]
    constructor
    · rintro (h | h)
      · exact .inl h
      · exact .inr ⟨this, h⟩
    · rintro (h | h)
      · exact .inl h
      · exact .inr h.2
  | false =>
    have : x ∉ t.frees := fun hx => by
      rw [← hm ht x, ← List.contains_iff_mem, hc] at hx; cases hx
    rw [if_neg (by simp)]
    constructor
    · rintro (h | h)
      · exact .inl h
      · cases h
    · rintro (h | h)
      · exact .inl h
      · exact absurd h.1 this

theorem known_contains {z : FExp} (hz : goodB z = true) (x : Str) : (sortS (z.looseR [])).contains x = z.frees.contains x := free_contains (good_neat hz) x
end Go.Proofs.Ytaafacnoddjhgaa

/- The law FormSubsts. -/
namespace Go.Proofs.Ytaafacnoddjhgaa
open Go.AE

set_option maxRecDepth 10000 in
set_option maxHeartbeats 4000000 in
theorem formSubsts_spec (t y z : FExp) (x w : Str) (s : Store) (ht : t.Fair) (hy : y.Fair) (hz : z.Fair) (hx : x.length < 9223372036854775807) (hw : w.length < 9223372036854775807) :
    ACalls Try.prog 7 [t.av, y.av, z.av, .str x, .str w] s (fun o s' => o = .ret (.bool true) ∧ s' = s) := by
  have hb : big = 1099511627776 := rfl
  refine ACalls.of_CW tysOk call7 Try.func7 rfl rfl ?_
  refine CW.seqCut [(3, .str x), (4, .str w), (5, .fptr t.cells 0), (6, .fptr y.cells 0), (7, .fptr z.cells 0)] s ?_ ?_
  · repeat (first | refine CW.reg (RL.run tysOk rfl (RL.nil ?_)))
    exact ⟨rfl, (by repeat (first | exact trivial | refine ⟨⟨_, rfl, AVle.refl _⟩, ?_⟩)), Store.sub_refl _⟩
  refine CW.seq ?_
  refine CW.seqCut [(3, .str x), (4, .str w), (5, .fptr t.cells 0), (6, .fptr y.cells 0), (7, .fptr z.cells 0), (43, .bool (!((((goodB t && goodB y) && goodB z) && nameS x) && nameS w)))] s ?_ ?_
  · repeat' (first | refine CW.reg ?_ | refine RL.nil ?_ | refine RL.step tysOk rfl rfl rfl rfl ?_ | refine RL.skip rfl rfl rfl ?_ | refine RL.gstepF tysOk rfl rfl rfl rfl rfl rfl rfl (fun _ => ?_) (fun _ => ?_) | refine RL.callP rfl rfl rfl rfl rfl (refFormed_spec t _ ht) ?_ | refine RL.callP rfl rfl rfl rfl rfl (refFormed_spec y _ hy) ?_ | refine RL.callP rfl rfl rfl rfl rfl (refFormed_spec z _ hz) ?_ | refine RL.callP rfl rfl rfl rfl rfl (refName_spec x _ hx) ?_ | refine RL.callP rfl rfl rfl rfl rfl (refName_spec w _ hw) ?_)
    all_goals refine ⟨rfl, (by repeat (first | exact trivial | refine ⟨⟨_, rfl, AVle.refl _⟩, ?_⟩ | refine ⟨⟨_, rfl, AVle.of_eq (by (simp_all))⟩, ?_⟩)), Store.sub_refl _⟩
  have hkn := fun s => known_true s
  cases hc : !((((goodB t && goodB y) && goodB z) && nameS x) && nameS w) with
  | true =>
    repeat (first | with_reducible refine CW.seq ?_ | refine CW.reg ?_ | refine CW.condT rfl ?_)
    refine RL.callP rfl rfl rfl rfl rfl (hkn _) ?_
    repeat (first | with_reducible refine andThen_normal ?_ | with_reducible refine andThen_ret ?_ | with_reducible refine CW.ret ?_ | refine RL.nil ?_ | refine RL.step tysOk rfl rfl rfl rfl ?_)
    exact ⟨_, _, _, rfl, AVle.refl _, Store.sub_refl _, rfl, rfl⟩
  | false =>
  simp only [Bool.not_eq_false', Bool.and_eq_true] at hc
  obtain ⟨⟨⟨⟨gt, gy⟩, gz⟩, nx⟩, nw⟩ := hc
  have st := goodB_size gt
  have sy := goodB_size gy
  have sz := goodB_size gz
  refine CW.condF rfl (CW.skip (andThen_normal ?_))
  have c1 := shapePut_spec t x y s ht hy hx
  rcases putR_cases gt nx gy with ⟨a, ha, ga⟩ | ha
  rotate_left
  · rw [ha] at c1
    have c2 := ACalls.weakArgs (.cons (AVle.refl _) (.one zero_le)) (refSameExp_spec _ zeroE zeroE s (Nat.le_refl _) (by simp [zeroE, FExp.size, FExp.sizes, hb]) (by simp [zeroE, FExp.size, FExp.sizes, hb]))
    rw [FExp.beq_refl] at c2
    repeat (first | with_reducible refine CW.seq ?_ | refine CW.reg ?_ | refine RL.step tysOk rfl rfl rfl rfl ?_)
    refine RL.callP rfl rfl rfl rfl rfl c1 ?_
    repeat (first | refine RL.step tysOk rfl rfl rfl rfl ?_)
    refine RL.newBox tysOk rfl rfl rfl rfl rfl rfl rfl (fun _ => rfl) rfl rfl (fun _ => rfl) rfl rfl rfl rfl ?_
    repeat (first | with_reducible refine CW.seq ?_ | with_reducible refine andThen_normal ?_ | refine CW.reg (RL.run tysOk rfl (RL.nil ?_)) | refine CW.reg ?_ | refine RL.nil ?_ | refine CW.condT rfl ?_ | refine RL.step tysOk rfl rfl rfl rfl ?_)
    refine RL.callP rfl rfl rfl rfl rfl c2 ?_
    repeat (first | refine RL.step tysOk rfl rfl rfl rfl ?_)
    refine RL.callP rfl rfl rfl rfl rfl (hkn _) ?_
    repeat (first | with_reducible refine andThen_normal ?_ | with_reducible refine andThen_ret ?_ | with_reducible refine CW.ret ?_ | refine RL.nil ?_ | refine RL.step tysOk rfl rfl rfl rfl ?_)
    exact ⟨_, _, _, rfl, AVle.refl _, Store.sub_refl _, rfl, rfl⟩
  rw [ha] at c1
  have fa := good_fair ga
  have sa := goodB_size ga
  have hFa := fun s => refFormed_spec a s fa
  simp only [ga] at hFa
  have hfr := fun s => lawFrees_spec (sortS (t.looseR [])) (sortS (y.looseR [])) (sortS (a.looseR [])) .fro .fro .fro x s (by have := sortS_len (t.looseR []); have := looseR_len t []; have := sortS_len (y.looseR []); have := looseR_len y []; omega) (by have := sortS_len (a.looseR []); have := looseR_len a []; omega)
  simp only [frees_put ha] at hfr
  have hown := fun s => shapePut_spec t x (nameE x) s ht (good_fair (nameE_good nx)) hx
  simp only [putR_id gt nx] at hown
  have hsm := lawSame_spec t t s (by omega) (by omega)
  rw [(sameB_iff gt gt).2 rfl] at hsm
  repeat (first | with_reducible refine CW.seq ?_ | refine CW.reg ?_ | refine RL.step tysOk rfl rfl rfl rfl ?_)
  refine RL.callP rfl rfl rfl rfl rfl c1 ?_
  repeat (first | refine RL.step tysOk rfl rfl rfl rfl ?_)
  refine RL.newBox tysOk rfl rfl rfl rfl rfl rfl rfl (fun _ => rfl) rfl rfl (fun _ => rfl) rfl rfl rfl rfl ?_
  repeat (first | with_reducible refine CW.seq ?_ | with_reducible refine andThen_normal ?_ | with_reducible refine CW.skip ?_ | refine CW.reg (RL.run tysOk rfl (RL.nil ?_)) | refine RL.nil ?_ | refine CW.condF rfl ?_ | refine RL.step tysOk rfl rfl rfl rfl ?_ | refine CW.drw tysOk mixed rfl (RD.run rfl ?_))
  refine RD.callP (i := 1) rfl rfl rfl rfl rfl rfl rfl (hFa _) ?_
  refine RD.run rfl ?_
  refine RD.callP (i := 5) rfl rfl rfl rfl rfl rfl rfl (refFreeOf_spec t _ (by omega)) ?_
  refine RD.run rfl ?_
  refine RD.callP (i := 7) rfl rfl rfl rfl rfl rfl rfl (refFreeOf_spec y _ (by omega)) ?_
  refine RD.run rfl ?_
  refine RD.callP (i := 9) rfl rfl rfl rfl rfl rfl rfl (refFreeOf_spec a _ (by omega)) ?_
  refine RD.run rfl ?_
  refine RD.callP (i := 11) rfl rfl rfl rfl rfl rfl rfl (hfr _) ?_
  refine RD.run rfl (RD.done rfl ?_)
  repeat (first | with_reducible refine CW.seq ?_ | with_reducible refine andThen_normal ?_ | with_reducible refine CW.skip ?_ | refine CW.condF rfl ?_ | refine CW.drw tysOk mixed rfl (RD.run rfl ?_))
  refine RD.calmP (i := 3) rfl rfl rfl rfl rfl rfl rfl (fun s => lawName_spec x s) ?_
  refine RD.run rfl ?_
  refine RD.calmP (i := 4) rfl rfl rfl rfl rfl rfl rfl (fun s => hown s) ?_
  refine RD.run rfl ?_
  refine RD.one (i := 8) rfl rfl rfl rfl rfl (OW.alloc tysOk rfl rfl rfl rfl (X := fun _ _ => False)) ?_ (fun _ _ h => False.elim h)
  rintro _ _ ⟨b13, hb13, rfl, rfl⟩
  refine RD.run rfl ?_
  refine RD.oneN (i := 9) rfl rfl rfl rfl (OW.storeP tysOk rfl rfl rfl rfl rfl rfl rfl (Store.set_same _ _ _) rfl (X := fun _ _ => False)) ?_ (fun _ _ h => False.elim h)
  rintro _ _ rfl
  refine RD.run rfl (RD.done rfl (andThen_normal ?_))
  rw [Store.set_set]
  refine CW.freeze 13 b13 rfl (Store.set_same _ _ _) ?_
  rw [Store.del_set _ _ _ hb13]
  repeat (first | with_reducible refine CW.seq ?_ | refine CW.reg ?_ | refine RL.step tysOk rfl rfl rfl rfl ?_)
  refine RL.callP rfl rfl rfl rfl rfl hsm ?_
  repeat (first | with_reducible refine CW.seq ?_ | with_reducible refine andThen_normal ?_ | with_reducible refine CW.skip ?_ | refine CW.reg ?_ | refine RL.nil ?_ | refine CW.condF rfl ?_ | refine RL.step tysOk rfl rfl rfl rfl ?_)
  cases hxw : x == w with
  | true =>
    repeat (first | with_reducible refine CW.seq ?_ | with_reducible refine andThen_normal ?_ | refine CW.reg ?_ | refine RL.nil ?_ | refine CW.condT rfl ?_ | refine RL.step tysOk rfl rfl rfl rfl ?_ | refine RL.skip rfl rfl rfl ?_)
    refine RL.callP rfl rfl rfl rfl rfl (hkn _) ?_
    repeat (first | with_reducible refine andThen_normal ?_ | with_reducible refine andThen_ret ?_ | with_reducible refine CW.ret ?_ | refine RL.nil ?_ | refine RL.step tysOk rfl rfl rfl rfl ?_)
    exact ⟨_, _, _, rfl, AVle.refl _, Store.sub_refl _, rfl, rfl⟩
  | false =>
  have hfz := fun s => refFreeOf_spec z s (by omega)
  have hhz := fun s => refHas_spec (sortS (z.looseR [])) .fro x s (by have := sortS_len (z.looseR []); have := looseR_len z []; omega)
  simp only [known_contains gz x] at hhz
  repeat (first | refine RL.step tysOk rfl rfl rfl rfl ?_)
  refine RL.callP rfl rfl rfl rfl rfl (hfz _) ?_
  repeat (first | refine RL.step tysOk rfl rfl rfl rfl ?_)
  cases hxz : z.frees.contains x with
  | true =>
    rw [hxz] at hhz
    refine RL.callP rfl rfl rfl rfl rfl (hhz _) ?_
    repeat (first | with_reducible refine CW.seq ?_ | with_reducible refine andThen_normal ?_ | refine CW.reg ?_ | refine RL.nil ?_ | refine CW.condT rfl ?_ | refine RL.step tysOk rfl rfl rfl rfl ?_)
    refine RL.callP rfl rfl rfl rfl rfl (hkn _) ?_
    repeat (first | with_reducible refine andThen_normal ?_ | with_reducible refine andThen_ret ?_ | with_reducible refine CW.ret ?_ | refine RL.nil ?_ | refine RL.step tysOk rfl rfl rfl rfl ?_)
    exact ⟨_, _, _, rfl, AVle.refl _, Store.sub_refl _, rfl, rfl⟩
  | false =>
  rw [hxz] at hhz
  refine RL.callP rfl rfl rfl rfl rfl (hhz _) ?_
  have d1 := shapePut_spec a w z s fa hz hw
  have d2 := shapePut_spec t w z s ht hz hw
  have d3 := shapePut_spec y w z s hy hz hw
  rcases putR_cases ga nw gz with ⟨l, hl, gl⟩ | hl
  rotate_left
  · rw [hl] at d1
    repeat (first | with_reducible refine CW.seq ?_ | with_reducible refine andThen_normal ?_ | with_reducible refine CW.skip ?_ | refine CW.reg ?_ | refine RL.nil ?_ | refine CW.condF rfl ?_ | refine RL.step tysOk rfl rfl rfl rfl ?_)
    refine RL.callP rfl rfl rfl rfl rfl d1 ?_
    repeat (first | refine RL.step tysOk rfl rfl rfl rfl ?_)
    refine RL.newBox tysOk rfl rfl rfl rfl rfl rfl rfl (fun _ => rfl) rfl rfl (fun _ => rfl) rfl rfl rfl rfl ?_
    repeat (first | with_reducible refine CW.seq ?_ | with_reducible refine andThen_normal ?_ | refine CW.reg ?_ | refine RL.nil ?_ | refine RL.step tysOk rfl rfl rfl rfl ?_)
    refine RL.callP rfl rfl rfl rfl rfl d2 ?_
    repeat (first | refine RL.step tysOk rfl rfl rfl rfl ?_)
    refine RL.newBox tysOk rfl rfl rfl rfl rfl rfl rfl (fun _ => rfl) rfl rfl (fun _ => rfl) rfl rfl rfl rfl ?_
    repeat (first | with_reducible refine CW.seq ?_ | with_reducible refine andThen_normal ?_ | refine CW.reg ?_ | refine RL.nil ?_ | refine RL.step tysOk rfl rfl rfl rfl ?_)
    refine RL.callP rfl rfl rfl rfl rfl d3 ?_
    repeat (first | refine RL.step tysOk rfl rfl rfl rfl ?_)
    refine RL.newBox tysOk rfl rfl rfl rfl rfl rfl rfl (fun _ => rfl) rfl rfl (fun _ => rfl) rfl rfl rfl rfl ?_
    repeat (first | with_reducible refine CW.seq ?_ | with_reducible refine andThen_normal ?_ | refine CW.reg (RL.run tysOk rfl (RL.nil ?_)) | refine CW.reg ?_ | refine RL.nil ?_ | refine CW.condT rfl ?_ | refine RL.step tysOk rfl rfl rfl rfl ?_)
    refine RL.callP rfl rfl rfl rfl rfl (hkn _) ?_
    repeat (first | with_reducible refine andThen_normal ?_ | with_reducible refine andThen_ret ?_ | with_reducible refine CW.ret ?_ | refine RL.nil ?_ | refine RL.step tysOk rfl rfl rfl rfl ?_)
    exact ⟨_, _, _, rfl, AVle.refl _, Store.sub_refl _, rfl, rfl⟩
  rw [hl] at d1
  rcases putR_cases gt nw gz with ⟨b, hbb, gb⟩ | hbb
  rotate_left
  · rw [hbb] at d2
    repeat (first | with_reducible refine CW.seq ?_ | with_reducible refine andThen_normal ?_ | with_reducible refine CW.skip ?_ | refine CW.reg ?_ | refine RL.nil ?_ | refine CW.condF rfl ?_ | refine RL.step tysOk rfl rfl rfl rfl ?_)
    refine RL.callP rfl rfl rfl rfl rfl d1 ?_
    repeat (first | refine RL.step tysOk rfl rfl rfl rfl ?_)
    refine RL.newBox tysOk rfl rfl rfl rfl rfl rfl rfl (fun _ => rfl) rfl rfl (fun _ => rfl) rfl rfl rfl rfl ?_
    repeat (first | with_reducible refine CW.seq ?_ | with_reducible refine andThen_normal ?_ | refine CW.reg ?_ | refine RL.nil ?_ | refine RL.step tysOk rfl rfl rfl rfl ?_)
    refine RL.callP rfl rfl rfl rfl rfl d2 ?_
    repeat (first | refine RL.step tysOk rfl rfl rfl rfl ?_)
    refine RL.newBox tysOk rfl rfl rfl rfl rfl rfl rfl (fun _ => rfl) rfl rfl (fun _ => rfl) rfl rfl rfl rfl ?_
    repeat (first | with_reducible refine CW.seq ?_ | with_reducible refine andThen_normal ?_ | refine CW.reg ?_ | refine RL.nil ?_ | refine RL.step tysOk rfl rfl rfl rfl ?_)
    refine RL.callP rfl rfl rfl rfl rfl d3 ?_
    repeat (first | refine RL.step tysOk rfl rfl rfl rfl ?_)
    refine RL.newBox tysOk rfl rfl rfl rfl rfl rfl rfl (fun _ => rfl) rfl rfl (fun _ => rfl) rfl rfl rfl rfl ?_
    repeat (first | with_reducible refine CW.seq ?_ | with_reducible refine andThen_normal ?_ | refine CW.reg (RL.run tysOk rfl (RL.nil ?_)) | refine CW.reg ?_ | refine RL.nil ?_ | refine CW.condT rfl ?_ | refine RL.step tysOk rfl rfl rfl rfl ?_)
    refine RL.callP rfl rfl rfl rfl rfl (hkn _) ?_
    repeat (first | with_reducible refine andThen_normal ?_ | with_reducible refine andThen_ret ?_ | with_reducible refine CW.ret ?_ | refine RL.nil ?_ | refine RL.step tysOk rfl rfl rfl rfl ?_)
    exact ⟨_, _, _, rfl, AVle.refl _, Store.sub_refl _, rfl, rfl⟩
  rw [hbb] at d2
  rcases putR_cases gy nw gz with ⟨c, hcc, gc⟩ | hcc
  rotate_left
  · rw [hcc] at d3
    repeat (first | with_reducible refine CW.seq ?_ | with_reducible refine andThen_normal ?_ | with_reducible refine CW.skip ?_ | refine CW.reg ?_ | refine RL.nil ?_ | refine CW.condF rfl ?_ | refine RL.step tysOk rfl rfl rfl rfl ?_)
    refine RL.callP rfl rfl rfl rfl rfl d1 ?_
    repeat (first | refine RL.step tysOk rfl rfl rfl rfl ?_)
    refine RL.newBox tysOk rfl rfl rfl rfl rfl rfl rfl (fun _ => rfl) rfl rfl (fun _ => rfl) rfl rfl rfl rfl ?_
    repeat (first | with_reducible refine CW.seq ?_ | with_reducible refine andThen_normal ?_ | refine CW.reg ?_ | refine RL.nil ?_ | refine RL.step tysOk rfl rfl rfl rfl ?_)
    refine RL.callP rfl rfl rfl rfl rfl d2 ?_
    repeat (first | refine RL.step tysOk rfl rfl rfl rfl ?_)
    refine RL.newBox tysOk rfl rfl rfl rfl rfl rfl rfl (fun _ => rfl) rfl rfl (fun _ => rfl) rfl rfl rfl rfl ?_
    repeat (first | with_reducible refine CW.seq ?_ | with_reducible refine andThen_normal ?_ | refine CW.reg ?_ | refine RL.nil ?_ | refine RL.step tysOk rfl rfl rfl rfl ?_)
    refine RL.callP rfl rfl rfl rfl rfl d3 ?_
    repeat (first | refine RL.step tysOk rfl rfl rfl rfl ?_)
    refine RL.newBox tysOk rfl rfl rfl rfl rfl rfl rfl (fun _ => rfl) rfl rfl (fun _ => rfl) rfl rfl rfl rfl ?_
    repeat (first | with_reducible refine CW.seq ?_ | with_reducible refine andThen_normal ?_ | refine CW.reg (RL.run tysOk rfl (RL.nil ?_)) | refine CW.reg ?_ | refine RL.nil ?_ | refine CW.condT rfl ?_ | refine RL.step tysOk rfl rfl rfl rfl ?_)
    refine RL.callP rfl rfl rfl rfl rfl (hkn _) ?_
    repeat (first | with_reducible refine andThen_normal ?_ | with_reducible refine andThen_ret ?_ | with_reducible refine CW.ret ?_ | refine RL.nil ?_ | refine RL.step tysOk rfl rfl rfl rfl ?_)
    exact ⟨_, _, _, rfl, AVle.refl _, Store.sub_refl _, rfl, rfl⟩
  rw [hcc] at d3
  have d4 := shapePut_spec b x c s (good_fair gb) (good_fair gc) hx
  have sl := goodB_size gl
  rcases putR_cases gb nx gc with ⟨r, hr, gr⟩ | hr
  · rw [hr] at d4
    have hxz' : x ∉ z.frees := fun h => by rw [List.contains_iff_mem.2 h] at hxz; cases hxz
    have hsl := lawSame_spec l r s (by omega) (by have := goodB_size gr; omega)
    rw [putR_twice (by simpa using hxw) hxz' ha hl hbb hcc hr] at hsl
    repeat (first | with_reducible refine CW.seq ?_ | with_reducible refine andThen_normal ?_ | with_reducible refine CW.skip ?_ | refine CW.reg ?_ | refine RL.nil ?_ | refine CW.condF rfl ?_ | refine RL.step tysOk rfl rfl rfl rfl ?_)
    refine RL.callP rfl rfl rfl rfl rfl d1 ?_
    repeat (first | refine RL.step tysOk rfl rfl rfl rfl ?_)
    refine RL.newBox tysOk rfl rfl rfl rfl rfl rfl rfl (fun _ => rfl) rfl rfl (fun _ => rfl) rfl rfl rfl rfl ?_
    repeat (first | with_reducible refine CW.seq ?_ | with_reducible refine andThen_normal ?_ | refine CW.reg ?_ | refine RL.nil ?_ | refine RL.step tysOk rfl rfl rfl rfl ?_)
    refine RL.callP rfl rfl rfl rfl rfl d2 ?_
    repeat (first | refine RL.step tysOk rfl rfl rfl rfl ?_)
    refine RL.newBox tysOk rfl rfl rfl rfl rfl rfl rfl (fun _ => rfl) rfl rfl (fun _ => rfl) rfl rfl rfl rfl ?_
    repeat (first | with_reducible refine CW.seq ?_ | with_reducible refine andThen_normal ?_ | refine CW.reg ?_ | refine RL.nil ?_ | refine RL.step tysOk rfl rfl rfl rfl ?_)
    refine RL.callP rfl rfl rfl rfl rfl d3 ?_
    repeat (first | refine RL.step tysOk rfl rfl rfl rfl ?_)
    refine RL.newBox tysOk rfl rfl rfl rfl rfl rfl rfl (fun _ => rfl) rfl rfl (fun _ => rfl) rfl rfl rfl rfl ?_
    repeat (first | with_reducible refine CW.seq ?_ | with_reducible refine andThen_normal ?_ | with_reducible refine CW.skip ?_ | refine CW.reg (RL.run tysOk rfl (RL.nil ?_)) | refine CW.reg ?_ | refine RL.nil ?_ | refine CW.condF rfl ?_ | refine RL.step tysOk rfl rfl rfl rfl ?_)
    refine RL.callP rfl rfl rfl rfl rfl d4 ?_
    repeat (first | refine RL.step tysOk rfl rfl rfl rfl ?_)
    refine RL.newBox tysOk rfl rfl rfl rfl rfl rfl rfl (fun _ => rfl) rfl rfl (fun _ => rfl) rfl rfl rfl rfl ?_
    repeat (first | with_reducible refine CW.seq ?_ | with_reducible refine andThen_normal ?_ | refine CW.reg ?_ | refine RL.nil ?_ | refine RL.step tysOk rfl rfl rfl rfl ?_)
    refine RL.callP rfl rfl rfl rfl rfl hsl ?_
    repeat (first | refine RL.step tysOk rfl rfl rfl rfl ?_ | refine RL.skip rfl rfl rfl ?_)
    refine RL.callP rfl rfl rfl rfl rfl (hkn _) ?_
    repeat (first | with_reducible refine andThen_normal ?_ | with_reducible refine CW.ret ?_ | refine RL.nil ?_ | refine RL.step tysOk rfl rfl rfl rfl ?_)
    exact ⟨_, _, _, rfl, AVle.refl _, Store.sub_refl _, rfl, rfl⟩
  · rw [hr] at d4
    repeat (first | with_reducible refine CW.seq ?_ | with_reducible refine andThen_normal ?_ | with_reducible refine CW.skip ?_ | refine CW.reg ?_ | refine RL.nil ?_ | refine CW.condF rfl ?_ | refine RL.step tysOk rfl rfl rfl rfl ?_)
    refine RL.callP rfl rfl rfl rfl rfl d1 ?_
    repeat (first | refine RL.step tysOk rfl rfl rfl rfl ?_)
    refine RL.newBox tysOk rfl rfl rfl rfl rfl rfl rfl (fun _ => rfl) rfl rfl (fun _ => rfl) rfl rfl rfl rfl ?_
    repeat (first | with_reducible refine CW.seq ?_ | with_reducible refine andThen_normal ?_ | refine CW.reg ?_ | refine RL.nil ?_ | refine RL.step tysOk rfl rfl rfl rfl ?_)
    refine RL.callP rfl rfl rfl rfl rfl d2 ?_
    repeat (first | refine RL.step tysOk rfl rfl rfl rfl ?_)
    refine RL.newBox tysOk rfl rfl rfl rfl rfl rfl rfl (fun _ => rfl) rfl rfl (fun _ => rfl) rfl rfl rfl rfl ?_
    repeat (first | with_reducible refine CW.seq ?_ | with_reducible refine andThen_normal ?_ | refine CW.reg ?_ | refine RL.nil ?_ | refine RL.step tysOk rfl rfl rfl rfl ?_)
    refine RL.callP rfl rfl rfl rfl rfl d3 ?_
    repeat (first | refine RL.step tysOk rfl rfl rfl rfl ?_)
    refine RL.newBox tysOk rfl rfl rfl rfl rfl rfl rfl (fun _ => rfl) rfl rfl (fun _ => rfl) rfl rfl rfl rfl ?_
    repeat (first | with_reducible refine CW.seq ?_ | with_reducible refine andThen_normal ?_ | with_reducible refine CW.skip ?_ | refine CW.reg (RL.run tysOk rfl (RL.nil ?_)) | refine CW.reg ?_ | refine RL.nil ?_ | refine CW.condF rfl ?_ | refine RL.step tysOk rfl rfl rfl rfl ?_)
    refine RL.callP rfl rfl rfl rfl rfl d4 ?_
    repeat (first | refine RL.step tysOk rfl rfl rfl rfl ?_)
    refine RL.newBox tysOk rfl rfl rfl rfl rfl rfl rfl (fun _ => rfl) rfl rfl (fun _ => rfl) rfl rfl rfl rfl ?_
    repeat (first | with_reducible refine CW.seq ?_ | with_reducible refine andThen_normal ?_ | refine CW.reg ?_ | refine RL.nil ?_ | refine RL.step tysOk rfl rfl rfl rfl ?_ | refine RL.skip rfl rfl rfl ?_)
    refine RL.callP rfl rfl rfl rfl rfl (hkn _) ?_
    repeat (first | with_reducible refine andThen_normal ?_ | with_reducible refine CW.ret ?_ | refine RL.nil ?_ | refine RL.step tysOk rfl rfl rfl rfl ?_)
    exact ⟨_, _, _, rfl, AVle.refl _, Store.sub_refl _, rfl, rfl⟩
end Go.Proofs.Ytaafacnoddjhgaa

