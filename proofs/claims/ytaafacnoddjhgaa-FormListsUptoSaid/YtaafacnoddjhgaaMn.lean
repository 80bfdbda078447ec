import Derived.Test.YtaafacnoddjhgaaMk
import Derived.Test.YtaafacnoddjhgaaMl
/- The theorem of substitution, in plain Lean: expressions in which bound names are numbers. -/
namespace Go.Proofs.Ytaafacnoddjhgaa
open Go.AE

/-- Where a string stands first. -/
def posn : List Str → Str → Option Nat
  | [], _ => none
  | y :: l, t => if y == t then some 0 else (posn l t).map (· + 1)

theorem posn_none {t : Str} : ∀ {l : List Str}, posn l t = none ↔ t ∉ l
  | [] => by simp [posn]
  | y :: l => by
    rw [posn]
    by_cases h : y = t
    · subst h; simp
    · rw [if_neg (by simpa using h), Option.map_eq_none_iff, posn_none]
      simp only [List.mem_cons, not_or]
      exact ⟨fun g => ⟨fun e => h e.symm, g⟩, fun g => g.2⟩

theorem posn_append {t : Str} {b : List Str} (hb : t ∉ b) : ∀ {c : List Str}, posn (c ++ b) t = posn c t
  | [] => by rw [List.nil_append, posn_none.2 hb]; rfl
  | y :: l => by rw [List.cons_append, posn, posn, posn_append hb]
theorem posn_append' {t : Str} {b : List Str} : ∀ {c : List Str}, t ∈ c → posn (c ++ b) t = posn c t
  | y :: l, h => by
    rw [List.cons_append, posn, posn]
    by_cases hy : y = t
    · simp [hy]
    · rw [posn_append' (by rcases List.mem_cons.1 h with h | h; exact absurd h.symm hy; exact h)]

mutual
/-- An expression in which bound names are numbers; b: the names that are bound around it. -/
def FExp.db : List Str → FExp → FExp
  | b, .mk o n t ks => if o == 3 then (match posn b t with | some i => .mk 3 ((i : Int) + 1) [] [] | none => .mk 3 0 t []) else .mk o n (if o == 9 then [] else t) (FExp.dbs (o == 9) t b 0 ks)
def FExp.dbs (isLet : Bool) (t : Str) (b : List Str) : Nat → List FExp → List FExp
  | _, [] => []
  | i, k :: r => FExp.db (if isLet && i == 1 then t :: b else b) k :: FExp.dbs isLet t b (i + 1) r
end

mutual
/-- y in place of the free name x. -/
def FExp.sub : FExp → Str → FExp → FExp
  | .mk o n t ks, x, y => if o == 3 then (if n == 0 && t == x then y else .mk o n t ks) else .mk o n t (FExp.subs ks x y)
def FExp.subs : List FExp → Str → FExp → List FExp
  | [], _, _ => []
  | k :: r, x, y => FExp.sub k x y :: FExp.subs r x y
end

mutual
/-- The free names of an expression in which bound names are numbers. -/
def FExp.fv : FExp → List Str
  | .mk o n t ks => if o == 3 then (if n == 0 then [t] else []) else FExp.fvs ks
def FExp.fvs : List FExp → List Str
  | [] => []
  | k :: r => FExp.fv k ++ FExp.fvs r
end

def neat1 (g : FExp) : Bool := (!(g.op == 3) || (g.n == 0 && g.kids.isEmpty)) && (!(g.op == 9) || g.kids.length == 2)
mutual
/-- FormNames have no Kids, FormLets two. -/
def FExp.neat : FExp → Bool
  | .mk o n t ks => neat1 (.mk o n t ks) && FExp.neats ks
def FExp.neats : List FExp → Bool
  | [] => true
  | k :: r => FExp.neat k && FExp.neats r
end
mutual
theorem neat_of : ∀ (e : FExp), (∀ g ∈ e.allE, neat1 g = true) → e.neat = true
  | .mk o n t ks, h => by
    rw [FExp.allE] at h
    rw [FExp.neat, Bool.and_eq_true]
    exact ⟨h _ (List.mem_cons_self ..), neats_of ks (fun g hg => h g (List.mem_cons_of_mem _ hg))⟩
theorem neats_of : ∀ (l : List FExp), (∀ g ∈ FExp.allEs l, neat1 g = true) → FExp.neats l = true
  | [], _ => rfl
  | k :: r, h => by
    rw [FExp.neats, Bool.and_eq_true]
    rw [FExp.allEs] at h
    exact ⟨neat_of k (fun g hg => h g (List.mem_append_left _ hg)), neats_of r (fun g hg => h g (List.mem_append_right _ hg))⟩
end
theorem neats_mem : ∀ {l : List FExp} {k : FExp}, FExp.neats l = true → k ∈ l → k.neat = true
  | k :: r, x, h, hx => by
    rw [FExp.neats, Bool.and_eq_true] at h
    rcases List.mem_cons.1 hx with rfl | hx
    · exact h.1
    · exact neats_mem h.2 hx

theorem good_neat {e : FExp} (h : goodB e = true) : e.neat = true := by
  refine neat_of e fun g hg => ?_
  have := goodB_node h hg
  have h3 : shapeOf 3 = some (true, 0, 0) := by decide
  have h9 : shapeOf 9 = some (true, 2, 2) := by decide
  obtain ⟨o, n, t, ks⟩ := g
  have hkl : (FExp.mk o n t ks).kav.length = ks.length := FExp.kav_length _
  simp only [nodeE, nodeE1, nodeE2, FExp.op, FExp.n, FExp.text, hkl] at this
  simp only [neat1, FExp.op, FExp.n, FExp.kids]
  by_cases h1 : o = 3
  · subst h1
    rw [h3] at this
    match ks, this with
    | [], this =>
      simp [shA, shB, shN] at this
      simp
      exact this.2.2
    | k :: r, this =>
      simp [shA, shB, shN] at this
      exact absurd (of_decide_eq_true this.1.2.1) (by omega)
  · by_cases h2 : o = 9
    · subst h2
      rw [h9] at this
      match ks, this with
      | [], this => simp [shA, shB, shN] at this
      | [_], this => simp [shA, shB, shN] at this
      | [_, _], _ => simp
      | _ :: _ :: _ :: r, this =>
        simp [shA, shB, shN] at this
        exact absurd (of_decide_eq_true this.1.2.1) (by omega)
    · simp [h1, h2]

/-! ### Free names -/
mutual
theorem mem_loose : ∀ (e : FExp) (b : List Str) (v : Str), v ∈ e.loose b ↔ v ∈ e.loose [] ∧ v ∉ b
  | .mk o n t ks, b, v => by
    rw [FExp.loose, FExp.loose, List.mem_append, List.mem_append, mem_looses ks (o == 9) t b 0 v]
    have : v ∈ (if o == 3 && !b.contains t then [t] else []) ↔ v ∈ (if o == 3 && !([] : List Str).contains t then [t] else []) ∧ v ∉ b := by
      by_cases h3 : o = 3
      · by_cases hb : t ∈ b
        · simp [h3, hb]
          intro h; subst h; exact hb
        · simp [h3, hb]
          intro h; subst h; exact hb
      · simp [h3]
    rw [this]
    constructor
    · rintro (⟨h1, h2⟩ | ⟨h1, h2⟩)
      · exact ⟨.inl h1, h2⟩
      · exact ⟨.inr h1, h2⟩
    · rintro ⟨h1 | h1, h2⟩
      · exact .inl ⟨h1, h2⟩
      · exact .inr ⟨h1, h2⟩
theorem mem_looses : ∀ (ks : List FExp) (isLet : Bool) (t : Str) (b : List Str) (i : Nat) (v : Str), v ∈ FExp.looses isLet t b i ks ↔ v ∈ FExp.looses isLet t [] i ks ∧ v ∉ b
  | [], _, _, _, _, _ => by simp [FExp.looses]
  | k :: r, isLet, t, b, i, v => by
    rw [FExp.looses, FExp.looses, List.mem_append, List.mem_append, mem_looses r isLet t b (i + 1) v]
    have : v ∈ k.loose (if isLet && i == 1 then t :: b else b) ↔ v ∈ k.loose (if isLet && i == 1 then [t] else []) ∧ v ∉ b := by
      cases isLet && i == 1 with
      | false => simpa using mem_loose k b v
      | true =>
        simp only [if_true]
        rw [mem_loose k (t :: b) v, mem_loose k [t] v]
        simp only [List.mem_cons, not_or, List.not_mem_nil, not_false_eq_true, and_true]
        constructor
        · rintro ⟨h1, h2, h3⟩; exact ⟨⟨h1, h2⟩, h3⟩
        · rintro ⟨⟨h1, h2⟩, h3⟩; exact ⟨h1, h2, h3⟩
    rw [this]
    constructor
    · rintro (⟨h1, h2⟩ | ⟨h1, h2⟩)
      · exact ⟨.inl h1, h2⟩
      · exact ⟨.inr h1, h2⟩
    · rintro ⟨h1 | h1, h2⟩
      · exact .inl ⟨h1, h2⟩
      · exact .inr ⟨h1, h2⟩
end

theorem mem_looses_kid : ∀ {ks : List FExp} {t : Str} {i j : Nat} {k : FExp} {v : Str}, ks[j]? = some k → v ∈ k.loose [] → v ∈ FExp.looses false t [] i ks
  | a :: r, t, i, 0, k, v, hj, hv => by
    simp at hj; subst hj
    rw [FExp.looses]
    exact List.mem_append_left _ (by simpa using hv)
  | a :: r, t, i, j + 1, k, v, hj, hv => by
    rw [FExp.looses]
    exact List.mem_append_right _ (mem_looses_kid (by simpa using hj) hv)

theorem mem_addAll {v : Str} : ∀ {l acc : List Str}, v ∈ addAll acc l ↔ v ∈ acc ∨ v ∈ l
  | [], acc => by simp [addAll]
  | x :: l, acc => by
    show v ∈ addAll (insS acc x) l ↔ _
    rw [mem_addAll, mem_insS, List.mem_cons, or_assoc]
theorem mem_frees {e : FExp} {v : Str} : v ∈ e.frees ↔ v ∈ e.loose [] := by
  unfold FExp.frees; rw [mem_addAll]; simp

theorem mem_textsOf {l : List FExp} {g : FExp} (hg : g ∈ l) (h : (g.op == 3 || g.op == 9) = true) : g.text ∈ textsOf l :=
  List.mem_map.2 ⟨g, List.mem_filter.2 ⟨hg, h⟩, rfl⟩
theorem textsOf_append (l m : List FExp) : textsOf (l ++ m) = textsOf l ++ textsOf m := by simp [textsOf]
theorem textsOf_mono {l m : List FExp} (h : ∀ g ∈ l, g ∈ m) {v : Str} (hv : v ∈ textsOf l) : v ∈ textsOf m := by
  obtain ⟨g, hg, rfl⟩ := List.mem_map.1 hv
  obtain ⟨hg, hc⟩ := List.mem_filter.1 hg
  exact mem_textsOf (h g hg) hc
theorem allE_kid {e k : FExp} (h : k ∈ e.kids) : ∀ g ∈ k.allE, g ∈ e.allE := by
  intro g hg
  rw [FExp.allE_eq]
  exact List.mem_cons_of_mem _ (List.mem_flatMap.2 ⟨k, h, hg⟩)

mutual
theorem loose_texts : ∀ (e : FExp) (b : List Str) (v : Str), v ∈ e.loose b → v ∈ textsOf e.allE
  | .mk o n t ks, b, v, h => by
    rw [FExp.loose, List.mem_append] at h
    rw [FExp.allE]
    rcases h with h | h
    · by_cases h3 : o = 3
      · have hv : v = t := by
          split at h
          · simpa using h
          · cases h
        subst hv
        exact mem_textsOf (g := .mk o n v ks) (List.mem_cons_self ..) (by simp [FExp.op, h3])
      · simp [h3] at h
    · exact textsOf_mono (fun g hg => List.mem_cons_of_mem _ hg) (looses_texts ks _ _ _ _ v h)
theorem looses_texts : ∀ (ks : List FExp) (isLet : Bool) (t : Str) (b : List Str) (i : Nat) (v : Str), v ∈ FExp.looses isLet t b i ks → v ∈ textsOf (FExp.allEs ks)
  | [], _, _, _, _, _, h => by simp [FExp.looses] at h
  | k :: r, isLet, t, b, i, v, h => by
    rw [FExp.looses, List.mem_append] at h
    rw [FExp.allEs, textsOf_append, List.mem_append]
    rcases h with h | h
    · exact .inl (loose_texts k _ v h)
    · exact .inr (looses_texts r _ _ _ _ v h)
end

end Go.Proofs.Ytaafacnoddjhgaa

/- Contracts of the reference: with, loose, Sort, FreeOf, texts. -/
namespace Go.Proofs.Ytaafacnoddjhgaa
open Go.AE

section
variable {P : Program} {Γ : Tys} {N : Nat} {env : Env} {s : Store}
/-- A copy of a slice: it is appended to none. -/
theorem OW.appendN (hΓ : TysOk P Γ) {o : Oper} {t t' e : TypeId} {x y : Operand} {it it' ie : TI} {sx sy : Nat} {ys : List AV} {oy : Own}
    (ho : o.op = .call { callee := .builtin .append, args := #[x, y], argTypes := #[t, t'] }) (ht : Γ.get? t = some it) (htd : it.td = .slc e) (ht' : Γ.get? t' = some it') (htd' : ∀ k, it'.td ≠ .int k)
    (hie : Γ.get? e = some ie) (hx : ev env x = some (.slc sx [] .nil)) (hy : ev env y = some (.slc sy ys oy)) (hsy : ys = [] ∨ sy = ie.size)
    (hzs' : Nat.beq ie.zero.cells.size ie.size = true) (hel : ∀ y ∈ ys, elemOk ie.size y = true) (hb : ys.length * ie.bytes ≤ 140737488355328) (h63 : ys.length ≤ 9223372036854775807) {X : AV → Store → Prop} :
    OW P N o env s (fun r s' => ∃ own', OwnOk s ys.length own' ∧ r = .slc ie.size ys own' ∧ s' = rowOf s e ie.size ys.length own') X := by
  refine OW.mono (OW.append hΓ ho ht htd ht' htd' hie hx hy (.inl rfl) hsy hzs' hel (by simpa using hb) (by simpa using h63) (.inl (.inl rfl)) (X := X)) ?_ (fun _ _ h => h)
  rintro r s' (⟨h1, -, rfl, rfl⟩ | ⟨s₁, hs₁, b, h1, rfl, rfl⟩)
  · exact ⟨.nil, trivial, by rw [h1], rfl⟩
  · rcases hs₁ with rfl | ⟨b', e, -⟩
    · exact ⟨.own b, h1, by simp, by simp [rowOf]⟩
    · cases e
variable {ops : Array Oper} {l : List Oper} {Q : AEx → Env → Store → Prop} {o : Oper} {d m : Nat}
theorem RL.appendN (hΓ : TysOk P Γ) {t t' e : TypeId} {x y : Operand} {it it' ie : TI} {sx sy n : Nat} {ys : List AV} {oy : Own} (hg : guardOf ops env o = some true) (hd : o.dst = some d) (hN : Nat.blt d N = true)
    (ho : o.op = .call { callee := .builtin .append, args := #[x, y], argTypes := #[t, t'] }) (ht : Γ.get? t = some it) (htd : it.td = .slc e) (ht' : Γ.get? t' = some it') (htd' : ∀ k, it'.td ≠ .int k)
    (hie : Γ.get? e = some ie) (hx : ev env x = some (.slc sx [] .nil)) (hy : ev env y = some (.slc sy ys oy)) (hsy : ys = [] ∨ sy = ie.size)
    (hzs' : Nat.beq ie.zero.cells.size ie.size = true) (hel : ∀ y ∈ ys, elemOk ie.size y = true) (hn : n = ys.length) (hb : n * ie.bytes ≤ 140737488355328) (h63 : n ≤ 9223372036854775807)
    (h : ∀ own', OwnOk s n own' → RL P N ops l Q ((d, .slc ie.size ys own') :: env) (rowOf s e ie.size n own')) : RL P N ops (o :: l) Q env s := by
  subst hn
  refine RL.op hg hd hN (OW.appendN hΓ ho ht htd ht' htd' hie hx hy hsy hzs' hel hb h63 (X := fun _ _ => False)) ?_ (fun _ _ h => h.elim)
  rintro r s' ⟨own', h1, rfl, rfl⟩
  exact h own' h1
theorem RD.appendN (hΓ : TysOk P Γ) {i : Nat} {t t' e : TypeId} {x y : Operand} {it it' ie : TI} {sx sy n : Nat} {ys : List AV} {oy : Own} (hr : readyL l.toArray m (idxs 0 l) = [i]) (ho : l.toArray[i]? = some o) (hd : o.dst = some d) (hN : Nat.blt d N = true)
    (hg : guardOf l.toArray (pickE env (looks l.toArray o)) o = some true) (hop : o.op = .call { callee := .builtin .append, args := #[x, y], argTypes := #[t, t'] }) (ht : Γ.get? t = some it) (htd : it.td = .slc e) (ht' : Γ.get? t' = some it') (htd' : ∀ k, it'.td ≠ .int k)
    (hie : Γ.get? e = some ie) (hx : ev (pickE env (looks l.toArray o)) x = some (.slc sx [] .nil)) (hy : ev (pickE env (looks l.toArray o)) y = some (.slc sy ys oy)) (hsy : ys = [] ∨ sy = ie.size)
    (hzs' : Nat.beq ie.zero.cells.size ie.size = true) (hel : ∀ y ∈ ys, elemOk ie.size y = true) (hn : n = ys.length) (hb : n * ie.bytes ≤ 140737488355328) (h63 : n ≤ 9223372036854775807)
    (h : ∀ own', OwnOk s n own' → RD P Γ N l.toArray Q (dn (m ||| 2 ^ i)) ((d, .slc ie.size ys own') :: env) (rowOf s e ie.size n own')) : RD P Γ N l.toArray Q (dn m) env s := by
  subst hn
  refine RD.one hr ho hd hN hg (OW.appendN hΓ hop ht htd ht' htd' hie hx hy hsy hzs' hel hb h63 (X := fun _ _ => False)) ?_ (fun _ _ h => h.elim)
  rintro r s' ⟨own', h1, rfl, rfl⟩
  exact h own' h1
end

set_option maxRecDepth 10000 in
theorem refWith_spec (l : List Str) (own : Own) (x : Str) (s : Store) (hl : l.length < big) :
    ACalls Try.prog 102 [.slc 1 (strs l) own, .str x] s (fun o s' => o = .ret (.slc 1 (strs (insS l x)) .fro) ∧ s' = s) := by
  have hb : big = 1099511627776 := rfl
  refine ACalls.of_CW tysOk call102 Try.func102 rfl rfl ?_
  have hcall := refHas_spec l own x s (by omega)
  cases hc : l.contains x with
  | true =>
    rw [hc] at hcall
    repeat (first | with_reducible refine CW.seq ?_ | with_reducible refine andThen_normal ?_ | refine CW.reg (RL.run tysOk rfl (RL.nil ?_)) | refine CW.reg ?_ | refine RL.step tysOk rfl rfl rfl rfl ?_)
    refine RL.callP rfl rfl rfl rfl rfl hcall ?_
    repeat (first | with_reducible refine CW.seq ?_ | with_reducible refine andThen_normal ?_ | with_reducible refine andThen_ret ?_ | with_reducible refine CW.ret ?_ | refine CW.reg (RL.run tysOk rfl (RL.nil ?_)) | refine RL.nil ?_ | refine CW.condT rfl ?_)
    exact ⟨_, _, _, rfl, AVle.fro, Store.sub_refl _, by rw [insS, if_pos hc], rfl⟩
  | false =>
    rw [hc] at hcall
    repeat (first | with_reducible refine CW.seq ?_ | with_reducible refine andThen_normal ?_ | refine CW.reg (RL.run tysOk rfl (RL.nil ?_)) | refine CW.reg ?_ | refine RL.step tysOk rfl rfl rfl rfl ?_)
    refine RL.callP rfl rfl rfl rfl rfl hcall ?_
    repeat (first | with_reducible refine CW.seq ?_ | with_reducible refine andThen_normal ?_ | with_reducible refine CW.skip ?_ | refine CW.reg ?_ | refine RL.nil ?_ | refine CW.condF rfl ?_ | refine RL.step tysOk rfl rfl rfl rfl ?_)
    refine RL.appendN tysOk rfl rfl rfl rfl rfl rfl rfl (by intro k h; cases h) rfl rfl rfl (.inr rfl) rfl (strs_elem _) (n := l.length) (strs_length _).symm (by show l.length * 16 ≤ _; omega) (by omega) (fun o1 h1 => ?_)
    repeat (first | refine RL.step tysOk rfl rfl rfl rfl ?_)
    refine RL.append1 tysOk rfl rfl rfl rfl rfl rfl rfl (by intro k h; cases h) rfl rfl rfl rfl rfl rfl rfl (strs_length _).symm (by show (l.length + 1) * 16 ≤ _; omega) (by omega) (s := s) rfl h1 (fun rb hrb => ?_)
    repeat (first | with_reducible refine andThen_normal ?_ | with_reducible refine CW.ret ?_ | refine RL.nil ?_ | refine RL.step tysOk rfl rfl rfl rfl ?_)
    refine ⟨_, _, s, rfl, AVle.fro, Store.sub_set _ _ _ hrb, ?_, rfl⟩
    rw [insS, if_neg (by rw [hc]; simp)]; simp [strs]

/-! ### Free names -/
mutual
/-- The free names of an expression, as the reference lists them. -/
def FExp.looseR : List Str → FExp → List Str
  | b, .mk o _ t ks => if o == 3 && !b.contains t then [t] else FExp.loosesR (o == 9) t b 0 ks
def FExp.loosesR (isLet : Bool) (t : Str) (b : List Str) : Nat → List FExp → List Str
  | _, [] => []
  | i, k :: r => FExp.looseR (if isLet && i == 1 then insS b t else b) k ++ FExp.loosesR isLet t b (i + 1) r
end
theorem FExp.looseR_def (b : List Str) (e : FExp) : e.looseR b = if e.op == 3 && !b.contains e.text then [e.text] else FExp.loosesR (e.op == 9) e.text b 0 e.kids := by cases e; rw [FExp.looseR]; rfl

mutual
theorem looseR_eq : ∀ (e : FExp) (b c : List Str), e.neat = true → (∀ z, z ∈ b ↔ z ∈ c) → e.looseR b = e.loose c
  | .mk o n t ks, b, c, h, hbc => by
    rw [FExp.neat, Bool.and_eq_true] at h
    rw [FExp.looseR, FExp.loose]
    have hct : b.contains t = c.contains t := by rw [Bool.eq_iff_iff, List.contains_iff_mem, List.contains_iff_mem]; exact hbc t
    by_cases h3 : o = 3
    · subst h3
      have hk : ks = [] := by
        have := h.1
        simp [neat1, FExp.op, FExp.n, FExp.kids] at this
        exact this.2
      subst hk
      rw [hct]
      cases c.contains t <;> simp [FExp.loosesR, FExp.looses]
    · have h3' : (o == 3) = false := by simpa using h3
      rw [h3', loosesR_eq ks (o == 9) t b c 0 h.2 hbc]
      simp
theorem loosesR_eq : ∀ (ks : List FExp) (isLet : Bool) (t : Str) (b c : List Str) (i : Nat), FExp.neats ks = true → (∀ z, z ∈ b ↔ z ∈ c) → FExp.loosesR isLet t b i ks = FExp.looses isLet t c i ks
  | [], _, _, _, _, _, _, _ => rfl
  | k :: r, isLet, t, b, c, i, h, hbc => by
    rw [FExp.neats, Bool.and_eq_true] at h
    rw [FExp.loosesR, FExp.looses, loosesR_eq r isLet t b c (i + 1) h.2 hbc]
    congr 1
    cases isLet && i == 1 with
    | false => exact looseR_eq k b c h.1 hbc
    | true => exact looseR_eq k (insS b t) (t :: c) h.1 (fun z => by rw [mem_insS, List.mem_cons, hbc z, or_comm])
end
mutual
theorem looseR_len : ∀ (e : FExp) (b : List Str), (e.looseR b).length ≤ e.size
  | .mk o n t ks, b => by
    rw [FExp.looseR, FExp.size]
    have := loosesR_len ks (o == 9) t b 0
    split
    · simp
    · omega
theorem loosesR_len : ∀ (ks : List FExp) (isLet : Bool) (t : Str) (b : List Str) (i : Nat), (FExp.loosesR isLet t b i ks).length ≤ FExp.sizes ks
  | [], _, _, _, _ => by simp [FExp.loosesR, FExp.sizes]
  | k :: r, isLet, t, b, i => by
    rw [FExp.loosesR, FExp.sizes, List.length_append]
    have := looseR_len k (if isLet && i == 1 then insS b t else b)
    have := loosesR_len r isLet t b (i + 1)
    omega
end

set_option maxRecDepth 10000 in
set_option maxHeartbeats 1000000 in
theorem refLoose_spec : ∀ (n : Nat) (e : FExp) (b : List Str) (ob : Own) (s : Store), e.size ≤ n → b.length + e.size < big →
    ACalls Try.prog 69 [e.av, .slc 1 (strs b) ob] s (fun o s' => o = .ret (.slc 1 (strs (e.looseR b)) .fro) ∧ s' = s) := by
  intro n
  induction n with
  | zero => intro e b ob s h; have := e.size_pos; omega
  | succ n ih =>
    intro e b ob s hn hbig
    have hlen := e.kids_length
    have hkl := e.kav_length
    have hb : big = 1099511627776 := rfl
    have hdef := e.looseR_def b
    refine ACalls.of_CW tysOk call69 Try.func69 rfl rfl ?_
    refine CW.seqCut [(1, .slc 1 (strs b) ob), (2, .fptr e.cells 0)] s ?_ ?_
    · repeat (first | refine CW.reg (RL.run tysOk rfl (RL.nil ?_)))
      exact ⟨rfl, (by repeat (first | exact trivial | refine ⟨⟨_, rfl, AVle.refl _⟩, ?_⟩)), Store.sub_refl _⟩
    refine CW.seq ?_
    refine CW.seqCut [(1, .slc 1 (strs b) ob), (2, .fptr e.cells 0), (17, .bool (e.op == 3 && !b.contains e.text))] s ?_ ?_
    · repeat' (first | refine CW.reg ?_ | refine RL.nil ?_ | refine RL.step tysOk rfl rfl rfl rfl ?_ | refine RL.skip rfl rfl rfl ?_ | refine RL.gstepT tysOk rfl rfl rfl rfl rfl rfl rfl (fun _ => ?_) (fun _ => ?_) | refine RL.callP rfl rfl rfl rfl rfl (refHas_spec b ob e.text _ (by omega)) ?_)
      all_goals refine ⟨rfl, (by repeat (first | exact trivial | refine ⟨⟨_, rfl, AVle.refl _⟩, ?_⟩ | refine ⟨⟨_, rfl, AVle.of_eq (by (simp_all))⟩, ?_⟩)), Store.sub_refl _⟩
    cases hc : e.op == 3 && !b.contains e.text with
    | true =>
      rw [hc, if_pos rfl] at hdef
      repeat (first | with_reducible refine CW.seq ?_ | with_reducible refine andThen_normal ?_ | with_reducible refine andThen_ret ?_ | with_reducible refine CW.ret ?_ | refine CW.reg (RL.run tysOk rfl (RL.nil ?_)) | refine CW.condT rfl ?_)
      exact ⟨_, _, _, rfl, AVle.fro, Store.sub_refl _, by rw [hdef]; rfl, rfl⟩
    | false =>
    rw [hc, if_neg (by simp)] at hdef
    refine CW.condF rfl (CW.skip (andThen_normal ?_))
    repeat (first | with_reducible refine CW.seq ?_ | with_reducible refine andThen_normal ?_ | with_reducible refine CW.block ?_ | refine CW.reg (RL.run tysOk rfl (RL.nil ?_)))
    refine CW.loop (σ := Nat × Own × List Str) (fun q => [(1, .slc 1 (strs b) ob), (2, .fptr e.cells 0), (5, .slc 1 (strs q.2.2) q.2.1), (6, .int .i64 (q.1 : Int))])
      (fun q => rowOf s 9 1 q.2.2.length q.2.1) (fun q => q.1 ≤ e.kids.length ∧ OwnOk s 0 q.2.1 ∧ q.2.2 ++ FExp.loosesR (e.op == 9) e.text b q.1 (e.kids.drop q.1) = e.looseR b) (fun q => e.kids.length - q.1) (0, .nil, []) ⟨by simp, trivial, by rw [hdef]; rfl⟩ ?_ (Store.sub_refl _) ?_
    · exact ⟨⟨_, rfl, AVle.refl _⟩, ⟨_, rfl, AVle.refl _⟩, ⟨_, rfl, AVle.nil (by simp)⟩, ⟨_, rfl, AVle.refl _⟩, trivial⟩
    rintro ⟨j, own, acc⟩ ⟨hj, hok, hI⟩
    simp only at hj hok hI
    repeat (first | with_reducible refine CW.seq ?_ | with_reducible refine andThen_normal ?_ | refine CW.reg (RL.run tysOk rfl (RL.nil ?_)))
    refine CW.cond rfl (fun h => ?_) (fun h => ?_)
    · have hlt : j < e.kids.length := by rw [hkl] at h; simpa using h
      obtain ⟨k, hk, hk', hks⟩ := FExp.kid_at hlt
      rw [drop_cons hk, FExp.loosesR, ← List.append_assoc] at hI
      have hl := looseR_len e b
      rw [← hI, List.length_append, List.length_append] at hl
      have hil : (insS b e.text).length ≤ b.length + 1 := insS_len _ _
      refine CW.skip (andThen_normal (CW.seq (CW.block ?_)))
      refine CW.seqCut [(1, .slc 1 (strs b) ob), (2, .fptr e.cells 0), (5, .slc 1 (strs acc) own), (6, .int .i64 (j : Int)), (7, .slc 1 (strs b) .fro)] (rowOf s 9 1 acc.length own) ?_ ?_
      · repeat (first | refine CW.reg (RL.run tysOk rfl (RL.nil ?_)))
        exact ⟨rfl, ⟨⟨_, rfl, AVle.refl _⟩, ⟨_, rfl, AVle.refl _⟩, ⟨_, rfl, AVle.refl _⟩, ⟨_, rfl, AVle.refl _⟩, ⟨_, rfl, AVle.fro⟩, trivial⟩, Store.sub_refl _⟩
      refine CW.seqCut [(1, .slc 1 (strs b) ob), (2, .fptr e.cells 0), (5, .slc 1 (strs acc) own), (6, .int .i64 (j : Int)), (7, .slc 1 (strs (if e.op == 9 && j == 1 then insS b e.text else b)) .fro)] (rowOf s 9 1 acc.length own) ?_ ?_
      · refine CW.seqCut [(1, .slc 1 (strs b) ob), (2, .fptr e.cells 0), (5, .slc 1 (strs acc) own), (6, .int .i64 (j : Int)), (7, .slc 1 (strs b) .fro), (35, .bool (e.op == 9 && j == 1))] (rowOf s 9 1 acc.length own) ?_ ?_
        · repeat' (first | refine CW.reg ?_ | refine RL.nil ?_ | refine RL.step tysOk rfl rfl rfl rfl ?_ | refine RL.skip rfl rfl rfl ?_ | refine RL.gstepT tysOk rfl rfl rfl rfl rfl rfl rfl (fun _ => ?_) (fun _ => ?_))
          all_goals refine ⟨rfl, (by repeat (first | exact trivial | refine ⟨⟨_, rfl, AVle.refl _⟩, ?_⟩ | refine ⟨⟨_, rfl, AVle.of_eq (by (first | (simp_all; done) | (simp_all; rw [Bool.eq_iff_iff]; simp; omega)))⟩, ?_⟩)), Store.sub_refl _⟩
        cases hc9 : e.op == 9 && j == 1 with
        | true =>
          repeat (first | refine CW.reg ?_ | refine CW.condT rfl ?_ | refine RL.step tysOk rfl rfl rfl rfl ?_)
          refine RL.callP rfl rfl rfl rfl rfl (refWith_spec b ob e.text _ (by omega)) ?_
          repeat (first | refine RL.nil ?_ | refine RL.step tysOk rfl rfl rfl rfl ?_)
          exact ⟨rfl, (by repeat (first | exact trivial | refine ⟨⟨_, rfl, AVle.refl _⟩, ?_⟩)), Store.sub_refl _⟩
        | false =>
          repeat (first | with_reducible refine CW.skip ?_ | refine CW.condF rfl ?_)
          exact ⟨rfl, (by repeat (first | exact trivial | refine ⟨⟨_, rfl, AVle.refl _⟩, ?_⟩)), Store.sub_refl _⟩
      have hbb : (if e.op == 9 && j == 1 then insS b e.text else b).length ≤ b.length + 1 := by split <;> omega
      generalize (if e.op == 9 && j == 1 then insS b e.text else b) = bb at hbb hI hl ⊢
      repeat (first | refine CW.reg ?_ | refine RL.step tysOk rfl rfl rfl rfl ?_ | refine RL.idx tysOk _ rfl rfl rfl rfl rfl rfl rfl rfl rfl rfl rfl (by assumption) rfl ?_)
      refine RL.callP rfl rfl rfl rfl rfl (ih k bb .fro _ (by omega) (by omega)) ?_
      refine RL.appendR tysOk rfl rfl rfl rfl rfl rfl rfl (by intro k h; cases h) rfl rfl rfl rfl (.inr rfl) rfl (strs_elem _) (n := acc.length) ?_ ?_ (strs_length _).symm rfl (OwnOk.sub' hok) ?_
      · simp only [strs_length]; show _ * 16 ≤ _; omega
      · simp only [strs_length]; omega
      rintro own' h1
      repeat (first | with_reducible refine andThen_normal ?_ | with_reducible refine inBlock_normal ?_ | refine CW.reg (RL.run tysOk rfl (RL.nil ?_)) | refine RL.nil ?_ | refine RL.step tysOk rfl rfl rfl rfl ?_)
      refine ⟨(j + 1, own', acc ++ k.looseR bb), ⟨hlt, OwnOk.sub' h1, hI⟩, (by repeat (first | exact trivial | refine ⟨⟨_, rfl, AVle.refl _⟩, ?_⟩ | refine ⟨⟨_, rfl, AVle.of_eq (by (first | (show AV.int .i64 (IntKind.wrap .i64 ((j : Int) + 1)) = .int .i64 ((j + 1 : Nat) : Int); rw [i64_succ (by omega)]) | (simp [strs])))⟩, ?_⟩)), ?_, by show e.kids.length - (j + 1) < e.kids.length - j; omega⟩
      show Store.Sub (rowOf s _ 1 (acc ++ k.looseR bb).length own') _
      rw [List.length_append, strs_length, strs_length]
      exact Store.sub_refl _
    · have hge : e.kids.length ≤ j := by rw [hkl] at h; simpa using h
      rw [List.drop_eq_nil_of_le hge, FExp.loosesR, List.append_nil] at hI
      repeat (first | with_reducible refine CW.seq ?_ | with_reducible refine andThen_normal ?_ | with_reducible refine andThen_exit ?_ | with_reducible refine inBlock_here ?_ | with_reducible refine CW.ret ?_ | with_reducible refine CW.exit ?_ | refine CW.reg (RL.run tysOk rfl (RL.nil ?_)))
      exact ⟨_, _, s, rfl, AVle.fro, rowOf_sub hok, by rw [hI], rfl⟩

set_option maxRecDepth 10000 in
theorem refTexts_spec (e : FExp) (s : Store) (hbig : e.size ≤ big) :
    ACalls Try.prog 98 [e.av] s (fun o s' => ∃ ow, OwnOk s 0 ow ∧ o = .ret (.slc 1 (strs (textsOf e.allE)) ow) ∧ s' = rowOf s 9 1 (textsOf e.allE).length ow) := by
  have hb : big = 1099511627776 := rfl
  have hal := allE_length e
  refine ACalls.of_CW tysOk call98 Try.func98 rfl rfl ?_
  repeat (first | with_reducible refine CW.seq ?_ | with_reducible refine andThen_normal ?_ | refine CW.reg (RL.run tysOk rfl (RL.nil ?_)) | refine CW.reg ?_ | refine RL.step tysOk rfl rfl rfl rfl ?_)
  refine RL.callP rfl rfl rfl rfl rfl (refAll_spec _ e s (Nat.le_refl _) hbig) ?_
  generalize e.allE = l at hal ⊢
  repeat (first | with_reducible refine CW.seq ?_ | with_reducible refine andThen_normal ?_ | with_reducible refine CW.block ?_ | refine CW.reg (RL.run tysOk rfl (RL.nil ?_)) | refine RL.nil ?_ | refine RL.step tysOk rfl rfl rfl rfl ?_)
  refine CW.loop (σ := Nat × Own) (fun q => [(3, .slc 4 (l.map FExp.av) .fro), (4, .slc 1 (strs (textsOf (l.take q.1))) q.2), (5, .int .i64 (q.1 : Int))])
    (fun q => rowOf s 9 1 (textsOf (l.take q.1)).length q.2) (fun q => q.1 ≤ l.length ∧ OwnOk s 0 q.2) (fun q => l.length - q.1) (0, .nil) ⟨by simp, trivial⟩ ?_ (Store.sub_refl _) ?_
  · exact ⟨⟨_, rfl, AVle.refl _⟩, ⟨_, rfl, AVle.nil (by simp)⟩, ⟨_, rfl, AVle.refl _⟩, trivial⟩
  rintro ⟨i, ow⟩ ⟨hi, hok⟩
  simp only at hi hok
  have hfl : (textsOf (l.take i)).length ≤ i := by
    unfold textsOf; rw [List.length_map]
    exact Nat.le_trans (List.length_filter_le _ _) (by simp; omega)
  repeat (first | with_reducible refine CW.seq ?_ | with_reducible refine andThen_normal ?_ | refine CW.reg (RL.run tysOk rfl (RL.nil ?_)))
  refine CW.cond rfl (fun h => ?_) (fun h => ?_)
  · have hlt : i < l.length := by simpa using h
    obtain ⟨x, hx⟩ : ∃ x, l[i]? = some x := ⟨_, List.getElem?_eq_getElem hlt⟩
    have hx' : (l.map FExp.av)[i]? = some (.agg x.cells) := by rw [List.getElem?_map, hx]; rfl
    have htk : textsOf (l.take (i + 1)) = textsOf (l.take i) ++ (if x.op == 3 || x.op == 9 then [x.text] else []) := by
      rw [← take_snoc hx, textsOf_append]
      congr 1
      cases hc : x.op == 3 || x.op == 9 <;> simp [textsOf, List.filter_cons, hc]
    refine CW.skip (andThen_normal (CW.seq (CW.block ?_)))
    refine CW.seqCut [(3, .slc 4 (l.map FExp.av) .fro), (4, .slc 1 (strs (textsOf (l.take i))) ow), (5, .int .i64 (i : Int)), (27, .bool (x.op == 3 || x.op == 9))] (rowOf s 9 1 (textsOf (l.take i)).length ow) ?_ ?_
    · repeat' (first | refine CW.reg ?_ | refine RL.nil ?_ | refine RL.step tysOk rfl rfl rfl rfl ?_ | refine RL.skip rfl rfl rfl ?_ | refine RL.gstepF tysOk rfl rfl rfl rfl rfl rfl rfl (fun _ => ?_) (fun _ => ?_) | refine RL.idx tysOk i rfl rfl rfl rfl rfl rfl rfl rfl rfl rfl rfl hx' rfl ?_)
      all_goals refine ⟨rfl, (by repeat (first | exact trivial | refine ⟨⟨_, rfl, AVle.refl _⟩, ?_⟩ | refine ⟨⟨_, rfl, AVle.of_eq (by (simp_all))⟩, ?_⟩)), Store.sub_refl _⟩
    cases hc : x.op == 3 || x.op == 9 with
    | true =>
      rw [hc, if_pos rfl] at htk
      repeat (first | refine CW.reg ?_ | refine CW.condT rfl ?_ | refine RL.step tysOk rfl rfl rfl rfl ?_ | refine RL.idx tysOk _ rfl rfl rfl rfl rfl rfl rfl rfl rfl rfl rfl (by assumption) rfl ?_)
      refine RL.append1 tysOk rfl rfl rfl rfl rfl rfl rfl (by intro k h; cases h) rfl rfl rfl rfl rfl rfl rfl (strs_length _).symm ?_ ?_ (s := s) rfl (OwnOk.sub' hok) (fun rb hrb => ?_)
      · show ((textsOf (l.take i)).length + 1) * 16 ≤ _; omega
      · show (textsOf (l.take i)).length + 1 ≤ _; omega
      repeat (first | with_reducible refine andThen_normal ?_ | with_reducible refine inBlock_normal ?_ | refine CW.reg (RL.run tysOk rfl (RL.nil ?_)) | refine RL.nil ?_ | refine RL.step tysOk rfl rfl rfl rfl ?_)
      refine ⟨(i + 1, .own rb), ⟨hlt, hrb⟩, (by repeat (first | exact trivial | refine ⟨⟨_, rfl, AVle.refl _⟩, ?_⟩ | refine ⟨⟨_, rfl, AVle.of_eq (by (first | (show AV.int .i64 (IntKind.wrap .i64 ((i : Int) + 1)) = .int .i64 ((i + 1 : Nat) : Int); rw [i64_succ (by omega)]) | (simp only [htk]; simp [strs])))⟩, ?_⟩)), ?_, by show l.length - (i + 1) < l.length - i; omega⟩
      show Store.Sub (rowOf s _ 1 (textsOf (l.take (i + 1))).length _) _
      rw [htk, List.length_append]; exact Store.sub_refl _
    | false =>
      rw [hc, if_neg (by simp), List.append_nil] at htk
      repeat (first | with_reducible refine andThen_normal ?_ | with_reducible refine inBlock_normal ?_ | with_reducible refine CW.skip ?_ | refine CW.reg (RL.run tysOk rfl (RL.nil ?_)) | refine CW.condF rfl ?_)
      refine ⟨(i + 1, ow), ⟨hlt, hok⟩, (by repeat (first | exact trivial | refine ⟨⟨_, rfl, AVle.refl _⟩, ?_⟩ | refine ⟨⟨_, rfl, AVle.of_eq (by (first | (show AV.int .i64 (IntKind.wrap .i64 ((i : Int) + 1)) = .int .i64 ((i + 1 : Nat) : Int); rw [i64_succ (by omega)]) | (simp only [htk])))⟩, ?_⟩)), ?_, by show l.length - (i + 1) < l.length - i; omega⟩
      show Store.Sub (rowOf s _ 1 (textsOf (l.take (i + 1))).length _) _
      rw [htk]; exact Store.sub_refl _
  · have hge : l.length ≤ i := by simpa using h
    rw [List.take_of_length_le hge]
    repeat (first | with_reducible refine CW.seq ?_ | with_reducible refine andThen_normal ?_ | with_reducible refine andThen_exit ?_ | with_reducible refine inBlock_here ?_ | with_reducible refine CW.ret ?_ | with_reducible refine CW.exit ?_ | refine CW.reg (RL.run tysOk rfl (RL.nil ?_)))
    exact ⟨_, _, _, rfl, AVle.refl _, Store.sub_refl _, ow, hok, rfl, rfl⟩
end Go.Proofs.Ytaafacnoddjhgaa

/- Contracts of the reference: Sort, FreeOf. -/
namespace Go.Proofs.Ytaafacnoddjhgaa
open Go.AE

/-- How many strings at the front are less. -/
def cutS (out : List Str) (x : Str) : Nat := (out.takeWhile fun y => Op.bytesLess y x).length
def insSo (out : List Str) (x : Str) : List Str := if (cutS out x == out.length) || !(out[cutS out x]? == some x) then out.take (cutS out x) ++ [x] ++ out.drop (cutS out x) else out
/-- The strings sorted, each once. -/
def sortS (l : List Str) : List Str := l.foldl insSo []
theorem insSo_len (out : List Str) (x : Str) : (insSo out x).length ≤ out.length + 1 := by
  unfold insSo
  split
  · simp only [List.length_append, List.length_take, List.length_drop, List.length_cons, List.length_nil]; omega
  · omega
theorem cutS_le (out : List Str) (x : Str) : cutS out x ≤ out.length := by
  unfold cutS
  induction out with
  | nil => simp
  | cons y r ih => rw [List.takeWhile_cons]; split <;> simp <;> omega

set_option maxRecDepth 10000 in
set_option maxHeartbeats 1000000 in
theorem refSort_spec (l : List Str) (ol : Own) (s : Store) (hl : l.length < big) :
    ACalls Try.prog 68 [.slc 1 (strs l) ol] s (fun o s' => o = .ret (.slc 1 (strs (sortS l)) .fro) ∧ s' = s) := by
  have hb : big = 1099511627776 := rfl
  refine ACalls.of_CW tysOk call68 Try.func68 rfl rfl ?_
  repeat (first | with_reducible refine CW.seq ?_ | with_reducible refine andThen_normal ?_ | with_reducible refine CW.block ?_ | refine CW.reg (RL.run tysOk rfl (RL.nil ?_)))
  refine CW.loop (σ := Nat × Own × List Str) (fun q => [(0, .slc 1 (strs l) ol), (3, .slc 1 (strs q.2.2) q.2.1), (4, .int .i64 (q.1 : Int))])
    (fun q => rowOf s 9 1 q.2.2.length q.2.1) (fun q => q.1 ≤ l.length ∧ OwnOk s 0 q.2.1 ∧ q.2.2.length ≤ q.1 ∧ (l.drop q.1).foldl insSo q.2.2 = sortS l) (fun q => l.length - q.1) (0, .nil, []) ⟨by simp, trivial, by simp, rfl⟩ ?_ (Store.sub_refl _) ?_
  · exact ⟨⟨_, rfl, AVle.refl _⟩, ⟨_, rfl, AVle.nil (by simp)⟩, ⟨_, rfl, AVle.refl _⟩, trivial⟩
  rintro ⟨i, ow, out⟩ ⟨hi, hok, hol, hI⟩
  simp only at hi hok hol hI
  repeat (first | with_reducible refine CW.seq ?_ | with_reducible refine andThen_normal ?_ | refine CW.reg (RL.run tysOk rfl (RL.nil ?_)))
  refine CW.cond rfl (fun h => ?_) (fun h => ?_)
  · have hlt : i < l.length := by simpa using h
    obtain ⟨x, hx⟩ : ∃ x, l[i]? = some x := ⟨_, List.getElem?_eq_getElem hlt⟩
    have hx' : (strs l)[i]? = some (.str x) := by rw [strs_get, hx]; rfl
    rw [drop_cons hx, List.foldl_cons] at hI
    have hcl := cutS_le out x
    refine CW.skip (andThen_normal (CW.seq (CW.block ?_)))
    refine CW.seqCut [(0, .slc 1 (strs l) ol), (3, .slc 1 (strs out) ow), (4, .int .i64 (i : Int)), (5, .int .i64 0)] (rowOf s 9 1 out.length ow) ?_ ?_
    · repeat (first | refine CW.reg (RL.run tysOk rfl (RL.nil ?_)))
      exact ⟨rfl, (by repeat (first | exact trivial | refine ⟨⟨_, rfl, AVle.refl _⟩, ?_⟩)), Store.sub_refl _⟩
    refine CW.seqCut [(0, .slc 1 (strs l) ol), (3, .slc 1 (strs out) ow), (4, .int .i64 (i : Int)), (5, .int .i64 (cutS out x : Int))] (rowOf s 9 1 out.length ow) ?_ ?_
    · repeat (first | with_reducible refine CW.block ?_)
      refine CW.loop (σ := Nat) (fun a => [(0, .slc 1 (strs l) ol), (3, .slc 1 (strs out) ow), (4, .int .i64 (i : Int)), (5, .int .i64 (a : Int))]) (fun _ => rowOf s 9 1 out.length ow)
        (fun a => a ≤ out.length ∧ a + cutS (out.drop a) x = cutS out x) (fun a => out.length - a) 0 ⟨by simp, by simp⟩ (by repeat (first | exact trivial | refine ⟨⟨_, rfl, AVle.refl _⟩, ?_⟩)) (Store.sub_refl _) ?_
      rintro a ⟨ha, hA⟩
      repeat (first | with_reducible refine CW.seq ?_)
      refine CW.drw tysOk mixed rfl (RD.runs (is := [0, 1, 2, 3, 4]) rfl ?_)
      by_cases hal : a < out.length
      · obtain ⟨y, hy⟩ : ∃ y, out[a]? = some y := ⟨_, List.getElem?_eq_getElem hal⟩
        have hy' : (strs out)[a]? = some (.str y) := by rw [strs_get, hy]; rfl
        refine RD.knowT 16 (b := decide ((a : Int) < ((strs out).length : Int))) rfl (by simp; omega) ?_
        refine RD.run rfl ?_
        refine RD.idx 7 a rfl rfl rfl rfl rfl rfl rfl rfl rfl rfl rfl rfl rfl hy' rfl ?_
        refine RD.idx 11 i rfl rfl rfl rfl rfl rfl rfl rfl rfl rfl rfl rfl rfl hx' rfl ?_
        refine RD.run rfl (RD.done rfl ?_)
        have hd : cutS (out.drop a) x = if Op.bytesLess y x then cutS (out.drop (a + 1)) x + 1 else 0 := by
          rw [drop_cons hy]; unfold cutS; rw [List.takeWhile_cons]
          cases Op.bytesLess y x <;> simp
        cases hc : Op.bytesLess y x with
        | true =>
          rw [hc, if_pos rfl] at hd
          repeat (first | with_reducible refine andThen_normal ?_ | with_reducible refine inBlock_normal ?_ | with_reducible refine CW.skip ?_ | with_reducible refine CW.block ?_ | refine CW.reg (RL.run tysOk rfl (RL.nil ?_)) | refine CW.condT rfl ?_)
          exact ⟨a + 1, ⟨hal, by omega⟩, (by repeat (first | exact trivial | refine ⟨⟨_, rfl, AVle.refl _⟩, ?_⟩ | refine ⟨⟨_, rfl, AVle.of_eq (by (rw [i64_succ (by omega)]))⟩, ?_⟩)), Store.sub_refl _, by omega⟩
        | false =>
          rw [hc, if_neg (by simp)] at hd
          have hac : cutS out x = a := by omega
          rw [hac]
          repeat (first | with_reducible refine andThen_normal ?_ | with_reducible refine andThen_exit ?_ | with_reducible refine inBlock_here ?_ | with_reducible refine CW.exit ?_ | refine CW.condF rfl ?_)
          exact ⟨rfl, (by repeat (first | exact trivial | refine ⟨⟨_, rfl, AVle.refl _⟩, ?_⟩)), Store.sub_refl _⟩
      · have hac : cutS out x = a := by
          rw [List.drop_eq_nil_of_le (by omega)] at hA
          have : cutS [] x = 0 := rfl
          omega
        rw [hac]
        refine RD.knowF 16 (b := decide ((a : Int) < ((strs out).length : Int))) rfl (by simp; omega) ?_
        refine RD.run rfl (RD.done rfl ?_)
        repeat (first | with_reducible refine andThen_normal ?_ | with_reducible refine andThen_exit ?_ | with_reducible refine inBlock_here ?_ | with_reducible refine CW.exit ?_ | refine CW.condF rfl ?_)
        exact ⟨rfl, (by repeat (first | exact trivial | refine ⟨⟨_, rfl, AVle.refl _⟩, ?_⟩)), Store.sub_refl _⟩
    generalize hct : cutS out x = a at hcl ⊢
    have hir : ∀ y, out[a]? = some y → (y == x) = false → insSo out x = out.take a ++ [x] ++ out.drop a := fun y hy hyx => by
      unfold insSo; rw [hct, if_pos]
      rw [hy]; simp; exact .inr (by simpa using hyx)
    repeat (first | with_reducible refine CW.seq ?_)
    refine CW.drw tysOk mixed rfl (RD.runs (is := [0, 1, 2, 3, 4]) rfl ?_)
    by_cases hal : a < out.length
    · obtain ⟨y, hy⟩ : ∃ y, out[a]? = some y := ⟨_, List.getElem?_eq_getElem hal⟩
      have hy' : (strs out)[a]? = some (.str y) := by rw [strs_get, hy]; rfl
      refine RD.knowF 33 (b := ((a : Int) == ((strs out).length : Int))) rfl (by simp; omega) ?_
      refine RD.run rfl ?_
      refine RD.idx 7 a rfl rfl rfl rfl rfl rfl rfl rfl rfl rfl rfl rfl rfl hy' rfl ?_
      refine RD.idx 11 i rfl rfl rfl rfl rfl rfl rfl rfl rfl rfl rfl rfl rfl hx' rfl ?_
      refine RD.run rfl (RD.done rfl ?_)
      cases hyx : y == x with
      | true =>
        have hr : insSo out x = out := by
          unfold insSo; rw [hct, if_neg]
          rw [hy]; simp; exact ⟨by omega, by simpa using hyx⟩
        rw [hr] at hI
        repeat (first | with_reducible refine andThen_normal ?_ | with_reducible refine inBlock_normal ?_ | with_reducible refine CW.skip ?_ | refine CW.reg (RL.run tysOk rfl (RL.nil ?_)) | refine CW.condF rfl ?_)
        exact ⟨(i + 1, ow, out), ⟨hlt, hok, by show out.length ≤ i + 1; omega, hI⟩, (by repeat (first | exact trivial | refine ⟨⟨_, rfl, AVle.refl _⟩, ?_⟩ | refine ⟨⟨_, rfl, AVle.of_eq (by (show AV.int .i64 (IntKind.wrap .i64 ((i : Int) + 1)) = .int .i64 ((i + 1 : Nat) : Int); rw [i64_succ (by omega)]))⟩, ?_⟩)), Store.sub_refl _, by show l.length - (i + 1) < l.length - i; omega⟩
      | false =>
        have hr := hir y hy hyx
        repeat (first | with_reducible refine andThen_normal ?_ | refine CW.condT rfl ?_)
        refine CW.sub [(0, .slc 1 (strs l) ol), (3, .slc 1 (strs out) .fro), (4, .int .i64 (i : Int)), (5, .int .i64 (a : Int))] (by exact ⟨⟨_, rfl, AVle.refl _⟩, ⟨_, rfl, AVle.fro⟩, ⟨_, rfl, AVle.refl _⟩, ⟨_, rfl, AVle.refl _⟩, trivial⟩) ?_
        refine CW.drop s (rowOf_sub hok) ?_
        have h1 : (out.take a).length = a := by rw [List.length_take]; omega
        have h2 : (out.drop a).length = out.length - a := List.length_drop
        repeat (first | refine CW.drw tysOk mixed rfl (RD.run rfl ?_))
        refine RD.slice 2 0 a rfl rfl rfl rfl rfl rfl rfl rfl rfl rfl (.inr rfl) (.inl ⟨rfl, rfl⟩) (.inr ⟨_, _, rfl, rfl⟩) (.inl ⟨rfl, rfl⟩) (by omega) (by rw [strs_length]; omega) ?_
        refine RD.slice 12 a out.length rfl rfl rfl rfl rfl rfl rfl rfl rfl rfl (.inr rfl) (.inr ⟨_, _, rfl, rfl⟩) (.inl ⟨rfl, rfl, by simp⟩) (.inl ⟨rfl, rfl⟩) (by omega) (by rw [strs_length]; omega) ?_
        refine RD.idx 6 i rfl rfl rfl rfl rfl rfl rfl rfl rfl rfl rfl rfl rfl hx' rfl ?_
        refine RD.run rfl ?_
        have e1 : ((strs out).take a).drop 0 = strs (out.take a) := by simp [strs, List.map_take]
        have e2 : ((strs out).take out.length).drop a = strs (out.drop a) := by rw [List.take_of_length_le (by simp)]; simp [strs, List.map_drop]
        rw [e1, e2]
        refine RD.appendN (i := 3) tysOk rfl rfl rfl rfl rfl rfl rfl rfl rfl (by intro k h; cases h) rfl rfl rfl (.inr rfl) rfl (strs_elem _) (n := a) (by rw [strs_length, h1]) (by show a * 16 ≤ _; omega) (by omega) (fun o1 hq1 => ?_)
        refine RD.run rfl ?_
        refine RD.append1 (i := 9) tysOk rfl rfl rfl rfl rfl rfl rfl rfl rfl (by intro k h; cases h) rfl rfl rfl rfl rfl rfl rfl (n := a) (by rw [strs_length, h1]) (by show (a + 1) * 16 ≤ _; omega) (by omega) (s := s) rfl hq1 (fun b2 hb2 => ?_)
        refine RD.run rfl ?_
        refine RD.appendR (i := 13) tysOk rfl rfl rfl rfl rfl rfl rfl rfl rfl (by intro k h; cases h) rfl rfl rfl rfl (.inr rfl) rfl (strs_elem _) (n := a + 1) ?_ ?_ (by rw [List.length_append, strs_length, h1]; rfl) rfl hb2 (fun o3 hq3 => ?_)
        · simp only [List.length_append, strs_length, List.length_cons, List.length_nil, h1, h2]; show _ * 16 ≤ _; omega
        · simp only [List.length_append, strs_length, List.length_cons, List.length_nil, h1, h2]; omega
        refine RD.run rfl (RD.done rfl ?_)
        have hrl : (insSo out x).length = out.length + 1 := by rw [hr]; simp only [List.length_append, h1, h2, List.length_cons, List.length_nil]; omega
        have hil := insSo_len out x
        repeat (first | with_reducible refine andThen_normal ?_ | with_reducible refine inBlock_normal ?_ | refine CW.reg (RL.run tysOk rfl (RL.nil ?_)))
        refine ⟨(i + 1, o3, insSo out x), ⟨hlt, OwnOk.sub' hq3, by show (insSo out x).length ≤ i + 1; omega, hI⟩, (by repeat (first | exact trivial | refine ⟨⟨_, rfl, AVle.refl _⟩, ?_⟩ | refine ⟨⟨_, rfl, AVle.of_eq (by (first | (show AV.int .i64 (IntKind.wrap .i64 ((i : Int) + 1)) = .int .i64 ((i + 1 : Nat) : Int); rw [i64_succ (by omega)]) | (show AV.slc 1 _ _ = AV.slc 1 (strs (insSo out x)) o3; rw [hr]; simp [strs])))⟩, ?_⟩)), ?_, by show l.length - (i + 1) < l.length - i; omega⟩
        show Store.Sub (rowOf s _ 1 (insSo out x).length o3) _
        rw [hrl]
        simp only [List.length_append, strs_length, List.length_cons, List.length_nil, h1, h2]
        rw [show a + (0 + 1) + (out.length - a) = out.length + 1 by omega]
        exact Store.sub_refl _
    · have hae : a = out.length := by omega
      have hr : insSo out x = out.take a ++ [x] ++ out.drop a := by unfold insSo; rw [hct, if_pos (by simp [hae])]
      refine RD.knowT 33 (b := ((a : Int) == ((strs out).length : Int))) rfl (by simp; omega) ?_
      refine RD.run rfl (RD.done rfl ?_)
      repeat (first | with_reducible refine andThen_normal ?_ | refine CW.condT rfl ?_)
      refine CW.sub [(0, .slc 1 (strs l) ol), (3, .slc 1 (strs out) .fro), (4, .int .i64 (i : Int)), (5, .int .i64 (a : Int))] (by exact ⟨⟨_, rfl, AVle.refl _⟩, ⟨_, rfl, AVle.fro⟩, ⟨_, rfl, AVle.refl _⟩, ⟨_, rfl, AVle.refl _⟩, trivial⟩) ?_
      refine CW.drop s (rowOf_sub hok) ?_
      have h1 : (out.take a).length = a := by rw [List.length_take]; omega
      have h2 : (out.drop a).length = out.length - a := List.length_drop
      repeat (first | refine CW.drw tysOk mixed rfl (RD.run rfl ?_))
      refine RD.slice 2 0 a rfl rfl rfl rfl rfl rfl rfl rfl rfl rfl (.inr rfl) (.inl ⟨rfl, rfl⟩) (.inr ⟨_, _, rfl, rfl⟩) (.inl ⟨rfl, rfl⟩) (by omega) (by rw [strs_length]; omega) ?_
      refine RD.slice 12 a out.length rfl rfl rfl rfl rfl rfl rfl rfl rfl rfl (.inr rfl) (.inr ⟨_, _, rfl, rfl⟩) (.inl ⟨rfl, rfl, by simp⟩) (.inl ⟨rfl, rfl⟩) (by omega) (by rw [strs_length]; omega) ?_
      refine RD.idx 6 i rfl rfl rfl rfl rfl rfl rfl rfl rfl rfl rfl rfl rfl hx' rfl ?_
      refine RD.run rfl ?_
      have e1 : ((strs out).take a).drop 0 = strs (out.take a) := by simp [strs, List.map_take]
      have e2 : ((strs out).take out.length).drop a = strs (out.drop a) := by rw [List.take_of_length_le (by simp)]; simp [strs, List.map_drop]
      rw [e1, e2]
      refine RD.appendN (i := 3) tysOk rfl rfl rfl rfl rfl rfl rfl rfl rfl (by intro k h; cases h) rfl rfl rfl (.inr rfl) rfl (strs_elem _) (n := a) (by rw [strs_length, h1]) (by show a * 16 ≤ _; omega) (by omega) (fun o1 hq1 => ?_)
      refine RD.run rfl ?_
      refine RD.append1 (i := 9) tysOk rfl rfl rfl rfl rfl rfl rfl rfl rfl (by intro k h; cases h) rfl rfl rfl rfl rfl rfl rfl (n := a) (by rw [strs_length, h1]) (by show (a + 1) * 16 ≤ _; omega) (by omega) (s := s) rfl hq1 (fun b2 hb2 => ?_)
      refine RD.run rfl ?_
      refine RD.appendR (i := 13) tysOk rfl rfl rfl rfl rfl rfl rfl rfl rfl (by intro k h; cases h) rfl rfl rfl rfl (.inr rfl) rfl (strs_elem _) (n := a + 1) ?_ ?_ (by rw [List.length_append, strs_length, h1]; rfl) rfl hb2 (fun o3 hq3 => ?_)
      · simp only [List.length_append, strs_length, List.length_cons, List.length_nil, h1, h2]; show _ * 16 ≤ _; omega
      · simp only [List.length_append, strs_length, List.length_cons, List.length_nil, h1, h2]; omega
      refine RD.run rfl (RD.done rfl ?_)
      have hrl : (insSo out x).length = out.length + 1 := by rw [hr]; simp only [List.length_append, h1, h2, List.length_cons, List.length_nil]; omega
      have hil := insSo_len out x
      repeat (first | with_reducible refine andThen_normal ?_ | with_reducible refine inBlock_normal ?_ | refine CW.reg (RL.run tysOk rfl (RL.nil ?_)))
      refine ⟨(i + 1, o3, insSo out x), ⟨hlt, OwnOk.sub' hq3, by show (insSo out x).length ≤ i + 1; omega, hI⟩, (by repeat (first | exact trivial | refine ⟨⟨_, rfl, AVle.refl _⟩, ?_⟩ | refine ⟨⟨_, rfl, AVle.of_eq (by (first | (show AV.int .i64 (IntKind.wrap .i64 ((i : Int) + 1)) = .int .i64 ((i + 1 : Nat) : Int); rw [i64_succ (by omega)]) | (show AV.slc 1 _ _ = AV.slc 1 (strs (insSo out x)) o3; rw [hr]; simp [strs])))⟩, ?_⟩)), ?_, by show l.length - (i + 1) < l.length - i; omega⟩
      show Store.Sub (rowOf s _ 1 (insSo out x).length o3) _
      rw [hrl]
      simp only [List.length_append, strs_length, List.length_cons, List.length_nil, h1, h2]
      rw [show a + (0 + 1) + (out.length - a) = out.length + 1 by omega]
      exact Store.sub_refl _
  · have hge : l.length ≤ i := by simpa using h
    rw [List.drop_eq_nil_of_le hge, List.foldl_nil] at hI
    repeat (first | with_reducible refine CW.seq ?_ | with_reducible refine andThen_normal ?_ | with_reducible refine andThen_exit ?_ | with_reducible refine inBlock_here ?_ | with_reducible refine CW.ret ?_ | with_reducible refine CW.exit ?_ | refine CW.reg (RL.run tysOk rfl (RL.nil ?_)))
    exact ⟨_, _, s, rfl, AVle.fro, rowOf_sub hok, by rw [hI], rfl⟩

set_option maxRecDepth 10000 in
theorem refFreeOf_spec (e : FExp) (s : Store) (hbig : e.size < big) :
    ACalls Try.prog 30 [e.av] s (fun o s' => o = .ret (.slc 1 (strs (sortS (e.looseR []))) .fro) ∧ s' = s) := by
  have hb : big = 1099511627776 := rfl
  have hl := looseR_len e []
  refine ACalls.of_CW tysOk call30 Try.func30 rfl rfl ?_
  repeat (first | with_reducible refine CW.seq ?_ | with_reducible refine andThen_normal ?_ | refine CW.reg (RL.run tysOk rfl (RL.nil ?_)) | refine CW.reg ?_ | refine RL.step tysOk rfl rfl rfl rfl ?_)
  refine RL.callP rfl rfl rfl rfl rfl (ACalls.weakArgs (.cons (AVle.refl _) (.one (AVle.nil (by simp)))) (refLoose_spec _ e [] .nil s (Nat.le_refl _) (by simpa using hbig))) ?_
  skip
  refine RL.callP rfl rfl rfl rfl rfl (refSort_spec _ _ s (by omega)) ?_
  repeat (first | with_reducible refine andThen_normal ?_ | with_reducible refine CW.ret ?_ | refine RL.nil ?_ | refine RL.step tysOk rfl rfl rfl rfl ?_)
  exact ⟨_, _, s, rfl, AVle.refl _, Store.sub_refl _, rfl, rfl⟩
end Go.Proofs.Ytaafacnoddjhgaa

/- Contracts of the reference: an expression in place of a name. -/
namespace Go.Proofs.Ytaafacnoddjhgaa
open Go.AE

theorem mem_insSo {out : List Str} {x z : Str} : z ∈ insSo out x ↔ z ∈ out ∨ z = x := by
  unfold insSo
  split
  · rw [List.mem_append, List.mem_append, List.mem_singleton]
    constructor
    · rintro ((h | h) | h)
      · exact .inl (List.mem_of_mem_take h)
      · exact .inr h
      · exact .inl (List.mem_of_mem_drop h)
    · rintro (h | h)
      · rw [← List.take_append_drop (cutS out x) out, List.mem_append] at h
        rcases h with h | h
        · exact .inl (.inl h)
        · exact .inr h
      · exact .inl (.inr h)
  · rename_i hc
    simp only [Bool.or_eq_true, Bool.not_eq_true', not_or, Bool.not_eq_false, beq_iff_eq] at hc
    exact ⟨.inl, fun h => by
      rcases h with h | h
      · exact h
      · rw [h]; exact List.mem_of_getElem? hc.2⟩
theorem mem_foldSo {z : Str} : ∀ {l out : List Str}, z ∈ l.foldl insSo out ↔ z ∈ out ∨ z ∈ l
  | [], out => by simp
  | x :: l, out => by rw [List.foldl_cons, mem_foldSo, mem_insSo, List.mem_cons, or_assoc]
theorem mem_sortS {l : List Str} {z : Str} : z ∈ sortS l ↔ z ∈ l := by unfold sortS; rw [mem_foldSo]; simp

theorem free_contains {e : FExp} (h : e.neat = true) (z : Str) : (sortS (e.looseR [])).contains z = e.frees.contains z := by
  rw [Bool.eq_iff_iff, List.contains_iff_mem, List.contains_iff_mem, mem_sortS, mem_frees, looseR_eq e [] [] h (fun _ => Iff.rfl)]

/-! ### The state of it -/
def rpCells (x : Str) (y : FExp) (fr : List Str) (of : Own) (tk : List Str) (own : Own) : List AV := .str x :: (y.cells ++ [.slc 1 (strs fr) of, .slc 1 (strs tk) own])

structure PtI (x : Str) (y : FExp) (fr : List Str) (of : Own) (wb : Nat) (s t : Store) (tk : List Str) (own : Own) : Prop where
  hw : t wb = some (.box 155 (rpCells x y fr of tk own))
  r : RowIs t 9 1 tk.length own
  sub : Store.Sub s t
  sn : s wb = none
  srow : ∀ b, own = .own b → s b = none

section
variable {x : Str} {y : FExp} {fr : List Str} {of : Own} {wb b : Nat} {s s2 t : Store} {tk : List Str} {own : Own} {o o' : AObj}
theorem PtI.get (h : PtI x y fr of wb s t tk own) (hb : s b = some o) : t b = some o := by
  rcases h.sub b with q | q
  · rw [← q]; exact hb
  · rw [hb] at q; cases q
theorem PtI.weak (h : PtI x y fr of wb s2 t tk own) (hs : Store.Sub s s2) : PtI x y fr of wb s t tk own := by
  have hn : ∀ b, s2 b = none → s b = none := fun b hb => by
    rcases hs b with q | q
    · rw [q]; exact hb
    · exact q
  refine ⟨h.hw, h.r, fun b => ?_, hn _ h.sn, fun b hb => hn _ (h.srow b hb)⟩
  rcases hs b with q | q
  · rw [q]; exact h.sub b
  · exact .inr q
theorem PtI.snone (h : PtI x y fr of wb s t tk own) (hb : t b = none) : s b = none := by
  rcases h.sub b with q | q
  · rw [q]; exact hb
  · exact q
theorem PtI.rowne (h : PtI x y fr of wb s t tk own) (hb : t b = none) : ∀ c, own = .own c → c ≠ b := fun c hc e => by
  have := h.r; subst hc; subst e; simp only [RowIs] at this; rw [hb] at this; cases this
theorem PtI.add (h : PtI x y fr of wb s t tk own) (o : AObj) (hb : t b = none) : PtI x y fr of wb (s.set b o) (t.set b o) tk own := by
  have hwb : wb ≠ b := fun e => by subst e; rw [h.hw] at hb; cases hb
  refine ⟨(Store.set_ne _ _ hwb).trans h.hw, ?_, fun z => ?_, (Store.set_ne _ _ hwb).trans h.sn, fun c hc => (Store.set_ne _ _ (h.rowne hb c hc)).trans (h.srow c hc)⟩
  · have h1 := h.r
    cases own with
    | own c => exact (Store.set_ne _ _ (h.rowne hb c rfl)).trans h1
    | nil => trivial
    | clip => trivial
    | fro => exact h1
  · by_cases e : z = b
    · subst e; rw [Store.set_same, Store.set_same]; exact .inl rfl
    · rw [Store.set_ne _ _ e, Store.set_ne _ _ e]; exact h.sub z
theorem PtI.upd (h : PtI x y fr of wb s t tk own) (o' : AObj) (hb : s b = some o) : PtI x y fr of wb (s.set b o') (t.set b o') tk own := by
  have hwb : wb ≠ b := fun e => by subst e; rw [h.sn] at hb; cases hb
  have hrb : ∀ c, own = .own c → c ≠ b := fun c hc e => by subst e; rw [h.srow _ hc] at hb; cases hb
  refine ⟨(Store.set_ne _ _ hwb).trans h.hw, ?_, fun z => ?_, (Store.set_ne _ _ hwb).trans h.sn, fun c hc => (Store.set_ne _ _ (hrb c hc)).trans (h.srow c hc)⟩
  · have h1 := h.r
    cases own with
    | own c => exact (Store.set_ne _ _ (hrb c rfl)).trans h1
    | nil => trivial
    | clip => trivial
    | fro => exact h1
  · by_cases e : z = b
    · subst e; rw [Store.set_same, Store.set_same]; exact .inl rfl
    · rw [Store.set_ne _ _ e, Store.set_ne _ _ e]; exact h.sub z
/-- Something more in the store, of which nothing is known. -/
theorem PtI.extra (h : PtI x y fr of wb s t tk own) {e : TypeId} {sz n m : Nat} {o1 : Own} (hok : OwnOk t n o1) : PtI x y fr of wb s (rowOf t e sz m o1) tk own := by
  cases o1 with
  | own b =>
    have hb : t b = none := hok
    have hwb : wb ≠ b := fun e => by subst e; rw [h.hw] at hb; cases hb
    refine ⟨(Store.set_ne _ _ hwb).trans h.hw, ?_, fun z => ?_, h.sn, h.srow⟩
    · have h1 := h.r
      cases own with
      | own c => exact (Store.set_ne _ _ (h.rowne hb c rfl)).trans h1
      | nil => trivial
      | clip => trivial
      | fro => exact h1
    · show _ = (t.set b _) z ∨ _
      by_cases e : z = b
      · subst e; exact .inr (h.snone hb)
      · rw [Store.set_ne _ _ e]; exact h.sub z
  | nil => exact h
  | clip => exact h
  | fro => exact h
/-- A name more is taken. -/
theorem PtI.take (h : PtI x y fr of wb s t tk own) {n : Nat} {own' : Own} (z : List Str) (hok : OwnOk (rowBase t own) n own') :
    PtI x y fr of wb s ((rowOf (rowBase t own) 9 1 (tk ++ z).length own').set wb (.box 155 (rpCells x y fr of (tk ++ z) own'))) (tk ++ z) own' := by
  have hw := grow_keep (e := 9) (sz := 1) (m := (tk ++ z).length) h.r hok h.hw rfl
  have hs := grow_sub (e := 9) (sz := 1) (m := (tk ++ z).length) h.sub h.srow hok
  exact ⟨Store.set_same _ _ _, set_row (grow_own hok) hw rfl, Store.subSet hs.1 h.sn, h.sn, hs.2⟩
/-- A row of one's own grows. -/
theorem PtI.grow {B : Store} {e : TypeId} {sz n m k : Nat} {ow ow' : Own} (h : PtI x y fr of wb (rowOf B e sz n ow) t tk own) (hB : OwnOk B n ow) (hok : OwnOk (rowBase t ow) k ow') :
    RowIs t e sz n ow → PtI x y fr of wb (rowOf B e sz m ow') (rowOf (rowBase t ow) e sz m ow') tk own ∧ OwnOk B k ow' := by
  intro hrow
  have hdis : ∀ b, ow = .own b → own ≠ .own b := fun b hb hc => by
    have := h.srow b hc
    subst hb
    rw [show rowOf B e sz n (.own b) b = some (.row e sz n) from Store.set_same _ _ _] at this
    cases this
  have hBt : ∀ z o, B z = some o → rowBase t ow z = some o := fun z o hz => by
    refine base_keep ?_ ?_
    · cases ow with
      | own b =>
        have hne : z ≠ b := fun e => by subst e; have : B z = none := hB; rw [hz] at this; cases this
        exact h.get ((Store.set_ne _ _ hne).trans hz)
      | nil => exact h.get hz
      | clip => exact h.get hz
      | fro => exact hB.elim
    · intro b hb e
      subst hb; subst e
      have : B z = none := hB
      rw [hz] at this; cases this
  have hB' : OwnOk B k ow' := by
    cases ow' with
    | own b =>
      show B b = none
      cases hz : B b with
      | none => rfl
      | some o =>
        have h1 := hBt b o hz
        have h2 : rowBase t ow b = none := hok
        rw [h1] at h2; cases h2
    | nil => trivial
    | clip => trivial
    | fro => exact hok.elim
  have hBn : ∀ z, rowOf B e sz n ow z = none → B z = none := fun z hz => by
    cases ow with
    | own b =>
      by_cases e1 : z = b
      · subst e1; rw [show rowOf B e sz n (.own z) z = some (.row e sz n) from Store.set_same _ _ _] at hz; cases hz
      · exact (Store.set_ne _ _ e1).symm.trans hz
    | nil => exact hz
    | clip => exact hz
    | fro => exact hz
  have hrow' : RowIs (rowOf (rowBase t ow) e sz m ow') 9 1 tk.length own := grow_row h.r hdis hok
  have hdis' := grow_dis h.r hdis hok
  have hw' := grow_keep (e := e) (sz := sz) (m := m) hrow hok h.hw rfl
  refine ⟨⟨hw', hrow', fun z => ?_, ?_, fun b hb => ?_⟩, hB'⟩
  · cases hz : rowOf B e sz m ow' z with
    | none => exact .inr rfl
    | some o =>
      left
      cases ow' with
      | own b =>
        by_cases e1 : z = b
        · subst e1
          rw [← hz]
          exact (Store.set_same _ _ _).trans (Store.set_same _ _ _).symm
        · have h1 : B z = some o := (Store.set_ne _ _ e1).symm.trans hz
          exact ((Store.set_ne _ _ e1).trans (hBt z o h1)).symm
      | nil => exact (hBt z o hz).symm
      | clip => exact (hBt z o hz).symm
      | fro => exact hok.elim
  · have h1 := hBn _ h.sn
    cases ow' with
    | own b =>
      have hne : wb ≠ b := fun e => by
        subst e
        have h2 : rowBase t ow wb = none := hok
        rw [base_keep h.hw (row_ne hrow h.hw rfl)] at h2; cases h2
      exact (Store.set_ne _ _ hne).trans h1
    | nil => exact h1
    | clip => exact h1
    | fro => exact h1
  · have h1 := hBn _ (h.srow b hb)
    cases ow' with
    | own c =>
      have hne : b ≠ c := fun e => by subst e; exact hdis' b rfl hb
      exact (Store.set_ne _ _ hne).trans h1
    | nil => exact h1
    | clip => exact h1
    | fro => exact h1
end

theorem neat_name {e : FExp} (h : e.neat = true) (h3 : (e.op == 3) = true) : e = nameE e.text := by
  obtain ⟨o, n, t, ks⟩ := e
  rw [FExp.neat, Bool.and_eq_true] at h
  have h3' : o = 3 := by simpa [FExp.op] using h3
  subst h3'
  have := h.1
  simp [neat1, FExp.op, FExp.n, FExp.kids] at this
  rw [this.1, this.2]; rfl
theorem neat_kid {e k : FExp} (h : e.neat = true) (hk : k ∈ e.kids) : k.neat = true := by
  obtain ⟨o, n, t, ks⟩ := e
  rw [FExp.neat, Bool.and_eq_true] at h
  exact neats_mem h.2 hk
theorem neat_let {e : FExp} (h : e.neat = true) (h9 : (e.op == 9) = true) : e.kids.length = 2 := by
  obtain ⟨o, n, t, ks⟩ := e
  rw [FExp.neat, Bool.and_eq_true] at h
  have h9' : o = 9 := by simpa [FExp.op] using h9
  subst h9'
  have := h.1
  simpa [neat1, FExp.op, FExp.n, FExp.kids] using this

theorem stands_drop {sc : List (Str × Str)} {k : Nat} {q : Str × Str} {v : Str} (h : sc[k]? = some q) : stands (sc.drop k) v = if q.1 == v then some q.2 else stands (sc.drop (k + 1)) v := by rw [drop_cons h, stands]
end Go.Proofs.Ytaafacnoddjhgaa

