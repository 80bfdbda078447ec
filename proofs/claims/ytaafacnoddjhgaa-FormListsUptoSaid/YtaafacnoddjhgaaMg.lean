import Derived.Test.YtaafacnoddjhgaaMf
/- Contracts of the layer 'shape': an expression in place of a name. -/
namespace Go.Proofs.Ytaafacnoddjhgaa
open Go.AE

/-- The name that a FormLet has when something is put in, and what names are taken then. -/
def letS (x : Str) (fr tk : List Str) (on : Bool) (t : Str) (ks : List FExp) : Str × List Str :=
  if !on || t == x || !fr.contains t || !(match ks[1]? with | some k => k.frees.contains x | none => false) then (t, tk) else (freshS tk, insS tk (freshS tk))

def nameE (s : Str) : FExp := .mk 3 0 s []

mutual
/-- An expression in which y is put in place of x: the expression and the names that are taken then. -/
def FExp.put (x : Str) (y : FExp) (fr : List Str) : List (Str × Str) → Bool → List Str → FExp → FExp × List Str
  | sc, on, tk, .mk o n t ks =>
    if o == 3 then ((match stands sc t with | some to => nameE to | none => if on && t == x then y else nameE t), tk)
    else
      let r := if o == 9 then letS x fr tk on t ks else (t, tk)
      let q := FExp.puts x y fr (o == 9) t r.1 sc on 0 r.2 ks
      (.mk o n r.1 q.1, q.2)
def FExp.puts (x : Str) (y : FExp) (fr : List Str) (isLet : Bool) (t t' : Str) (sc : List (Str × Str)) (on : Bool) : Nat → List Str → List FExp → List FExp × List Str
  | _, tk, [] => ([], tk)
  | i, tk, k :: r =>
    let a := FExp.put x y fr (if isLet && i == 1 then (t, t') :: sc else sc) (if isLet && i == 1 then on && !(t == x) else on) tk k
    let b := FExp.puts x y fr isLet t t' sc on (i + 1) a.2 r
    (a.1 :: b.1, b.2)
end

def putterCells (x : Str) (y : FExp) (fb tb : Nat) : List AV := .str x :: (y.cells ++ [.map fb, .map tb])

theorem RD_step {P : Program} {Γ : Tys} {N : Nat} {l : List Oper} {Q : AEx → Env → Store → Prop} {env : Env} {s : Store} {m : Nat} (x x' : AV) {d : Nat} (h : x = x') (k : RD P Γ N l.toArray Q (dn m) ((d, x') :: env) s) :
    RD P Γ N l.toArray Q (dn m) ((d, x) :: env) s := h ▸ k

set_option maxRecDepth 10000 in
theorem let_spec (x : Str) (y : FExp) (fb tb : Nat) (fr tk : List Str) (e : FExp) (on : Bool) (s : Store) (hfb : s fb = some (.map (setA fr))) (htb : s tb = some (.map (setA tk))) (he : e.size ≤ big) (hk : e.kids.length = 2) (hf : HasFree tk) :
    ACalls Try.prog 97 [.fptr (putterCells x y fb tb) 0, e.av, .bool on] s (fun o s' => o = .ret (.str (letS x fr tk on e.text e.kids).1) ∧ s' = s.set tb (.map (setA (letS x fr tk on e.text e.kids).2))) := by
  refine ACalls.of_CW tysOk call97 Try.func97 rfl rfl ?_
  have hst : s.set tb (.map (setA tk)) = s := Store.set_eq _ _ _ htb
  obtain ⟨k, hk1, hk1', hks⟩ := FExp.kid_at (e := e) (by omega : 1 < e.kids.length)
  cases on with
  | false =>
    repeat (first | with_reducible refine CW.seq ?_ | with_reducible refine andThen_normal ?_ | with_reducible refine andThen_ret ?_ | with_reducible refine CW.ret ?_ | refine CW.reg (RL.run tysOk rfl (RL.nil ?_)) | refine CW.condT rfl ?_ | refine CW.drw tysOk mixed rfl (RD.run rfl (RD.done rfl ?_)))
    exact ⟨_, _, _, rfl, AVle.refl _, Store.sub_refl _, by simp [letS], by simp [letS, hst]⟩
  | true =>
    repeat (first | with_reducible refine CW.seq ?_ | with_reducible refine andThen_normal ?_ | refine CW.reg (RL.run tysOk rfl (RL.nil ?_)))
    refine CW.drw tysOk mixed rfl (RD.runs (is := List.range 12) rfl ?_)
    cases h2 : e.text == x with
    | true =>
      refine RD.run rfl (RD.done rfl ?_)
      repeat (first | with_reducible refine CW.seq ?_ | with_reducible refine andThen_normal ?_ | with_reducible refine andThen_ret ?_ | with_reducible refine CW.ret ?_ | refine CW.reg (RL.run tysOk rfl (RL.nil ?_)) | refine CW.condT rfl ?_)
      exact ⟨_, _, _, rfl, AVle.refl _, Store.sub_refl _, by simp [letS, h2], by simp [letS, h2, hst]⟩
    | false =>
      refine RD.runs (is := [12, 13, 14, 15, 16, 17]) rfl ?_
      refine RD.one (i := 18) rfl rfl rfl rfl rfl (OW.lookup tysOk rfl rfl rfl rfl rfl rfl rfl (.inl ⟨fb, rfl, hfb⟩) rfl (getA_set _ _) rfl (X := fun _ _ => False)) ?_ (fun _ _ h => False.elim h)
      rintro z s' ⟨hz, rfl⟩
      refine RD_step _ _ (hz.trans (gotA_set _ _)) ?_
      refine RD.runs (is := [19, 20, 21]) rfl ?_
      cases h3 : fr.contains e.text with
      | false =>
        refine RD.run rfl (RD.done rfl ?_)
        repeat (first | with_reducible refine CW.seq ?_ | with_reducible refine andThen_normal ?_ | with_reducible refine andThen_ret ?_ | with_reducible refine CW.ret ?_ | refine CW.reg (RL.run tysOk rfl (RL.nil ?_)) | refine CW.condT rfl ?_)
        exact ⟨_, _, _, rfl, AVle.refl _, Store.sub_refl _, by simp only [letS, h3]; simp, by simp only [letS, h3]; simp [hst]⟩
      | true =>
        refine RD.run rfl ?_
        refine RD.idx 24 1 rfl rfl rfl rfl rfl rfl rfl rfl rfl rfl rfl rfl rfl hk1' rfl ?_
        refine RD.run rfl ?_
        refine RD.call (i := 26) rfl rfl rfl rfl rfl rfl rfl (freeOf_spec k _ (by omega)) ?_ (fun _ _ ⟨_, _, h, _⟩ => by cases h)
        rintro _ _ ⟨b, hb, ⟨⟩, rfl⟩
        refine RD.run rfl ?_
        refine RD.one (i := 31) rfl rfl rfl rfl rfl (OW.lookup tysOk rfl rfl rfl rfl rfl rfl rfl (.inl ⟨b, rfl, Store.set_same _ _ _⟩) rfl (getA_set _ _) rfl (X := fun _ _ => False)) ?_ (fun _ _ h => False.elim h)
        rintro z s' ⟨hz, rfl⟩
        refine RD_step _ _ (hz.trans (gotA_set _ _)) ?_
        refine RD.run rfl (RD.done rfl ?_)
        have hne : tb ≠ b := fun e => by subst e; rw [hb] at htb; cases htb
        have hS : (letS x fr tk true e.text e.kids) = if k.frees.contains x then (freshS tk, insS tk (freshS tk)) else (e.text, tk) := by
          simp only [letS, h2, h3, hk1]
          cases k.frees.contains x <;> rfl
        rw [hS]
        cases h4 : k.frees.contains x with
        | false =>
          repeat (first | with_reducible refine CW.seq ?_ | with_reducible refine andThen_normal ?_ | with_reducible refine andThen_ret ?_ | with_reducible refine CW.ret ?_ | refine CW.reg (RL.run tysOk rfl (RL.nil ?_)) | refine CW.condT rfl ?_)
          exact ⟨_, _, _, rfl, AVle.refl _, Store.sub_set _ _ _ hb, rfl, hst.symm⟩
        | true =>
          repeat (first | with_reducible refine CW.seq ?_ | with_reducible refine andThen_normal ?_ | with_reducible refine CW.skip ?_ | refine CW.reg ?_ | refine CW.condF rfl ?_ | refine RL.step tysOk rfl rfl rfl rfl ?_)
          refine RL.callP rfl rfl rfl rfl rfl (fresh_spec tk tb _ (by rw [Store.set_ne _ _ hne]; exact htb) hf) ?_
          repeat (first | with_reducible refine CW.seq ?_ | with_reducible refine andThen_normal ?_ | refine CW.reg ?_ | refine RL.nil ?_ | refine RL.step tysOk rfl rfl rfl rfl ?_)
          refine RL.mapUpdate tysOk rfl rfl (.inl rfl) rfl rfl rfl rfl rfl rfl (by rw [Store.set_ne _ _ hne]; exact htb) rfl (putA_set _ _) ?_
          repeat (first | with_reducible refine CW.seq ?_ | with_reducible refine andThen_normal ?_ | with_reducible refine CW.ret ?_ | refine CW.reg (RL.run tysOk rfl (RL.nil ?_)) | refine RL.nil ?_)
          refine ⟨_, _, _, rfl, AVle.refl _, ?_, rfl, rfl⟩
          rw [Store.set_comm _ _ _ (Ne.symm hne)]
          exact Store.sub_set _ _ _ (by rw [Store.set_ne _ _ (Ne.symm hne)]; exact hb)

theorem rowOf_upd1 {B : Store} {c m : Nat} {o o' o'' : AObj} {e : TypeId} {sz n : Nat} {own : Own} (h : ∀ b', own = .own b' → b' ≠ m) :
    (rowOf ((B.set c o).set m o') e sz n own).set m o'' = rowOf ((B.set c o).set m o'') e sz n own := by
  rw [rowOf_set h, Store.set_set]
theorem rowOf_upd2 {B : Store} {c m : Nat} {o o' o'' : AObj} {e : TypeId} {sz n : Nat} {own : Own} (h : ∀ b', own = .own b' → b' ≠ c) (hcm : c ≠ m) :
    (rowOf ((B.set c o).set m o') e sz n own).set c o'' = rowOf ((B.set c o'').set m o') e sz n own := by
  rw [rowOf_set h, ← Store.set_comm _ _ _ hcm, Store.set_set]

theorem OwnOk.congr {s t : Store} {n m : Nat} {own : Own} (h : ∀ x, s x = none → t x = none) (hok : OwnOk s n own) : OwnOk t m own := by
  cases own with
  | own b => exact h b hok
  | nil => trivial
  | clip => trivial
  | fro => exact hok

mutual
/-- Every FormLet has two Kids. -/
def FExp.lets2 : FExp → Bool
  | .mk o _ _ ks => (!(o == 9) || ks.length == 2) && FExp.letss2 ks
def FExp.letss2 : List FExp → Bool
  | [] => true
  | k :: r => FExp.lets2 k && FExp.letss2 r
end

theorem letS_taken (x : Str) (fr tk : List Str) (on : Bool) (t : Str) (ks : List FExp) : (letS x fr tk on t ks).2.length ≤ tk.length + 1 := by
  unfold letS insS
  split
  · split
    · simp
    · split <;> simp
  · split
    · simp
    · split <;> simp

mutual
theorem put_taken (x : Str) (y : FExp) (fr : List Str) : ∀ (e : FExp) (sc : List (Str × Str)) (on : Bool) (tk : List Str), (FExp.put x y fr sc on tk e).2.length ≤ tk.length + e.size
  | .mk o n t ks, sc, on, tk => by
    rw [FExp.put]
    split
    · simp
    · simp only [FExp.size]
      have h1 := puts_taken x y fr ks (o == 9) t (if o == 9 then letS x fr tk on t ks else (t, tk)).1 sc on 0 (if o == 9 then letS x fr tk on t ks else (t, tk)).2
      have h2 : (if o == 9 then letS x fr tk on t ks else (t, tk)).2.length ≤ tk.length + 1 := by
        cases o == 9
        · simp
        · exact letS_taken _ _ _ _ _ _
      omega
theorem puts_taken (x : Str) (y : FExp) (fr : List Str) : ∀ (ks : List FExp) (isLet : Bool) (t t' : Str) (sc : List (Str × Str)) (on : Bool) (i : Nat) (tk : List Str), (FExp.puts x y fr isLet t t' sc on i tk ks).2.length ≤ tk.length + FExp.sizes ks
  | [], _, _, _, _, _, _, _ => by simp [FExp.puts]
  | k :: r, isLet, t, t', sc, on, i, tk => by
    simp only [FExp.puts, FExp.sizes]
    have h1 := put_taken x y fr k (if isLet && i == 1 then (t, t') :: sc else sc) (if isLet && i == 1 then on && !(t == x) else on) tk
    have h2 := puts_taken x y fr r isLet t t' sc on (i + 1) (FExp.put x y fr (if isLet && i == 1 then (t, t') :: sc else sc) (if isLet && i == 1 then on && !(t == x) else on) tk k).2
    omega
end

theorem resA_cell {Γ : Tys} {env : Env} {s : Store} {a b : Nat} {t T : TypeId} {i : TI} {cs : List AV} {v : AV} (he : env.get? a = some (.ptr b 0)) (hi : Γ.get? t = some i) (hs : s b = some (.box T cs)) (hl : loadC i cs 0 = some v) :
    resA Γ env s [.cell a t] = some v := by simp [resA, resAll, resOne, he, hi, hs, hl]
theorem resA_cellT {Γ : Tys} {env : Env} {s : Store} {a b c : Nat} {t T : TypeId} {i : TI} {cs : List AV} {v u : AV} (he : env.get? a = some (.ptr b 0)) (hi : Γ.get? t = some i) (hs : s b = some (.box T cs)) (hl : loadC i cs 0 = some v) (hc : env.get? c = some u) :
    resA Γ env s [.cell a t, .tmp c] = some (.tup [v, u]) := by simp [resA, resAll, resOne, he, hi, hs, hl, hc]

/-- A new expression's variable. -/
def box0 : AObj := .box 32 [.int .i64 0, .int .i64 0, .str [], .slc 0 [] .nil]

theorem name_le (s : Str) : AVle (.agg [.int .i64 3, .int .i64 0, .str s, .slc 0 [] .nil]) (nameE s).av :=
  AVle.agg (.cons (AVle.refl _) (.cons (AVle.refl _) (.cons (AVle.refl _) (.one AVle.empty))))

theorem put_name {x : Str} {y : FExp} {fr : List Str} {sc : List (Str × Str)} {on : Bool} {tk : List Str} {e : FExp} (h : (e.op == 3) = true) :
    FExp.put x y fr sc on tk e = ((match stands sc e.text with | some to => nameE to | none => if on && e.text == x then y else nameE e.text), tk) := by
  cases e with | mk o n t ks => have h' : (o == 3) = true := h; rw [FExp.put, if_pos h']; rfl

/-- A FormLet's name then; any other's text. -/
def textS (x : Str) (fr tk : List Str) (on : Bool) (e : FExp) : Str × List Str := if e.op == 9 then letS x fr tk on e.text e.kids else (e.text, tk)

theorem put_other {x : Str} {y : FExp} {fr : List Str} {sc : List (Str × Str)} {on : Bool} {tk : List Str} {e : FExp} (h : (e.op == 3) = false) :
    FExp.put x y fr sc on tk e = (.mk e.op e.n (textS x fr tk on e).1 (FExp.puts x y fr (e.op == 9) e.text (textS x fr tk on e).1 sc on 0 (textS x fr tk on e).2 e.kids).1, (FExp.puts x y fr (e.op == 9) e.text (textS x fr tk on e).1 sc on 0 (textS x fr tk on e).2 e.kids).2) := by
  cases e with | mk o n t ks => rw [FExp.put, if_neg (by rw [show (o == 3) = false from h]; simp)]; rfl

theorem letss2_mem : ∀ {l : List FExp} {k : FExp}, FExp.letss2 l = true → k ∈ l → k.lets2 = true
  | [], _, _, h => by cases h
  | c :: l, k, h, hk => by
    simp only [FExp.letss2, Bool.and_eq_true] at h
    rcases List.mem_cons.1 hk with rfl | hk
    · exact h.1
    · exact letss2_mem h.2 hk

theorem lets2_def (e : FExp) : e.lets2 = ((!(e.op == 9) || e.kids.length == 2) && FExp.letss2 e.kids) := by cases e; rw [FExp.lets2]; rfl

theorem FExp.sizes_drop {l : List FExp} {j : Nat} {k : FExp} (h : l[j]? = some k) : FExp.sizes (l.drop j) = k.size + FExp.sizes (l.drop (j + 1)) := by rw [drop_cons h, FExp.sizes]
theorem FExp.size_def (e : FExp) : e.size = 1 + FExp.sizes e.kids := by cases e; rw [FExp.size]; rfl

theorem textS_taken (x : Str) (fr tk : List Str) (on : Bool) (e : FExp) : (textS x fr tk on e).2.length ≤ tk.length + 1 := by
  unfold textS
  cases e.op == 9
  · simp
  · exact letS_taken _ _ _ _ _ _

set_option maxRecDepth 10000 in
set_option maxHeartbeats 1000000 in
theorem put_spec (x : Str) (y : FExp) (fb tb : Nat) (fr : List Str) (hy : y.size ≤ big) (hft : fb ≠ tb) : ∀ (n : Nat) (e : FExp) (sc : List (Str × Str)) (on : Bool) (tk : List Str) (s : Store), e.size ≤ n → e.size ≤ big → e.lets2 = true → tk.length + e.size < 698 →
    s fb = some (.map (setA fr)) → s tb = some (.map (setA tk)) →
    ACalls Try.prog 57 [.fptr (putterCells x y fb tb) 0, e.av, scopeAV sc, .bool on] s (fun o s' => o = .ret (FExp.put x y fr sc on tk e).1.av ∧ s' = s.set tb (.map (setA (FExp.put x y fr sc on tk e).2))) := by
  intro n
  induction n with
  | zero => intro e sc on tk s h; have := e.size_pos; omega
  | succ n ih =>
    intro e sc on tk s hn hbig hl2 htk hfb htb
    have hlen := e.kids_length
    have hkl := e.kav_length
    have hb : big = 1099511627776 := rfl
    have hst : s.set tb (.map (setA tk)) = s := Store.set_eq _ _ _ htb
    refine ACalls.of_CW tysOk call57 Try.func57 rfl rfl ?_
    refine CW.seqCutX (σ := Nat) (fun b8 => [(0, .fptr (putterCells x y fb tb) 0), (2, scopeAV sc), (3, .bool on), (5, .fptr e.cells 0), (8, .ptr b8 0)]) (fun b8 => s.set b8 box0) (fun b8 => s b8 = none) ?_ ?_
    · repeat (first | refine CW.reg ?_ | refine RL.step tysOk rfl rfl rfl rfl ?_)
      refine RL.alloc tysOk rfl rfl rfl rfl rfl rfl rfl (fun b8 hb8 => ?_)
      repeat (first | refine RL.nil ?_)
      exact ⟨rfl, b8, hb8, ⟨⟨_, rfl, AVle.refl _⟩, ⟨_, rfl, AVle.refl _⟩, ⟨_, rfl, AVle.refl _⟩, ⟨_, rfl, AVle.refl _⟩, ⟨_, rfl, AVle.refl _⟩, trivial⟩, Store.sub_refl _⟩
    intro b8 hb8
    have h8f : fb ≠ b8 := fun e => by subst e; rw [hb8] at hfb; cases hfb
    have h8t : tb ≠ b8 := fun e => by subst e; rw [hb8] at htb; cases htb
    repeat (first | with_reducible refine CW.seq ?_ | with_reducible refine andThen_normal ?_ | refine CW.reg (RL.run tysOk rfl (RL.nil ?_)))
    refine CW.cond rfl (fun h3 => ?_) (fun h3 => ?_)
    · have hl := scopeLook_spec e.text (s.set b8 box0) sc
      cases h1 : stands sc e.text with
      | some to =>
        rw [h1] at hl
        repeat (first | with_reducible refine CW.seq ?_ | refine CW.reg ?_ | refine RL.step tysOk rfl rfl rfl rfl ?_)
        refine RL.callP rfl rfl rfl rfl rfl hl ?_
        repeat (first | with_reducible refine CW.seq ?_ | with_reducible refine andThen_normal ?_ | with_reducible refine andThen_ret ?_ | with_reducible refine CW.ret ?_ | with_reducible refine CW.skip ?_ | refine CW.reg ?_ | refine RL.nil ?_ | refine CW.condF rfl ?_ | refine RL.step tysOk rfl rfl rfl rfl ?_ | refine CW.drw tysOk mixed rfl (RD.run rfl (RD.done rfl ?_)) | (refine RL.storeP tysOk rfl rfl rfl rfl rfl rfl rfl rfl rfl (Store.set_same _ _ _) rfl ?_; try with_reducible rw [Store.set_set]))
        refine ⟨_, _, s, resA_cell rfl rfl (Store.set_same _ _ _) rfl, name_le _, Store.sub_set _ _ _ hb8, ?_, ?_⟩
        · rw [put_name h3, h1]; rfl
        · rw [put_name h3]; exact hst.symm
      | none =>
        rw [h1] at hl
        cases on with
        | false =>
          repeat (first | with_reducible refine CW.seq ?_ | refine CW.reg ?_ | refine RL.step tysOk rfl rfl rfl rfl ?_)
          refine RL.callP rfl rfl rfl rfl rfl hl ?_
          repeat (first | with_reducible refine CW.seq ?_ | with_reducible refine andThen_normal ?_ | with_reducible refine andThen_ret ?_ | with_reducible refine CW.ret ?_ | with_reducible refine CW.skip ?_ | refine CW.reg ?_ | refine RL.nil ?_ | refine CW.condF rfl ?_ | refine RL.step tysOk rfl rfl rfl rfl ?_ | refine CW.drw tysOk mixed rfl (RD.run rfl (RD.done rfl ?_)) | (refine RL.storeP tysOk rfl rfl rfl rfl rfl rfl rfl rfl rfl (Store.set_same _ _ _) rfl ?_; try with_reducible rw [Store.set_set]))
          refine ⟨_, _, s, resA_cell rfl rfl (Store.set_same _ _ _) rfl, name_le _, Store.sub_set _ _ _ hb8, ?_, ?_⟩
          · rw [put_name h3, h1]; rfl
          · rw [put_name h3]; exact hst.symm
        | true =>
          repeat (first | with_reducible refine CW.seq ?_ | refine CW.reg ?_ | refine RL.step tysOk rfl rfl rfl rfl ?_)
          refine RL.callP rfl rfl rfl rfl rfl hl ?_
          repeat (first | with_reducible refine CW.seq ?_ | with_reducible refine andThen_normal ?_ | refine RL.nil ?_ | refine RL.step tysOk rfl rfl rfl rfl ?_)
          refine CW.drw tysOk mixed rfl (RD.runs (is := List.range 14) rfl (RD.done rfl ?_))
          refine CW.cond rfl (fun h2 => ?_) (fun h2 => ?_)
          · repeat (first | with_reducible refine CW.seq ?_ | refine CW.reg ?_ | refine RL.step tysOk rfl rfl rfl rfl ?_)
            refine RL.callP rfl rfl rfl rfl rfl (copied_spec _ y _ (Nat.le_refl _) hy) ?_
            repeat (first | with_reducible refine andThen_normal ?_ | with_reducible refine andThen_ret ?_ | with_reducible refine CW.ret ?_ | refine RL.nil ?_ | (refine RL.storeP tysOk rfl rfl rfl rfl rfl rfl rfl rfl rfl (Store.set_same _ _ _) rfl ?_; try with_reducible rw [Store.set_set]))
            refine ⟨_, _, s, resA_cell rfl rfl (Store.set_same _ _ _) rfl, AVle.refl _, Store.sub_set _ _ _ hb8, ?_, ?_⟩
            · rw [put_name h3, h1]; simp only [h2, Bool.true_and, if_true]; rfl
            · rw [put_name h3]; exact hst.symm
          · repeat (first | with_reducible refine CW.seq ?_ | with_reducible refine andThen_normal ?_ | with_reducible refine andThen_ret ?_ | with_reducible refine CW.ret ?_ | with_reducible refine CW.skip ?_ | refine CW.reg ?_ | refine RL.nil ?_ | refine RL.step tysOk rfl rfl rfl rfl ?_ | (refine RL.storeP tysOk rfl rfl rfl rfl rfl rfl rfl rfl rfl (Store.set_same _ _ _) rfl ?_; try with_reducible rw [Store.set_set]))
            refine ⟨_, _, s, resA_cell rfl rfl (Store.set_same _ _ _) rfl, name_le _, Store.sub_set _ _ _ hb8, ?_, ?_⟩
            · rw [put_name h3, h1]; simp only [h2]; rfl
            · rw [put_name h3]; exact hst.symm
    · repeat (first | with_reducible refine CW.seq ?_ | with_reducible refine andThen_normal ?_ | with_reducible refine CW.skip ?_ | refine CW.reg ?_ | refine RL.step tysOk rfl rfl rfl rfl ?_)
      refine RL.alloc tysOk rfl rfl rfl rfl rfl rfl rfl (fun b11 hb11 => ?_)
      refine RL.storeP tysOk rfl rfl rfl rfl rfl rfl rfl rfl rfl (Store.set_same _ _ _) rfl ?_
      rw [Store.set_set]
      refine RL.nil (andThen_normal ?_)
      refine CW.boxWeak b11 (part4 e.op e.n e.text [] .nil) (Store.set_same _ _ _) (part4_nil _ _ _) ?_
      rw [Store.set_set]
      obtain ⟨hn8, hn11⟩ := Store.set_none hb11
      have h11f : fb ≠ b11 := fun e => by subst e; rw [hn11] at hfb; cases hfb
      have h11t : tb ≠ b11 := fun e => by subst e; rw [hn11] at htb; cases htb
      have hS : ∀ o, ((s.set b8 box0).set b11 o).set tb (.map (setA tk)) = (s.set b8 box0).set b11 o := fun o => Store.set_eq _ _ _ (by rw [Store.set_ne _ _ h11t, Store.set_ne _ _ h8t]; exact htb)
      rw [← hS]
      refine CW.seqCut [(0, .fptr (putterCells x y fb tb) 0), (2, scopeAV sc), (3, .bool on), (5, .fptr e.cells 0), (8, .ptr b8 0), (11, .ptr b11 0)]
        (((s.set b8 box0).set b11 (.box 32 (part4 e.op e.n (textS x fr tk on e).1 [] .nil))).set tb (.map (setA (textS x fr tk on e).2))) ?_ ?_
      · repeat (first | with_reducible refine CW.seq ?_ | with_reducible refine andThen_normal ?_ | refine CW.reg (RL.run tysOk rfl (RL.nil ?_)))
        refine CW.cond rfl (fun h9 => ?_) (fun h9 => ?_)
        · have hk2 : e.kids.length = 2 := by
            rw [lets2_def] at hl2
            have h9' : (e.op == 9) = true := h9
            rw [h9'] at hl2; simp at hl2; exact hl2.1
          have hT : textS x fr tk on e = letS x fr tk on e.text e.kids := by rw [textS, if_pos h9]
          rw [hT]
          repeat (first | refine CW.reg ?_ | refine RL.step tysOk rfl rfl rfl rfl ?_)
          refine RL.call rfl rfl rfl rfl rfl (let_spec x y fb tb fr tk e on _ (by rw [Store.set_ne _ _ hft, Store.set_ne _ _ h11f, Store.set_ne _ _ h8f]; exact hfb) (Store.set_same _ _ _) hbig hk2 (hasFree_of (by omega))) ?_ (fun _ _ ⟨h, _⟩ => by cases h)
          rintro _ _ ⟨⟨⟩, rfl⟩
          rw [Store.set_set]
          repeat (first | refine RL.step tysOk rfl rfl rfl rfl ?_)
          refine RL.storeP tysOk rfl rfl rfl rfl rfl rfl rfl rfl rfl (by rw [Store.set_ne _ _ (Ne.symm h11t)]; exact Store.set_same _ _ _) rfl ?_
          rw [← Store.set_comm _ _ _ (Ne.symm h11t), Store.set_set]
          repeat (first | refine RL.nil ?_)
          exact ⟨rfl, ⟨⟨_, rfl, AVle.refl _⟩, ⟨_, rfl, AVle.refl _⟩, ⟨_, rfl, AVle.refl _⟩, ⟨_, rfl, AVle.refl _⟩, ⟨_, rfl, AVle.refl _⟩, ⟨_, rfl, AVle.refl _⟩, trivial⟩, Store.sub_refl _⟩
        · have hT : textS x fr tk on e = (e.text, tk) := by rw [textS, if_neg (by have h9' : (e.op == 9) = false := h9; rw [h9']; simp)]
          rw [hT]
          repeat (first | with_reducible refine CW.skip ?_)
          exact ⟨rfl, ⟨⟨_, rfl, AVle.refl _⟩, ⟨_, rfl, AVle.refl _⟩, ⟨_, rfl, AVle.refl _⟩, ⟨_, rfl, AVle.refl _⟩, ⟨_, rfl, AVle.refl _⟩, ⟨_, rfl, AVle.refl _⟩, trivial⟩, Store.sub_refl _⟩
      have hput := put_other (x := x) (y := y) (fr := fr) (sc := sc) (on := on) (tk := tk) (e := e) h3
      have htx := textS_taken x fr tk on e
      generalize textS x fr tk on e = tx at hput htx ⊢
      obtain ⟨t', tk1⟩ := tx
      simp only at hput htx ⊢
      rw [FExp.size_def] at htk
      repeat (first | with_reducible refine CW.seq ?_ | with_reducible refine andThen_normal ?_ | with_reducible refine CW.block ?_ | refine CW.reg (RL.run tysOk rfl (RL.nil ?_)))
      refine CW.loop (σ := Nat × Own × List FExp × List Str) (fun q => [(0, .fptr (putterCells x y fb tb) 0), (2, scopeAV sc), (3, .bool on), (5, .fptr e.cells 0), (8, .ptr b8 0), (11, .ptr b11 0), (63, .slc 4 e.kav .fro), (64, .int .i64 e.kav.length), (65, .int .i64 (q.1 : Int))])
        (fun q => rowOf (((s.set b8 box0).set b11 (.box 32 (part4 e.op e.n t' q.2.2.1 q.2.1))).set tb (.map (setA q.2.2.2))) 32 4 q.1 q.2.1)
        (fun q => q.1 ≤ e.kids.length ∧ q.2.2.1.length = q.1 ∧ OwnOk (((s.set b8 box0).set b11 (.box 32 (part4 e.op e.n t' q.2.2.1 q.2.1))).set tb (.map (setA q.2.2.2))) q.1 q.2.1 ∧
          q.2.2.2.length + FExp.sizes (e.kids.drop q.1) < 698 ∧
          FExp.put x y fr sc on tk e = (.mk e.op e.n t' (q.2.2.1 ++ (FExp.puts x y fr (e.op == 9) e.text t' sc on q.1 q.2.2.2 (e.kids.drop q.1)).1), (FExp.puts x y fr (e.op == 9) e.text t' sc on q.1 q.2.2.2 (e.kids.drop q.1)).2))
        (fun q => e.kids.length - q.1) (0, .nil, [], tk1) ⟨by simp, rfl, trivial, by simp; omega, hput⟩ ?_ (Store.sub_refl _) ?_
      · exact ⟨⟨_, rfl, AVle.refl _⟩, ⟨_, rfl, AVle.refl _⟩, ⟨_, rfl, AVle.refl _⟩, ⟨_, rfl, AVle.refl _⟩, ⟨_, rfl, AVle.refl _⟩, ⟨_, rfl, AVle.refl _⟩, ⟨_, rfl, AVle.refl _⟩, ⟨_, rfl, AVle.refl _⟩, ⟨_, rfl, AVle.refl _⟩, trivial⟩
      · rintro ⟨j, own, rs, tk2⟩ ⟨hj, hrs, hok, htk2, hP⟩
        simp only at hj hrs hok htk2 hP
        repeat (first | with_reducible refine CW.seq ?_ | with_reducible refine andThen_normal ?_ | refine CW.reg (RL.run tysOk rfl (RL.nil ?_)))
        refine CW.cond rfl (fun h => ?_) (fun h => ?_)
        · have hlt : j < e.kids.length := by rw [hkl] at h; simpa using h
          obtain ⟨k, hk, hk', hks⟩ := FExp.kid_at hlt
          rw [drop_cons hk, FExp.puts] at hP
          rw [FExp.sizes_drop hk] at htk2
          repeat (first | with_reducible refine CW.seq ?_ | with_reducible refine andThen_normal ?_ | with_reducible refine CW.skip ?_ | with_reducible refine CW.block ?_ | refine CW.reg ?_ | refine RL.step tysOk rfl rfl rfl rfl ?_ | refine RL.idx tysOk _ rfl rfl rfl rfl rfl rfl rfl rfl rfl rfl rfl (by assumption) rfl ?_)
          refine RL.alloc tysOk rfl rfl rfl rfl rfl rfl rfl (fun b13 hb13 => ?_)
          refine RL.step tysOk rfl rfl rfl rfl ?_
          refine RL.storeP tysOk rfl rfl rfl rfl rfl rfl rfl rfl rfl (Store.set_same _ _ _) rfl ?_
          rw [Store.set_set]
          refine RL.freeze 13 b13 rfl (Store.set_same _ _ _) ?_
          rw [Store.del_set _ _ _ hb13]
          refine RL.nil (andThen_normal ?_)
          have hnb11 : ∀ b', own = .own b' → b' ≠ b11 := OwnOk.ne (n := j) hok (by rw [Store.set_ne _ _ (Ne.symm h11t)]; exact Store.set_same _ _ _)
          have hnbt : ∀ b', own = .own b' → b' ≠ tb := OwnOk.ne (n := j) hok (Store.set_same _ _ _)
          have hg11 : ∀ M, rowOf (((s.set b8 box0).set b11 (.box 32 (part4 e.op e.n t' rs own))).set tb M) 32 4 j own b11 = some (.box 32 (part4 e.op e.n t' rs own)) := fun M =>
            rowOf_get (m := j) (OwnOk.congr (n := j) (fun z hz => by
              by_cases ez : z = tb
              · subst ez; rw [Store.set_same] at hz; cases hz
              · rw [Store.set_ne _ _ ez] at hz ⊢; exact hz) hok) (by rw [Store.set_ne _ _ (Ne.symm h11t)]; exact Store.set_same _ _ _)
          refine CW.seqCut [(0, .fptr (putterCells x y fb tb) 0), (2, scopeAV sc), (3, .bool on), (5, .fptr e.cells 0), (8, .ptr b8 0), (11, .ptr b11 0), (63, .slc 4 e.kav .fro), (64, .int .i64 e.kav.length), (65, .int .i64 (j : Int)), (13, .fptr k.cells 0), (12, .int .i64 (j : Int)), (14, scopeAV sc), (15, .bool on)] (rowOf (((s.set b8 box0).set b11 (.box 32 (part4 e.op e.n t' rs own))).set tb (.map (setA tk2))) 32 4 j own) ?_ ?_
          · repeat (first | refine CW.reg (RL.run tysOk rfl (RL.nil ?_)))
            exact ⟨rfl, ⟨⟨_, rfl, AVle.refl _⟩, ⟨_, rfl, AVle.refl _⟩, ⟨_, rfl, AVle.refl _⟩, ⟨_, rfl, AVle.refl _⟩, ⟨_, rfl, AVle.refl _⟩, ⟨_, rfl, AVle.refl _⟩, ⟨_, rfl, AVle.refl _⟩, ⟨_, rfl, AVle.refl _⟩, ⟨_, rfl, AVle.refl _⟩, ⟨_, rfl, AVle.refl _⟩, ⟨_, rfl, AVle.refl _⟩, ⟨_, rfl, AVle.refl _⟩, ⟨_, rfl, AVle.refl _⟩, trivial⟩, Store.sub_refl _⟩
          refine CW.seqCut [(0, .fptr (putterCells x y fb tb) 0), (2, scopeAV sc), (3, .bool on), (5, .fptr e.cells 0), (8, .ptr b8 0), (11, .ptr b11 0), (63, .slc 4 e.kav .fro), (64, .int .i64 e.kav.length), (65, .int .i64 (j : Int)), (13, .fptr k.cells 0), (14, scopeAV (if e.op == 9 && j == 1 then (e.text, t') :: sc else sc)), (15, .bool (if e.op == 9 && j == 1 then on && !(e.text == x) else on))] (rowOf (((s.set b8 box0).set b11 (.box 32 (part4 e.op e.n t' rs own))).set tb (.map (setA tk2))) 32 4 j own) ?_ ?_
          · repeat (first | with_reducible refine CW.seq ?_ | refine CW.reg ?_ | refine RL.step tysOk rfl rfl rfl rfl ?_)
            refine RL.cut 3 [(0, .fptr (putterCells x y fb tb) 0), (2, scopeAV sc), (3, .bool on), (5, .fptr e.cells 0), (8, .ptr b8 0), (11, .ptr b11 0), (63, .slc 4 e.kav .fro), (64, .int .i64 e.kav.length), (65, .int .i64 (j : Int)), (13, .fptr k.cells 0), (14, scopeAV sc), (15, .bool on), (78, .bool (e.op == 9 && j == 1))] ?_ ?_
            · repeat' (first | refine RL.nil ?_ | refine RL.step tysOk rfl rfl rfl rfl ?_ | refine RL.skip rfl rfl rfl ?_ | refine RL.gstepT tysOk rfl rfl rfl rfl rfl rfl rfl (fun _ => ?_) (fun _ => ?_))
              all_goals refine ⟨rfl, ⟨⟨_, rfl, AVle.refl _⟩, ⟨_, rfl, AVle.refl _⟩, ⟨_, rfl, AVle.refl _⟩, ⟨_, rfl, AVle.refl _⟩, ⟨_, rfl, AVle.refl _⟩, ⟨_, rfl, AVle.refl _⟩, ⟨_, rfl, AVle.refl _⟩, ⟨_, rfl, AVle.refl _⟩, ⟨_, rfl, AVle.refl _⟩, ⟨_, rfl, AVle.refl _⟩, ⟨_, rfl, AVle.refl _⟩, ⟨_, rfl, AVle.refl _⟩, ⟨_, rfl, AVle.of_eq ?_⟩, trivial⟩, rfl⟩
              all_goals simp_all
              all_goals (rw [Bool.eq_iff_iff]; simp; omega)
            cases hc : e.op == 9 && j == 1 with
            | false =>
              repeat (first | with_reducible refine andThen_normal ?_ | with_reducible refine CW.skip ?_ | refine RL.nil ?_ | refine CW.condF rfl ?_)
              exact ⟨rfl, ⟨⟨_, rfl, AVle.refl _⟩, ⟨_, rfl, AVle.refl _⟩, ⟨_, rfl, AVle.refl _⟩, ⟨_, rfl, AVle.refl _⟩, ⟨_, rfl, AVle.refl _⟩, ⟨_, rfl, AVle.refl _⟩, ⟨_, rfl, AVle.refl _⟩, ⟨_, rfl, AVle.refl _⟩, ⟨_, rfl, AVle.refl _⟩, ⟨_, rfl, AVle.refl _⟩, ⟨_, rfl, AVle.refl _⟩, ⟨_, rfl, AVle.refl _⟩, trivial⟩, Store.sub_refl _⟩
            | true =>
              cases on with
              | true =>
                cases sc with
                | nil =>
                  repeat (first | with_reducible refine andThen_normal ?_ | refine RL.nil ?_ | refine CW.condT rfl ?_)
                  refine CW.drw tysOk mixed rfl (RD.run rfl ?_)
                  refine RD.one (i := 4) rfl rfl rfl rfl rfl (OW.loadP tysOk rfl rfl rfl (hg11 _) rfl (X := fun _ _ => False)) ?_ (fun _ _ h => False.elim h)
                  rintro _ _ ⟨rfl, rfl⟩
                  refine RD.run rfl (RD.done rfl ?_)
                  skip
                  exact ⟨rfl, ⟨⟨_, rfl, AVle.refl _⟩, ⟨_, rfl, AVle.refl _⟩, ⟨_, rfl, AVle.refl _⟩, ⟨_, rfl, AVle.refl _⟩, ⟨_, rfl, AVle.refl _⟩, ⟨_, rfl, AVle.refl _⟩, ⟨_, rfl, AVle.refl _⟩, ⟨_, rfl, AVle.refl _⟩, ⟨_, rfl, AVle.refl _⟩, ⟨_, rfl, AVle.refl _⟩, ⟨_, rfl, AVle.refl _⟩, ⟨_, rfl, AVle.refl _⟩, trivial⟩, Store.sub_refl _⟩
                | cons _ _ =>
                  repeat (first | with_reducible refine andThen_normal ?_ | refine RL.nil ?_ | refine CW.condT rfl ?_)
                  refine CW.drw tysOk mixed rfl (RD.run rfl ?_)
                  refine RD.one (i := 4) rfl rfl rfl rfl rfl (OW.loadP tysOk rfl rfl rfl (hg11 _) rfl (X := fun _ _ => False)) ?_ (fun _ _ h => False.elim h)
                  rintro _ _ ⟨rfl, rfl⟩
                  refine RD.run rfl (RD.done rfl ?_)
                  skip
                  exact ⟨rfl, ⟨⟨_, rfl, AVle.refl _⟩, ⟨_, rfl, AVle.refl _⟩, ⟨_, rfl, AVle.refl _⟩, ⟨_, rfl, AVle.refl _⟩, ⟨_, rfl, AVle.refl _⟩, ⟨_, rfl, AVle.refl _⟩, ⟨_, rfl, AVle.refl _⟩, ⟨_, rfl, AVle.refl _⟩, ⟨_, rfl, AVle.refl _⟩, ⟨_, rfl, AVle.refl _⟩, ⟨_, rfl, AVle.refl _⟩, ⟨_, rfl, AVle.refl _⟩, trivial⟩, Store.sub_refl _⟩
              | false =>
                cases sc with
                | nil =>
                  repeat (first | with_reducible refine andThen_normal ?_ | refine RL.nil ?_ | refine CW.condT rfl ?_)
                  refine CW.drw tysOk mixed rfl (RD.run rfl ?_)
                  refine RD.one (i := 4) rfl rfl rfl rfl rfl (OW.loadP tysOk rfl rfl rfl (hg11 _) rfl (X := fun _ _ => False)) ?_ (fun _ _ h => False.elim h)
                  rintro _ _ ⟨rfl, rfl⟩
                  refine RD.run rfl (RD.done rfl ?_)
                  skip
                  exact ⟨rfl, ⟨⟨_, rfl, AVle.refl _⟩, ⟨_, rfl, AVle.refl _⟩, ⟨_, rfl, AVle.refl _⟩, ⟨_, rfl, AVle.refl _⟩, ⟨_, rfl, AVle.refl _⟩, ⟨_, rfl, AVle.refl _⟩, ⟨_, rfl, AVle.refl _⟩, ⟨_, rfl, AVle.refl _⟩, ⟨_, rfl, AVle.refl _⟩, ⟨_, rfl, AVle.refl _⟩, ⟨_, rfl, AVle.refl _⟩, ⟨_, rfl, AVle.refl _⟩, trivial⟩, Store.sub_refl _⟩
                | cons _ _ =>
                  repeat (first | with_reducible refine andThen_normal ?_ | refine RL.nil ?_ | refine CW.condT rfl ?_)
                  refine CW.drw tysOk mixed rfl (RD.run rfl ?_)
                  refine RD.one (i := 4) rfl rfl rfl rfl rfl (OW.loadP tysOk rfl rfl rfl (hg11 _) rfl (X := fun _ _ => False)) ?_ (fun _ _ h => False.elim h)
                  rintro _ _ ⟨rfl, rfl⟩
                  refine RD.run rfl (RD.done rfl ?_)
                  skip
                  exact ⟨rfl, ⟨⟨_, rfl, AVle.refl _⟩, ⟨_, rfl, AVle.refl _⟩, ⟨_, rfl, AVle.refl _⟩, ⟨_, rfl, AVle.refl _⟩, ⟨_, rfl, AVle.refl _⟩, ⟨_, rfl, AVle.refl _⟩, ⟨_, rfl, AVle.refl _⟩, ⟨_, rfl, AVle.refl _⟩, ⟨_, rfl, AVle.refl _⟩, ⟨_, rfl, AVle.refl _⟩, ⟨_, rfl, AVle.refl _⟩, ⟨_, rfl, AVle.refl _⟩, trivial⟩, Store.sub_refl _⟩
          generalize (if (e.op == 9 && j == 1) = true then (e.text, t') :: sc else sc) = sc' at hP ⊢
          generalize (if (e.op == 9 && j == 1) = true then on && !(e.text == x) else on) = on' at hP ⊢
          have hlk : k.lets2 = true := by
            rw [lets2_def] at hl2
            exact letss2_mem (by simp only [Bool.and_eq_true] at hl2; exact hl2.2) (List.mem_of_getElem? hk)
          have hcall := ih k sc' on' tk2 (rowOf (((s.set b8 box0).set b11 (.box 32 (part4 e.op e.n t' rs own))).set tb (.map (setA tk2))) 32 4 j own) (by omega) (by omega) hlk (by omega)
            (rowOf_get hok (by rw [Store.set_ne _ _ hft, Store.set_ne _ _ h11f, Store.set_ne _ _ h8f]; exact hfb)) (rowOf_get hok (Store.set_same _ _ _))
          rw [rowOf_upd1 hnbt] at hcall
          skip
          refine CW.drw tysOk mixed rfl (RD.run rfl ?_)
          generalize hq : FExp.put x y fr sc' on' tk2 k = pk at hcall hP ⊢
          obtain ⟨k', tk3⟩ := pk
          simp only at hcall hP
          have htk3 : tk3.length ≤ tk2.length + k.size := by
            have := put_taken x y fr k sc' on' tk2
            rw [hq] at this; exact this
          refine' RD.loadCall (i := 1) (j := 6) (σ := Unit) (P1 := _) (fun _ => k'.av) (fun _ => rowOf (((s.set b8 box0).set b11 (.box 32 (part4 e.op e.n t' rs own))).set tb (.map (setA tk3))) 32 4 j own) (fun _ => True) tysOk rfl rfl rfl rfl rfl rfl rfl rfl rfl rfl rfl rfl (hg11 _) rfl rfl rfl rfl (OW.call rfl (fv := .func 57 [] []) rfl rfl (ACallV.of_calls hcall)) (fun y s' ⟨h1, h2⟩ => ⟨(), trivial, by cases h1; rfl, h2⟩) ?A ?B ?C (fun _ _ ⟨h, _⟩ => by cases h)
          case A => intro _ _ hP; refine RD.run rfl ?_; exact hP
          case B =>
            intro _ _ hP
            refine RD.run rfl (RD.one (i := 1) rfl rfl rfl rfl rfl (OW.loadP tysOk rfl rfl rfl (hg11 _) rfl (X := fun _ _ => False)) ?_ (fun _ _ h => False.elim h))
            rintro _ _ ⟨rfl, rfl⟩
            refine RD.congr _ (get_mv _ _ _ [_, _] ?_) hP
            rfl
          case C =>
            intro _ _
            have hok3 : OwnOk (((s.set b8 box0).set b11 (.box 32 (part4 e.op e.n t' rs own))).set tb (.map (setA tk3))) j own := by
              have := OwnOk.set (m := j) (o' := .map (setA tk3)) hok (Store.set_same _ _ _)
              rwa [Store.set_set] at this
            refine RD.append1 (i := 8) tysOk rfl rfl rfl rfl rfl rfl rfl rfl rfl (by intro k h; cases h) rfl rfl rfl rfl rfl rfl rfl (n := j) (by simp [hrs]) (by show (j + 1) * 56 ≤ _; omega) (by omega) rfl hok3 (fun b' hb' => ?_)
            have hb11' : ∀ b'', Own.own b' = .own b'' → b'' ≠ b11 := OwnOk.ne (n := j) (own := .own b') hb' (by rw [Store.set_ne _ _ (Ne.symm h11t)]; exact Store.set_same _ _ _)
            refine RD.run rfl ?_
            refine RD.oneN (i := 10) rfl rfl rfl rfl (OW.storeP tysOk rfl rfl rfl rfl rfl rfl rfl (rowOf_get (n := j + 1) (m := j) (own := .own b') hb' (by rw [Store.set_ne _ _ (Ne.symm h11t)]; exact Store.set_same _ _ _)) rfl (X := fun _ _ => False)) ?_ (fun _ _ h => False.elim h)
            rintro _ _ rfl
            refine RD.run rfl (RD.done rfl ?_)
            rw [rowOf_upd2 hb11' (Ne.symm h11t)]
            repeat (first | with_reducible refine andThen_normal ?_ | with_reducible refine inBlock_normal ?_ | refine CW.reg (RL.run tysOk rfl (RL.nil ?_)))
            refine ⟨(j + 1, .own b', rs ++ [k'], tk3), ⟨hlt, by simp [hrs], ?_, by show tk3.length + FExp.sizes (e.kids.drop (j + 1)) < 698; omega, by rw [hP]; simp⟩, ⟨⟨_, rfl, AVle.refl _⟩, ⟨_, rfl, AVle.refl _⟩, ⟨_, rfl, AVle.refl _⟩, ⟨_, rfl, AVle.refl _⟩, ⟨_, rfl, AVle.refl _⟩, ⟨_, rfl, AVle.refl _⟩, ⟨_, rfl, AVle.refl _⟩, ⟨_, rfl, AVle.refl _⟩, ⟨_, rfl, AVle.of_eq ?_⟩, trivial⟩, ?_, by show e.kids.length - (j + 1) < e.kids.length - j; omega⟩
            · refine OwnOk.congr (n := j) (s := ((s.set b8 box0).set b11 (.box 32 (part4 e.op e.n t' rs own))).set tb (.map (setA tk3))) (fun z hz => ?_) hb'
              by_cases e1 : z = tb
              · subst e1; rw [Store.set_same] at hz; cases hz
              · rw [Store.set_ne _ _ e1] at hz ⊢
                by_cases e2 : z = b11
                · subst e2; rw [Store.set_same] at hz; cases hz
                · rw [Store.set_ne _ _ e2] at hz ⊢; exact hz
            · rw [i64_succ (by omega)]
            · simp only [part4, List.map_append, List.map_cons, List.map_nil]
              exact Store.sub_refl _
        · have hge : e.kids.length ≤ j := by rw [hkl] at h; simpa using h
          have hje : j = e.kids.length := by omega
          rw [List.drop_eq_nil_of_le hge, FExp.puts, List.append_nil] at hP
          repeat (first | with_reducible refine CW.seq ?_ | with_reducible refine andThen_normal ?_ | with_reducible refine andThen_exit ?_ | with_reducible refine inBlock_here ?_ | with_reducible refine CW.exit ?_ | refine CW.reg ?_)
          refine RL.loadP tysOk rfl rfl rfl rfl rfl rfl (rowOf_get hok (by rw [Store.set_ne _ _ (Ne.symm h11t)]; exact Store.set_same _ _ _)) rfl ?_
          refine RL.storeP tysOk rfl rfl rfl rfl rfl rfl rfl rfl rfl (rowOf_get hok (by rw [Store.set_ne _ _ (Ne.symm h8t), Store.set_ne _ _ (fun e => by rw [← e, Store.set_same] at hb11; cases hb11)]; exact Store.set_same _ _ _)) rfl ?_
          repeat (first | with_reducible refine andThen_normal ?_ | with_reducible refine CW.ret ?_ | refine RL.nil ?_)
          refine ⟨_, _, s.set tb (.map (setA tk2)), resA_cell rfl rfl (Store.set_same _ _ _) rfl, part4_le e.op e.n t' rs own, ?_, ?_, ?_⟩
          · have q8 : (s.set tb (.map (setA tk2))) b8 = none := by rw [Store.set_ne _ _ (Ne.symm h8t)]; exact hb8
            have q11 : (s.set tb (.map (setA tk2))) b11 = none := by rw [Store.set_ne _ _ (Ne.symm h11t)]; exact hn11
            refine Store.subSet (Store.subRow (m := j) ?_ ?_) q8
            · rw [Store.set_comm _ _ _ (Ne.symm h11t), Store.set_comm _ _ _ (Ne.symm h8t)]
              exact Store.subSet (Store.subSet (Store.sub_refl _) q8) q11
            · refine OwnOk.congr (n := j) (fun z hz => ?_) hok
              by_cases e1 : z = tb
              · subst e1; rw [Store.set_same] at hz; cases hz
              · rw [Store.set_ne _ _ e1] at hz ⊢
                exact (Store.set_none (Store.set_none hz).2).2
          · rw [hP]
          · rw [hP]
end Go.Proofs.Ytaafacnoddjhgaa

/- Plain laws of the layer 'shape': formed expressions; what comes of putting in. -/
namespace Go.Proofs.Ytaafacnoddjhgaa
open Go.AE

mutual
/-- All texts of an expression are so. -/
def FExp.AllT (T : Str → Prop) : FExp → Prop
  | .mk _ _ t ks => T t ∧ FExp.AllTs T ks
def FExp.AllTs (T : Str → Prop) : List FExp → Prop
  | [] => True
  | k :: r => FExp.AllT T k ∧ FExp.AllTs T r
end

theorem AllTs_iff {T : Str → Prop} : ∀ {l : List FExp}, FExp.AllTs T l ↔ ∀ k ∈ l, k.AllT T
  | [] => by simp [FExp.AllTs]
  | k :: r => by simp [FExp.AllTs, AllTs_iff (l := r)]

theorem AllT_iff' {T : Str → Prop} : ∀ (n : Nat) (e : FExp), e.size ≤ n → (e.AllT T ↔ ∀ g ∈ e.allE, T g.text) := by
  intro n
  induction n with
  | zero => intro e h; have := e.size_pos; omega
  | succ n ih =>
    intro e h
    cases e with | mk o m t ks =>
    rw [FExp.AllT, AllTs_iff, FExp.allE, FExp.allEs_eq]
    constructor
    · rintro ⟨h1, h2⟩ g hg
      rcases List.mem_cons.1 hg with rfl | hg
      · exact h1
      · obtain ⟨k, hk, hg⟩ := List.mem_flatMap.1 hg
        have hs : k.size < (FExp.mk o m t ks).size := FExp.kids_size (e := .mk o m t ks) hk
        exact (ih k (by omega)).1 (h2 k hk) g hg
    · intro hg
      refine ⟨hg _ (List.mem_cons_self ..), fun k hk => ?_⟩
      have hs : k.size < (FExp.mk o m t ks).size := FExp.kids_size (e := .mk o m t ks) hk
      exact (ih k (by omega)).2 fun g hgk => hg g (List.mem_cons_of_mem _ (List.mem_flatMap.2 ⟨k, hk, hgk⟩))
theorem AllT_iff {T : Str → Prop} {e : FExp} : e.AllT T ↔ ∀ g ∈ e.allE, T g.text := AllT_iff' _ e (Nat.le_refl _)

theorem lets2_iff' : ∀ (n : Nat) (e : FExp), e.size ≤ n → (∀ g ∈ e.allE, g.op = 9 → g.kids.length = 2) → e.lets2 = true := by
  intro n
  induction n with
  | zero => intro e h; have := e.size_pos; omega
  | succ n ih =>
    intro e h hg
    rw [lets2_def]
    have key : ∀ l : List FExp, (∀ k ∈ l, k ∈ e.kids) → FExp.letss2 l = true := by
      intro l
      induction l with
      | nil => intro _; rfl
      | cons k l ihl =>
        intro hk
        have hs := FExp.kids_size (hk k (List.mem_cons_self ..))
        rw [FExp.letss2, ih k (by omega) (fun g hgk => hg g (by rw [FExp.allE_eq]; exact List.mem_cons_of_mem _ (List.mem_flatMap.2 ⟨k, hk k (List.mem_cons_self ..), hgk⟩))), ihl (fun k' h' => hk k' (List.mem_cons_of_mem _ h'))]
        rfl
    rw [key _ (fun _ h => h), Bool.and_true]
    by_cases h9 : e.op = 9
    · have := hg e (by rw [FExp.allE_eq]; exact List.mem_cons_self ..) h9
      simp [this]
    · simp [h9]

theorem goodB_size {e : FExp} (h : goodB e = true) : e.size ≤ 120 := by
  simp only [goodB, lookB, Bool.and_eq_true, decide_eq_true_eq] at h
  have := Part.nodes_size _ (.exp e) 1 (Nat.le_refl _)
  have h2 : (Part.exp e).size = e.size := rfl
  omega

theorem goodB_node {e g : FExp} (h : goodB e = true) (hg : g ∈ e.allE) : nodeE g = true := by
  simp only [goodB, lookB, Bool.and_eq_true, List.all_eq_true] at h
  rw [← allE_nodes e 1] at hg
  obtain ⟨x, hx, rfl⟩ := List.mem_map.1 hg
  have := h.2 x hx
  obtain ⟨g', hg'⟩ := nodes_exp hx
  simp only [nodeOk, hg', nodeP, Bool.and_eq_true] at this
  rw [hg']; exact this.2

theorem goodB_lets {e : FExp} (h : goodB e = true) : e.lets2 = true := by
  refine lets2_iff' _ e (Nat.le_refl _) fun g hg h9 => ?_
  have := goodB_node h hg
  have hs : shapeOf 9 = some (true, 2, 2) := by decide
  simp only [nodeE, nodeE1, h9, hs, shA, shB, Bool.and_eq_true, decide_eq_true_eq, FExp.kav_length] at this
  omega

theorem Fair.of {e : FExp} (h1 : e.size < big) (h2 : e.AllT fun t => t.length < 9223372036854775807) : e.Fair := by
  refine ⟨h1, fun x hx => ?_⟩
  obtain ⟨g, hg⟩ := nodes_exp hx
  have := AllT_iff.1 h2 x.2.expOf (mem_nodes_all hx)
  rw [hg] at this ⊢
  exact this

theorem Fair.texts {e : FExp} (h : e.Fair) : e.AllT fun t => t.length < 9223372036854775807 := by
  refine AllT_iff.2 fun g hg => ?_
  rw [← allE_nodes e 1] at hg
  obtain ⟨x, hx, rfl⟩ := List.mem_map.1 hg
  have := h.short x hx
  obtain ⟨g', hg'⟩ := nodes_exp hx
  rw [hg'] at this ⊢
  exact this

theorem freshS_len (l : List Str) : (freshS l).length ≤ 2 := by
  unfold freshS
  refine word_len ?_
  unfold freshK
  cases hx : (List.range 702).findIdx? (free1 l) with
  | none => decide
  | some i =>
    obtain ⟨h1, -⟩ := List.findIdx?_eq_some_iff_getElem.1 hx
    simpa using h1

theorem stands_mem : ∀ {sc : List (Str × Str)} {t to : Str}, stands sc t = some to → ∃ x ∈ sc, x.1 = t ∧ x.2 = to
  | x :: sc, t, to, h => by
    simp only [stands] at h
    split at h
    · rename_i hx; cases h; exact ⟨x, List.mem_cons_self .., by simpa using hx, rfl⟩
    · obtain ⟨y, hy, h1⟩ := stands_mem h; exact ⟨y, List.mem_cons_of_mem _ hy, h1⟩
  | [], t, to, h => by simp [stands] at h

theorem nameE_AllT {T : Str → Prop} {s : Str} (h : T s) : (nameE s).AllT T := by rw [nameE, FExp.AllT, FExp.AllTs]; exact ⟨h, trivial⟩
theorem nameE_size (s : Str) : (nameE s).size = 1 := by rw [nameE, FExp.size, FExp.sizes]

theorem letS_text {T : Str → Prop} {x : Str} {fr tk : List Str} {on : Bool} {t : Str} {ks : List FExp} (hT : ∀ l, T (freshS l)) (h : T t) : T (letS x fr tk on t ks).1 := by
  rw [letS]
  generalize (!on || t == x || !fr.contains t || !(match ks[1]? with | some k => k.frees.contains x | none => false)) = c
  cases c with
  | true => rw [if_pos rfl]; exact h
  | false => rw [if_neg (by simp)]; dsimp only; exact hT tk

mutual
theorem put_texts {T : Str → Prop} (hT : ∀ t : Str, t.length ≤ 2 → T t) {x : Str} {y : FExp} {fr : List Str} (hy : y.AllT T) : ∀ (e : FExp) (sc : List (Str × Str)) (on : Bool) (tk : List Str), e.AllT T → (∀ q ∈ sc, T q.2) → (FExp.put x y fr sc on tk e).1.AllT T
  | .mk o n t ks, sc, on, tk, he, hsc => by
    rw [FExp.AllT] at he
    rw [FExp.put]
    split
    · simp only
      split
      · rename_i to hto
        obtain ⟨q, hq, -, rfl⟩ := stands_mem hto
        exact nameE_AllT (hsc q hq)
      · split
        · exact hy
        · exact nameE_AllT he.1
    · have hr : T (if o == 9 then letS x fr tk on t ks else (t, tk)).1 := by
        cases o == 9
        · exact he.1
        · exact letS_text (fun l => hT (freshS l) (freshS_len l)) he.1
      rw [FExp.AllT]
      exact ⟨hr, puts_texts hT hy ks (o == 9) t _ sc on 0 _ he.2 hr hsc⟩
theorem puts_texts {T : Str → Prop} (hT : ∀ t : Str, t.length ≤ 2 → T t) {x : Str} {y : FExp} {fr : List Str} (hy : y.AllT T) : ∀ (ks : List FExp) (isLet : Bool) (t t' : Str) (sc : List (Str × Str)) (on : Bool) (i : Nat) (tk : List Str), FExp.AllTs T ks → T t' → (∀ q ∈ sc, T q.2) → FExp.AllTs T (FExp.puts x y fr isLet t t' sc on i tk ks).1
  | [], _, _, _, _, _, _, _, _, _, _ => by simp [FExp.puts, FExp.AllTs]
  | k :: r, isLet, t, t', sc, on, i, tk, hk, ht', hsc => by
    simp only [FExp.AllTs] at hk
    simp only [FExp.puts, FExp.AllTs]
    refine ⟨put_texts hT hy k _ _ _ hk.1 ?_, puts_texts hT hy r isLet t t' sc on (i + 1) _ hk.2 ht' hsc⟩
    split
    · intro q hq
      rcases List.mem_cons.1 hq with rfl | hq
      · exact ht'
      · exact hsc q hq
    · exact hsc
end

mutual
theorem put_size (x : Str) (y : FExp) (fr : List Str) : ∀ (e : FExp) (sc : List (Str × Str)) (on : Bool) (tk : List Str), (FExp.put x y fr sc on tk e).1.size ≤ e.size * y.size
  | .mk o n t ks, sc, on, tk => by
    have hy := y.size_pos
    rw [FExp.put]
    have h1 : (FExp.mk o n t ks).size * y.size = y.size + FExp.sizes ks * y.size := by rw [FExp.size, Nat.add_mul, Nat.one_mul]
    split
    · simp only
      split
      · rw [nameE_size]; omega
      · split
        · omega
        · rw [nameE_size]; omega
    · have := puts_size x y fr ks (o == 9) t (if o == 9 then letS x fr tk on t ks else (t, tk)).1 sc on 0 (if o == 9 then letS x fr tk on t ks else (t, tk)).2
      rw [h1]
      show 1 + _ ≤ _
      omega
theorem puts_size (x : Str) (y : FExp) (fr : List Str) : ∀ (ks : List FExp) (isLet : Bool) (t t' : Str) (sc : List (Str × Str)) (on : Bool) (i : Nat) (tk : List Str), FExp.sizes (FExp.puts x y fr isLet t t' sc on i tk ks).1 ≤ FExp.sizes ks * y.size
  | [], _, _, _, _, _, _, _ => by simp [FExp.puts, FExp.sizes]
  | k :: r, isLet, t, t', sc, on, i, tk => by
    simp only [FExp.puts, FExp.sizes, Nat.add_mul]
    exact Nat.add_le_add (put_size x y fr k _ _ _) (puts_size x y fr r isLet t t' sc on (i + 1) _)
end

/-- Lists that have the same strings. -/
def Alike (a b : List Str) : Prop := ∀ z, a.contains z = b.contains z

theorem Alike.ins {a b : List Str} (h : Alike a b) (z : Str) : Alike (insS a z) (insS b z) := by
  intro w
  rw [Bool.eq_iff_iff]
  have := h w
  rw [Bool.eq_iff_iff] at this
  simp only [List.contains_iff_mem, mem_insS] at this ⊢
  rw [this]

theorem letS_congr {x : Str} {fr a b : List Str} {on : Bool} {t : Str} {ks : List FExp} (h : Alike a b) : (letS x fr a on t ks).1 = (letS x fr b on t ks).1 ∧ Alike (letS x fr a on t ks).2 (letS x fr b on t ks).2 := by
  unfold letS
  split
  · split
    · exact ⟨rfl, h⟩
    · rw [freshS_congr h]; exact ⟨rfl, h.ins _⟩
  · split
    · exact ⟨rfl, h⟩
    · rw [freshS_congr h]; exact ⟨rfl, h.ins _⟩

mutual
theorem put_congr (x : Str) (y : FExp) (fr : List Str) : ∀ (e : FExp) (sc : List (Str × Str)) (on : Bool) (a b : List Str), Alike a b → (FExp.put x y fr sc on a e).1 = (FExp.put x y fr sc on b e).1 ∧ Alike (FExp.put x y fr sc on a e).2 (FExp.put x y fr sc on b e).2
  | .mk o n t ks, sc, on, a, b, h => by
    rw [FExp.put, FExp.put]
    split
    · exact ⟨rfl, h⟩
    · have h1 : (if o == 9 then letS x fr a on t ks else (t, a)).1 = (if o == 9 then letS x fr b on t ks else (t, b)).1 ∧ Alike (if o == 9 then letS x fr a on t ks else (t, a)).2 (if o == 9 then letS x fr b on t ks else (t, b)).2 := by
        cases o == 9 with
        | false => exact ⟨by simp, by simpa using h⟩
        | true => simpa using letS_congr h
      obtain ⟨h2, h3⟩ := puts_congr x y fr ks (o == 9) t (if o == 9 then letS x fr b on t ks else (t, b)).1 sc on 0 _ _ h1.2
      simp only [h1.1]
      exact ⟨by rw [h2], h3⟩
theorem puts_congr (x : Str) (y : FExp) (fr : List Str) : ∀ (ks : List FExp) (isLet : Bool) (t t' : Str) (sc : List (Str × Str)) (on : Bool) (i : Nat) (a b : List Str), Alike a b →
    (FExp.puts x y fr isLet t t' sc on i a ks).1 = (FExp.puts x y fr isLet t t' sc on i b ks).1 ∧ Alike (FExp.puts x y fr isLet t t' sc on i a ks).2 (FExp.puts x y fr isLet t t' sc on i b ks).2
  | [], _, _, _, _, _, _, _, _, h => ⟨rfl, h⟩
  | k :: r, isLet, t, t', sc, on, i, a, b, h => by
    obtain ⟨h1, h2⟩ := put_congr x y fr k (if isLet && i == 1 then (t, t') :: sc else sc) (if isLet && i == 1 then on && !(t == x) else on) a b h
    obtain ⟨h3, h4⟩ := puts_congr x y fr r isLet t t' sc on (i + 1) _ _ h2
    simp only [FExp.puts]
    exact ⟨by rw [h1, h3], h4⟩
end

/-- The texts of FormNames and FormLets. -/
def textsOf (l : List FExp) : List Str := (l.filter fun g => g.op == 3 || g.op == 9).map FExp.text

/-- The names that are taken at first. -/
def taken0 (e : FExp) (x : Str) (y : FExp) : List Str := x :: (y.frees ++ textsOf e.allE)

def zeroE : FExp := .mk 0 0 [] []

/-- y in place of x in e, or an error. -/
def putR (e : FExp) (x : Str) (y : FExp) : FExp × Int :=
  if !(goodB e && nameS x && goodB y) then (zeroE, 2)
  else
    let out := (FExp.put x y y.frees [] true (taken0 e x y) e).1
    if goodB out then (out, 0) else (zeroE, 3)

theorem loose_length' : ∀ (n : Nat) (e : FExp) (b : List Str), e.size ≤ n → (e.loose b).length ≤ e.size := by
  intro n
  induction n with
  | zero => intro e b h; have := e.size_pos; omega
  | succ n ih =>
    intro e b h
    have key : ∀ (l : List FExp) (i : Nat), (∀ k ∈ l, k ∈ e.kids) → (FExp.looses (e.op == 9) e.text b i l).length ≤ FExp.sizes l := by
      intro l
      induction l with
      | nil => intro i _; simp [FExp.looses]
      | cons k l ihl =>
        intro i hk
        have hs := FExp.kids_size (hk k (List.mem_cons_self ..))
        have h1 := ih k (if (e.op == 9) && i == 1 then e.text :: b else b) (by omega)
        have h2 := ihl (i + 1) (fun k' h' => hk k' (List.mem_cons_of_mem _ h'))
        simp only [FExp.looses, FExp.sizes, List.length_append]
        omega
    have := key e.kids 0 (fun _ h => h)
    rw [FExp.loose_eq, List.length_append, FExp.size_def]
    split <;> simp <;> omega

theorem addAll_length (acc l : List Str) : (addAll acc l).length ≤ acc.length + l.length := by
  induction l generalizing acc with
  | nil => simp [addAll]
  | cons x l ih =>
    have h1 := ih (insS acc x)
    have h2 : (insS acc x).length ≤ acc.length + 1 := by unfold insS; split <;> simp
    show (addAll (insS acc x) l).length ≤ _
    simp only [List.length_cons]; omega

theorem frees_length (e : FExp) : e.frees.length ≤ e.size := by
  have := addAll_length [] (e.loose [])
  have h2 := loose_length' _ e [] (Nat.le_refl _)
  unfold FExp.frees
  simp at this; omega
end Go.Proofs.Ytaafacnoddjhgaa

/- Contracts of the layer 'shape': an expression in place of a name in another one. -/
namespace Go.Proofs.Ytaafacnoddjhgaa
open Go.AE

theorem RDAll.n {P : Program} {Γ : Tys} {N : Nat} {l : List Oper} {Q : AEx → Env → Store → Prop} {env : Env} {s : Store} {m : Nat} : RDAll P Γ N l Q m env s [] := trivial
theorem RDAll.c {P : Program} {Γ : Tys} {N : Nat} {l : List Oper} {Q : AEx → Env → Store → Prop} {env : Env} {s : Store} {m : Nat} {i : Nat} {is : List Nat} (h : RDStep P Γ N l Q m env s i) (k : RDAll P Γ N l Q m env s is) : RDAll P Γ N l Q m env s (i :: is) := ⟨h, k⟩

theorem Store.set_eq_none {s : Store} {b x : Nat} {o : AObj} : (s.set b o) x = none ↔ x ≠ b ∧ s x = none :=
  ⟨Store.set_none, fun h => (Store.set_ne _ _ h.1).trans h.2⟩

theorem setA_append (a b : List Str) : setA (a ++ b) = setA a ++ setA b := by simp [setA]
theorem setA_split : ∀ {lf : List Str} {l₁ l₂ : List (AV × AV)} {k v : AV}, setA lf = l₁ ++ (k, v) :: l₂ → ∃ a w b, lf = a ++ w :: b ∧ k = .str w ∧ v = .bool true ∧ l₁ = setA a ∧ l₂ = setA b
  | [], l₁, l₂, k, v, h => by simp [setA] at h
  | x :: lf, [], l₂, k, v, h => by
    simp only [setA, List.map_cons, List.nil_append, List.cons.injEq, Prod.mk.injEq] at h
    obtain ⟨⟨rfl, rfl⟩, rfl⟩ := h
    exact ⟨[], x, lf, rfl, rfl, rfl, rfl, rfl⟩
  | x :: lf, y :: l₁, l₂, k, v, h => by
    simp only [setA, List.map_cons, List.cons_append, List.cons.injEq] at h
    obtain ⟨rfl, h⟩ := h
    obtain ⟨a, w, b, rfl, h1, h2, rfl, rfl⟩ := setA_split (lf := lf) (by simpa [setA] using h)
    exact ⟨x :: a, w, b, rfl, h1, h2, by simp [setA], rfl⟩

theorem CW.atCut {P : Program} {N : Nat} {Q Q' : AEx → Env → Store → Prop} {env : Env} {s : Store} {σ : Type} {x y : Code} (E' : σ → Env) (S' : σ → Store) (I : σ → Prop)
    (h₁ : CW P N x (fun e env' s' => e = .normal ∧ ∃ z, I z ∧ Env.Sub (E' z) env' ∧ Store.Sub (S' z) s') env s) (h₂ : ∀ z, I z → CW P N y Q (E' z) (S' z)) : CW P N x (AEx.andThen (CW P N y Q) Q') env s :=
  h₁.mono fun e env' s' ⟨he, z, hz, h1, h2⟩ => by subst he; exact CW.sub _ h1 (CW.drop _ h2 (h₂ z hz))

theorem zero_le : AVle (.agg [.int .i64 0, .int .i64 0, .str [], .slc 0 [] .nil]) zeroE.av :=
  AVle.agg (.cons (AVle.refl _) (.cons (AVle.refl _) (.cons (AVle.refl _) (.one AVle.empty))))

set_option maxRecDepth 10000 in
set_option maxHeartbeats 2000000 in
theorem shapePut_spec (e : FExp) (x : Str) (y : FExp) (s : Store) (he : e.Fair) (hy : y.Fair) (hx : x.length < 9223372036854775807) :
    ACalls Try.prog 18 [e.av, .str x, y.av] s (fun o s' => o = .ret (.tup [(putR e x y).1.av, .int .i64 (putR e x y).2]) ∧ s' = s) := by
  have hb : big = 1099511627776 := rfl
  refine ACalls.of_CW tysOk call18 Try.func18 rfl rfl ?_
  refine CW.seqCutX (σ := Nat) (fun b6 => [(1, .str x), (3, .fptr e.cells 0), (5, .fptr y.cells 0), (6, .ptr b6 0)]) (fun b6 => s.set b6 box0) (fun b6 => s b6 = none) ?_ ?_
  · repeat (first | refine CW.reg ?_ | refine RL.step tysOk rfl rfl rfl rfl ?_)
    refine RL.alloc tysOk rfl rfl rfl rfl rfl rfl rfl (fun b6 hb6 => ?_)
    repeat (first | refine RL.nil ?_ | refine RL.step tysOk rfl rfl rfl rfl ?_)
    exact ⟨rfl, b6, hb6, ⟨⟨_, rfl, AVle.refl _⟩, ⟨_, rfl, AVle.refl _⟩, ⟨_, rfl, AVle.refl _⟩, ⟨_, rfl, AVle.refl _⟩, trivial⟩, Store.sub_refl _⟩
  intro b6 hb6
  have hge := good_spec e (s.set b6 box0) he
  have hnx := shapeName_spec x (s.set b6 box0) hx
  have hgy := good_spec y (s.set b6 box0) hy
  cases h1 : goodB e with
  | false =>
    rw [h1] at hge
    have h2 := (trivial : True)
    have h3 := (trivial : True)
    repeat (first | with_reducible refine CW.seq ?_ | refine CW.reg ?_ | refine RL.step tysOk rfl rfl rfl rfl ?_)
    refine RL.callP rfl rfl rfl rfl rfl hge ?_
    repeat (first | with_reducible refine CW.seq ?_ | with_reducible refine andThen_normal ?_ | with_reducible refine andThen_ret ?_ | with_reducible refine CW.ret ?_ | refine CW.reg ?_ | refine RL.nil ?_ | refine CW.condT rfl ?_ | refine RL.step tysOk rfl rfl rfl rfl ?_ | refine RL.skip rfl rfl rfl ?_ | (refine RL.storeP tysOk rfl rfl rfl rfl rfl rfl rfl rfl rfl (Store.set_same _ _ _) rfl ?_; try with_reducible rw [Store.set_set]))
    refine ⟨_, .tup [zeroE.av, .int .i64 2], s, resA_cellT rfl rfl (Store.set_same _ _ _) rfl rfl, AVle.tup (.cons zero_le (.one (AVle.refl _))), Store.sub_set _ _ _ hb6, ?_, rfl⟩
    simp only [putR, h1, h2, h3]; rfl
  | true =>
    rw [h1] at hge
    cases h2 : nameS x with
    | false =>
      rw [h2] at hnx
      have h3 := (trivial : True)
      repeat (first | with_reducible refine CW.seq ?_ | refine CW.reg ?_ | refine RL.step tysOk rfl rfl rfl rfl ?_)
      refine RL.callP rfl rfl rfl rfl rfl hge ?_
      repeat (first | refine RL.step tysOk rfl rfl rfl rfl ?_)
      refine RL.callP rfl rfl rfl rfl rfl hnx ?_
      repeat (first | with_reducible refine CW.seq ?_ | with_reducible refine andThen_normal ?_ | with_reducible refine andThen_ret ?_ | with_reducible refine CW.ret ?_ | refine CW.reg ?_ | refine RL.nil ?_ | refine CW.condT rfl ?_ | refine RL.step tysOk rfl rfl rfl rfl ?_ | refine RL.skip rfl rfl rfl ?_ | (refine RL.storeP tysOk rfl rfl rfl rfl rfl rfl rfl rfl rfl (Store.set_same _ _ _) rfl ?_; try with_reducible rw [Store.set_set]))
      refine ⟨_, .tup [zeroE.av, .int .i64 2], s, resA_cellT rfl rfl (Store.set_same _ _ _) rfl rfl, AVle.tup (.cons zero_le (.one (AVle.refl _))), Store.sub_set _ _ _ hb6, ?_, rfl⟩
      simp only [putR, h1, h2, h3]; rfl
    | true =>
      rw [h2] at hnx
      cases h3 : goodB y with
      | false =>
        rw [h3] at hgy
        repeat (first | with_reducible refine CW.seq ?_ | refine CW.reg ?_ | refine RL.step tysOk rfl rfl rfl rfl ?_)
        refine RL.callP rfl rfl rfl rfl rfl hge ?_
        repeat (first | refine RL.step tysOk rfl rfl rfl rfl ?_)
        refine RL.callP rfl rfl rfl rfl rfl hnx ?_
        repeat (first | refine RL.step tysOk rfl rfl rfl rfl ?_)
        refine RL.callP rfl rfl rfl rfl rfl hgy ?_
        repeat (first | with_reducible refine CW.seq ?_ | with_reducible refine andThen_normal ?_ | with_reducible refine andThen_ret ?_ | with_reducible refine CW.ret ?_ | refine CW.reg ?_ | refine RL.nil ?_ | refine CW.condT rfl ?_ | refine RL.step tysOk rfl rfl rfl rfl ?_ | (refine RL.storeP tysOk rfl rfl rfl rfl rfl rfl rfl rfl rfl (Store.set_same _ _ _) rfl ?_; try with_reducible rw [Store.set_set]))
        refine ⟨_, .tup [zeroE.av, .int .i64 2], s, resA_cellT rfl rfl (Store.set_same _ _ _) rfl rfl, AVle.tup (.cons zero_le (.one (AVle.refl _))), Store.sub_set _ _ _ hb6, ?_, rfl⟩
        simp only [putR, h1, h2, h3]; rfl
      | true =>
        rw [h3] at hgy
        have hse := goodB_size h1
        have hsy := goodB_size h3
        repeat (first | with_reducible refine CW.seq ?_ | refine CW.reg ?_ | refine RL.step tysOk rfl rfl rfl rfl ?_)
        refine RL.callP rfl rfl rfl rfl rfl hge ?_
        repeat (first | refine RL.step tysOk rfl rfl rfl rfl ?_)
        refine RL.callP rfl rfl rfl rfl rfl hnx ?_
        repeat (first | refine RL.step tysOk rfl rfl rfl rfl ?_)
        refine RL.callP rfl rfl rfl rfl rfl hgy ?_
        repeat (first | with_reducible refine CW.seq ?_ | with_reducible refine andThen_normal ?_ | with_reducible refine CW.skip ?_ | refine RL.nil ?_ | refine CW.condF rfl ?_ | refine RL.step tysOk rfl rfl rfl rfl ?_)
        refine CW.atCut (σ := Nat × Nat × Nat) (fun q => [(1, .str x), (3, .fptr e.cells 0), (5, .fptr y.cells 0), (6, .ptr b6 0), (8, .ptr q.2.2 0)])
          (fun q => ((((s.set b6 box0).set q.1 (.map (setA y.frees))).set q.2.1 (.map (setA [x]))).set q.2.2 (.box 82 [.fptr (putterCells x y q.1 q.2.1) 0])))
          (fun q => s q.1 = none ∧ s q.2.1 = none ∧ s q.2.2 = none ∧ q.1 ≠ b6 ∧ q.2.1 ≠ b6 ∧ q.2.2 ≠ b6 ∧ q.1 ≠ q.2.1 ∧ q.1 ≠ q.2.2 ∧ q.2.1 ≠ q.2.2) ?_ ?_
        · skip
          refine CW.drw tysOk mixed rfl (RD.run rfl ?_)
          refine RD.many rfl (RDAll.c (RDStep.mk (i := 3) rfl rfl rfl rfl (OW.call rfl (fv := .func 55 [] []) rfl rfl (ACallV.of_calls (freeOf_spec y _ (by omega)))) ?_ (fun _ _ ⟨_, _, h, _⟩ => by cases h)) (RDAll.c (RDStep.mk (i := 4) rfl rfl rfl rfl (OW.makeMap rfl (X := fun _ _ => False)) ?_ (fun _ _ h => False.elim h)) (RDAll.c (RDStep.mk (i := 10) rfl rfl rfl rfl (OW.alloc tysOk rfl rfl rfl rfl (X := fun _ _ => False)) ?_ (fun _ _ h => False.elim h)) RDAll.n)))
          · rintro _ _ ⟨b29, hb29, ⟨⟩, rfl⟩
            simp only [Store.set_eq_none] at hb29
            refine RD.run rfl ?_
            refine RD.many rfl (RDAll.c (RDStep.mk (i := 4) rfl rfl rfl rfl (OW.makeMap rfl (X := fun _ _ => False)) ?_ (fun _ _ h => False.elim h)) (RDAll.c (RDStep.mk (i := 10) rfl rfl rfl rfl (OW.alloc tysOk rfl rfl rfl rfl (X := fun _ _ => False)) ?_ (fun _ _ h => False.elim h)) RDAll.n))
            · rintro _ _ ⟨b30, hb30, rfl, rfl⟩
              simp only [Store.set_eq_none] at hb30
              refine RD.run rfl ?_
              refine RD.many rfl (RDAll.c (RDStep.mkN (i := 6) rfl rfl rfl (OW.mapUpdate tysOk (.inr rfl) rfl rfl rfl rfl rfl rfl (by (repeat (first | exact Store.set_same _ _ _ | assumption | with_reducible rw [Store.set_ne _ _ (by omega)]))) rfl (putA_set [] x) (X := fun _ _ => False)) ?_ (fun _ _ h => False.elim h)) (RDAll.c (RDStep.mk (i := 10) rfl rfl rfl rfl (OW.alloc tysOk rfl rfl rfl rfl (X := fun _ _ => False)) ?_ (fun _ _ h => False.elim h)) RDAll.n))
              · rintro _ _ rfl
                refine RD.run rfl ?_
                refine RD.many rfl (RDAll.c (RDStep.mk (i := 10) rfl rfl rfl rfl (OW.alloc tysOk rfl rfl rfl rfl (X := fun _ _ => False)) ?_ (fun _ _ h => False.elim h)) RDAll.n)
                · rintro _ _ ⟨b8, hb8, rfl, rfl⟩
                  simp only [Store.set_eq_none] at hb8
                  refine RD.run rfl ?_
                  refine RD.oneN (i := 11) rfl rfl rfl rfl (OW.storeP tysOk rfl rfl rfl rfl rfl rfl rfl (by (repeat (first | exact Store.set_same _ _ _ | assumption | with_reducible rw [Store.set_ne _ _ (by omega)]))) rfl (X := fun _ _ => False)) ?_ (fun _ _ h => False.elim h)
                  rintro _ _ rfl
                  refine RD.run rfl (RD.done rfl ?_)
                  have hall : s b29 = none ∧ s b30 = none ∧ s b8 = none ∧ b29 ≠ b6 ∧ b30 ≠ b6 ∧ b8 ≠ b6 ∧ b29 ≠ b30 ∧ b29 ≠ b8 ∧ b30 ≠ b8 := by
                    simp only [ne_eq] at hb29 hb30 hb8
                    refine ⟨by simp_all, by simp_all, by simp_all, by omega, by omega, by omega, by omega, by omega, by omega⟩
                  refine ⟨rfl, (b29, b30, b8), hall, ⟨⟨_, rfl, AVle.refl _⟩, ⟨_, rfl, AVle.refl _⟩, ⟨_, rfl, AVle.refl _⟩, ⟨_, rfl, AVle.refl _⟩, ⟨_, rfl, AVle.refl _⟩, trivial⟩, ?_⟩
                  obtain ⟨-, -, -, n1, n2, n3, n4, n5, n6⟩ := hall
                  intro z
                  left
                  simp only [Store.set]
                  repeat' split
                  all_goals first | rfl | (simp_all; done) | (simp_all; omega)
              · rintro _ _ ⟨b8, hb8, rfl, rfl⟩
                simp only [Store.set_eq_none] at hb8
                refine RD.run rfl ?_
                refine RD.many rfl (RDAll.c (RDStep.mkN (i := 6) rfl rfl rfl (OW.mapUpdate tysOk (.inr rfl) rfl rfl rfl rfl rfl rfl (by (repeat (first | exact Store.set_same _ _ _ | assumption | with_reducible rw [Store.set_ne _ _ (by omega)]))) rfl (putA_set [] x) (X := fun _ _ => False)) ?_ (fun _ _ h => False.elim h)) RDAll.n)
                · rintro _ _ rfl
                  refine RD.run rfl ?_
                  refine RD.oneN (i := 11) rfl rfl rfl rfl (OW.storeP tysOk rfl rfl rfl rfl rfl rfl rfl (by (repeat (first | exact Store.set_same _ _ _ | assumption | with_reducible rw [Store.set_ne _ _ (by omega)]))) rfl (X := fun _ _ => False)) ?_ (fun _ _ h => False.elim h)
                  rintro _ _ rfl
                  refine RD.run rfl (RD.done rfl ?_)
                  have hall : s b29 = none ∧ s b30 = none ∧ s b8 = none ∧ b29 ≠ b6 ∧ b30 ≠ b6 ∧ b8 ≠ b6 ∧ b29 ≠ b30 ∧ b29 ≠ b8 ∧ b30 ≠ b8 := by
                    simp only [ne_eq] at hb29 hb30 hb8
                    refine ⟨by simp_all, by simp_all, by simp_all, by omega, by omega, by omega, by omega, by omega, by omega⟩
                  refine ⟨rfl, (b29, b30, b8), hall, ⟨⟨_, rfl, AVle.refl _⟩, ⟨_, rfl, AVle.refl _⟩, ⟨_, rfl, AVle.refl _⟩, ⟨_, rfl, AVle.refl _⟩, ⟨_, rfl, AVle.refl _⟩, trivial⟩, ?_⟩
                  obtain ⟨-, -, -, n1, n2, n3, n4, n5, n6⟩ := hall
                  intro z
                  left
                  simp only [Store.set]
                  repeat' split
                  all_goals first | rfl | (simp_all; done) | (simp_all; omega)
            · rintro _ _ ⟨b8, hb8, rfl, rfl⟩
              simp only [Store.set_eq_none] at hb8
              refine RD.run rfl ?_
              refine RD.many rfl (RDAll.c (RDStep.mk (i := 4) rfl rfl rfl rfl (OW.makeMap rfl (X := fun _ _ => False)) ?_ (fun _ _ h => False.elim h)) RDAll.n)
              · rintro _ _ ⟨b30, hb30, rfl, rfl⟩
                simp only [Store.set_eq_none] at hb30
                refine RD.run rfl ?_
                refine RD.many rfl (RDAll.c (RDStep.mkN (i := 6) rfl rfl rfl (OW.mapUpdate tysOk (.inr rfl) rfl rfl rfl rfl rfl rfl (by (repeat (first | exact Store.set_same _ _ _ | assumption | with_reducible rw [Store.set_ne _ _ (by omega)]))) rfl (putA_set [] x) (X := fun _ _ => False)) ?_ (fun _ _ h => False.elim h)) RDAll.n)
                · rintro _ _ rfl
                  refine RD.run rfl ?_
                  refine RD.oneN (i := 11) rfl rfl rfl rfl (OW.storeP tysOk rfl rfl rfl rfl rfl rfl rfl (by (repeat (first | exact Store.set_same _ _ _ | assumption | with_reducible rw [Store.set_ne _ _ (by omega)]))) rfl (X := fun _ _ => False)) ?_ (fun _ _ h => False.elim h)
                  rintro _ _ rfl
                  refine RD.run rfl (RD.done rfl ?_)
                  have hall : s b29 = none ∧ s b30 = none ∧ s b8 = none ∧ b29 ≠ b6 ∧ b30 ≠ b6 ∧ b8 ≠ b6 ∧ b29 ≠ b30 ∧ b29 ≠ b8 ∧ b30 ≠ b8 := by
                    simp only [ne_eq] at hb29 hb30 hb8
                    refine ⟨by simp_all, by simp_all, by simp_all, by omega, by omega, by omega, by omega, by omega, by omega⟩
                  refine ⟨rfl, (b29, b30, b8), hall, ⟨⟨_, rfl, AVle.refl _⟩, ⟨_, rfl, AVle.refl _⟩, ⟨_, rfl, AVle.refl _⟩, ⟨_, rfl, AVle.refl _⟩, ⟨_, rfl, AVle.refl _⟩, trivial⟩, ?_⟩
                  obtain ⟨-, -, -, n1, n2, n3, n4, n5, n6⟩ := hall
                  intro z
                  left
                  simp only [Store.set]
                  repeat' split
                  all_goals first | rfl | (simp_all; done) | (simp_all; omega)
          · rintro _ _ ⟨b30, hb30, rfl, rfl⟩
            simp only [Store.set_eq_none] at hb30
            refine RD.run rfl ?_
            refine RD.many rfl (RDAll.c (RDStep.mk (i := 3) rfl rfl rfl rfl (OW.call rfl (fv := .func 55 [] []) rfl rfl (ACallV.of_calls (freeOf_spec y _ (by omega)))) ?_ (fun _ _ ⟨_, _, h, _⟩ => by cases h)) (RDAll.c (RDStep.mkN (i := 6) rfl rfl rfl (OW.mapUpdate tysOk (.inr rfl) rfl rfl rfl rfl rfl rfl (by (repeat (first | exact Store.set_same _ _ _ | assumption | with_reducible rw [Store.set_ne _ _ (by omega)]))) rfl (putA_set [] x) (X := fun _ _ => False)) ?_ (fun _ _ h => False.elim h)) (RDAll.c (RDStep.mk (i := 10) rfl rfl rfl rfl (OW.alloc tysOk rfl rfl rfl rfl (X := fun _ _ => False)) ?_ (fun _ _ h => False.elim h)) RDAll.n)))
            · rintro _ _ ⟨b29, hb29, ⟨⟩, rfl⟩
              simp only [Store.set_eq_none] at hb29
              refine RD.run rfl ?_
              refine RD.many rfl (RDAll.c (RDStep.mkN (i := 6) rfl rfl rfl (OW.mapUpdate tysOk (.inr rfl) rfl rfl rfl rfl rfl rfl (by (repeat (first | exact Store.set_same _ _ _ | assumption | with_reducible rw [Store.set_ne _ _ (by omega)]))) rfl (putA_set [] x) (X := fun _ _ => False)) ?_ (fun _ _ h => False.elim h)) (RDAll.c (RDStep.mk (i := 10) rfl rfl rfl rfl (OW.alloc tysOk rfl rfl rfl rfl (X := fun _ _ => False)) ?_ (fun _ _ h => False.elim h)) RDAll.n))
              · rintro _ _ rfl
                refine RD.run rfl ?_
                refine RD.many rfl (RDAll.c (RDStep.mk (i := 10) rfl rfl rfl rfl (OW.alloc tysOk rfl rfl rfl rfl (X := fun _ _ => False)) ?_ (fun _ _ h => False.elim h)) RDAll.n)
                · rintro _ _ ⟨b8, hb8, rfl, rfl⟩
                  simp only [Store.set_eq_none] at hb8
                  refine RD.run rfl ?_
                  refine RD.oneN (i := 11) rfl rfl rfl rfl (OW.storeP tysOk rfl rfl rfl rfl rfl rfl rfl (by (repeat (first | exact Store.set_same _ _ _ | assumption | with_reducible rw [Store.set_ne _ _ (by omega)]))) rfl (X := fun _ _ => False)) ?_ (fun _ _ h => False.elim h)
                  rintro _ _ rfl
                  refine RD.run rfl (RD.done rfl ?_)
                  have hall : s b29 = none ∧ s b30 = none ∧ s b8 = none ∧ b29 ≠ b6 ∧ b30 ≠ b6 ∧ b8 ≠ b6 ∧ b29 ≠ b30 ∧ b29 ≠ b8 ∧ b30 ≠ b8 := by
                    simp only [ne_eq] at hb29 hb30 hb8
                    refine ⟨by simp_all, by simp_all, by simp_all, by omega, by omega, by omega, by omega, by omega, by omega⟩
                  refine ⟨rfl, (b29, b30, b8), hall, ⟨⟨_, rfl, AVle.refl _⟩, ⟨_, rfl, AVle.refl _⟩, ⟨_, rfl, AVle.refl _⟩, ⟨_, rfl, AVle.refl _⟩, ⟨_, rfl, AVle.refl _⟩, trivial⟩, ?_⟩
                  obtain ⟨-, -, -, n1, n2, n3, n4, n5, n6⟩ := hall
                  intro z
                  left
                  simp only [Store.set]
                  repeat' split
                  all_goals first | rfl | (simp_all; done) | (simp_all; omega)
              · rintro _ _ ⟨b8, hb8, rfl, rfl⟩
                simp only [Store.set_eq_none] at hb8
                refine RD.run rfl ?_
                refine RD.many rfl (RDAll.c (RDStep.mkN (i := 6) rfl rfl rfl (OW.mapUpdate tysOk (.inr rfl) rfl rfl rfl rfl rfl rfl (by (repeat (first | exact Store.set_same _ _ _ | assumption | with_reducible rw [Store.set_ne _ _ (by omega)]))) rfl (putA_set [] x) (X := fun _ _ => False)) ?_ (fun _ _ h => False.elim h)) RDAll.n)
                · rintro _ _ rfl
                  refine RD.run rfl ?_
                  refine RD.oneN (i := 11) rfl rfl rfl rfl (OW.storeP tysOk rfl rfl rfl rfl rfl rfl rfl (by (repeat (first | exact Store.set_same _ _ _ | assumption | with_reducible rw [Store.set_ne _ _ (by omega)]))) rfl (X := fun _ _ => False)) ?_ (fun _ _ h => False.elim h)
                  rintro _ _ rfl
                  refine RD.run rfl (RD.done rfl ?_)
                  have hall : s b29 = none ∧ s b30 = none ∧ s b8 = none ∧ b29 ≠ b6 ∧ b30 ≠ b6 ∧ b8 ≠ b6 ∧ b29 ≠ b30 ∧ b29 ≠ b8 ∧ b30 ≠ b8 := by
                    simp only [ne_eq] at hb29 hb30 hb8
                    refine ⟨by simp_all, by simp_all, by simp_all, by omega, by omega, by omega, by omega, by omega, by omega⟩
                  refine ⟨rfl, (b29, b30, b8), hall, ⟨⟨_, rfl, AVle.refl _⟩, ⟨_, rfl, AVle.refl _⟩, ⟨_, rfl, AVle.refl _⟩, ⟨_, rfl, AVle.refl _⟩, ⟨_, rfl, AVle.refl _⟩, trivial⟩, ?_⟩
                  obtain ⟨-, -, -, n1, n2, n3, n4, n5, n6⟩ := hall
                  intro z
                  left
                  simp only [Store.set]
                  repeat' split
                  all_goals first | rfl | (simp_all; done) | (simp_all; omega)
            · rintro _ _ rfl
              refine RD.run rfl ?_
              refine RD.many rfl (RDAll.c (RDStep.mk (i := 3) rfl rfl rfl rfl (OW.call rfl (fv := .func 55 [] []) rfl rfl (ACallV.of_calls (freeOf_spec y _ (by omega)))) ?_ (fun _ _ ⟨_, _, h, _⟩ => by cases h)) (RDAll.c (RDStep.mk (i := 10) rfl rfl rfl rfl (OW.alloc tysOk rfl rfl rfl rfl (X := fun _ _ => False)) ?_ (fun _ _ h => False.elim h)) RDAll.n))
              · rintro _ _ ⟨b29, hb29, ⟨⟩, rfl⟩
                simp only [Store.set_eq_none] at hb29
                refine RD.run rfl ?_
                refine RD.many rfl (RDAll.c (RDStep.mk (i := 10) rfl rfl rfl rfl (OW.alloc tysOk rfl rfl rfl rfl (X := fun _ _ => False)) ?_ (fun _ _ h => False.elim h)) RDAll.n)
                · rintro _ _ ⟨b8, hb8, rfl, rfl⟩
                  simp only [Store.set_eq_none] at hb8
                  refine RD.run rfl ?_
                  refine RD.oneN (i := 11) rfl rfl rfl rfl (OW.storeP tysOk rfl rfl rfl rfl rfl rfl rfl (by (repeat (first | exact Store.set_same _ _ _ | assumption | with_reducible rw [Store.set_ne _ _ (by omega)]))) rfl (X := fun _ _ => False)) ?_ (fun _ _ h => False.elim h)
                  rintro _ _ rfl
                  refine RD.run rfl (RD.done rfl ?_)
                  have hall : s b29 = none ∧ s b30 = none ∧ s b8 = none ∧ b29 ≠ b6 ∧ b30 ≠ b6 ∧ b8 ≠ b6 ∧ b29 ≠ b30 ∧ b29 ≠ b8 ∧ b30 ≠ b8 := by
                    simp only [ne_eq] at hb29 hb30 hb8
                    refine ⟨by simp_all, by simp_all, by simp_all, by omega, by omega, by omega, by omega, by omega, by omega⟩
                  refine ⟨rfl, (b29, b30, b8), hall, ⟨⟨_, rfl, AVle.refl _⟩, ⟨_, rfl, AVle.refl _⟩, ⟨_, rfl, AVle.refl _⟩, ⟨_, rfl, AVle.refl _⟩, ⟨_, rfl, AVle.refl _⟩, trivial⟩, ?_⟩
                  obtain ⟨-, -, -, n1, n2, n3, n4, n5, n6⟩ := hall
                  intro z
                  left
                  simp only [Store.set]
                  repeat' split
                  all_goals first | rfl | (simp_all; done) | (simp_all; omega)
              · rintro _ _ ⟨b8, hb8, rfl, rfl⟩
                simp only [Store.set_eq_none] at hb8
                refine RD.run rfl ?_
                refine RD.many rfl (RDAll.c (RDStep.mk (i := 3) rfl rfl rfl rfl (OW.call rfl (fv := .func 55 [] []) rfl rfl (ACallV.of_calls (freeOf_spec y _ (by omega)))) ?_ (fun _ _ ⟨_, _, h, _⟩ => by cases h)) RDAll.n)
                · rintro _ _ ⟨b29, hb29, ⟨⟩, rfl⟩
                  simp only [Store.set_eq_none] at hb29
                  refine RD.run rfl ?_
                  refine RD.oneN (i := 11) rfl rfl rfl rfl (OW.storeP tysOk rfl rfl rfl rfl rfl rfl rfl (by (repeat (first | exact Store.set_same _ _ _ | assumption | with_reducible rw [Store.set_ne _ _ (by omega)]))) rfl (X := fun _ _ => False)) ?_ (fun _ _ h => False.elim h)
                  rintro _ _ rfl
                  refine RD.run rfl (RD.done rfl ?_)
                  have hall : s b29 = none ∧ s b30 = none ∧ s b8 = none ∧ b29 ≠ b6 ∧ b30 ≠ b6 ∧ b8 ≠ b6 ∧ b29 ≠ b30 ∧ b29 ≠ b8 ∧ b30 ≠ b8 := by
                    simp only [ne_eq] at hb29 hb30 hb8
                    refine ⟨by simp_all, by simp_all, by simp_all, by omega, by omega, by omega, by omega, by omega, by omega⟩
                  refine ⟨rfl, (b29, b30, b8), hall, ⟨⟨_, rfl, AVle.refl _⟩, ⟨_, rfl, AVle.refl _⟩, ⟨_, rfl, AVle.refl _⟩, ⟨_, rfl, AVle.refl _⟩, ⟨_, rfl, AVle.refl _⟩, trivial⟩, ?_⟩
                  obtain ⟨-, -, -, n1, n2, n3, n4, n5, n6⟩ := hall
                  intro z
                  left
                  simp only [Store.set]
                  repeat' split
                  all_goals first | rfl | (simp_all; done) | (simp_all; omega)
            · rintro _ _ ⟨b8, hb8, rfl, rfl⟩
              simp only [Store.set_eq_none] at hb8
              refine RD.run rfl ?_
              refine RD.many rfl (RDAll.c (RDStep.mk (i := 3) rfl rfl rfl rfl (OW.call rfl (fv := .func 55 [] []) rfl rfl (ACallV.of_calls (freeOf_spec y _ (by omega)))) ?_ (fun _ _ ⟨_, _, h, _⟩ => by cases h)) (RDAll.c (RDStep.mkN (i := 6) rfl rfl rfl (OW.mapUpdate tysOk (.inr rfl) rfl rfl rfl rfl rfl rfl (by (repeat (first | exact Store.set_same _ _ _ | assumption | with_reducible rw [Store.set_ne _ _ (by omega)]))) rfl (putA_set [] x) (X := fun _ _ => False)) ?_ (fun _ _ h => False.elim h)) RDAll.n))
              · rintro _ _ ⟨b29, hb29, ⟨⟩, rfl⟩
                simp only [Store.set_eq_none] at hb29
                refine RD.run rfl ?_
                refine RD.many rfl (RDAll.c (RDStep.mkN (i := 6) rfl rfl rfl (OW.mapUpdate tysOk (.inr rfl) rfl rfl rfl rfl rfl rfl (by (repeat (first | exact Store.set_same _ _ _ | assumption | with_reducible rw [Store.set_ne _ _ (by omega)]))) rfl (putA_set [] x) (X := fun _ _ => False)) ?_ (fun _ _ h => False.elim h)) RDAll.n)
                · rintro _ _ rfl
                  refine RD.run rfl ?_
                  refine RD.oneN (i := 11) rfl rfl rfl rfl (OW.storeP tysOk rfl rfl rfl rfl rfl rfl rfl (by (repeat (first | exact Store.set_same _ _ _ | assumption | with_reducible rw [Store.set_ne _ _ (by omega)]))) rfl (X := fun _ _ => False)) ?_ (fun _ _ h => False.elim h)
                  rintro _ _ rfl
                  refine RD.run rfl (RD.done rfl ?_)
                  have hall : s b29 = none ∧ s b30 = none ∧ s b8 = none ∧ b29 ≠ b6 ∧ b30 ≠ b6 ∧ b8 ≠ b6 ∧ b29 ≠ b30 ∧ b29 ≠ b8 ∧ b30 ≠ b8 := by
                    simp only [ne_eq] at hb29 hb30 hb8
                    refine ⟨by simp_all, by simp_all, by simp_all, by omega, by omega, by omega, by omega, by omega, by omega⟩
                  refine ⟨rfl, (b29, b30, b8), hall, ⟨⟨_, rfl, AVle.refl _⟩, ⟨_, rfl, AVle.refl _⟩, ⟨_, rfl, AVle.refl _⟩, ⟨_, rfl, AVle.refl _⟩, ⟨_, rfl, AVle.refl _⟩, trivial⟩, ?_⟩
                  obtain ⟨-, -, -, n1, n2, n3, n4, n5, n6⟩ := hall
                  intro z
                  left
                  simp only [Store.set]
                  repeat' split
                  all_goals first | rfl | (simp_all; done) | (simp_all; omega)
              · rintro _ _ rfl
                refine RD.run rfl ?_
                refine RD.many rfl (RDAll.c (RDStep.mk (i := 3) rfl rfl rfl rfl (OW.call rfl (fv := .func 55 [] []) rfl rfl (ACallV.of_calls (freeOf_spec y _ (by omega)))) ?_ (fun _ _ ⟨_, _, h, _⟩ => by cases h)) RDAll.n)
                · rintro _ _ ⟨b29, hb29, ⟨⟩, rfl⟩
                  simp only [Store.set_eq_none] at hb29
                  refine RD.run rfl ?_
                  refine RD.oneN (i := 11) rfl rfl rfl rfl (OW.storeP tysOk rfl rfl rfl rfl rfl rfl rfl (by (repeat (first | exact Store.set_same _ _ _ | assumption | with_reducible rw [Store.set_ne _ _ (by omega)]))) rfl (X := fun _ _ => False)) ?_ (fun _ _ h => False.elim h)
                  rintro _ _ rfl
                  refine RD.run rfl (RD.done rfl ?_)
                  have hall : s b29 = none ∧ s b30 = none ∧ s b8 = none ∧ b29 ≠ b6 ∧ b30 ≠ b6 ∧ b8 ≠ b6 ∧ b29 ≠ b30 ∧ b29 ≠ b8 ∧ b30 ≠ b8 := by
                    simp only [ne_eq] at hb29 hb30 hb8
                    refine ⟨by simp_all, by simp_all, by simp_all, by omega, by omega, by omega, by omega, by omega, by omega⟩
                  refine ⟨rfl, (b29, b30, b8), hall, ⟨⟨_, rfl, AVle.refl _⟩, ⟨_, rfl, AVle.refl _⟩, ⟨_, rfl, AVle.refl _⟩, ⟨_, rfl, AVle.refl _⟩, ⟨_, rfl, AVle.refl _⟩, trivial⟩, ?_⟩
                  obtain ⟨-, -, -, n1, n2, n3, n4, n5, n6⟩ := hall
                  intro z
                  left
                  simp only [Store.set]
                  repeat' split
                  all_goals first | rfl | (simp_all; done) | (simp_all; omega)
          · rintro _ _ ⟨b8, hb8, rfl, rfl⟩
            simp only [Store.set_eq_none] at hb8
            refine RD.run rfl ?_
            refine RD.many rfl (RDAll.c (RDStep.mk (i := 3) rfl rfl rfl rfl (OW.call rfl (fv := .func 55 [] []) rfl rfl (ACallV.of_calls (freeOf_spec y _ (by omega)))) ?_ (fun _ _ ⟨_, _, h, _⟩ => by cases h)) (RDAll.c (RDStep.mk (i := 4) rfl rfl rfl rfl (OW.makeMap rfl (X := fun _ _ => False)) ?_ (fun _ _ h => False.elim h)) RDAll.n))
            · rintro _ _ ⟨b29, hb29, ⟨⟩, rfl⟩
              simp only [Store.set_eq_none] at hb29
              refine RD.run rfl ?_
              refine RD.many rfl (RDAll.c (RDStep.mk (i := 4) rfl rfl rfl rfl (OW.makeMap rfl (X := fun _ _ => False)) ?_ (fun _ _ h => False.elim h)) RDAll.n)
              · rintro _ _ ⟨b30, hb30, rfl, rfl⟩
                simp only [Store.set_eq_none] at hb30
                refine RD.run rfl ?_
                refine RD.many rfl (RDAll.c (RDStep.mkN (i := 6) rfl rfl rfl (OW.mapUpdate tysOk (.inr rfl) rfl rfl rfl rfl rfl rfl (by (repeat (first | exact Store.set_same _ _ _ | assumption | with_reducible rw [Store.set_ne _ _ (by omega)]))) rfl (putA_set [] x) (X := fun _ _ => False)) ?_ (fun _ _ h => False.elim h)) RDAll.n)
                · rintro _ _ rfl
                  refine RD.run rfl ?_
                  refine RD.oneN (i := 11) rfl rfl rfl rfl (OW.storeP tysOk rfl rfl rfl rfl rfl rfl rfl (by (repeat (first | exact Store.set_same _ _ _ | assumption | with_reducible rw [Store.set_ne _ _ (by omega)]))) rfl (X := fun _ _ => False)) ?_ (fun _ _ h => False.elim h)
                  rintro _ _ rfl
                  refine RD.run rfl (RD.done rfl ?_)
                  have hall : s b29 = none ∧ s b30 = none ∧ s b8 = none ∧ b29 ≠ b6 ∧ b30 ≠ b6 ∧ b8 ≠ b6 ∧ b29 ≠ b30 ∧ b29 ≠ b8 ∧ b30 ≠ b8 := by
                    simp only [ne_eq] at hb29 hb30 hb8
                    refine ⟨by simp_all, by simp_all, by simp_all, by omega, by omega, by omega, by omega, by omega, by omega⟩
                  refine ⟨rfl, (b29, b30, b8), hall, ⟨⟨_, rfl, AVle.refl _⟩, ⟨_, rfl, AVle.refl _⟩, ⟨_, rfl, AVle.refl _⟩, ⟨_, rfl, AVle.refl _⟩, ⟨_, rfl, AVle.refl _⟩, trivial⟩, ?_⟩
                  obtain ⟨-, -, -, n1, n2, n3, n4, n5, n6⟩ := hall
                  intro z
                  left
                  simp only [Store.set]
                  repeat' split
                  all_goals first | rfl | (simp_all; done) | (simp_all; omega)
            · rintro _ _ ⟨b30, hb30, rfl, rfl⟩
              simp only [Store.set_eq_none] at hb30
              refine RD.run rfl ?_
              refine RD.many rfl (RDAll.c (RDStep.mk (i := 3) rfl rfl rfl rfl (OW.call rfl (fv := .func 55 [] []) rfl rfl (ACallV.of_calls (freeOf_spec y _ (by omega)))) ?_ (fun _ _ ⟨_, _, h, _⟩ => by cases h)) (RDAll.c (RDStep.mkN (i := 6) rfl rfl rfl (OW.mapUpdate tysOk (.inr rfl) rfl rfl rfl rfl rfl rfl (by (repeat (first | exact Store.set_same _ _ _ | assumption | with_reducible rw [Store.set_ne _ _ (by omega)]))) rfl (putA_set [] x) (X := fun _ _ => False)) ?_ (fun _ _ h => False.elim h)) RDAll.n))
              · rintro _ _ ⟨b29, hb29, ⟨⟩, rfl⟩
                simp only [Store.set_eq_none] at hb29
                refine RD.run rfl ?_
                refine RD.many rfl (RDAll.c (RDStep.mkN (i := 6) rfl rfl rfl (OW.mapUpdate tysOk (.inr rfl) rfl rfl rfl rfl rfl rfl (by (repeat (first | exact Store.set_same _ _ _ | assumption | with_reducible rw [Store.set_ne _ _ (by omega)]))) rfl (putA_set [] x) (X := fun _ _ => False)) ?_ (fun _ _ h => False.elim h)) RDAll.n)
                · rintro _ _ rfl
                  refine RD.run rfl ?_
                  refine RD.oneN (i := 11) rfl rfl rfl rfl (OW.storeP tysOk rfl rfl rfl rfl rfl rfl rfl (by (repeat (first | exact Store.set_same _ _ _ | assumption | with_reducible rw [Store.set_ne _ _ (by omega)]))) rfl (X := fun _ _ => False)) ?_ (fun _ _ h => False.elim h)
                  rintro _ _ rfl
                  refine RD.run rfl (RD.done rfl ?_)
                  have hall : s b29 = none ∧ s b30 = none ∧ s b8 = none ∧ b29 ≠ b6 ∧ b30 ≠ b6 ∧ b8 ≠ b6 ∧ b29 ≠ b30 ∧ b29 ≠ b8 ∧ b30 ≠ b8 := by
                    simp only [ne_eq] at hb29 hb30 hb8
                    refine ⟨by simp_all, by simp_all, by simp_all, by omega, by omega, by omega, by omega, by omega, by omega⟩
                  refine ⟨rfl, (b29, b30, b8), hall, ⟨⟨_, rfl, AVle.refl _⟩, ⟨_, rfl, AVle.refl _⟩, ⟨_, rfl, AVle.refl _⟩, ⟨_, rfl, AVle.refl _⟩, ⟨_, rfl, AVle.refl _⟩, trivial⟩, ?_⟩
                  obtain ⟨-, -, -, n1, n2, n3, n4, n5, n6⟩ := hall
                  intro z
                  left
                  simp only [Store.set]
                  repeat' split
                  all_goals first | rfl | (simp_all; done) | (simp_all; omega)
              · rintro _ _ rfl
                refine RD.run rfl ?_
                refine RD.many rfl (RDAll.c (RDStep.mk (i := 3) rfl rfl rfl rfl (OW.call rfl (fv := .func 55 [] []) rfl rfl (ACallV.of_calls (freeOf_spec y _ (by omega)))) ?_ (fun _ _ ⟨_, _, h, _⟩ => by cases h)) RDAll.n)
                · rintro _ _ ⟨b29, hb29, ⟨⟩, rfl⟩
                  simp only [Store.set_eq_none] at hb29
                  refine RD.run rfl ?_
                  refine RD.oneN (i := 11) rfl rfl rfl rfl (OW.storeP tysOk rfl rfl rfl rfl rfl rfl rfl (by (repeat (first | exact Store.set_same _ _ _ | assumption | with_reducible rw [Store.set_ne _ _ (by omega)]))) rfl (X := fun _ _ => False)) ?_ (fun _ _ h => False.elim h)
                  rintro _ _ rfl
                  refine RD.run rfl (RD.done rfl ?_)
                  have hall : s b29 = none ∧ s b30 = none ∧ s b8 = none ∧ b29 ≠ b6 ∧ b30 ≠ b6 ∧ b8 ≠ b6 ∧ b29 ≠ b30 ∧ b29 ≠ b8 ∧ b30 ≠ b8 := by
                    simp only [ne_eq] at hb29 hb30 hb8
                    refine ⟨by simp_all, by simp_all, by simp_all, by omega, by omega, by omega, by omega, by omega, by omega⟩
                  refine ⟨rfl, (b29, b30, b8), hall, ⟨⟨_, rfl, AVle.refl _⟩, ⟨_, rfl, AVle.refl _⟩, ⟨_, rfl, AVle.refl _⟩, ⟨_, rfl, AVle.refl _⟩, ⟨_, rfl, AVle.refl _⟩, trivial⟩, ?_⟩
                  obtain ⟨-, -, -, n1, n2, n3, n4, n5, n6⟩ := hall
                  intro z
                  left
                  simp only [Store.set]
                  repeat' split
                  all_goals first | rfl | (simp_all; done) | (simp_all; omega)
        rintro ⟨fb, tb, b8⟩ ⟨q1, q2, q3, q4, q5, q6, q7, q8, q9⟩
        simp only at q1 q2 q3 q4 q5 q6 q7 q8 q9 ⊢
        refine CW.freeze 8 b8 rfl (Store.set_same _ _ _) ?_
        rw [Store.del_set _ _ _ (by simp only [Store.set_eq_none]; exact ⟨q9.symm, q8.symm, q6, q3⟩)]
        have hfl := frees_length y
        refine CW.seqCutX (σ := Nat × Option (AV × AV) × List Str) (fun _ => [(1, .str x), (3, .fptr e.cells 0), (5, .fptr y.cells 0), (6, .ptr b6 0), (8, .fptr [.fptr (putterCells x y fb tb) 0] 0)])
          (fun q => ((((s.set b6 box0).set tb (.map (setA q.2.2))).set fb (.ranged (setA y.frees) q.1 [] q.2.1)).set q.1 (.tick fb))) (fun q => s q.1 = none ∧ q.1 ≠ b6 ∧ q.1 ≠ fb ∧ q.1 ≠ tb ∧ (∀ z, z ∈ q.2.2 ↔ z = x ∨ z ∈ y.frees) ∧ q.2.2.length ≤ 1 + y.frees.length) ?_ ?_
        · repeat (first | with_reducible refine CW.seq ?_ | refine CW.reg ?_ | refine RL.step tysOk rfl rfl rfl rfl ?_)
          refine RL.op rfl rfl rfl (OW.rangeM tysOk rfl rfl rfl rfl (by (repeat (first | exact Store.set_same _ _ _ | assumption | with_reducible rw [Store.set_ne _ _ (by omega)]))) (X := fun _ _ => False)) ?_ (fun _ _ h => False.elim h)
          rintro _ _ ⟨it, hit, hne, rfl, rfl⟩
          simp only [Store.set_eq_none] at hit
          obtain ⟨r1, r2, r3, r4⟩ := hit
          repeat (first | with_reducible refine andThen_normal ?_ | with_reducible refine CW.block ?_ | refine RL.nil ?_)
          refine CW.loop (σ := List Str × Option (AV × AV) × List Str) (fun _ => [(1, .str x), (3, .fptr e.cells 0), (5, .fptr y.cells 0), (6, .ptr b6 0), (8, .fptr [.fptr (putterCells x y fb tb) 0] 0), (39, .ptr it 0)])
            (fun q => ((((s.set b6 box0).set tb (.map (setA q.2.2))).set fb (.ranged (setA y.frees) it (setA q.1) q.2.1)).set it (.tick fb))) (fun q => (∀ z, (z ∈ q.2.2 ∨ z ∈ q.1) ↔ z = x ∨ z ∈ y.frees) ∧ q.2.2.length + q.1.length ≤ 1 + y.frees.length) (fun q => q.1.length)
            (y.frees, none, [x]) ⟨fun z => by simp, by simp <;> omega⟩ ?_ (fun z => by simp only [Store.set, Store.del]; (repeat' split) <;> first | (exact .inl rfl) | (exfalso; omega) | (right; simp_all; done)) ?_
          · exact ⟨⟨_, rfl, AVle.refl _⟩, ⟨_, rfl, AVle.refl _⟩, ⟨_, rfl, AVle.refl _⟩, ⟨_, rfl, AVle.refl _⟩, ⟨_, rfl, AVle.refl _⟩, ⟨_, rfl, AVle.refl _⟩, trivial⟩
          · rintro ⟨lf, cur, tk⟩ ⟨hm, hl⟩
            simp only at hm hl
            repeat (first | with_reducible refine CW.seq ?_ | refine CW.reg ?_)
            refine RL.op rfl rfl rfl (OW.nextM (m := fb) (i := it) rfl rfl (by (repeat (first | exact Store.set_same _ _ _ | assumption | with_reducible rw [Store.set_ne _ _ (by omega)]))) (by (repeat (first | exact Store.set_same _ _ _ | assumption | with_reducible rw [Store.set_ne _ _ (by omega)]))) (X := fun _ _ => False)) ?_ (fun _ _ h => False.elim h)
            rintro _ _ (⟨hlf, rfl, rfl⟩ | ⟨l₁, k, v, l₂, hlf, rfl, rfl⟩)
            · obtain rfl : lf = [] := by cases lf <;> simp_all [setA]
              repeat (first | with_reducible refine CW.seq ?_ | with_reducible refine andThen_normal ?_ | with_reducible refine andThen_exit ?_ | with_reducible refine inBlock_here ?_ | with_reducible refine CW.exit ?_ | refine RL.nil ?_ | refine CW.condF rfl ?_ | refine RL.step tysOk rfl rfl rfl rfl ?_)
              exact ⟨rfl, (it, cur, tk), ⟨r4, r3, hne, r1, by simpa using hm, by simpa using hl⟩, ⟨⟨_, rfl, AVle.refl _⟩, ⟨_, rfl, AVle.refl _⟩, ⟨_, rfl, AVle.refl _⟩, ⟨_, rfl, AVle.refl _⟩, ⟨_, rfl, AVle.refl _⟩, trivial⟩, Store.sub_refl _⟩
            · obtain ⟨a, w, b, rfl, rfl, rfl, rfl, rfl⟩ := setA_split hlf
              repeat (first | with_reducible refine CW.seq ?_ | with_reducible refine andThen_normal ?_ | with_reducible refine CW.skip ?_ | with_reducible refine CW.block ?_ | refine CW.reg ?_ | refine RL.nil ?_ | refine CW.condT rfl ?_ | refine RL.step tysOk rfl rfl rfl rfl ?_)
              refine RL.op rfl rfl rfl (OW.entryM (m := fb) (i := it) rfl rfl (by (repeat (first | exact Store.set_same _ _ _ | assumption | with_reducible rw [Store.set_ne _ _ (by omega)]))) (X := fun _ _ => False)) ?_ (fun _ _ h => False.elim h)
              rintro _ _ ⟨rfl, rfl⟩
              repeat (first | with_reducible refine andThen_normal ?_ | refine CW.reg ?_ | refine RL.nil ?_ | refine RL.step tysOk rfl rfl rfl rfl ?_)
              refine RL.mapUpdate tysOk rfl rfl (.inl rfl) rfl rfl rfl rfl rfl rfl (by (repeat (first | exact Store.set_same _ _ _ | assumption | with_reducible rw [Store.set_ne _ _ (by omega)]))) rfl (putA_set tk w) ?_
              repeat (first | with_reducible refine andThen_normal ?_ | with_reducible refine inBlock_normal ?_ | refine RL.nil ?_)
              refine ⟨(a ++ b, some (.str w, .bool true), insS tk w), ⟨fun z => ?_, ?_⟩, ⟨⟨_, rfl, AVle.refl _⟩, ⟨_, rfl, AVle.refl _⟩, ⟨_, rfl, AVle.refl _⟩, ⟨_, rfl, AVle.refl _⟩, ⟨_, rfl, AVle.refl _⟩, ⟨_, rfl, AVle.refl _⟩, trivial⟩, ?_, by simp <;> omega⟩
              · rw [← hm z]; simp only [mem_insS, List.mem_append, List.mem_cons]
                constructor
                · rintro ((h | h) | (h | h)) <;> simp [h]
                · rintro (h | (h | (h | h))) <;> simp [h]
              · have : (insS tk w).length ≤ tk.length + 1 := by unfold insS; split <;> simp
                simp at hl ⊢; omega
              · rw [setA_append]
                exact (fun z => by simp only [Store.set, Store.del]; (repeat' split) <;> first | (exact .inl rfl) | (exfalso; omega) | (right; simp_all; done))
        rintro ⟨it, cur, tk⟩ ⟨r1, r2, r3, r4, hm, hl⟩
        simp only at r1 r2 r3 r4 hm hl ⊢
        refine CW.unrange fb (i := it) (by (repeat (first | exact Store.set_same _ _ _ | assumption | with_reducible rw [Store.set_ne _ _ (by omega)]))) ?_
        refine CW.drop (((s.set b6 box0).set fb (.map (setA y.frees))).set tb (.map (setA tk))) (fun z => by simp only [Store.set, Store.del]; (repeat' split) <;> first | (exact .inl rfl) | (exfalso; omega) | (right; simp_all; done)) ?_
        repeat (first | with_reducible refine CW.seq ?_ | refine CW.reg ?_ | refine RL.step tysOk rfl rfl rfl rfl ?_)
        refine RL.callP rfl rfl rfl rfl rfl (all_spec e _) ?_
        repeat (first | with_reducible refine andThen_normal ?_ | with_reducible refine CW.block ?_ | refine RL.nil ?_)
        refine CW.rangeAll e rfl rfl he.size (fun rem s₁ => ∃ tk, s₁ = (((s.set b6 box0).set fb (.map (setA y.frees))).set tb (.map (setA tk))) ∧ (∀ z, (z ∈ tk ∨ z ∈ textsOf rem) ↔ z ∈ taken0 e x y) ∧ tk.length + rem.length ≤ 1 + y.frees.length + e.size)
          (fun _ _ => False) (fun _ _ => False) ⟨tk, rfl, fun z => ?_, by rw [allE_length]; omega⟩ ?_ ?_ (fun _ _ h => h.elim) (fun _ _ h => h.elim)
        · rw [hm z]; simp [taken0, or_assoc]
        · rintro g rem s₁ hg ⟨tk, rfl, hm, hl⟩
          repeat (first | refine CW.reg ?_)
          refine RL.newBox tysOk rfl rfl rfl rfl rfl rfl rfl (fun _ => rfl) rfl rfl (fun _ => rfl) rfl rfl rfl rfl ?_
          repeat (first | with_reducible refine CW.seq ?_ | with_reducible refine andThen_normal ?_ | with_reducible refine CW.block ?_ | refine CW.reg ?_ | refine RL.nil ?_ | refine RL.step tysOk rfl rfl rfl rfl ?_)
          refine RL.cut 4 [(8, .fptr [.fptr (putterCells x y fb tb) 0] 0), (10, .fptr g.cells 0), (59, .bool (g.op == 3 || g.op == 9))] ?_ ?_
          · repeat' (first | refine RL.nil ?_ | refine RL.step tysOk rfl rfl rfl rfl ?_ | refine RL.skip rfl rfl rfl ?_ | refine RL.gstepF tysOk rfl rfl rfl rfl rfl rfl rfl (fun _ => ?_) (fun _ => ?_))
            all_goals refine ⟨rfl, ⟨⟨_, rfl, AVle.refl _⟩, ⟨_, rfl, AVle.refl _⟩, ⟨_, rfl, AVle.of_eq ?_⟩, trivial⟩, rfl⟩
            all_goals simp_all
          cases hc : g.op == 3 || g.op == 9 with
          | true =>
            repeat (first | with_reducible refine andThen_normal ?_ | refine RL.nil ?_ | refine CW.condT rfl ?_)
            refine CW.drw tysOk mixed rfl (RD.run rfl ?_)
            refine RD.oneN (i := 6) rfl rfl rfl rfl (OW.mapUpdate tysOk (.inl rfl) rfl rfl rfl rfl rfl rfl (Store.set_same _ _ _) rfl (putA_set tk g.text) (X := fun _ _ => False)) ?_ (fun _ _ h => False.elim h)
            rintro _ _ rfl
            refine RD.run rfl (RD.done rfl ?_)
            repeat (first | with_reducible refine inBlock_normal ?_)
            refine ⟨insS tk g.text, by rw [Store.set_set], fun z => ?_, ?_⟩
            · rw [← hm z]
              simp only [mem_insS, textsOf, List.filter_cons, hc, if_true, List.map_cons, List.mem_cons]
              constructor
              · rintro ((h | h) | h) <;> simp [h]
              · rintro (h | (h | h)) <;> simp [h]
            · have : (insS tk g.text).length ≤ tk.length + 1 := by unfold insS; split <;> simp
              simp at hl; omega
          | false =>
            repeat (first | with_reducible refine andThen_normal ?_ | with_reducible refine inBlock_normal ?_ | with_reducible refine CW.skip ?_ | refine RL.nil ?_ | refine CW.condF rfl ?_)
            refine ⟨tk, rfl, fun z => ?_, by simp at hl; omega⟩
            rw [← hm z]
            simp only [textsOf, List.filter_cons, hc]
            simp
        · rintro s₁ ⟨tk, rfl, hm, hl⟩
          have halike : Alike tk (taken0 e x y) := fun z => by
            rw [Bool.eq_iff_iff]
            have := hm z
            simp only [textsOf, List.filter_nil, List.map_nil, List.not_mem_nil, or_false] at this
            simpa using this
          have hput := (put_congr x y y.frees e [] true tk (taken0 e x y) halike).1
          have hfair : (FExp.put x y y.frees [] true tk e).1.Fair := by
            refine Fair.of ?_ (put_texts (fun t ht => by omega) (Fair.texts hy) e [] true tk (Fair.texts he) (by simp))
            have h4 := put_size x y y.frees e [] true tk
            have : e.size * y.size ≤ 120 * 120 := Nat.mul_le_mul hse hsy
            omega
          repeat (first | with_reducible refine CW.seq ?_ | with_reducible refine andThen_normal ?_ | with_reducible refine inBlock_normal ?_ | refine CW.reg ?_ | refine RL.step tysOk rfl rfl rfl rfl ?_)
          refine RL.call rfl rfl rfl rfl rfl (put_spec x y fb tb y.frees (by omega) q7 _ e [] true tk _ (Nat.le_refl _) (by omega) (goodB_lets h1) (by simp at hl; omega) (by (repeat (first | exact Store.set_same _ _ _ | assumption | with_reducible rw [Store.set_ne _ _ (by omega)]))) (Store.set_same _ _ _)) ?_ (fun _ _ ⟨h, _⟩ => by cases h)
          rintro _ _ ⟨⟨⟩, rfl⟩
          rw [Store.set_set]
          generalize hout : (FExp.put x y y.frees [] true tk e) = pr at hput hfair ⊢
          obtain ⟨out, tk'⟩ := pr
          simp only at hput hfair ⊢
          refine RL.newBox tysOk rfl rfl rfl rfl rfl rfl rfl (fun _ => rfl) rfl rfl (fun _ => rfl) rfl rfl rfl rfl ?_
          repeat (first | with_reducible refine CW.seq ?_ | with_reducible refine andThen_normal ?_ | refine CW.reg ?_ | refine RL.nil ?_ | refine RL.step tysOk rfl rfl rfl rfl ?_)
          have hgo := good_spec out (((s.set b6 box0).set fb (.map (setA y.frees))).set tb (.map (setA tk'))) hfair
          cases h4 : goodB out with
          | true =>
            rw [h4] at hgo
            refine RL.callP rfl rfl rfl rfl rfl hgo ?_
            repeat (first | with_reducible refine CW.seq ?_ | with_reducible refine andThen_normal ?_ | with_reducible refine CW.skip ?_ | refine CW.reg ?_ | refine RL.nil ?_ | refine CW.condF rfl ?_ | refine RL.step tysOk rfl rfl rfl rfl ?_)
            refine RL.storeP tysOk rfl rfl rfl rfl rfl rfl rfl rfl rfl (by (repeat (first | exact Store.set_same _ _ _ | assumption | with_reducible rw [Store.set_ne _ _ (by omega)]))) rfl ?_
            repeat (first | with_reducible refine andThen_normal ?_ | with_reducible refine CW.ret ?_ | refine RL.nil ?_ | refine RL.step tysOk rfl rfl rfl rfl ?_)
            refine ⟨_, .tup [out.av, .int .i64 0], s, resA_cellT rfl rfl (Store.set_same _ _ _) rfl rfl, AVle.refl _, Store.subSet (Store.subSet (Store.subSet (Store.subSet (Store.sub_refl _) hb6) q1) q2) hb6, ?_, rfl⟩
            simp only [putR, h1, h2, h3, ← hput, h4]; rfl
          | false =>
            rw [h4] at hgo
            refine RL.callP rfl rfl rfl rfl rfl hgo ?_
            repeat (first | with_reducible refine CW.seq ?_ | with_reducible refine andThen_normal ?_ | refine CW.reg ?_ | refine RL.nil ?_ | refine CW.condT rfl ?_ | refine RL.step tysOk rfl rfl rfl rfl ?_)
            refine RL.storeP tysOk rfl rfl rfl rfl rfl rfl rfl rfl rfl (by (repeat (first | exact Store.set_same _ _ _ | assumption | with_reducible rw [Store.set_ne _ _ (by omega)]))) rfl ?_
            repeat (first | with_reducible refine andThen_normal ?_ | with_reducible refine andThen_ret ?_ | with_reducible refine CW.ret ?_ | refine RL.nil ?_ | refine RL.step tysOk rfl rfl rfl rfl ?_)
            refine ⟨_, .tup [zeroE.av, .int .i64 3], s, resA_cellT rfl rfl (Store.set_same _ _ _) rfl rfl, AVle.tup (.cons zero_le (.one (AVle.refl _))), Store.subSet (Store.subSet (Store.subSet (Store.subSet (Store.sub_refl _) hb6) q1) q2) hb6, ?_, rfl⟩
            simp only [putR, h1, h2, h3, ← hput, h4]; rfl
end Go.Proofs.Ytaafacnoddjhgaa

/- The layer's data: classes, methods, programs; which classes are formed, as the layer 'shape' looks at them. -/
namespace Go.Proofs.Ytaafacnoddjhgaa
open Go.AE

structure FInit where
  slot : Str
  n : Int
structure FClass where
  name : Str
  parents : List Str
  slots : List Str
  inits : List FInit
structure FMethod where
  kind : Int
  name : Str
  params : List Str
  fact : FFact
  body : FExp
structure FProg where
  classes : List FClass
  methods : List FMethod
  main : FExp

def FInit.cells (x : FInit) : List AV := [.str x.slot, .int .i64 x.n]
def FInit.av (x : FInit) : AV := .agg x.cells
def FClass.cells (c : FClass) : List AV := [.str c.name, .slc 1 (strs c.parents) .fro, .slc 1 (strs c.slots) .fro, .slc 2 (c.inits.map FInit.av) .fro]
def FClass.av (c : FClass) : AV := .agg c.cells
def FMethod.cells (m : FMethod) : List AV := [.int .i64 m.kind, .str m.name, .slc 1 (strs m.params) .fro] ++ m.fact.cells ++ m.body.cells
def FMethod.av (m : FMethod) : AV := .agg m.cells
def FProg.cells (p : FProg) : List AV := [.slc 4 (p.classes.map FClass.av) .fro, .slc 13 (p.methods.map FMethod.av) .fro] ++ p.main.cells
def FProg.av (p : FProg) : AV := .agg p.cells

/-- Each element is as a function says that knows those ahead of it. -/
def allPre {α : Type} (f : List α → α → Bool) : List α → List α → Bool
  | _, [] => true
  | pre, x :: r => f pre x && allPre f (pre ++ [x]) r

/-- What is known of the classes that were looked at. -/
structure CSt where
  names : List Str
  slots : List Str
  has : List (List Str)

def CSt.slotsOf (st : CSt) (s : Str) : List Str := match st.names.findIdx? (· == s) with
  | some i => st.has.getD i []
  | none => []
/-- The slots of a class. -/
def CSt.mine (st : CSt) (c : FClass) : List Str := c.parents.flatMap st.slotsOf ++ c.slots
def okParent (names pre : List Str) (s : Str) : Bool := names.contains s && (nameS s && !pre.contains s)
def okSlot (slots pre : List Str) (s : Str) : Bool := nameS s && !(slots ++ pre).contains s
def okInit (mine : List Str) (pre : List FInit) (x : FInit) : Bool := (mine.contains x.slot && between x.n) && (nameS x.slot && !(pre.map FInit.slot).contains x.slot)
def classOk (st : CSt) (c : FClass) : Bool :=
  (decide (c.parents.length ≤ 3) && decide (c.slots.length ≤ 4)) && (allPre (okParent st.names) [] c.parents && (allPre (okSlot st.slots) [] c.slots && (allPre (okInit (st.mine c)) [] c.inits && (nameS c.name && !st.names.contains c.name))))
def CSt.next (st : CSt) (c : FClass) : CSt := ⟨st.names ++ [c.name], st.slots ++ c.slots, st.has ++ [st.mine c]⟩
def clsRest : CSt → List FClass → Option CSt
  | st, [] => some st
  | st, c :: r => if classOk st c then clsRest (st.next c) r else none
def CSt.zero : CSt := ⟨[], [], []⟩
/-- Are the classes formed? -/
def clsAll (l : List FClass) : Option CSt := if l.length ≤ 10 then clsRest .zero l else none

/-- The numbers of classes, by their names. -/
def classA (names : List Str) : List (AV × AV) := names.zipIdx.map fun x => (.str x.1, .int .i64 (x.2 : Nat))

theorem getA_classFrom (s : Str) : ∀ (l : List Str) (k : Nat), getA ((l.zipIdx k).map fun x => (AV.str x.1, AV.int .i64 (x.2 : Nat))) (.str s) = some ((l.findIdx? (· == s)).map fun i => AV.int .i64 ((k + i : Nat) : Int))
  | [], k => rfl
  | x :: l, k => by
    simp only [List.zipIdx_cons, List.map_cons, getA, keyEq, List.findIdx?_cons]
    cases h : s == x with
    | true =>
      have : (x == s) = true := by rw [BEq.comm]; exact h
      rw [this]; rfl
    | false =>
      have : (x == s) = false := by rw [BEq.comm]; exact h
      rw [this]
      simp only [getA_classFrom s l (k + 1), Bool.false_eq_true, if_false]
      cases l.findIdx? (· == s) <;> simp [Nat.add_assoc, Nat.add_comm 1]

theorem getA_class (names : List Str) (s : Str) : getA (classA names) (.str s) = some ((names.findIdx? (· == s)).map fun i => AV.int .i64 ((i : Nat) : Int)) := by
  have := getA_classFrom s names 0
  simpa [classA] using this

theorem putA_classFrom (s : Str) (n : Nat) : ∀ (l : List Str) (k : Nat), l.contains s = false → k + l.length = n →
    putA ((l.zipIdx k).map fun x => (AV.str x.1, AV.int .i64 (x.2 : Nat))) (.str s) (.int .i64 (n : Nat)) = some (((l ++ [s]).zipIdx k).map fun x => (AV.str x.1, AV.int .i64 (x.2 : Nat)))
  | [], k, _, hk => by simp at hk; subst hk; rfl
  | x :: l, k, h, hk => by
    have hx : (s == x) = false := by
      rw [Bool.eq_false_iff]; intro he
      have : s = x := by simpa using he
      subst this; simp at h
    have hl : l.contains s = false := by
      rw [List.contains_cons, hx, Bool.false_or] at h; exact h
    have ih := putA_classFrom s n l (k + 1) hl (by simp at hk; omega)
    simp only [List.zipIdx_cons, List.map_cons, putA, keyEq, List.cons_append, hx, ih]

theorem putA_class {names : List Str} {s : Str} (h : names.contains s = false) : putA (classA names) (.str s) (.int .i64 ((names.length : Nat) : Int)) = some (classA (names ++ [s])) :=
  putA_classFrom s names.length names 0 h (by simp)

theorem findIdx_contains (names : List Str) (s : Str) : (names.findIdx? (· == s)).isSome = names.contains s := by
  rw [Bool.eq_iff_iff, List.findIdx?_isSome]; simp

theorem gotA_class (names : List Str) (s : Str) : gotA true (.int .i64 0) ((names.findIdx? (· == s)).map fun i => AV.int .i64 ((i : Nat) : Int)) = .tup [.int .i64 (((names.findIdx? (· == s)).getD 0 : Nat) : Int), .bool (names.contains s)] := by
  rw [← findIdx_contains]
  cases names.findIdx? (· == s) <;> rfl

theorem allPre_cons {α : Type} (f : List α → α → Bool) (pre : List α) (x : α) (r : List α) : allPre f pre (x :: r) = (f pre x && allPre f (pre ++ [x]) r) := rfl

theorem take_snoc {α : Type} {l : List α} {j : Nat} {x : α} (h : l[j]? = some x) : l.take j ++ [x] = l.take (j + 1) := by rw [List.take_add_one, h]; rfl

/-! ### Stores that are known in part -/

def RowIs (t : Store) (e : TypeId) (sz n : Nat) : Own → Prop
  | .own b => t b = some (.row e sz n)
  | .nil => True
  | .clip => True
  | .fro => False
def rowBase (t : Store) : Own → Store
  | .own b => t.del b
  | _ => t
theorem rowBase_eq {t : Store} {e : TypeId} {sz n : Nat} {own : Own} (h : RowIs t e sz n own) : t = rowOf (rowBase t own) e sz n own := by
  cases own with
  | own b =>
    funext x
    show t x = ((t.del b).set b (.row e sz n)) x
    by_cases hx : x = b
    · subst hx; rw [Store.set_same]; exact h
    · rw [Store.set_ne _ _ hx, Store.del_ne _ hx]
  | nil => rfl
  | clip => rfl
  | fro => exact h.elim
theorem rowBase_ok {t : Store} {e : TypeId} {sz n m : Nat} {own : Own} (h : RowIs t e sz n own) : OwnOk (rowBase t own) m own := by
  cases own with
  | own b => exact Store.del_same _ _
  | nil => trivial
  | clip => trivial
  | fro => exact h.elim

theorem rowNext_keep {t : Store} {e : TypeId} {sz n m b' : Nat} {own : Own} (hb' : rowBase t own b' = none) {x : Nat} {o : AObj} (hx : t x = some o) (hne : ∀ b, own = .own b → x ≠ b) : rowOf (rowBase t own) e sz m (.own b') x = some o := by
  have h1 : rowBase t own x = some o := by
    cases own with
    | own b => exact (Store.del_ne _ (hne b rfl)).trans hx
    | nil => exact hx
    | clip => exact hx
    | fro => exact hx
  exact (Store.set_ne _ _ (fun e => by subst e; rw [hb'] at h1; cases h1)).trans h1

def notRow : AObj → Bool
  | .row .. => false
  | _ => true
theorem rowBase_get {t : Store} {e : TypeId} {sz n x : Nat} {own : Own} {o : AObj} (h : RowIs t e sz n own) (hx : t x = some o) (ho : notRow o = true) : rowBase t own x = some o := by
  cases own with
  | own b =>
    have hne : x ≠ b := fun e => by subst e; simp only [RowIs] at h; rw [h] at hx; cases hx; cases ho
    exact (Store.del_ne _ hne).trans hx
  | nil => exact hx
  | clip => exact hx
  | fro => exact hx
theorem rowBase_none {t : Store} {own : Own} {x : Nat} (h : t x = none) : rowBase t own x = none := by
  cases own with
  | own b =>
    by_cases e : x = b
    · subst e; exact Store.del_same _ _
    · exact (Store.del_ne _ e).trans h
  | nil => exact h
  | clip => exact h
  | fro => exact h
end Go.Proofs.Ytaafacnoddjhgaa

/- Contracts of the layer 'shape': the classes of a program. -/
namespace Go.Proofs.Ytaafacnoddjhgaa
open Go.AE

def Sh (x : Str) : Prop := x.length < 9223372036854775807
structure Strs (l : List Str) : Prop where
  len : l.length < big
  sh : ∀ x ∈ l, Sh x
structure FClass.Fair (c : FClass) : Prop where
  name : Sh c.name
  parents : Strs c.parents
  slots : Strs c.slots
  ilen : c.inits.length < big
  inits : ∀ x ∈ c.inits, Sh x.slot

/-- The cells of a program that is looked at. -/
def progCells (P : FProg) (cb : Nat) (has : AV) (sb : Nat) (count : Int) : List AV := P.cells ++ [.map cb, has, .map sb, .int .i64 count]

/-- What is known while the classes are looked at. -/
structure CInv (P : FProg) (pb cb sb nb : Nat) (s t : Store) (i : Nat) (st : CSt) (own : Own) (hs : List Nat) (ms : List (List Str)) : Prop where
  hp : t pb = some (.box 136 (progCells P cb (.slc 1 (hs.map .map) own) sb 0))
  hc : t cb = some (.map (classA st.names))
  hsl : t sb = some (.map (setA st.slots))
  hn : t nb = some (.map (setA st.names))
  row : RowIs t 72 1 i own
  hlen : hs.length = i
  mlen : ms.length = i
  nlen : st.names.length = i
  stlen : st.has.length = i
  has : ∀ (k h : Nat) (m : List Str), hs[k]? = some h → ms[k]? = some m → t h = some (.map (setA m))
  hne : ∀ h ∈ hs, h ≠ cb ∧ h ≠ sb ∧ h ≠ nb
  mem : ∀ (k : Nat) (m l : List Str), ms[k]? = some m → st.has[k]? = some l → ∀ z, z ∈ m ↔ z ∈ l
  d : cb ≠ sb ∧ cb ≠ nb ∧ sb ≠ nb ∧ pb ≠ cb ∧ pb ≠ sb ∧ pb ≠ nb
  snb : s nb = none
  srow : ∀ b, own = .own b → s b = none
  rest : ∀ x, x ≠ pb → x ≠ cb → x ≠ sb → s x ≠ none → t x = s x

/-- A block that is none of those. -/
structure Ap (pb cb sb nb : Nat) (s : Store) (own : Own) (hs : List Nat) (b : Nat) : Prop where
  hp : b ≠ pb
  hc : b ≠ cb
  hsl : b ≠ sb
  hn : b ≠ nb
  row : ∀ b', own = .own b' → b ≠ b'
  has : b ∉ hs
  rest : s b = none

theorem ne_none {t : Store} {b x : Nat} {o : AObj} (hb : t b = none) (hx : t x = some o) : b ≠ x := fun e => by subst e; rw [hx] at hb; cases hb

section
variable {P : FProg} {pb cb sb nb : Nat} {s t : Store} {i : Nat} {st : CSt} {own : Own} {hs : List Nat} {ms : List (List Str)}

theorem CInv.ap (h : CInv P pb cb sb nb s t i st own hs ms) {b : Nat} (hb : t b = none) : Ap pb cb sb nb s own hs b := by
  refine ⟨ne_none hb h.hp, ne_none hb h.hc, ne_none hb h.hsl, ne_none hb h.hn, ?_, ?_, ?_⟩
  · rintro b' rfl e; subst e
    have := h.row; simp only [RowIs] at this; rw [this] at hb; cases hb
  · intro hm
    obtain ⟨k, hk⟩ := List.getElem?_of_mem hm
    have hk' : k < ms.length := by rw [h.mlen, ← h.hlen]; exact (List.getElem?_eq_some_iff.1 hk).1
    have := h.has k b _ hk (List.getElem?_eq_getElem hk')
    rw [this] at hb; cases hb
  · refine Classical.byContradiction fun hn => ?_
    have h1 : b ≠ pb := fun e => by subst e; rw [h.hp] at hb; cases hb
    have h2 : b ≠ cb := fun e => by subst e; rw [h.hc] at hb; cases hb
    have h3 : b ≠ sb := fun e => by subst e; rw [h.hsl] at hb; cases hb
    have := h.rest b h1 h2 h3 hn
    rw [hb] at this; exact hn this.symm

theorem CInv.set (h : CInv P pb cb sb nb s t i st own hs ms) {b : Nat} (hb : Ap pb cb sb nb s own hs b) (o : AObj) : CInv P pb cb sb nb s (t.set b o) i st own hs ms := by
  refine ⟨by rw [Store.set_ne _ _ (Ne.symm hb.hp)]; exact h.hp, by rw [Store.set_ne _ _ (Ne.symm hb.hc)]; exact h.hc, by rw [Store.set_ne _ _ (Ne.symm hb.hsl)]; exact h.hsl, by rw [Store.set_ne _ _ (Ne.symm hb.hn)]; exact h.hn, ?_, h.hlen, h.mlen, h.nlen, h.stlen, ?_, h.hne, h.mem, h.d, h.snb, h.srow, ?_⟩
  · have := h.row
    cases own with
    | own b' => show (t.set b o) b' = _; rw [Store.set_ne _ _ (Ne.symm (hb.row b' rfl))]; exact this
    | nil => trivial
    | clip => exact this
    | fro => exact this
  · intro k x m hk hm
    rw [Store.set_ne _ _ (by intro e; subst e; exact hb.has (List.mem_of_getElem? hk))]
    exact h.has k x m hk hm
  · intro x h1 h2 h3 h4
    rw [Store.set_ne _ _ (fun e => by subst e; exact h4 hb.rest)]
    exact h.rest x h1 h2 h3 h4

/-- Slots are added. -/
theorem CInv.slot (h : CInv P pb cb sb nb s t i st own hs ms) (l : List Str) : CInv P pb cb sb nb s (t.set sb (.map (setA l))) i { st with slots := l } own hs ms := by
  obtain ⟨d1, d2, d3, d4, d5, d6⟩ := h.d
  refine ⟨by rw [Store.set_ne _ _ d5]; exact h.hp, by rw [Store.set_ne _ _ d1]; exact h.hc, Store.set_same _ _ _, by rw [Store.set_ne _ _ (Ne.symm d3)]; exact h.hn, ?_, h.hlen, h.mlen, h.nlen, h.stlen, ?_, h.hne, h.mem, h.d, h.snb, h.srow, ?_⟩
  · have := h.row
    cases own with
    | own b' =>
      have hne : b' ≠ sb := fun e => by subst e; have q := h.hsl; simp only [RowIs] at this; rw [this] at q; cases q
      show (t.set sb _) b' = _; rw [Store.set_ne _ _ hne]; exact this
    | nil => trivial
    | clip => exact this
    | fro => exact this
  · intro k x m hk hm
    rw [Store.set_ne _ _ (h.hne x (List.mem_of_getElem? hk)).2.1]
    exact h.has k x m hk hm
  · intro x h1 h2 h3 h4
    rw [Store.set_ne _ _ h3]
    exact h.rest x h1 h2 h3 h4

/-- A class is added. -/
theorem CInv.next (h : CInv P pb cb sb nb s t i st own hs ms) (name : Str) (l m : List Str) (mb b' : Nat) (hmb : Ap pb cb sb nb s own hs mb) (hm : t mb = some (.map (setA m))) (hl : ∀ z, z ∈ m ↔ z ∈ l)
    (hb' : rowBase ((t.set nb (.map (setA (st.names ++ [name])))).set cb (.map (classA (st.names ++ [name])))) own b' = none) :
    CInv P pb cb sb nb s ((rowOf (rowBase ((t.set nb (.map (setA (st.names ++ [name])))).set cb (.map (classA (st.names ++ [name])))) own) 72 1 (i + 1) (.own b')).set pb (.box 136 (progCells P cb (.slc 1 ((hs ++ [mb]).map .map) (.own b')) sb 0)))
      (i + 1) ⟨st.names ++ [name], st.slots, st.has ++ [l]⟩ (.own b') (hs ++ [mb]) (ms ++ [m]) := by
  obtain ⟨d1, d2, d3, d4, d5, d6⟩ := h.d
  generalize hT : ((t.set nb (.map (setA (st.names ++ [name])))).set cb (.map (classA (st.names ++ [name])))) = T at hb' ⊢
  have hTn : T nb = some (.map (setA (st.names ++ [name]))) := by rw [← hT, Store.set_ne _ _ (Ne.symm d2), Store.set_same]
  have hTc : T cb = some (.map (classA (st.names ++ [name]))) := by rw [← hT, Store.set_same]
  have hTo : ∀ x, x ≠ nb → x ≠ cb → T x = t x := fun x h1 h2 => by rw [← hT, Store.set_ne _ _ h2, Store.set_ne _ _ h1]
  have hrow : RowIs T 72 1 i own := by
    have := h.row
    cases own with
    | own b =>
      simp only [RowIs] at this ⊢
      rw [hTo]
      · exact this
      · intro e; subst e; have q := h.hn; rw [this] at q; cases q
      · intro e; subst e; have q := h.hc; rw [this] at q; cases q
    | nil => trivial
    | clip => exact this
    | fro => exact this
  have hbn : rowBase T own b' = none := by rw [hT] at *; exact hb'
  have hget : ∀ x o, T x = some o → notRow o = true → x ≠ pb → ((rowOf (rowBase T own) 72 1 (i + 1) (.own b')).set pb (.box 136 (progCells P cb (.slc 1 ((hs ++ [mb]).map .map) (.own b')) sb 0))) x = some o := by
    intro x o hx ho hp
    have h1 := rowBase_get hrow hx ho
    have hne : x ≠ b' := fun e => by subst e; rw [hbn] at h1; cases h1
    rw [Store.set_ne _ _ hp]
    show ((rowBase T own).set b' _) x = _
    rw [Store.set_ne _ _ hne]; exact h1
  have hpb' : b' ≠ pb := fun e => by
    subst e
    have h1 := rowBase_get hrow ((hTo _ d6 d4).trans h.hp) rfl
    rw [hbn] at h1; cases h1
  have hsb' : s b' = none := by
    refine Classical.byContradiction fun hne => ?_
    have g : ∀ x o, T x = some o → notRow o = true → b' ≠ x := fun x o hx ho => ne_none hbn (rowBase_get hrow hx ho)
    have e2 : b' ≠ cb := g cb _ hTc rfl
    have e3 : b' ≠ sb := g sb _ ((hTo _ d3 d1.symm).trans h.hsl) rfl
    have e4 : b' ≠ nb := g nb _ hTn rfl
    have q1 := h.rest b' hpb' e2 e3 hne
    have q2 : T b' = s b' := (hTo _ e4 e2).trans q1
    cases own with
    | own b =>
      have : b' ≠ b := fun e => by subst e; exact hne (h.srow _ rfl)
      have q3 : (T.del b) b' = none := hbn
      rw [Store.del_ne _ this, q2] at q3
      exact hne q3
    | nil => have q3 : T b' = none := hbn; rw [q2] at q3; exact hne q3
    | clip => have q3 : T b' = none := hbn; rw [q2] at q3; exact hne q3
    | fro => exact hrow.elim
  have hkeep : ∀ x, x ≠ pb → x ≠ nb → x ≠ cb → x ≠ b' → (∀ b, own = .own b → x ≠ b) → ((rowOf (rowBase T own) 72 1 (i + 1) (.own b')).set pb (.box 136 (progCells P cb (.slc 1 ((hs ++ [mb]).map .map) (.own b')) sb 0))) x = t x := by
    intro x h1 h2 h3 h4 h5
    rw [Store.set_ne _ _ h1]
    show ((rowBase T own).set b' _) x = _
    rw [Store.set_ne _ _ h4]
    cases own with
    | own b => exact (Store.del_ne _ (h5 b rfl)).trans (hTo x h2 h3)
    | nil => exact hTo x h2 h3
    | clip => exact hTo x h2 h3
    | fro => exact hTo x h2 h3
  have hmem : ∀ x ∈ hs, ∃ m, t x = some (.map (setA m)) ∧ x ≠ pb := by
    intro x hx
    obtain ⟨k, hk⟩ := List.getElem?_of_mem hx
    have hk' : k < ms.length := by rw [h.mlen, ← h.hlen]; exact (List.getElem?_eq_some_iff.1 hk).1
    have q := h.has k x _ hk (List.getElem?_eq_getElem hk')
    exact ⟨_, q, fun e => by subst e; rw [h.hp] at q; cases q⟩
  refine ⟨Store.set_same _ _ _, hget cb _ hTc rfl (Ne.symm d4), hget sb _ ((hTo _ d3 d1.symm).trans h.hsl) rfl (Ne.symm d5), hget nb _ hTn rfl (Ne.symm d6), ?_, by simp [h.hlen], by simp [h.mlen], by simp [h.nlen], by simp [h.stlen], ?_, ?_, ?_, h.d, h.snb, ?_, ?_⟩
  · show ((rowOf _ _ _ _ _).set pb _) b' = _
    rw [Store.set_ne _ _ hpb']; exact Store.set_same _ _ _
  · intro k x m' hk hm'
    rcases Nat.lt_or_ge k i with hlt | hge
    · rw [List.getElem?_append_left (by rw [h.hlen]; exact hlt)] at hk
      rw [List.getElem?_append_left (by rw [h.mlen]; exact hlt)] at hm'
      have q := h.has k x m' hk hm'
      obtain ⟨q1, q2, q3⟩ := h.hne x (List.mem_of_getElem? hk)
      obtain ⟨_, q4, q5⟩ := hmem x (List.mem_of_getElem? hk)
      exact hget x _ ((hTo x q3 q1).trans q) rfl q5
    · rw [List.getElem?_append_right (by rw [h.hlen]; exact hge), h.hlen] at hk
      rw [List.getElem?_append_right (by rw [h.mlen]; exact hge), h.mlen] at hm'
      have hki : k - i = 0 := by
        have := (List.getElem?_eq_some_iff.1 hk).1; simp at this; exact this
      rw [hki] at hk hm'
      simp at hk hm'; subst hk; subst hm'
      exact hget _ _ ((hTo _ hmb.hn hmb.hc).trans hm) rfl hmb.hp
  · intro x hx
    rcases List.mem_append.1 hx with hx | hx
    · exact h.hne x hx
    · simp at hx; subst hx; exact ⟨hmb.hc, hmb.hsl, hmb.hn⟩
  · intro k m' l' hm' hl' z
    rcases Nat.lt_or_ge k i with hlt | hge
    · rw [List.getElem?_append_left (by rw [h.mlen]; exact hlt)] at hm'
      rw [List.getElem?_append_left (by rw [h.stlen]; exact hlt)] at hl'
      exact h.mem k m' l' hm' hl' z
    · rw [List.getElem?_append_right (by rw [h.mlen]; exact hge), h.mlen] at hm'
      rw [List.getElem?_append_right (by rw [h.stlen]; exact hge), h.stlen] at hl'
      have hki : k - i = 0 := by
        have := (List.getElem?_eq_some_iff.1 hm').1; simp at this; exact this
      rw [hki] at hl' hm'
      simp at hl' hm'; subst hl'; subst hm'
      exact hl z
  · rintro b ⟨⟩
    exact hsb'
  · intro x h1 h2 h3 h4
    have hx := h.rest x h1 h2 h3 h4
    have q1 : x ≠ nb := fun e => by subst e; exact h4 h.snb
    have q2 : ∀ b, own = .own b → x ≠ b := fun b hb e => by subst e; exact h4 (h.srow _ hb)
    rw [hkeep x h1 q1 h2 (fun e => by subst e; exact h4 hsb') q2]
    exact hx
end
end Go.Proofs.Ytaafacnoddjhgaa

