import Derived.Test.YtaafacnoddjhgaaMi
/- Contracts of the layer 'shape': copies of lists, and new names for bound ones. -/
namespace Go.Proofs.Ytaafacnoddjhgaa
open Go.AE

theorem OW.nilEq {P : Program} {Γ : Tys} {N : Nat} {env : Env} {s : Store} {o : Oper} (hΓ : TysOk P Γ) {t yt e : TypeId} {x : Operand} {it : TI} {sz : Nat} {xs : List AV} {own : Own} (ho : o.op = .binOp .eql t x (.const (.slice none 0 0)) yt)
    (ht : Γ.get? t = some it) (htd : it.td = .slc e) (hx : ev env x = some (.slc sz xs own)) {X : AV → Store → Prop} :
    OW P N o env s (fun r s' => s' = s ∧ ((r = .bool true ∧ xs = []) ∨ r = .bool false)) X := by
  refine OW.of_run (by simp [AE.noDefer, ho]) fun ro B a w p hst => ?_
  obtain ⟨info, d, h1, h2, h3, h4, h5, h6⟩ := hΓ.parts ht
  have hu := hst.ev hx
  have hd : ∃ e, d = .slice e := by
    rw [htd] at h3; cases d <;> simp [tdOf] at h3 <;> exact ⟨_, rfl⟩
  obtain ⟨e', rfl⟩ := hd
  have hrun : ∀ q, (binOp .eql t (a.eval x) (.slice none 0 0)).run P w = .ok (.bool q) w → (∀ c, a.eval x ≠ .agg c) → (execOp a.eval o).run P w = .ok (.value (.bool q)) w := by
    intro q hq hc
    unfold execOp
    rw [ho]
    refine run_v ?_
    show (do eqGuard .eql t x (.const (.slice none 0 0)) (a.eval x) (.slice none 0 0); binOp .eql t (a.eval x) (.slice none 0 0) : Sem Value).run P w = _
    rw [Sem.run_bind, eqGuard_ok w ⟨fun _ => ⟨_, rfl⟩, hc⟩, Result.andThen_ok, hq]
  generalize a.eval x = vx at hu hrun
  cases hu with
  | slcNil _ _ _ => exact ⟨_, _, s, p, .bool true, hrun true (run_eqneq rfl rfl (fun d => by simp [Op.equalIn, run_underlying h2])).1 (by simp), .refl w p, .refl s w p, hst.wf, ⟨rfl, .inl ⟨rfl, rfl⟩⟩, .bool _⟩
  | slcZ a _ _ _ => exact ⟨_, _, s, p, .bool false, hrun false (run_eqneq rfl rfl (fun d => by simp [Op.equalIn, run_underlying h2])).1 (by simp), .refl w p, .refl s w p, hst.wf, ⟨rfl, .inr rfl⟩, .bool _⟩
  | slc g off n cap _ vs _ _ hn hl hc hr hs hm hk hcl ho => exact ⟨_, _, s, p, .bool false, hrun false (run_eqneq rfl rfl (fun d => by simp [Op.equalIn, run_underlying h2])).1 (by simp), .refl w p, .refl s w p, hst.wf, ⟨rfl, .inr rfl⟩, .bool _⟩

theorem inits_elem (l : List FInit) : ∀ y ∈ l.map FInit.av, elemOk 2 y = true := by
  intro y hy; simp only [List.mem_map] at hy; obtain ⟨z, -, rfl⟩ := hy; rfl

set_option maxRecDepth 10000 in
theorem cloneStr_spec (l : List Str) (s : Store) (hl : l.length < big) :
    ACalls Try.prog 112 [.slc 1 (strs l) .fro] s (fun o s' => o = .ret (.slc 1 (strs l) .fro) ∧ s' = s) := by
  have hb : big = 1099511627776 := rfl
  refine ACalls.of_CW tysOk call112 Try.func112 rfl rfl ?_
  repeat (first | with_reducible refine CW.seq ?_ | with_reducible refine andThen_normal ?_ | refine CW.reg (RL.run tysOk rfl (RL.nil ?_)) | refine CW.reg ?_ | refine RL.step tysOk rfl rfl rfl rfl ?_)
  refine RL.op rfl rfl rfl (OW.nilEq tysOk rfl rfl rfl rfl (X := fun _ _ => False)) ?_ (fun _ _ h => False.elim h)
  rintro r s' ⟨rfl, ⟨rfl, hn⟩ | rfl⟩
  · repeat (first | with_reducible refine CW.seq ?_ | with_reducible refine andThen_normal ?_ | with_reducible refine andThen_ret ?_ | with_reducible refine CW.ret ?_ | refine CW.reg (RL.run tysOk rfl (RL.nil ?_)) | refine RL.nil ?_ | refine CW.condT rfl ?_)
    refine ⟨_, _, _, rfl, ?_, Store.sub_refl _, rfl, rfl⟩
    rw [hn]; exact AVle.empty
  · repeat (first | with_reducible refine CW.seq ?_ | with_reducible refine andThen_normal ?_ | with_reducible refine CW.skip ?_ | refine CW.reg ?_ | refine RL.nil ?_ | refine CW.condF rfl ?_ | refine RL.step tysOk rfl rfl rfl rfl ?_)
    refine RL.append0 tysOk rfl rfl rfl rfl rfl rfl rfl (by intro k; simp) rfl rfl rfl (.inl rfl) (.inr rfl) rfl (strs_elem _) ?_ ?_ (.inr rfl) (fun hn => ?_) (fun b hb => ?_)
    · simp only [List.length_nil, Nat.zero_add, strs_length]; show _ * 16 ≤ _; omega
    · simp only [List.length_nil, Nat.zero_add, strs_length]; omega
    · repeat (first | with_reducible refine andThen_normal ?_ | with_reducible refine CW.ret ?_ | refine RL.nil ?_ | refine RL.step tysOk rfl rfl rfl rfl ?_)
      refine ⟨_, _, _, rfl, ?_, Store.sub_refl _, rfl, rfl⟩
      rw [hn]; exact AVle.empty
    · repeat (first | with_reducible refine andThen_normal ?_ | with_reducible refine CW.ret ?_ | refine RL.nil ?_ | refine RL.step tysOk rfl rfl rfl rfl ?_)
      exact ⟨_, _, _, rfl, AVle.fro, Store.sub_set _ _ _ hb, rfl, rfl⟩

set_option maxRecDepth 10000 in
theorem cloneInit_spec (l : List FInit) (s : Store) (hl : l.length < big) :
    ACalls Try.prog 113 [.slc 2 (l.map FInit.av) .fro] s (fun o s' => o = .ret (.slc 2 (l.map FInit.av) .fro) ∧ s' = s) := by
  have hb : big = 1099511627776 := rfl
  refine ACalls.of_CW tysOk call113 Try.func113 rfl rfl ?_
  repeat (first | with_reducible refine CW.seq ?_ | with_reducible refine andThen_normal ?_ | refine CW.reg (RL.run tysOk rfl (RL.nil ?_)) | refine CW.reg ?_ | refine RL.step tysOk rfl rfl rfl rfl ?_)
  refine RL.op rfl rfl rfl (OW.nilEq tysOk rfl rfl rfl rfl (X := fun _ _ => False)) ?_ (fun _ _ h => False.elim h)
  rintro r s' ⟨rfl, ⟨rfl, hn⟩ | rfl⟩
  · repeat (first | with_reducible refine CW.seq ?_ | with_reducible refine andThen_normal ?_ | with_reducible refine andThen_ret ?_ | with_reducible refine CW.ret ?_ | refine CW.reg (RL.run tysOk rfl (RL.nil ?_)) | refine RL.nil ?_ | refine CW.condT rfl ?_)
    refine ⟨_, _, _, rfl, ?_, Store.sub_refl _, rfl, rfl⟩
    rw [hn]; exact AVle.empty
  · repeat (first | with_reducible refine CW.seq ?_ | with_reducible refine andThen_normal ?_ | with_reducible refine CW.skip ?_ | refine CW.reg ?_ | refine RL.nil ?_ | refine CW.condF rfl ?_ | refine RL.step tysOk rfl rfl rfl rfl ?_)
    refine RL.append0 tysOk rfl rfl rfl rfl rfl rfl rfl (by intro k; simp) rfl rfl rfl (.inl rfl) (.inr rfl) rfl (inits_elem _) ?_ ?_ (.inr rfl) (fun hn => ?_) (fun b hb => ?_)
    · simp only [List.length_nil, Nat.zero_add, List.length_map]; show _ * 24 ≤ _; omega
    · simp only [List.length_nil, Nat.zero_add, List.length_map]; omega
    · repeat (first | with_reducible refine andThen_normal ?_ | with_reducible refine CW.ret ?_ | refine RL.nil ?_ | refine RL.step tysOk rfl rfl rfl rfl ?_)
      refine ⟨_, _, _, rfl, ?_, Store.sub_refl _, rfl, rfl⟩
      rw [hn]; exact AVle.empty
    · repeat (first | with_reducible refine andThen_normal ?_ | with_reducible refine CW.ret ?_ | refine RL.nil ?_ | refine RL.step tysOk rfl rfl rfl rfl ?_)
      exact ⟨_, _, _, rfl, AVle.fro, Store.sub_set _ _ _ hb, rfl, rfl⟩

end Go.Proofs.Ytaafacnoddjhgaa

/- Contracts of the layer 'shape': new names for bound ones. -/
namespace Go.Proofs.Ytaafacnoddjhgaa
open Go.AE

/-! ### New names for bound ones -/

/-- A new name's text, and what names are taken then. -/
def textN (sc : List (Str × Str)) (tk : List Str) (o : Int) (t : Str) : Str × List Str :=
  if o == 3 then ((stands sc t).getD t, tk) else if o == 9 then (freshS tk, insS tk (freshS tk)) else (t, tk)

mutual
/-- An expression with new names for its bound ones. -/
def FExp.renam : List (Str × Str) → List Str → FExp → FExp × List Str
  | sc, tk, .mk o n t ks =>
    let r := textN sc tk o t
    let q := FExp.renams (o == 9) t r.1 sc 0 r.2 ks
    (.mk o n r.1 q.1, q.2)
def FExp.renams (isLet : Bool) (t t' : Str) (sc : List (Str × Str)) : Nat → List Str → List FExp → List FExp × List Str
  | _, tk, [] => ([], tk)
  | i, tk, k :: r =>
    let a := FExp.renam (if isLet && i == 1 then (t, t') :: sc else sc) tk k
    let b := FExp.renams isLet t t' sc (i + 1) a.2 r
    (a.1 :: b.1, b.2)
end

theorem renam_def (e : FExp) (sc : List (Str × Str)) (tk : List Str) : FExp.renam sc tk e =
    (.mk e.op e.n (textN sc tk e.op e.text).1 (FExp.renams (e.op == 9) e.text (textN sc tk e.op e.text).1 sc 0 (textN sc tk e.op e.text).2 e.kids).1, (FExp.renams (e.op == 9) e.text (textN sc tk e.op e.text).1 sc 0 (textN sc tk e.op e.text).2 e.kids).2) := by
  cases e; rw [FExp.renam]; rfl

theorem insS_len (tk : List Str) (x : Str) : (insS tk x).length ≤ tk.length + 1 := by unfold insS; split <;> simp

theorem textN_taken (sc : List (Str × Str)) (tk : List Str) (o : Int) (t : Str) : (textN sc tk o t).2.length ≤ tk.length + 1 := by
  unfold textN
  split
  · simp
  · split
    · exact insS_len _ _
    · simp

mutual
theorem renam_taken : ∀ (e : FExp) (sc : List (Str × Str)) (tk : List Str), (FExp.renam sc tk e).2.length ≤ tk.length + e.size
  | .mk o n t ks, sc, tk => by
    rw [FExp.renam]
    simp only [FExp.size]
    have h1 := renams_taken ks (o == 9) t (textN sc tk o t).1 sc 0 (textN sc tk o t).2
    have h2 := textN_taken sc tk o t
    omega
theorem renams_taken : ∀ (ks : List FExp) (isLet : Bool) (t t' : Str) (sc : List (Str × Str)) (i : Nat) (tk : List Str), (FExp.renams isLet t t' sc i tk ks).2.length ≤ tk.length + FExp.sizes ks
  | [], _, _, _, _, _, _ => by simp [FExp.renams]
  | k :: r, isLet, t, t', sc, i, tk => by
    simp only [FExp.renams, FExp.sizes]
    have h1 := renam_taken k (if isLet && i == 1 then (t, t') :: sc else sc) tk
    have h2 := renams_taken r isLet t t' sc (i + 1) (FExp.renam (if isLet && i == 1 then (t, t') :: sc else sc) tk k).2
    omega
end

set_option maxRecDepth 10000 in
theorem next_spec (tk : List Str) (tb : Nat) (s : Store) (hs : s tb = some (.map (setA tk))) (hf : HasFree tk) :
    ACalls Try.prog 114 [.fptr [.map tb] 0] s (fun o s' => o = .ret (.str (freshS tk)) ∧ s' = s.set tb (.map (setA (insS tk (freshS tk))))) := by
  refine ACalls.of_CW tysOk call114 Try.func114 rfl rfl ?_
  repeat (first | with_reducible refine CW.seq ?_ | with_reducible refine andThen_normal ?_ | refine CW.reg (RL.run tysOk rfl (RL.nil ?_)) | refine CW.reg ?_ | refine RL.step tysOk rfl rfl rfl rfl ?_)
  refine RL.callP rfl rfl rfl rfl rfl (fresh_spec tk tb _ hs hf) ?_
  repeat (first | with_reducible refine CW.seq ?_ | with_reducible refine andThen_normal ?_ | refine CW.reg ?_ | refine RL.nil ?_ | refine RL.step tysOk rfl rfl rfl rfl ?_)
  refine RL.mapUpdate tysOk rfl rfl (.inl rfl) rfl rfl rfl rfl rfl rfl hs rfl (putA_set _ _) ?_
  repeat (first | with_reducible refine CW.seq ?_ | with_reducible refine andThen_normal ?_ | with_reducible refine CW.ret ?_ | refine CW.reg (RL.run tysOk rfl (RL.nil ?_)) | refine RL.nil ?_)
  exact ⟨_, _, _, rfl, AVle.refl _, Store.sub_refl _, rfl, rfl⟩

set_option maxRecDepth 10000 in
set_option maxHeartbeats 1000000 in
theorem exp_spec (tb : Nat) : ∀ (n : Nat) (e : FExp) (sc : List (Str × Str)) (tk : List Str) (s : Store), e.size ≤ n → e.size ≤ big → tk.length + e.size < 698 → s tb = some (.map (setA tk)) →
    ACalls Try.prog 116 [.fptr [.map tb] 0, e.av, scopeAV sc] s (fun o s' => o = .ret (FExp.renam sc tk e).1.av ∧ s' = s.set tb (.map (setA (FExp.renam sc tk e).2))) := by
  intro n
  induction n with
  | zero => intro e sc tk s h; have := e.size_pos; omega
  | succ n ih =>
    intro e sc tk s hn hbig htk htb
    have hlen := e.kids_length
    have hkl := e.kav_length
    have hb : big = 1099511627776 := rfl
    refine ACalls.of_CW tysOk call116 Try.func116 rfl rfl ?_
    refine CW.seqCutX (σ := Nat) (fun b8 => [(0, .fptr [.map tb] 0), (2, scopeAV sc), (4, .fptr e.cells 0), (6, .ptr b8 0)]) (fun b8 => s.set b8 box0) (fun b8 => s b8 = none) ?_ ?_
    · repeat (first | refine CW.reg ?_ | refine RL.step tysOk rfl rfl rfl rfl ?_)
      refine RL.alloc tysOk rfl rfl rfl rfl rfl rfl rfl (fun b8 hb8 => ?_)
      repeat (first | refine RL.nil ?_)
      exact ⟨rfl, b8, hb8, ⟨⟨_, rfl, AVle.refl _⟩, ⟨_, rfl, AVle.refl _⟩, ⟨_, rfl, AVle.refl _⟩, ⟨_, rfl, AVle.refl _⟩, trivial⟩, Store.sub_refl _⟩
    intro b8 hb8
    have h8t : tb ≠ b8 := fun e => by subst e; rw [hb8] at htb; cases htb
    refine CW.seqCutX (σ := Nat) (fun b11 => [(0, .fptr [.map tb] 0), (2, scopeAV sc), (4, .fptr e.cells 0), (6, .ptr b8 0), (7, .ptr b11 0)]) (fun b11 => (s.set b8 box0).set b11 (.box 32 (part4 e.op e.n e.text [] .nil))) (fun b11 => (s.set b8 box0) b11 = none) ?_ ?_
    · repeat (first | refine CW.reg ?_ | refine RL.step tysOk rfl rfl rfl rfl ?_)
      refine RL.alloc tysOk rfl rfl rfl rfl rfl rfl rfl (fun b11 hb11 => ?_)
      refine RL.storeP tysOk rfl rfl rfl rfl rfl rfl rfl rfl rfl (Store.set_same _ _ _) rfl ?_
      rw [Store.set_set]
      refine RL.boxWeak b11 (part4 e.op e.n e.text [] .nil) (Store.set_same _ _ _) (part4_nil _ _ _) ?_
      rw [Store.set_set]
      exact RL.nil ⟨rfl, b11, hb11, ⟨⟨_, rfl, AVle.refl _⟩, ⟨_, rfl, AVle.refl _⟩, ⟨_, rfl, AVle.refl _⟩, ⟨_, rfl, AVle.refl _⟩, ⟨_, rfl, AVle.refl _⟩, trivial⟩, Store.sub_refl _⟩
    intro b11 hb11
    obtain ⟨hn8, hn11⟩ := Store.set_none hb11
    have h11t : tb ≠ b11 := fun e => by subst e; rw [hn11] at htb; cases htb
    have hS : ∀ o, ((s.set b8 box0).set b11 o).set tb (.map (setA tk)) = (s.set b8 box0).set b11 o := fun o => Store.set_eq _ _ _ (by rw [Store.set_ne _ _ h11t, Store.set_ne _ _ h8t]; exact htb)
    rw [← hS]
    refine CW.seqCut [(0, .fptr [.map tb] 0), (2, scopeAV sc), (4, .fptr e.cells 0), (6, .ptr b8 0), (7, .ptr b11 0)]
      (((s.set b8 box0).set b11 (.box 32 (part4 e.op e.n (textN sc tk e.op e.text).1 [] .nil))).set tb (.map (setA (textN sc tk e.op e.text).2))) ?_ ?_
    · repeat (first | with_reducible refine CW.seq ?_ | with_reducible refine andThen_normal ?_ | with_reducible refine CW.block ?_ | refine CW.reg (RL.run tysOk rfl (RL.nil ?_)))
      refine CW.cond rfl (fun h3 => ?_) (fun h3 => ?_)
      · have hT : textN sc tk e.op e.text = ((stands sc e.text).getD e.text, tk) := by rw [textN, if_pos h3]
        rw [hT]
        repeat (first | refine CW.reg ?_ | refine RL.step tysOk rfl rfl rfl rfl ?_)
        refine RL.callP rfl rfl rfl rfl rfl (scopeLook_spec e.text _ sc) ?_
        repeat (first | refine RL.step tysOk rfl rfl rfl rfl ?_)
        refine RL.storeP tysOk rfl rfl rfl rfl rfl rfl rfl rfl rfl (by rw [Store.set_ne _ _ (Ne.symm h11t)]; exact Store.set_same _ _ _) rfl ?_
        rw [← Store.set_comm _ _ _ (Ne.symm h11t), Store.set_set]
        repeat (first | with_reducible refine inBlock_normal ?_ | refine RL.nil ?_)
        exact ⟨rfl, (by repeat (first | exact trivial | refine ⟨⟨_, rfl, AVle.refl _⟩, ?_⟩)), Store.sub_refl _⟩
      · repeat (first | with_reducible refine CW.seq ?_ | with_reducible refine andThen_normal ?_ | refine CW.reg (RL.run tysOk rfl (RL.nil ?_)))
        refine CW.cond rfl (fun h9 => ?_) (fun h9 => ?_)
        · have hT : textN sc tk e.op e.text = (freshS tk, insS tk (freshS tk)) := by
            rw [textN, if_neg (by rw [show (e.op == 3) = false from h3]; simp), if_pos h9]
          rw [hT]
          repeat (first | refine CW.reg ?_ | refine RL.step tysOk rfl rfl rfl rfl ?_)
          refine RL.call rfl rfl rfl rfl rfl (next_spec tk tb _ (Store.set_same _ _ _) (hasFree_of (by omega))) ?_ (fun _ _ ⟨h, _⟩ => by cases h)
          rintro _ _ ⟨⟨⟩, rfl⟩
          rw [Store.set_set]
          repeat (first | refine RL.step tysOk rfl rfl rfl rfl ?_)
          refine RL.storeP tysOk rfl rfl rfl rfl rfl rfl rfl rfl rfl (by rw [Store.set_ne _ _ (Ne.symm h11t)]; exact Store.set_same _ _ _) rfl ?_
          rw [← Store.set_comm _ _ _ (Ne.symm h11t), Store.set_set]
          repeat (first | with_reducible refine inBlock_normal ?_ | refine RL.nil ?_)
          exact ⟨rfl, (by repeat (first | exact trivial | refine ⟨⟨_, rfl, AVle.refl _⟩, ?_⟩)), Store.sub_refl _⟩
        · have hT : textN sc tk e.op e.text = (e.text, tk) := by
            rw [textN, if_neg (by rw [show (e.op == 3) = false from h3]; simp), if_neg (by rw [show (e.op == 9) = false from h9]; simp)]
          rw [hT]
          repeat (first | with_reducible refine inBlock_normal ?_ | with_reducible refine CW.skip ?_)
          exact ⟨rfl, (by repeat (first | exact trivial | refine ⟨⟨_, rfl, AVle.refl _⟩, ?_⟩)), Store.sub_refl _⟩
    have hput := renam_def e sc tk
    have htx := textN_taken sc tk e.op e.text
    generalize textN sc tk e.op e.text = tx at hput htx ⊢
    obtain ⟨t', tk1⟩ := tx
    simp only at hput htx ⊢
    rw [FExp.size_def] at htk
    repeat (first | with_reducible refine CW.seq ?_ | with_reducible refine andThen_normal ?_ | with_reducible refine CW.block ?_ | refine CW.reg (RL.run tysOk rfl (RL.nil ?_)))
    refine CW.loop (σ := Nat × Own × List FExp × List Str) (fun q => [(0, .fptr [.map tb] 0), (2, scopeAV sc), (4, .fptr e.cells 0), (6, .ptr b8 0), (7, .ptr b11 0), (36, .slc 4 e.kav .fro), (37, .int .i64 e.kav.length), (38, .int .i64 (q.1 : Int))])
      (fun q => rowOf (((s.set b8 box0).set b11 (.box 32 (part4 e.op e.n t' q.2.2.1 q.2.1))).set tb (.map (setA q.2.2.2))) 32 4 q.1 q.2.1)
      (fun q => q.1 ≤ e.kids.length ∧ q.2.2.1.length = q.1 ∧ OwnOk (((s.set b8 box0).set b11 (.box 32 (part4 e.op e.n t' q.2.2.1 q.2.1))).set tb (.map (setA q.2.2.2))) q.1 q.2.1 ∧
        q.2.2.2.length + FExp.sizes (e.kids.drop q.1) < 698 ∧
        FExp.renam sc tk e = (.mk e.op e.n t' (q.2.2.1 ++ (FExp.renams (e.op == 9) e.text t' sc q.1 q.2.2.2 (e.kids.drop q.1)).1), (FExp.renams (e.op == 9) e.text t' sc q.1 q.2.2.2 (e.kids.drop q.1)).2))
      (fun q => e.kids.length - q.1) (0, .nil, [], tk1) ⟨by simp, rfl, trivial, by simp; omega, hput⟩ ?_ (Store.sub_refl _) ?_
    · exact (by repeat (first | exact trivial | refine ⟨⟨_, rfl, AVle.refl _⟩, ?_⟩))
    · rintro ⟨j, own, rs, tk2⟩ ⟨hj, hrs, hok, htk2, hP⟩
      simp only at hj hrs hok htk2 hP
      repeat (first | with_reducible refine CW.seq ?_ | with_reducible refine andThen_normal ?_ | refine CW.reg (RL.run tysOk rfl (RL.nil ?_)))
      refine CW.cond rfl (fun h => ?_) (fun h => ?_)
      · have hlt : j < e.kids.length := by rw [hkl] at h; simpa using h
        obtain ⟨k, hk, hk', hks⟩ := FExp.kid_at hlt
        rw [drop_cons hk, FExp.renams] at hP
        rw [FExp.sizes_drop hk] at htk2
        repeat (first | with_reducible refine CW.seq ?_ | with_reducible refine andThen_normal ?_ | with_reducible refine CW.skip ?_ | with_reducible refine CW.block ?_ | refine CW.reg ?_ | refine RL.step tysOk rfl rfl rfl rfl ?_ | refine RL.idx tysOk _ rfl rfl rfl rfl rfl rfl rfl rfl rfl rfl rfl (by assumption) rfl ?_)
        refine RL.alloc tysOk rfl rfl rfl rfl rfl rfl rfl (fun b13 hb13 => ?_)
        refine RL.step tysOk rfl rfl rfl rfl ?_
        refine RL.storeP tysOk rfl rfl rfl rfl rfl rfl rfl rfl rfl (Store.set_same _ _ _) rfl ?_
        rw [Store.set_set]
        refine RL.freeze 9 b13 rfl (Store.set_same _ _ _) ?_
        rw [Store.del_set _ _ _ hb13]
        refine RL.nil (andThen_normal ?_)
        have hnb11 : ∀ b', own = .own b' → b' ≠ b11 := OwnOk.ne (n := j) hok (by rw [Store.set_ne _ _ (Ne.symm h11t)]; exact Store.set_same _ _ _)
        have hnbt : ∀ b', own = .own b' → b' ≠ tb := OwnOk.ne (n := j) hok (Store.set_same _ _ _)
        have hg11 : ∀ M, rowOf (((s.set b8 box0).set b11 (.box 32 (part4 e.op e.n t' rs own))).set tb M) 32 4 j own b11 = some (.box 32 (part4 e.op e.n t' rs own)) := fun M =>
          rowOf_get (m := j) (OwnOk.congr (n := j) (fun z hz => by
            by_cases ez : z = tb
            · subst ez; rw [Store.set_same] at hz; cases hz
            · rw [Store.set_ne _ _ ez] at hz ⊢; exact hz) hok) (by rw [Store.set_ne _ _ (Ne.symm h11t)]; exact Store.set_same _ _ _)
        refine CW.seqCut [(0, .fptr [.map tb] 0), (2, scopeAV sc), (4, .fptr e.cells 0), (6, .ptr b8 0), (7, .ptr b11 0), (36, .slc 4 e.kav .fro), (37, .int .i64 e.kav.length), (38, .int .i64 (j : Int)), (9, .fptr k.cells 0), (8, .int .i64 (j : Int)), (10, scopeAV sc)] (rowOf (((s.set b8 box0).set b11 (.box 32 (part4 e.op e.n t' rs own))).set tb (.map (setA tk2))) 32 4 j own) ?_ ?_
        · repeat (first | refine CW.reg (RL.run tysOk rfl (RL.nil ?_)))
          exact ⟨rfl, (by repeat (first | exact trivial | refine ⟨⟨_, rfl, AVle.refl _⟩, ?_⟩)), Store.sub_refl _⟩
        refine CW.seqCut [(0, .fptr [.map tb] 0), (2, scopeAV sc), (4, .fptr e.cells 0), (6, .ptr b8 0), (7, .ptr b11 0), (36, .slc 4 e.kav .fro), (37, .int .i64 e.kav.length), (38, .int .i64 (j : Int)), (9, .fptr k.cells 0), (10, scopeAV (if e.op == 9 && j == 1 then (e.text, t') :: sc else sc))] (rowOf (((s.set b8 box0).set b11 (.box 32 (part4 e.op e.n t' rs own))).set tb (.map (setA tk2))) 32 4 j own) ?_ ?_
        · repeat (first | with_reducible refine CW.seq ?_ | refine CW.reg ?_ | refine RL.step tysOk rfl rfl rfl rfl ?_)
          refine RL.cut 3 [(0, .fptr [.map tb] 0), (2, scopeAV sc), (4, .fptr e.cells 0), (6, .ptr b8 0), (7, .ptr b11 0), (36, .slc 4 e.kav .fro), (37, .int .i64 e.kav.length), (38, .int .i64 (j : Int)), (9, .fptr k.cells 0), (10, scopeAV sc), (50, .bool (e.op == 9 && j == 1))] ?_ ?_
          · repeat' (first | refine RL.nil ?_ | refine RL.step tysOk rfl rfl rfl rfl ?_ | refine RL.skip rfl rfl rfl ?_ | refine RL.gstepT tysOk rfl rfl rfl rfl rfl rfl rfl (fun _ => ?_) (fun _ => ?_))
            all_goals refine ⟨rfl, (by repeat (first | exact trivial | refine ⟨⟨_, rfl, AVle.refl _⟩, ?_⟩ | refine ⟨⟨_, rfl, AVle.of_eq (by first | (simp_all; done) | (simp_all; rw [Bool.eq_iff_iff]; simp; omega))⟩, ?_⟩)), rfl⟩
          cases hc : e.op == 9 && j == 1 with
          | false =>
            repeat (first | with_reducible refine andThen_normal ?_ | with_reducible refine CW.skip ?_ | refine RL.nil ?_ | refine CW.condF rfl ?_)
            exact ⟨rfl, (by repeat (first | exact trivial | refine ⟨⟨_, rfl, AVle.refl _⟩, ?_⟩)), Store.sub_refl _⟩
          | true =>
            cases sc with
            | nil =>
              repeat (first | with_reducible refine andThen_normal ?_ | refine CW.reg ?_ | refine RL.nil ?_ | refine CW.condT rfl ?_ | refine RL.step tysOk rfl rfl rfl rfl ?_)
              refine RL.loadP tysOk rfl rfl rfl rfl rfl rfl (hg11 _) rfl ?_
              repeat (first | refine RL.nil ?_ | refine RL.step tysOk rfl rfl rfl rfl ?_)
              exact ⟨rfl, (by repeat (first | exact trivial | refine ⟨⟨_, rfl, AVle.refl _⟩, ?_⟩)), Store.sub_refl _⟩
            | cons _ _ =>
              repeat (first | with_reducible refine andThen_normal ?_ | refine CW.reg ?_ | refine RL.nil ?_ | refine CW.condT rfl ?_ | refine RL.step tysOk rfl rfl rfl rfl ?_)
              refine RL.loadP tysOk rfl rfl rfl rfl rfl rfl (hg11 _) rfl ?_
              repeat (first | refine RL.nil ?_ | refine RL.step tysOk rfl rfl rfl rfl ?_)
              exact ⟨rfl, (by repeat (first | exact trivial | refine ⟨⟨_, rfl, AVle.refl _⟩, ?_⟩)), Store.sub_refl _⟩
        generalize (if (e.op == 9 && j == 1) = true then (e.text, t') :: sc else sc) = sc' at hP ⊢
        have hcall := ih k sc' tk2 (rowOf (((s.set b8 box0).set b11 (.box 32 (part4 e.op e.n t' rs own))).set tb (.map (setA tk2))) 32 4 j own) (by omega) (by omega) (by omega)
          (rowOf_get hok (Store.set_same _ _ _))
        rw [rowOf_upd1 hnbt] at hcall
        skip
        refine CW.drw tysOk mixed rfl (RD.run rfl ?_)
        generalize hq : FExp.renam sc' tk2 k = pk at hcall hP ⊢
        obtain ⟨k', tk3⟩ := pk
        simp only at hcall hP
        have htk3 : tk3.length ≤ tk2.length + k.size := by
          have := renam_taken k sc' tk2
          rw [hq] at this; exact this
        refine' RD.loadCall (i := 1) (j := 5) (σ := Unit) (P1 := _) (fun _ => k'.av) (fun _ => rowOf (((s.set b8 box0).set b11 (.box 32 (part4 e.op e.n t' rs own))).set tb (.map (setA tk3))) 32 4 j own) (fun _ => True) tysOk rfl rfl rfl rfl rfl rfl rfl rfl rfl rfl rfl rfl (hg11 _) rfl rfl rfl rfl (OW.call rfl (fv := .func 116 [] []) rfl rfl (ACallV.of_calls hcall)) (fun y s' ⟨h1, h2⟩ => ⟨(), trivial, by cases h1; rfl, h2⟩) ?A ?B ?C (fun _ _ ⟨h, _⟩ => by cases h)
        case A => intro _ _ hP; refine RD.run rfl ?_; exact hP
        case B =>
          intro _ _ hP
          refine RD.run rfl (RD.one (i := 1) rfl rfl rfl rfl rfl (OW.loadP tysOk rfl rfl rfl (hg11 _) rfl (X := fun _ _ => False)) ?_ (fun _ _ h => False.elim h))
          rintro _ _ ⟨rfl, rfl⟩
          refine RD.congr _ (get_mv _ _ _ [_, _] ?_) hP
          rfl
        case C =>
          intro _ _
          have hok3 : OwnOk (((s.set b8 box0).set b11 (.box 32 (part4 e.op e.n t' rs own))).set tb (.map (setA tk3))) j own := by
            have := OwnOk.set (m := j) (o' := .map (setA tk3)) hok (Store.set_same _ _ _)
            rwa [Store.set_set] at this
          refine RD.append1 (i := 7) tysOk rfl rfl rfl rfl rfl rfl rfl rfl rfl (by intro k h; cases h) rfl rfl rfl rfl rfl rfl rfl (n := j) (by simp [hrs]) (by show (j + 1) * 56 ≤ _; omega) (by omega) rfl hok3 (fun b' hb' => ?_)
          have hb11' : ∀ b'', Own.own b' = .own b'' → b'' ≠ b11 := OwnOk.ne (n := j) (own := .own b') hb' (by rw [Store.set_ne _ _ (Ne.symm h11t)]; exact Store.set_same _ _ _)
          refine RD.run rfl ?_
          refine RD.oneN (i := 9) rfl rfl rfl rfl (OW.storeP tysOk rfl rfl rfl rfl rfl rfl rfl (rowOf_get (n := j + 1) (m := j) (own := .own b') hb' (by rw [Store.set_ne _ _ (Ne.symm h11t)]; exact Store.set_same _ _ _)) rfl (X := fun _ _ => False)) ?_ (fun _ _ h => False.elim h)
          rintro _ _ rfl
          refine RD.run rfl (RD.done rfl ?_)
          rw [rowOf_upd2 hb11' (Ne.symm h11t)]
          repeat (first | with_reducible refine andThen_normal ?_ | with_reducible refine inBlock_normal ?_ | refine CW.reg (RL.run tysOk rfl (RL.nil ?_)))
          refine ⟨(j + 1, .own b', rs ++ [k'], tk3), ⟨hlt, by simp [hrs], ?_, by show tk3.length + FExp.sizes (e.kids.drop (j + 1)) < 698; omega, by rw [hP]; simp⟩, (by repeat (first | exact trivial | refine ⟨⟨_, rfl, AVle.refl _⟩, ?_⟩ | refine ⟨⟨_, rfl, AVle.of_eq (by (show AV.int .i64 (IntKind.wrap .i64 ((j : Int) + 1)) = .int .i64 ((j + 1 : Nat) : Int); rw [i64_succ (by omega)]))⟩, ?_⟩)), ?_, by show e.kids.length - (j + 1) < e.kids.length - j; omega⟩
          · refine OwnOk.congr (n := j) (s := ((s.set b8 box0).set b11 (.box 32 (part4 e.op e.n t' rs own))).set tb (.map (setA tk3))) (fun z hz => ?_) hb'
            by_cases e1 : z = tb
            · subst e1; rw [Store.set_same] at hz; cases hz
            · rw [Store.set_ne _ _ e1] at hz ⊢
              by_cases e2 : z = b11
              · subst e2; rw [Store.set_same] at hz; cases hz
              · rw [Store.set_ne _ _ e2] at hz ⊢; exact hz
          · simp only [part4, List.map_append, List.map_cons, List.map_nil]
            exact Store.sub_refl _
      · have hge : e.kids.length ≤ j := by rw [hkl] at h; simpa using h
        have hje : j = e.kids.length := by omega
        rw [List.drop_eq_nil_of_le hge, FExp.renams, List.append_nil] at hP
        repeat (first | with_reducible refine CW.seq ?_ | with_reducible refine andThen_normal ?_ | with_reducible refine andThen_exit ?_ | with_reducible refine inBlock_here ?_ | with_reducible refine CW.exit ?_ | refine CW.reg ?_)
        refine RL.loadP tysOk rfl rfl rfl rfl rfl rfl (rowOf_get hok (by rw [Store.set_ne _ _ (Ne.symm h11t)]; exact Store.set_same _ _ _)) rfl ?_
        refine RL.storeP tysOk rfl rfl rfl rfl rfl rfl rfl rfl rfl (rowOf_get hok (by rw [Store.set_ne _ _ (Ne.symm h8t), Store.set_ne _ _ (fun e => by rw [← e, Store.set_same] at hb11; cases hb11)]; exact Store.set_same _ _ _)) rfl ?_
        repeat (first | with_reducible refine andThen_normal ?_ | with_reducible refine CW.ret ?_ | refine RL.nil ?_)
        refine ⟨_, _, s.set tb (.map (setA tk2)), resA_cell rfl rfl (Store.set_same _ _ _) rfl, part4_le e.op e.n t' rs own, ?_, ?_, ?_⟩
        · have q8 : (s.set tb (.map (setA tk2))) b8 = none := by rw [Store.set_ne _ _ (Ne.symm h8t)]; exact hb8
          have q11 : (s.set tb (.map (setA tk2))) b11 = none := by rw [Store.set_ne _ _ (Ne.symm h11t)]; exact hn11
          refine Store.subSet (Store.subRow (m := j) ?_ ?_) q8
          · rw [Store.set_comm _ _ _ (Ne.symm h11t), Store.set_comm _ _ _ (Ne.symm h8t)]
            exact Store.subSet (Store.subSet (Store.sub_refl _) q8) q11
          · refine OwnOk.congr (n := j) (fun z hz => ?_) hok
            by_cases e1 : z = tb
            · subst e1; rw [Store.set_same] at hz; cases hz
            · rw [Store.set_ne _ _ e1] at hz ⊢
              exact (Store.set_none (Store.set_none hz).2).2
        · rw [hP]
        · rw [hP]
end Go.Proofs.Ytaafacnoddjhgaa

/- Contracts of the layer 'shape': a fact under other names. -/
namespace Go.Proofs.Ytaafacnoddjhgaa
open Go.AE

mutual
/-- A fact whose names stand for others. -/
def FFact.renam (sc : List (Str × Str)) : FFact → FFact
  | .mk o x p c n ks => .mk o (if x == [] then [] else (stands sc x).getD x) p c n (FFact.renams sc ks)
def FFact.renams (sc : List (Str × Str)) : List FFact → List FFact
  | [] => []
  | k :: r => FFact.renam sc k :: FFact.renams sc r
end

theorem FFact.renams_eq (sc : List (Str × Str)) : ∀ l : List FFact, FFact.renams sc l = l.map (FFact.renam sc)
  | [] => rfl
  | k :: r => by rw [FFact.renams, FFact.renams_eq sc r]; rfl

theorem FFact.renam_def (sc : List (Str × Str)) (f : FFact) : f.renam sc = .mk f.op (if f.name == [] then [] else (stands sc f.name).getD f.name) f.path f.cls f.n (f.kids.map (FFact.renam sc)) := by
  cases f; rw [FFact.renam, FFact.renams_eq]; rfl

/-- Its lists of names are not too long to be copied. -/
def FFact.Slim (d : Nat) (f : FFact) : Prop := ∀ (d' : Nat) (g : FFact), (d', Part.fact g) ∈ (Part.fact f).nodes d → g.path.length < big
theorem FFact.Slim.kid {d : Nat} {f k : FFact} (h : f.Slim d) (hk : k ∈ f.kids) : k.Slim (d + 1) := fun d' g hg => h d' g (by
  rw [Part.nodes_eq]
  exact List.mem_cons_of_mem _ (List.mem_flatMap.2 ⟨.fact k, List.mem_map.2 ⟨k, hk, rfl⟩, hg⟩))

def part6 (op : Int) (name : Str) (path : List Str) (cls : Str) (n : Int) (ks : List FFact) (own : Own) : List AV := [.int .i64 op, .str name, .slc 1 (strs path) .fro, .str cls, .int .i64 n, .slc 6 (ks.map FFact.av) own]

theorem part6_le (op : Int) (name : Str) (path : List Str) (cls : Str) (n : Int) (ks : List FFact) (own : Own) : AVle (.agg (part6 op name path cls n ks own)) (FFact.av (.mk op name path cls n ks)) := by
  refine AVle.agg (.cons (AVle.refl _) (.cons (AVle.refl _) (.cons (AVle.refl _) (.cons (AVle.refl _) (.cons (AVle.refl _) (.one ?_))))))
  rw [FFact.kav_eq]; exact AVle.fro

theorem part6_nil (op : Int) (name : Str) (path : List Str) (cls : Str) (n : Int) : AVleL [.int .i64 op, .str name, .slc 1 (strs path) .fro, .str cls, .int .i64 n, .slc 0 [] .nil] (part6 op name path cls n [] .nil) :=
  .cons (AVle.refl _) (.cons (AVle.refl _) (.cons (AVle.refl _) (.cons (AVle.refl _) (.cons (AVle.refl _) (.one (AVle.nil (by simp)))))))

theorem FFact.kid_at {f : FFact} {j : Nat} (h : j < f.kids.length) : ∃ k, f.kids[j]? = some k ∧ f.kav[j]? = some (.agg k.cells) ∧ k.size < f.size := by
  refine ⟨f.kids[j], List.getElem?_eq_getElem h, ?_, FFact.kids_size (List.getElem_mem h)⟩
  rw [FFact.kav_eq]; exact factParts_get _ _ _ (List.getElem?_eq_getElem h)
theorem FFact.kav_length (f : FFact) : f.kav.length = f.kids.length := by rw [FFact.kav_eq, List.length_map]

set_option maxRecDepth 10000 in
set_option maxHeartbeats 1000000 in
theorem renamed_spec (sc : List (Str × Str)) : ∀ (n : Nat) (f : FFact) (d : Nat) (s : Store), f.size ≤ n → f.size ≤ big → f.Slim d →
    ACalls Try.prog 115 [f.av, scopeAV sc] s (fun o s' => o = .ret (f.renam sc).av ∧ s' = s) := by
  intro n
  induction n with
  | zero => intro e d s h; have := e.size_pos; omega
  | succ n ih =>
    intro f d s hn hbig htx
    have hlen := f.kids_length
    have hkl := f.kav_length
    have hb : big = 1099511627776 := rfl
    refine ACalls.of_CW tysOk call115 Try.func115 rfl rfl ?_
    have hpl : f.path.length < big := htx d f (by rw [Part.nodes_eq]; exact List.mem_cons_self)
    repeat (first | with_reducible refine CW.seq ?_ | refine CW.reg ?_ | refine RL.step tysOk rfl rfl rfl rfl ?_)
    refine RL.alloc tysOk rfl rfl rfl rfl rfl rfl rfl (fun b4 hb4 => ?_)
    repeat (first | with_reducible refine CW.seq ?_ | with_reducible refine andThen_normal ?_ | refine RL.nil ?_)
    generalize hZ : AObj.box 58 _ = Z
    refine CW.drw tysOk mixed rfl (RD.run rfl ?_)
    refine RD.calmP (i := 4) rfl rfl rfl rfl rfl rfl rfl (fun s => cloneStr_spec f.path s hpl) ?_
    refine RD.run rfl ?_
    refine RD.one (i := 10) rfl rfl rfl rfl rfl (OW.alloc tysOk rfl rfl rfl rfl (X := fun _ _ => False)) ?_ (fun _ _ h => False.elim h)
    rintro _ _ ⟨b5, hb5, rfl, rfl⟩
    refine RD.run rfl ?_
    refine RD.oneN (i := 11) rfl rfl rfl rfl (OW.storeP tysOk rfl rfl rfl rfl rfl rfl rfl (Store.set_same _ _ _) rfl (X := fun _ _ => False)) ?_ (fun _ _ h => False.elim h)
    rintro _ _ rfl
    refine RD.run rfl (RD.done rfl ?_)
    rw [Store.set_set]
    repeat (first | with_reducible refine CW.seq ?_ | with_reducible refine andThen_normal ?_ | refine CW.reg (RL.run tysOk rfl (RL.nil ?_)))
    refine CW.boxWeak b5 (part6 f.op [] f.path f.cls f.n [] .nil) (Store.set_same _ _ _) (part6_nil _ _ _ _ _) ?_
    rw [Store.set_set]
    have hnm : FFact.renam sc f = .mk f.op (if f.name == [] then [] else (stands sc f.name).getD f.name) f.path f.cls f.n (f.kids.map (FFact.renam sc)) := FFact.renam_def sc f
    obtain ⟨hn5, hs5⟩ := Store.set_none hb5
    refine CW.atCut (σ := Unit) (fun _ => [(1, scopeAV sc), (2, .fptr f.cells 0), (4, .ptr b4 0), (5, .ptr b5 0)]) (fun _ => (s.set b4 Z).set b5 (.box 58 (part6 f.op (if f.name == [] then [] else (stands sc f.name).getD f.name) f.path f.cls f.n [] .nil))) (fun _ => True) ?_ ?_
    · refine CW.cond rfl (fun h => ?_) (fun h => ?_)
      · have h' : (f.name == []) = false := by
          have : (!(f.name == [])) = true := h
          simpa using this
        rw [h']
        repeat (first | refine CW.reg ?_ | refine RL.step tysOk rfl rfl rfl rfl ?_)
        refine RL.callP rfl rfl rfl rfl rfl (scopeLook_spec f.name _ sc) ?_
        repeat (first | refine RL.nil ?_ | refine RL.step tysOk rfl rfl rfl rfl ?_ | (refine RL.storeP tysOk rfl rfl rfl rfl rfl rfl rfl rfl rfl (Store.set_same _ _ _) rfl ?_; try with_reducible rw [Store.set_set]))
        exact ⟨rfl, (), trivial, (by repeat (first | exact trivial | refine ⟨⟨_, rfl, AVle.refl _⟩, ?_⟩)), Store.sub_refl _⟩
      · have h' : (f.name == []) = true := by
          have : (!(f.name == [])) = false := h
          simpa using this
        rw [h']
        repeat (first | with_reducible refine CW.skip ?_)
        exact ⟨rfl, (), trivial, (by repeat (first | exact trivial | refine ⟨⟨_, rfl, AVle.refl _⟩, ?_⟩)), Store.sub_refl _⟩
    intro _ _
    generalize (if (f.name == []) = true then [] else (stands sc f.name).getD f.name) = nm at hnm ⊢
    repeat (first | with_reducible refine CW.seq ?_ | with_reducible refine andThen_normal ?_ | with_reducible refine CW.block ?_ | refine CW.reg (RL.run tysOk rfl (RL.nil ?_)))
    refine CW.loop (σ := Nat × Own) (fun q => [(1, scopeAV sc), (2, .fptr f.cells 0), (4, .ptr b4 0), (5, .ptr b5 0), (30, .slc 6 f.kav .fro), (31, .int .i64 f.kav.length), (32, .int .i64 (q.1 : Int))])
      (fun q => rowOf ((s.set b4 Z).set b5 (.box 58 (part6 f.op nm f.path f.cls f.n ((f.kids.take q.1).map (FFact.renam sc)) q.2))) 58 6 q.1 q.2)
      (fun q => q.1 ≤ f.kids.length ∧ OwnOk ((s.set b4 Z).set b5 (.box 58 (part6 f.op nm f.path f.cls f.n ((f.kids.take q.1).map (FFact.renam sc)) q.2))) q.1 q.2) (fun q => f.kids.length - q.1) (0, .nil) ⟨by simp, trivial⟩ ?_ (Store.sub_refl _) ?_
    · exact (by repeat (first | exact trivial | refine ⟨⟨_, rfl, AVle.refl _⟩, ?_⟩))
    · rintro ⟨j, own⟩ ⟨hj, hok⟩
      simp only at hj hok
      repeat (first | with_reducible refine CW.seq ?_ | with_reducible refine andThen_normal ?_ | refine CW.reg (RL.run tysOk rfl (RL.nil ?_)))
      refine CW.cond rfl (fun h => ?_) (fun h => ?_)
      · have hlt : j < f.kids.length := by rw [hkl] at h; simpa using h
        obtain ⟨k, hk, hk', hks⟩ := FFact.kid_at hlt
        repeat (first | with_reducible refine CW.seq ?_ | with_reducible refine andThen_normal ?_ | with_reducible refine CW.skip ?_ | with_reducible refine CW.block ?_ | refine CW.reg ?_ | refine RL.step tysOk rfl rfl rfl rfl ?_ | refine RL.idx tysOk _ rfl rfl rfl rfl rfl rfl rfl rfl rfl rfl rfl (by assumption) rfl ?_)
        refine RL.newBox tysOk rfl rfl rfl rfl rfl rfl rfl (fun _ => rfl) rfl rfl (fun _ => rfl) rfl rfl rfl rfl ?_
        repeat (first | with_reducible refine andThen_normal ?_ | refine RL.nil ?_)
        refine CW.drw tysOk mixed rfl (RD.run rfl ?_)
        refine RD.calmP (i := 4) rfl rfl rfl rfl rfl rfl rfl (fun s => ih k (d + 1) s (by omega) (by omega) (htx.kid (List.mem_of_getElem? hk))) ?_
        refine RD.run rfl ?_
        refine RD.one (i := 1) rfl rfl rfl rfl rfl (OW.loadP tysOk rfl rfl rfl (rowOf_get hok (Store.set_same _ _ _)) rfl (X := fun _ _ => False)) ?_ (fun _ _ h => False.elim h)
        rintro _ _ ⟨rfl, rfl⟩
        refine RD.run rfl ?_
        refine RD.append1 (i := 6) tysOk rfl rfl rfl rfl rfl rfl rfl rfl rfl (by intro k h; cases h) rfl rfl rfl rfl rfl rfl rfl (n := j) (by simp; omega) (by show (j + 1) * 96 ≤ _; omega) (by omega) rfl hok (fun b' hb' => ?_)
        refine RD.run rfl ?_
        refine RD.oneN (i := 8) rfl rfl rfl rfl (OW.storeP tysOk rfl rfl rfl rfl rfl rfl rfl (rowOf_get (n := j + 1) (m := j) (own := .own b') hb' (Store.set_same _ _ _)) rfl (X := fun _ _ => False)) ?_ (fun _ _ h => False.elim h)
        rintro _ _ rfl
        refine RD.run rfl (RD.done rfl ?_)
        rw [rowOf_set (OwnOk.ne (n := j) (own := .own b') hb' (Store.set_same _ _ _)), Store.set_set]
        repeat (first | with_reducible refine andThen_normal ?_ | with_reducible refine inBlock_normal ?_ | refine CW.reg (RL.run tysOk rfl (RL.nil ?_)))
        refine ⟨(j + 1, .own b'), ⟨hlt, ?_⟩, (by repeat (first | exact trivial | refine ⟨⟨_, rfl, AVle.refl _⟩, ?_⟩ | refine ⟨⟨_, rfl, AVle.of_eq (by (show AV.int .i64 (IntKind.wrap .i64 ((j : Int) + 1)) = .int .i64 ((j + 1 : Nat) : Int); rw [i64_succ (by omega)]))⟩, ?_⟩)), ?_, by show f.kids.length - (j + 1) < f.kids.length - j; omega⟩
        · have := OwnOk.set (m := j + 1) (n := j) (own := .own b') (o' := .box 58 (part6 f.op nm f.path f.cls f.n ((f.kids.take (j + 1)).map (FFact.renam sc)) (.own b'))) hb' (Store.set_same _ _ _)
          rwa [Store.set_set] at this
        · simp only [part6, ← map_take_succ (FFact.renam sc) hk, List.map_append, List.map_cons, List.map_nil]
          exact Store.sub_refl _
      · have hge : f.kids.length ≤ j := by rw [hkl] at h; simpa using h
        have hje : j = f.kids.length := by omega
        subst hje
        rw [List.take_length] at hok ⊢
        repeat (first | with_reducible refine CW.seq ?_ | with_reducible refine andThen_normal ?_ | with_reducible refine andThen_exit ?_ | with_reducible refine inBlock_here ?_ | with_reducible refine CW.exit ?_ | refine CW.reg ?_)
        refine RL.loadP tysOk rfl rfl rfl rfl rfl rfl (rowOf_get hok (Store.set_same _ _ _)) rfl ?_
        subst hZ
        refine RL.storeP tysOk rfl rfl rfl rfl rfl rfl rfl rfl rfl (rowOf_get hok (by rw [Store.set_ne _ _ (Ne.symm hn5)]; exact Store.set_same _ _ _)) rfl ?_
        refine RL.freeze 4 b4 rfl (Store.set_same _ _ _) ?_
        repeat (first | with_reducible refine andThen_normal ?_ | with_reducible refine CW.ret ?_ | refine RL.nil ?_)
        refine ⟨_, _, s, rfl, part6_le _ _ _ _ _ _ own, ?_, by rw [hnm], rfl⟩
        exact Store.subDel (Store.subSet (Store.subRow (Store.subSet (Store.subSet (Store.sub_refl _) hb4) hs5) (OwnOk.of_set (m := f.kids.length) (OwnOk.of_set (m := f.kids.length) hok))) hb4) hb4

end Go.Proofs.Ytaafacnoddjhgaa

/- Contracts of the layer 'shape': a program with the first names for its bound ones. -/
namespace Go.Proofs.Ytaafacnoddjhgaa
open Go.AE

/-- New names for a function's parameters: the names, what stands for what, what names are taken. -/
def paramsN : List Str → List Str → List (Str × Str) → List Str → List Str × List (Str × Str) × List Str
  | [], ns, sc, tk => (ns, sc, tk)
  | x :: r, ns, sc, tk => paramsN r (ns ++ [freshS tk]) ((x, freshS tk) :: sc) (insS tk (freshS tk))

def FMethod.canon (m : FMethod) : FMethod :=
  let p := paramsN m.params [] [] []
  { kind := m.kind, name := m.name, params := p.1, fact := m.fact.renam p.2.1, body := (FExp.renam p.2.1 p.2.2 m.body).1 }

def FProg.canon (P : FProg) : FProg := { classes := P.classes, methods := P.methods.map FMethod.canon, main := (FExp.renam [] [] P.main).1 }

theorem Store.subRowOf {s t : Store} {e : TypeId} {sz n : Nat} {own : Own} (h : Store.Sub s t) : Store.Sub (rowOf s e sz n own) (rowOf t e sz n own) := by
  cases own with
  | own b =>
    intro x
    by_cases ex : x = b
    · subst ex; left; show (s.set x _) x = (t.set x _) x; rw [Store.set_same, Store.set_same]
    · show (s.set b _) x = (t.set b _) x ∨ (s.set b _) x = none
      rw [Store.set_ne _ _ ex, Store.set_ne _ _ ex]; exact h x
  | nil => exact h
  | clip => exact h
  | fro => exact h

theorem rowOf_none {s : Store} {e : TypeId} {sz n b : Nat} {own : Own} (h : rowOf s e sz n own b = none) : (∀ b', own = .own b' → b' ≠ b) ∧ s b = none := by
  cases own with
  | own b' =>
    have := Store.set_none (s := s) (b := b') h
    exact ⟨fun b'' e => by cases e; exact fun e => this.1 e.symm, this.2⟩
  | nil => exact ⟨(fun _ e => by cases e), h⟩
  | clip => exact ⟨(fun _ e => by cases e), h⟩
  | fro => exact ⟨(fun _ e => by cases e), h⟩

/-- A function that is being written: no fact and no body yet. -/
def newMeth (k : Int) (name : Str) (ns : List Str) (own : Own) : List AV :=
  [.int .i64 k, .str name, .slc 1 (strs ns) own, .int .i64 0, .str [], .slc 0 [] .nil, .str [], .int .i64 0, .slc 0 [] .nil, .int .i64 0, .int .i64 0, .str [], .slc 0 [] .nil]

theorem newMeth_nil (k : Int) (name : Str) : AVleL [.int .i64 k, .str name, .slc 0 [] .nil, .int .i64 0, .str [], .slc 0 [] .nil, .str [], .int .i64 0, .slc 0 [] .nil, .int .i64 0, .int .i64 0, .str [], .slc 0 [] .nil] (newMeth k name [] .nil) :=
  .cons (AVle.refl _) (.cons (AVle.refl _) (.cons (AVle.nil (by simp)) (AVleL.refl _)))

/-- A program that is being written. -/
def newProg (cl : List FClass) (oc : Own) (ms : List FMethod) (om : Own) : List AV := [.slc 4 (cl.map FClass.av) oc, .slc 13 (ms.map FMethod.av) om, .int .i64 0, .int .i64 0, .str [], .slc 0 [] .nil]

theorem newProg_nil : AVleL [.slc 0 [] .nil, .slc 0 [] .nil, .int .i64 0, .int .i64 0, .str [], .slc 0 [] .nil] (newProg [] .nil [] .nil) :=
  .cons (AVle.nil (by simp)) (.cons (AVle.nil (by simp)) (AVleL.refl _))

structure FProg.Canonable (P : FProg) : Prop where
  clen : P.classes.length < big
  cls : ∀ c ∈ P.classes, c.parents.length < big ∧ c.slots.length < big ∧ c.inits.length < big
  mlen : P.methods.length < 1048577
  mth : ∀ m ∈ P.methods, m.params.length + m.body.size < 698 ∧ m.fact.size ≤ big ∧ m.fact.Slim 1
  main : P.main.size < 698

set_option maxRecDepth 10000 in
set_option maxHeartbeats 2000000 in
theorem canon_spec (P : FProg) (s : Store) (hP : P.Canonable) :
    ACalls Try.prog 80 [P.av] s (fun o s' => o = .ret P.canon.av ∧ s' = s) := by
  have hb : big = 1099511627776 := rfl
  have hcl := hP.clen
  have hml := hP.mlen
  refine ACalls.of_CW tysOk call80 Try.func80 rfl rfl ?_
  repeat (first | with_reducible refine CW.seq ?_ | refine CW.reg ?_ | refine RL.step tysOk rfl rfl rfl rfl ?_)
  refine RL.alloc tysOk rfl rfl rfl rfl rfl rfl rfl (fun b2 hb2 => ?_)
  repeat (first | with_reducible refine CW.seq ?_ | with_reducible refine andThen_normal ?_ | refine CW.reg ?_ | refine RL.nil ?_)
  refine RL.alloc tysOk rfl rfl rfl rfl rfl rfl rfl (fun b3 hb3 => ?_)
  refine RL.boxWeak b3 (newProg [] .nil [] .nil) (Store.set_same _ _ _) newProg_nil ?_
  rw [Store.set_set]
  generalize hZ : AObj.box 34 _ = Z at hb3 ⊢
  obtain ⟨hn3, hs3⟩ := Store.set_none hb3
  repeat (first | with_reducible refine CW.seq ?_ | with_reducible refine andThen_normal ?_ | with_reducible refine CW.block ?_ | refine CW.reg (RL.run tysOk rfl (RL.nil ?_)) | refine RL.nil ?_)
  refine CW.loop (σ := Nat × Own) (fun q => [(1, .fptr P.cells 0), (2, .ptr b2 0), (3, .ptr b3 0), (16, .slc 4 (P.classes.map FClass.av) .fro), (17, .int .i64 (P.classes.map FClass.av).length), (18, .int .i64 (q.1 : Int))])
    (fun q => rowOf ((s.set b2 Z).set b3 (.box 34 (newProg (P.classes.take q.1) q.2 [] .nil))) 100 4 q.1 q.2)
    (fun q => q.1 ≤ P.classes.length ∧ OwnOk ((s.set b2 Z).set b3 (.box 34 (newProg (P.classes.take q.1) q.2 [] .nil))) q.1 q.2) (fun q => P.classes.length - q.1) (0, .nil) ⟨by simp, trivial⟩ ?_ (Store.sub_refl _) ?_
  · exact (by repeat (first | exact trivial | refine ⟨⟨_, rfl, AVle.refl _⟩, ?_⟩))
  · rintro ⟨j, own⟩ ⟨hj, hok⟩
    simp only at hj hok
    repeat (first | with_reducible refine CW.seq ?_ | with_reducible refine andThen_normal ?_ | refine CW.reg (RL.run tysOk rfl (RL.nil ?_)))
    refine CW.cond rfl (fun h => ?_) (fun h => ?_)
    · have hlt : j < P.classes.length := by simpa using h
      obtain ⟨c, hk⟩ : ∃ c, P.classes[j]? = some c := ⟨_, List.getElem?_eq_getElem hlt⟩
      have hk' : (P.classes.map FClass.av)[j]? = some (.agg c.cells) := by rw [List.getElem?_map, hk]; rfl
      obtain ⟨q1, q2, q3⟩ := hP.cls c (List.mem_of_getElem? hk)
      repeat (first | with_reducible refine CW.seq ?_ | with_reducible refine andThen_normal ?_ | with_reducible refine CW.skip ?_ | with_reducible refine CW.block ?_ | refine CW.reg ?_ | refine RL.step tysOk rfl rfl rfl rfl ?_ | refine RL.idx tysOk _ rfl rfl rfl rfl rfl rfl rfl rfl rfl rfl rfl (by assumption) rfl ?_)
      refine RL.newBox tysOk rfl rfl rfl rfl rfl rfl rfl (fun _ => rfl) rfl rfl (fun _ => rfl) rfl rfl rfl rfl ?_
      repeat (first | with_reducible refine andThen_normal ?_ | refine RL.nil ?_)
      refine CW.drw tysOk mixed rfl (RD.run rfl ?_)
      refine RD.calmP (i := 6) rfl rfl rfl rfl rfl rfl rfl (fun s => cloneStr_spec c.parents s q1) ?_
      refine RD.run rfl ?_
      refine RD.calmP (i := 9) rfl rfl rfl rfl rfl rfl rfl (fun s => cloneStr_spec c.slots s q2) ?_
      refine RD.run rfl ?_
      refine RD.calmP (i := 12) rfl rfl rfl rfl rfl rfl rfl (fun s => cloneInit_spec c.inits s q3) ?_
      refine RD.run rfl ?_
      refine RD.one (i := 1) rfl rfl rfl rfl rfl (OW.loadP tysOk rfl rfl rfl (rowOf_get hok (Store.set_same _ _ _)) rfl (X := fun _ _ => False)) ?_ (fun _ _ h => False.elim h)
      rintro _ _ ⟨rfl, rfl⟩
      refine RD.run rfl ?_
      refine RD.append1 (i := 15) tysOk rfl rfl rfl rfl rfl rfl rfl rfl rfl (by intro k h; cases h) rfl rfl rfl rfl rfl rfl rfl (n := j) (by simp; omega) (by show (j + 1) * 88 ≤ _; omega) (by omega) rfl hok (fun b' hb' => ?_)
      refine RD.run rfl ?_
      refine RD.oneN (i := 17) rfl rfl rfl rfl (OW.storeP tysOk rfl rfl rfl rfl rfl rfl rfl (rowOf_get (n := j + 1) (m := j) (own := .own b') hb' (Store.set_same _ _ _)) rfl (X := fun _ _ => False)) ?_ (fun _ _ h => False.elim h)
      rintro _ _ rfl
      refine RD.run rfl (RD.done rfl ?_)
      rw [rowOf_set (OwnOk.ne (n := j) (own := .own b') hb' (Store.set_same _ _ _)), Store.set_set]
      repeat (first | with_reducible refine andThen_normal ?_ | with_reducible refine inBlock_normal ?_ | refine CW.reg (RL.run tysOk rfl (RL.nil ?_)))
      refine ⟨(j + 1, .own b'), ⟨hlt, ?_⟩, (by repeat (first | exact trivial | refine ⟨⟨_, rfl, AVle.refl _⟩, ?_⟩ | refine ⟨⟨_, rfl, AVle.of_eq (by (show AV.int .i64 (IntKind.wrap .i64 ((j : Int) + 1)) = .int .i64 ((j + 1 : Nat) : Int); rw [i64_succ (by omega)]))⟩, ?_⟩)), ?_, by show P.classes.length - (j + 1) < P.classes.length - j; omega⟩
      · have := OwnOk.set (m := j + 1) (n := j) (own := .own b') (o' := .box 34 (newProg (P.classes.take (j + 1)) (.own b') [] .nil)) hb' (Store.set_same _ _ _)
        rwa [Store.set_set] at this
      · simp only [newProg, ← map_take_succ FClass.av hk]
        exact Store.sub_refl _
    · have hje : j = P.classes.length := by have : P.classes.length ≤ j := by simpa using h
                                            omega
      subst hje
      rw [List.take_length] at hok ⊢
      refine CW.drop _ (rowOf_sub hok) ?_
      refine CW.boxWeak b3 (newProg P.classes .fro [] .nil) (Store.set_same _ _ _) (.cons AVle.fro (AVleL.refl _)) ?_
      rw [Store.set_set]
      repeat (first | with_reducible refine CW.seq ?_ | with_reducible refine andThen_normal ?_ | with_reducible refine andThen_exit ?_ | with_reducible refine inBlock_here ?_ | with_reducible refine CW.exit ?_ | with_reducible refine CW.block ?_ | refine CW.reg (RL.run tysOk rfl (RL.nil ?_)))
      refine CW.loop (σ := Nat × Own) (fun q => [(1, .fptr P.cells 0), (2, .ptr b2 0), (3, .ptr b3 0), (41, .slc 13 (P.methods.map FMethod.av) .fro), (42, .int .i64 (P.methods.map FMethod.av).length), (43, .int .i64 (q.1 : Int))])
        (fun q => rowOf ((s.set b2 Z).set b3 (.box 34 (newProg P.classes .fro ((P.methods.take q.1).map FMethod.canon) q.2))) 70 13 q.1 q.2)
        (fun q => q.1 ≤ P.methods.length ∧ OwnOk ((s.set b2 Z).set b3 (.box 34 (newProg P.classes .fro ((P.methods.take q.1).map FMethod.canon) q.2))) q.1 q.2) (fun q => P.methods.length - q.1) (0, .nil) ⟨by simp, trivial⟩ ?_ (Store.sub_refl _) ?_
      · exact (by repeat (first | exact trivial | refine ⟨⟨_, rfl, AVle.refl _⟩, ?_⟩))
      · clear hok hj h own
        rintro ⟨j, own⟩ ⟨hj, hok⟩
        simp only at hj hok
        repeat (first | with_reducible refine CW.seq ?_ | with_reducible refine andThen_normal ?_ | refine CW.reg (RL.run tysOk rfl (RL.nil ?_)))
        refine CW.cond rfl (fun h => ?_) (fun h => ?_)
        · have hlt : j < P.methods.length := by simpa using h
          obtain ⟨m, hk⟩ : ∃ m, P.methods[j]? = some m := ⟨_, List.getElem?_eq_getElem hlt⟩
          have hk' : (P.methods.map FMethod.av)[j]? = some (.agg m.cells) := by rw [List.getElem?_map, hk]; rfl
          obtain ⟨q1, q2, q3⟩ := hP.mth m (List.mem_of_getElem? hk)
          rw [FMethod.cellsG] at hk'
          repeat (first | with_reducible refine CW.seq ?_ | with_reducible refine andThen_normal ?_ | with_reducible refine CW.skip ?_ | with_reducible refine CW.block ?_ | refine CW.reg ?_ | refine RL.step tysOk rfl rfl rfl rfl ?_ | refine RL.idx tysOk _ rfl rfl rfl rfl rfl rfl rfl rfl rfl rfl rfl (by assumption) rfl ?_)
          refine RL.newBox tysOk rfl rfl rfl rfl rfl rfl rfl (fun _ => rfl) rfl rfl (fun _ => rfl) rfl rfl rfl rfl ?_
          rw [← FMethod.cellsG]
          generalize hU : rowOf _ _ _ _ _ = U
          repeat (first | with_reducible refine CW.seq ?_ | with_reducible refine andThen_normal ?_ | refine CW.reg ?_ | refine RL.nil ?_)
          refine RL.makeMap rfl rfl rfl rfl (fun tb htb => ?_)
          repeat (first | with_reducible refine CW.seq ?_ | with_reducible refine andThen_normal ?_ | refine CW.reg (RL.run tysOk rfl (RL.nil ?_)) | refine CW.reg ?_ | refine RL.nil ?_ | refine RL.step tysOk rfl rfl rfl rfl ?_)
          refine RL.alloc tysOk rfl rfl rfl rfl rfl rfl rfl (fun b10 hb10 => ?_)
          repeat (first | with_reducible refine CW.seq ?_ | with_reducible refine andThen_normal ?_ | with_reducible refine CW.block ?_ | refine CW.reg (RL.run tysOk rfl (RL.nil ?_)) | refine RL.nil ?_ | (refine RL.storeP tysOk rfl rfl rfl rfl rfl rfl rfl rfl rfl (Store.set_same _ _ _) rfl ?_; try with_reducible rw [Store.set_set]))
          refine CW.boxWeak b10 (newMeth m.kind m.name [] .nil) (Store.set_same _ _ _) (newMeth_nil _ _) ?_
          rw [Store.set_set]
          obtain ⟨hnt, hU10⟩ := Store.set_none hb10
          have htb10 : tb ≠ b10 := fun e => by subst e; rw [Store.set_same] at hb10; cases hb10
          refine CW.loop (σ := Nat × Own × List Str × List (Str × Str) × List Str) (fun q => [(1, .fptr P.cells 0), (2, .ptr b2 0), (3, .ptr b3 0), (7, .fptr m.cells 0), (8, .fptr [.map tb] 0), (9, scopeAV q.2.2.2.1), (10, .ptr b10 0), (41, .slc 13 (P.methods.map FMethod.av) .fro), (42, .int .i64 (P.methods.map FMethod.av).length), (43, .int .i64 (j : Int)), (56, .slc 1 (strs m.params) .fro), (57, .int .i64 (strs m.params).length), (58, .int .i64 (q.1 : Int))])
            (fun q => rowOf ((U.set tb (.map (setA q.2.2.2.2))).set b10 (.box 70 (newMeth m.kind m.name q.2.2.1 q.2.1))) 9 1 q.1 q.2.1)
            (fun q => q.1 ≤ m.params.length ∧ OwnOk U 0 q.2.1 ∧ (∀ b', q.2.1 = .own b' → b' ≠ tb ∧ b' ≠ b10) ∧ q.2.2.1.length = q.1 ∧ q.2.2.2.2.length ≤ q.1 ∧ paramsN (m.params.drop q.1) q.2.2.1 q.2.2.2.1 q.2.2.2.2 = paramsN m.params [] [] []) (fun q => m.params.length - q.1)
            (0, .nil, [], [], []) ⟨by simp, trivial, (fun _ e => by cases e), rfl, Nat.le_refl _, rfl⟩ ?_ (Store.sub_refl _) ?_
          · exact (by repeat (first | exact trivial | refine ⟨⟨_, rfl, AVle.refl _⟩, ?_⟩))
          · rintro ⟨i, own1, ns, sc, tk⟩ ⟨hi, hok1, hne1, hns, htk, hI⟩
            simp only at hi hok1 hne1 hns htk hI
            have hokS : ∀ M Y, OwnOk ((U.set tb M).set b10 Y) i own1 := fun M Y => by
              cases own1 with
              | own b' =>
                obtain ⟨e1, e2⟩ := hne1 b' rfl
                show ((U.set tb M).set b10 Y) b' = none
                rw [Store.set_ne _ _ e2, Store.set_ne _ _ e1]; exact hok1
              | nil => trivial
              | clip => trivial
              | fro => exact hok1
            repeat (first | with_reducible refine CW.seq ?_ | with_reducible refine andThen_normal ?_ | refine CW.reg (RL.run tysOk rfl (RL.nil ?_)))
            refine CW.cond rfl (fun h => ?_) (fun h => ?_)
            · have hlti : i < m.params.length := by simpa using h
              obtain ⟨x, hx⟩ : ∃ x, m.params[i]? = some x := ⟨_, List.getElem?_eq_getElem hlti⟩
              have hx' : (strs m.params)[i]? = some (.str x) := by rw [strs, List.getElem?_map, hx]; rfl
              rw [drop_cons hx, paramsN] at hI
              repeat (first | with_reducible refine CW.seq ?_ | with_reducible refine andThen_normal ?_ | with_reducible refine CW.skip ?_ | with_reducible refine CW.block ?_ | refine CW.reg ?_ | refine RL.nil ?_ | refine RL.step tysOk rfl rfl rfl rfl ?_ | refine RL.idx tysOk _ rfl rfl rfl rfl rfl rfl rfl rfl rfl rfl rfl (by assumption) rfl ?_)
              refine RL.call rfl rfl rfl rfl rfl (next_spec tk tb _ (rowOf_get (hokS _ _) (by rw [Store.set_ne _ _ htb10]; exact Store.set_same _ _ _)) (hasFree_of (by omega))) ?_ (fun _ _ ⟨h, _⟩ => by cases h)
              rintro _ _ ⟨⟨⟩, rfl⟩
              rw [rowOf_upd2 (fun b' e => (hne1 b' e).1) htb10]
              cases sc with
              | nil =>
                repeat (first | with_reducible refine CW.seq ?_ | with_reducible refine andThen_normal ?_ | refine CW.reg (RL.run tysOk rfl (RL.nil ?_)) | refine CW.reg ?_ | refine RL.nil ?_ | refine RL.step tysOk rfl rfl rfl rfl ?_)
                refine RL.loadP tysOk rfl rfl rfl rfl rfl rfl (rowOf_get (hokS _ _) (Store.set_same _ _ _)) rfl ?_
                repeat (first | refine RL.step tysOk rfl rfl rfl rfl ?_)
                refine RL.append1 tysOk rfl rfl rfl rfl rfl rfl rfl (by intro k; simp) rfl rfl rfl rfl rfl rfl rfl (n := i) (by simp; omega) (by show (i + 1) * 16 ≤ _; omega) (by omega) (s := (U.set tb (.map (setA (insS tk (freshS tk))))).set b10 (.box 70 (newMeth m.kind m.name ns own1))) rfl (hokS _ _) (fun b' hb' => ?_)
                simp only [Store.set_eq_none] at hb'
                repeat (first | refine RL.step tysOk rfl rfl rfl rfl ?_)
                refine RL.storeP tysOk rfl rfl rfl rfl rfl rfl rfl rfl rfl (rowOf_get (m := 0) (show _ = none from by simp only [Store.set_eq_none]; exact hb') (Store.set_same _ _ _)) rfl ?_
                rw [rowOf_upd1 (fun b'' e => by cases e; exact hb'.1)]
                repeat (first | with_reducible refine andThen_normal ?_ | with_reducible refine inBlock_normal ?_ | refine CW.reg (RL.run tysOk rfl (RL.nil ?_)) | refine RL.nil ?_)
                refine ⟨(i + 1, .own b', ns ++ [freshS tk], (x, freshS tk) :: [], insS tk (freshS tk)), ⟨hlti, hb'.2.2, (fun b'' e => by cases e; exact ⟨hb'.2.1, hb'.1⟩), by simp [hns], by have := insS_len tk (freshS tk); show (insS tk (freshS tk)).length ≤ i + 1; omega, hI⟩, (by repeat (first | exact trivial | refine ⟨⟨_, rfl, AVle.refl _⟩, ?_⟩ | refine ⟨⟨_, rfl, AVle.of_eq (by (show AV.int .i64 (IntKind.wrap .i64 ((i : Int) + 1)) = .int .i64 ((i + 1 : Nat) : Int); rw [i64_succ (by omega)]))⟩, ?_⟩)), ?_, by show m.params.length - (i + 1) < m.params.length - i; omega⟩
                simp only [newMeth, strs, List.map_append, List.map_cons, List.map_nil]
                exact Store.sub_refl _
              | cons a b =>
                repeat (first | with_reducible refine CW.seq ?_ | with_reducible refine andThen_normal ?_ | refine CW.reg (RL.run tysOk rfl (RL.nil ?_)) | refine CW.reg ?_ | refine RL.nil ?_ | refine RL.step tysOk rfl rfl rfl rfl ?_)
                refine RL.loadP tysOk rfl rfl rfl rfl rfl rfl (rowOf_get (hokS _ _) (Store.set_same _ _ _)) rfl ?_
                repeat (first | refine RL.step tysOk rfl rfl rfl rfl ?_)
                refine RL.append1 tysOk rfl rfl rfl rfl rfl rfl rfl (by intro k; simp) rfl rfl rfl rfl rfl rfl rfl (n := i) (by simp; omega) (by show (i + 1) * 16 ≤ _; omega) (by omega) (s := (U.set tb (.map (setA (insS tk (freshS tk))))).set b10 (.box 70 (newMeth m.kind m.name ns own1))) rfl (hokS _ _) (fun b' hb' => ?_)
                simp only [Store.set_eq_none] at hb'
                repeat (first | refine RL.step tysOk rfl rfl rfl rfl ?_)
                refine RL.storeP tysOk rfl rfl rfl rfl rfl rfl rfl rfl rfl (rowOf_get (m := 0) (show _ = none from by simp only [Store.set_eq_none]; exact hb') (Store.set_same _ _ _)) rfl ?_
                rw [rowOf_upd1 (fun b'' e => by cases e; exact hb'.1)]
                repeat (first | with_reducible refine andThen_normal ?_ | with_reducible refine inBlock_normal ?_ | refine CW.reg (RL.run tysOk rfl (RL.nil ?_)) | refine RL.nil ?_)
                refine ⟨(i + 1, .own b', ns ++ [freshS tk], (x, freshS tk) :: (a :: b), insS tk (freshS tk)), ⟨hlti, hb'.2.2, (fun b'' e => by cases e; exact ⟨hb'.2.1, hb'.1⟩), by simp [hns], by have := insS_len tk (freshS tk); show (insS tk (freshS tk)).length ≤ i + 1; omega, hI⟩, (by repeat (first | exact trivial | refine ⟨⟨_, rfl, AVle.refl _⟩, ?_⟩ | refine ⟨⟨_, rfl, AVle.of_eq (by (show AV.int .i64 (IntKind.wrap .i64 ((i : Int) + 1)) = .int .i64 ((i + 1 : Nat) : Int); rw [i64_succ (by omega)]))⟩, ?_⟩)), ?_, by show m.params.length - (i + 1) < m.params.length - i; omega⟩
                simp only [newMeth, strs, List.map_append, List.map_cons, List.map_nil]
                exact Store.sub_refl _
            · have hie : i = m.params.length := by have : m.params.length ≤ i := by simpa using h
                                                   omega
              subst hie
              rw [List.drop_length, paramsN] at hI
              refine CW.drop _ (rowOf_sub (hokS _ _)) ?_
              refine CW.boxWeak b10 (newMeth m.kind m.name ns .fro) (Store.set_same _ _ _) (.cons (AVle.refl _) (.cons (AVle.refl _) (.cons AVle.fro (AVleL.refl _)))) ?_
              rw [Store.set_set]
              have hcn : FMethod.canon m = { kind := m.kind, name := m.name, params := ns, fact := m.fact.renam sc, body := (FExp.renam sc tk m.body).1 } := by rw [FMethod.canon, ← hI]
              repeat (first | with_reducible refine CW.seq ?_ | with_reducible refine andThen_normal ?_ | with_reducible refine andThen_exit ?_ | with_reducible refine inBlock_here ?_ | with_reducible refine CW.exit ?_ | refine CW.reg ?_ | refine RL.step tysOk rfl rfl rfl rfl ?_)
              refine RL.callP rfl rfl rfl rfl rfl (renamed_spec sc m.fact.size m.fact 1 _ (Nat.le_refl _) q2 q3) ?_
              repeat (first | with_reducible refine CW.seq ?_ | with_reducible refine andThen_normal ?_ | refine CW.reg ?_ | refine RL.nil ?_ | refine RL.step tysOk rfl rfl rfl rfl ?_ | (refine RL.storeP tysOk rfl rfl rfl rfl rfl rfl rfl rfl rfl (Store.set_same _ _ _) rfl ?_; try with_reducible rw [Store.set_set]))
              refine RL.call rfl rfl rfl rfl rfl (exp_spec tb m.body.size m.body sc tk _ (Nat.le_refl _) (by omega) (by omega) (by rw [Store.set_ne _ _ htb10]; exact Store.set_same _ _ _)) ?_ (fun _ _ ⟨h, _⟩ => by cases h)
              rintro _ _ ⟨⟨⟩, rfl⟩
              rw [Store.set_comm _ _ _ (Ne.symm htb10), Store.set_set]
              repeat (first | with_reducible refine andThen_normal ?_ | refine CW.reg ?_ | refine RL.nil ?_ | refine RL.step tysOk rfl rfl rfl rfl ?_ | (refine RL.storeP tysOk rfl rfl rfl rfl rfl rfl rfl rfl rfl (Store.set_same _ _ _) rfl ?_; try with_reducible rw [Store.set_set]))
              subst hU
              rw [rowOf_set (fun b' e => (rowOf_none htb).1 b' e), rowOf_set (fun b' e => (rowOf_none hU10).1 b' e)]
              obtain ⟨e1, e2⟩ := Store.set_none (rowOf_none htb).2
              obtain ⟨e3, e4⟩ := Store.set_none (rowOf_none hU10).2
              obtain ⟨e5, e6⟩ := Store.set_none e2
              obtain ⟨e7, e8⟩ := Store.set_none e4
              generalize hM : (setA (FExp.renam sc tk m.body).2) = M
              have hokA : ∀ Y, OwnOk ((((s.set b2 Z).set b3 (.box 34 (newProg P.classes .fro ((P.methods.take j).map FMethod.canon) own))).set tb (.map M)).set b10 Y) j own := fun Y => by
                cases own with
                | own b' =>
                  have f1 := (rowOf_none htb).1 b' rfl
                  have f2 := (rowOf_none hU10).1 b' rfl
                  show Store.set _ b10 Y b' = none
                  rw [Store.set_ne _ _ f2, Store.set_ne _ _ f1]; exact hok
                | nil => trivial
                | clip => trivial
                | fro => exact hok
              refine RL.loadP tysOk rfl rfl rfl rfl rfl rfl (rowOf_get (hokA _) (by rw [Store.set_ne _ _ (Ne.symm e3), Store.set_ne _ _ (Ne.symm e1)]; exact Store.set_same _ _ _)) rfl ?_
              refine RL.loadP tysOk rfl rfl rfl rfl rfl rfl (rowOf_get (hokA _) (Store.set_same _ _ _)) rfl ?_
              repeat (first | refine RL.step tysOk rfl rfl rfl rfl ?_)
              refine RL.append1 tysOk rfl rfl rfl rfl rfl rfl rfl (by intro k; simp) rfl rfl rfl rfl rfl rfl rfl (n := j) (by simp; omega) (by show (j + 1) * 200 ≤ _; omega) (by omega) rfl (hokA _) (fun b' hb' => ?_)
              simp only [Store.set_eq_none] at hb'
              obtain ⟨g1, g2, g3, g4, g5⟩ := hb'
              repeat (first | refine RL.step tysOk rfl rfl rfl rfl ?_)
              refine RL.storeP tysOk rfl rfl rfl rfl rfl rfl rfl rfl rfl (rowOf_get (m := 0) (show _ = none from by simp only [Store.set_eq_none]; exact ⟨g1, g2, g3, g4, g5⟩) (by rw [Store.set_ne _ _ (Ne.symm e3), Store.set_ne _ _ (Ne.symm e1)]; exact Store.set_same _ _ _)) rfl ?_
              rw [rowOf_set (fun b'' e => by cases e; exact g3), Store.set_comm _ _ _ e3, Store.set_comm _ _ _ e1, Store.set_set]
              repeat (first | with_reducible refine andThen_normal ?_ | with_reducible refine inBlock_normal ?_ | refine CW.reg (RL.run tysOk rfl (RL.nil ?_)) | refine RL.nil ?_)
              refine ⟨(j + 1, .own b'), ⟨hlt, ?_⟩, (by repeat (first | exact trivial | refine ⟨⟨_, rfl, AVle.refl _⟩, ?_⟩ | refine ⟨⟨_, rfl, AVle.of_eq (by (show AV.int .i64 (IntKind.wrap .i64 ((j : Int) + 1)) = .int .i64 ((j + 1 : Nat) : Int); rw [i64_succ (by omega)]))⟩, ?_⟩)), ?_, by show P.methods.length - (j + 1) < P.methods.length - j; omega⟩
              · show Store.set _ _ _ b' = none
                simp only [Store.set_eq_none]; exact ⟨g3, g4, g5⟩
              · have hmt : (P.methods.take (j + 1)).map FMethod.canon = (P.methods.take j).map FMethod.canon ++ [{ kind := m.kind, name := m.name, params := ns, fact := m.fact.renam sc, body := (FExp.renam sc tk m.body).1 }] := by
                  rw [← map_take_succ FMethod.canon hk, hcn]
                simp only [hmt, newProg, List.map_append, List.map_cons, List.map_nil]
                refine Store.subRowOf ?_
                refine Store.subSet (Store.subSet (Store.sub_refl _) ?_) ?_
                · simp only [Store.set_eq_none]; exact ⟨e1, e5, e6⟩
                · simp only [Store.set_eq_none]; exact ⟨e3, e7, e8⟩
        · have hje : j = P.methods.length := by have : P.methods.length ≤ j := by simpa using h
                                                omega
          subst hje
          rw [List.take_length] at hok ⊢
          refine CW.drop _ (rowOf_sub hok) ?_
          refine CW.boxWeak b3 (newProg P.classes .fro (P.methods.map FMethod.canon) .fro) (Store.set_same _ _ _) (.cons (AVle.refl _) (.cons AVle.fro (AVleL.refl _))) ?_
          rw [Store.set_set]
          repeat (first | with_reducible refine CW.seq ?_ | with_reducible refine andThen_normal ?_ | with_reducible refine andThen_exit ?_ | with_reducible refine inBlock_here ?_ | with_reducible refine CW.exit ?_ | refine CW.reg ?_)
          refine RL.makeMap rfl rfl rfl rfl (fun tb htb => ?_)
          repeat (first | with_reducible refine CW.seq ?_ | with_reducible refine andThen_normal ?_ | refine CW.reg ?_ | refine RL.nil ?_ | refine RL.step tysOk rfl rfl rfl rfl ?_)
          obtain ⟨e1, e2⟩ := Store.set_none htb
          obtain ⟨e3, e4⟩ := Store.set_none e2
          refine RL.call rfl rfl rfl rfl rfl (exp_spec tb P.main.size P.main [] [] _ (Nat.le_refl _) (by have := hP.main; omega) (by simpa using hP.main) (Store.set_same _ _ _)) ?_ (fun _ _ ⟨h, _⟩ => by cases h)
          rintro _ _ ⟨⟨⟩, rfl⟩
          rw [Store.set_set]
          repeat (first | refine RL.step tysOk rfl rfl rfl rfl ?_)
          refine RL.storeP tysOk rfl rfl rfl rfl rfl rfl rfl rfl rfl (by rw [Store.set_ne _ _ (Ne.symm e1)]; exact Store.set_same _ _ _) rfl ?_
          rw [Store.set_comm _ _ _ e1, Store.set_set]
          repeat (first | with_reducible refine CW.seq ?_ | with_reducible refine andThen_normal ?_ | refine CW.reg ?_ | refine RL.nil ?_)
          refine RL.loadP tysOk rfl rfl rfl rfl rfl rfl (by rw [Store.set_ne _ _ (Ne.symm e1)]; exact Store.set_same _ _ _) rfl ?_
          subst hZ
          refine RL.storeP tysOk rfl rfl rfl rfl rfl rfl rfl rfl rfl (by rw [Store.set_ne _ _ (Ne.symm e3), Store.set_ne _ _ (Ne.symm hn3)]; exact Store.set_same _ _ _) rfl ?_
          repeat (first | with_reducible refine andThen_normal ?_ | with_reducible refine CW.ret ?_ | refine RL.nil ?_)
          refine ⟨_, _, s, resA_cell rfl rfl (Store.set_same _ _ _) rfl, AVle.refl _, ?_, rfl, rfl⟩
          exact Store.subSet (Store.subSet (Store.subSet (Store.subSet (Store.sub_refl _) hb2) hs3) e4) hb2
end Go.Proofs.Ytaafacnoddjhgaa

/- Contracts of the layer 'shape': Canon. -/
namespace Go.Proofs.Ytaafacnoddjhgaa
open Go.AE

theorem knownB_size {names slots : List Str} {cnt : Nat} {e : FExp} {params : List Str} {next : Bool} (h : knownB names slots cnt e params next = true) : e.size ≤ 120 := by
  simp only [knownB, Bool.and_eq_true, decide_eq_true_eq] at h; omega

theorem methodsOk_mem {names slots : List Str} : ∀ {l : List FMethod} {cnt : Nat} {m : FMethod}, methodsOk names slots cnt l = true → m ∈ l → m.params.length ≤ 3 ∧ m.body.size ≤ 120
  | [], _, _, _, h => by cases h
  | a :: l, cnt, m, h, hm => by
    simp only [methodsOk, Bool.and_eq_true] at h
    rcases List.mem_cons.1 hm with rfl | hm
    · have h1 := h.1
      simp only [methodOk, mB1, Bool.and_eq_true, decide_eq_true_eq] at h1
      exact ⟨by omega, knownB_size h1.2.2.2⟩
    · exact methodsOk_mem h.2 hm

/-- Its facts' lists of names are not too long to be copied. -/
def FProg.Slim (P : FProg) : Prop := ∀ m ∈ P.methods, m.fact.Slim 1

theorem FProg.canonable {P : FProg} (hP : P.Fair) (hs : P.Slim) (h : progOk P = true) : P.Canonable := by
  unfold progOk at h
  cases hc : clsAll P.classes with
  | none => rw [hc] at h; cases h
  | some st =>
    rw [hc] at h
    simp only [Bool.and_eq_true, decide_eq_true_eq] at h
    obtain ⟨h1, h2, h3, h4⟩ := h
    have := knownB_size h2
    refine ⟨hP.clen, fun c hcm => ⟨(hP.cls c hcm).parents.1, (hP.cls c hcm).slots.1, (hP.cls c hcm).ilen⟩, by omega, fun m hm => ?_, by omega⟩
    obtain ⟨g1, g2⟩ := methodsOk_mem h3 hm
    exact ⟨by omega, Nat.le_of_lt (hP.mth m hm).fact.size, hs m hm⟩

def zeroP : FProg := { classes := [], methods := [], main := zeroE }
theorem zeroP_le : AVle (.agg [.slc 0 [] .nil, .slc 0 [] .nil, .int .i64 0, .int .i64 0, .str [], .slc 0 [] .nil]) zeroP.av :=
  AVle.agg (.cons AVle.empty (.cons AVle.empty (.cons (AVle.refl _) (.cons (AVle.refl _) (.cons (AVle.refl _) (.one AVle.empty))))))

set_option maxRecDepth 10000 in
theorem shapeCanon_spec (P : FProg) (s : Store) (hP : P.Fair) (hs : P.Slim) :
    ACalls Try.prog 43 [P.av] s (fun o s' => o = .ret (.tup [(if progOk P then P.canon else zeroP).av, err (progOk P)]) ∧ s' = s) := by
  refine ACalls.of_CW tysOk call43 Try.func43 rfl rfl ?_
  cases hok : progOk P with
  | true =>
    repeat (first | with_reducible refine CW.seq ?_ | refine CW.reg ?_ | refine RL.step tysOk rfl rfl rfl rfl ?_)
    refine RL.alloc tysOk rfl rfl rfl rfl rfl rfl rfl (fun b2 hb2 => ?_)
    repeat (first | with_reducible refine CW.seq ?_ | with_reducible refine andThen_normal ?_ | refine CW.reg ?_ | refine RL.nil ?_ | refine RL.step tysOk rfl rfl rfl rfl ?_)
    refine RL.callP rfl rfl rfl rfl rfl (by have := shapeCheck_spec P (s.set b2 (.box 34 [.slc 0 [] .nil, .slc 0 [] .nil, .int .i64 0, .int .i64 0, .str [], .slc 0 [] .nil])) hP; rw [hok] at this; exact this) ?_
    repeat (first | with_reducible refine CW.seq ?_ | with_reducible refine andThen_normal ?_ | with_reducible refine CW.skip ?_ | refine CW.reg ?_ | refine RL.nil ?_ | refine CW.condF rfl ?_ | refine RL.step tysOk rfl rfl rfl rfl ?_)
    refine RL.callP rfl rfl rfl rfl rfl (canon_spec P _ (P.canonable hP hs hok)) ?_
    repeat (first | with_reducible refine andThen_normal ?_ | with_reducible refine CW.ret ?_ | refine RL.nil ?_ | refine RL.step tysOk rfl rfl rfl rfl ?_ | (refine RL.storeP tysOk rfl rfl rfl rfl rfl rfl rfl rfl rfl (Store.set_same _ _ _) rfl ?_; try with_reducible rw [Store.set_set]))
    exact ⟨_, _, s, resA_cellT rfl rfl (Store.set_same _ _ _) rfl rfl, AVle.refl _, Store.sub_set _ _ _ hb2, rfl, rfl⟩
  | false =>
    repeat (first | with_reducible refine CW.seq ?_ | refine CW.reg ?_ | refine RL.step tysOk rfl rfl rfl rfl ?_)
    refine RL.alloc tysOk rfl rfl rfl rfl rfl rfl rfl (fun b2 hb2 => ?_)
    repeat (first | with_reducible refine CW.seq ?_ | with_reducible refine andThen_normal ?_ | refine CW.reg ?_ | refine RL.nil ?_ | refine RL.step tysOk rfl rfl rfl rfl ?_)
    refine RL.callP rfl rfl rfl rfl rfl (by have := shapeCheck_spec P (s.set b2 (.box 34 [.slc 0 [] .nil, .slc 0 [] .nil, .int .i64 0, .int .i64 0, .str [], .slc 0 [] .nil])) hP; rw [hok] at this; exact this) ?_
    repeat (first | with_reducible refine CW.seq ?_ | with_reducible refine andThen_normal ?_ | with_reducible refine andThen_ret ?_ | with_reducible refine CW.ret ?_ | refine CW.reg ?_ | refine RL.nil ?_ | refine CW.condT rfl ?_ | refine RL.step tysOk rfl rfl rfl rfl ?_ | (refine RL.storeP tysOk rfl rfl rfl rfl rfl rfl rfl rfl rfl (Store.set_same _ _ _) rfl ?_; try with_reducible rw [Store.set_set]))
    exact ⟨_, _, s, resA_cellT rfl rfl (Store.set_same _ _ _) rfl rfl, AVle.tup (.cons zeroP_le (.one (AVle.refl _))), Store.sub_set _ _ _ hb2, rfl, rfl⟩
end Go.Proofs.Ytaafacnoddjhgaa

