import Derived.Test.YtaafacnoddjhgaaGreatPd
import Derived.Test.YtaafacnoddjhgaaGreatRows
import Derived.ProofKit
import Derived.OpenShut
import Derived.WalkKit
import Derived.JoinedCond
/- Contracts of the layer 'shape': new names for bound ones. -/
namespace Go.Proofs.YtaafacnoddjhgaaGreat
open Go.AE

/-! ### New names for bound ones -/

def textN (sc : List (Str × Str)) (tk : List Str) (o : Int) (t : Str) : Str × List Str :=
 if o == 3 then ((stands sc t).getD t, tk) else if o == 9 then (freshS tk, insS tk (freshS tk)) else (t, tk)

mutual
def FExp.renam : List (Str × Str) → List Str → FExp → FExp × List Str
 | sc, tk, .mk o n t ks =>
  let r := textN sc tk o t
  let q := FExp.renams (o == 9) t r.1 sc 0 r.2 ks
  (.mk o n r.1 q.1, q.2)
def FExp.renams (isLet : Bool) (t t' : Str) (sc : List (Str × Str)) : Nat → List Str → List FExp → List FExp × List Str
 | _, tk, [] => ([], tk)
 | i, tk, k :: r =>
  let a := FExp.renam (if isLet && i == 1 then (t, t') :: sc else sc) tk k
  let b := FExp.renams isLet t t' sc (i + 1) a.2 r
  (a.1 :: b.1, b.2)
end

theorem renam_def (e : FExp) (sc : List (Str × Str)) (tk : List Str) : FExp.renam sc tk e =
  (.mk e.op e.n (textN sc tk e.op e.text).1 (FExp.renams (e.op == 9) e.text (textN sc tk e.op e.text).1 sc 0 (textN sc tk e.op e.text).2 e.kids).1, (FExp.renams (e.op == 9) e.text (textN sc tk e.op e.text).1 sc 0 (textN sc tk e.op e.text).2 e.kids).2) := by
 cases e; rw [FExp.renam]; rfl

theorem insS_len (tk : List Str) (x : Str) : (insS tk x).length ≤ tk.length + 1 := by unfold insS; split <;> simp

theorem textN_taken (sc : List (Str × Str)) (tk : List Str) (o : Int) (t : Str) : (textN sc tk o t).2.length ≤ tk.length + 1 := by
 unfold textN
 split
 ·simp
 ·split
  ·exact insS_len _ _
  ·simp

mutual
theorem renam_taken : ∀ (e : FExp) (sc : List (Str × Str)) (tk : List Str), (FExp.renam sc tk e).2.length ≤ tk.length + e.size
  | .mk o n t ks, sc, tk => by
    rw [FExp.renam]
    simp only [FExp.size]
    have h1 := renams_taken ks (o == 9) t (textN sc tk o t).1 sc 0 (textN sc tk o t).2
    have h2 := textN_taken sc tk o t
    omega
theorem renams_taken : ∀ (ks : List FExp) (isLet : Bool) (t t' : Str) (sc : List (Str × Str)) (i : Nat) (tk : List Str), (FExp.renams isLet t t' sc i tk ks).2.length ≤ tk.length + FExp.sizes ks
  | [], _, _, _, _, _, _ => by simp [FExp.renams]
  | k :: r, isLet, t, t', sc, i, tk => by
    simp only [FExp.renams, FExp.sizes]
    have h1 := renam_taken k (if isLet && i == 1 then (t, t') :: sc else sc) tk
    have h2 := renams_taken r isLet t t' sc (i + 1) (FExp.renam (if isLet && i == 1 then (t, t') :: sc else sc) tk k).2
    omega
end

set_option maxRecDepth 10000 in
theorem next_spec (tk : List Str) (tb : Nat) (s : Store) (hs : s tb = some (.map (setA tk))) (hf : HasFree tk) :
  ACalls Tryz.prog 50 [.fptr [.map tb] 0] s (fun o s' => o = .ret (.str (freshS tk)) ∧ s' = s.set tb (.map (setA (insS tk (freshS tk))))) := by
 refine ACalls.of_CW tO call50 Tryz.func50 rfl rfl ?_
 repeat (first | with_reducible refine CW.seq ?_ | with_reducible refine aN ?_ | refine CW.reg (RL.run tO rfl (RL.nil ?_)) | refine CW.reg ?_ | refine RL.step tO rfl rfl rfl rfl ?_)
 refine RL.callP rfl rfl rfl rfl rfl (fresh_spec tk tb _ hs hf) ?_
 repeat (first | with_reducible refine CW.seq ?_ | with_reducible refine aN ?_ | refine CW.reg ?_ | refine RL.nil ?_ | refine RL.step tO rfl rfl rfl rfl ?_)
 refine RL.mapUpdate tO rfl rfl (.inl rfl) rfl rfl rfl rfl rfl rfl hs rfl (putA_set _ _) ?_
 repeat (first | with_reducible refine CW.seq ?_ | with_reducible refine aN ?_ | with_reducible refine CW.ret ?_ | refine CW.reg (RL.run tO rfl (RL.nil ?_)) | refine RL.nil ?_)
 exact ⟨_, _, _, rfl, AVle.refl _, Store.sub_refl _, rfl, rfl⟩

set_option maxRecDepth 10000 in
set_option maxHeartbeats 1000000 in
theorem exp_spec (tb : Nat) : ∀ (n : Nat) (e : FExp) (sc : List (Str × Str)) (tk : List Str) (s : Store), e.size ≤ n → e.size ≤ big → tk.length + e.size < 698 → s tb = some (.map (setA tk)) →
    ACalls Tryz.prog 52 [.fptr [.map tb] 0, e.av, scopeAV sc] s (fun o s' => o = .ret (FExp.renam sc tk e).1.av ∧ s' = s.set tb (.map (setA (FExp.renam sc tk e).2))) := by
  intro n
  induction n with
  | zero => intro e sc tk s h; have := e.size_pos; omega
  | succ n ih =>
    intro e sc tk s hn hbig htk htb
    have hlen := e.kids_length
    have hkl := e.kav_length
    have hb : big = 1099511627776 := rfl
    refine ACalls.of_CW tO call52 Tryz.func52 rfl rfl ?_
    refine CW.seqCutX (σ := Nat) (fun b8 => [(0, .fptr [.map tb] 0), (2, scopeAV sc), (4, .fptr e.cells 0), (6, .ptr b8 0)]) (fun b8 => s.set b8 box0) (fun b8 => s b8 = none) ?_ ?_
    · repeat (first | refine CW.reg ?_ | refine RL.step tO rfl rfl rfl rfl ?_)
      refine RL.alloc tO rfl rfl rfl rfl rfl rfl rfl (fun b8 hb8 => ?_)
      repeat (first | refine RL.nil ?_)
      exact ⟨rfl, b8, hb8, ⟨⟨_, rfl, AVle.refl _⟩, ⟨_, rfl, AVle.refl _⟩, ⟨_, rfl, AVle.refl _⟩, ⟨_, rfl, AVle.refl _⟩, trivial⟩, Store.sub_refl _⟩
    intro b8 hb8
    have h8t : tb ≠ b8 := fun e => by subst e; rw [hb8] at htb; cases htb
    refine CW.seqCutX (σ := Nat) (fun b11 => [(0, .fptr [.map tb] 0), (2, scopeAV sc), (4, .fptr e.cells 0), (6, .ptr b8 0), (7, .ptr b11 0)]) (fun b11 => (s.set b8 box0).set b11 (.box 27 (part4 e.op e.n e.text [] .nil))) (fun b11 => (s.set b8 box0) b11 = none) ?_ ?_
    · repeat (first | refine CW.reg ?_ | refine RL.step tO rfl rfl rfl rfl ?_)
      refine RL.alloc tO rfl rfl rfl rfl rfl rfl rfl (fun b11 hb11 => ?_)
      refine RL.storeP tO rfl rfl rfl rfl rfl rfl rfl rfl rfl (Store.set_same _ _ _) rfl ?_
      rw [Store.set_set]
      refine RL.boxWeak b11 (part4 e.op e.n e.text [] .nil) (Store.set_same _ _ _) (part4_nil _ _ _) ?_
      rw [Store.set_set]
      exact RL.nil ⟨rfl, b11, hb11, ⟨⟨_, rfl, AVle.refl _⟩, ⟨_, rfl, AVle.refl _⟩, ⟨_, rfl, AVle.refl _⟩, ⟨_, rfl, AVle.refl _⟩, ⟨_, rfl, AVle.refl _⟩, trivial⟩, Store.sub_refl _⟩
    intro b11 hb11
    obtain ⟨hn8, hn11⟩ := Store.set_none hb11
    have h11t : tb ≠ b11 := fun e => by subst e; rw [hn11] at htb; cases htb
    have hS : ∀ o, ((s.set b8 box0).set b11 o).set tb (.map (setA tk)) = (s.set b8 box0).set b11 o := fun o => Store.set_eq _ _ _ (by rw [Store.set_ne _ _ h11t, Store.set_ne _ _ h8t]; exact htb)
    rw [← hS]
    refine CW.seqCut [(0, .fptr [.map tb] 0), (2, scopeAV sc), (4, .fptr e.cells 0), (6, .ptr b8 0), (7, .ptr b11 0)]
      (((s.set b8 box0).set b11 (.box 27 (part4 e.op e.n (textN sc tk e.op e.text).1 [] .nil))).set tb (.map (setA (textN sc tk e.op e.text).2))) ?_ ?_
    · repeat (first | with_reducible refine CW.seq ?_ | with_reducible refine aN ?_ | with_reducible refine CW.block ?_ | refine CW.reg (RL.run tO rfl (RL.nil ?_)))
      refine CW.cond rfl (fun h3 => ?_) (fun h3 => ?_)
      · have hT : textN sc tk e.op e.text = ((stands sc e.text).getD e.text, tk) := by rw [textN, if_pos h3]
        rw [hT]
        repeat (first | refine CW.reg ?_ | refine RL.step tO rfl rfl rfl rfl ?_)
        refine RL.callP rfl rfl rfl rfl rfl (scopeLook_spec e.text _ sc) ?_
        repeat (first | refine RL.step tO rfl rfl rfl rfl ?_)
        refine RL.storeP tO rfl rfl rfl rfl rfl rfl rfl rfl rfl (by rw [Store.set_ne _ _ (Ne.symm h11t)]; exact Store.set_same _ _ _) rfl ?_
        rw [← Store.set_comm _ _ _ (Ne.symm h11t), Store.set_set]
        repeat (first | with_reducible refine iN ?_ | refine RL.nil ?_)
        exact ⟨rfl, (by repeat (first | exact trivial | refine ⟨⟨_, rfl, AVle.refl _⟩, ?_⟩)), Store.sub_refl _⟩
      · repeat (first | with_reducible refine CW.seq ?_ | with_reducible refine aN ?_ | refine CW.reg (RL.run tO rfl (RL.nil ?_)))
        refine CW.cond rfl (fun h9 => ?_) (fun h9 => ?_)
        · have hT : textN sc tk e.op e.text = (freshS tk, insS tk (freshS tk)) := by
            rw [textN, if_neg (by rw [show (e.op == 3) = false from h3]; simp), if_pos h9]
          rw [hT]
          repeat (first | refine CW.reg ?_ | refine RL.step tO rfl rfl rfl rfl ?_)
          refine RL.call rfl rfl rfl rfl rfl (next_spec tk tb _ (Store.set_same _ _ _) (hasFree_of (by omega))) ?_ (fun _ _ ⟨h, _⟩ => by cases h)
          rintro _ _ ⟨⟨⟩, rfl⟩
          rw [Store.set_set]
          repeat (first | refine RL.step tO rfl rfl rfl rfl ?_)
          refine RL.storeP tO rfl rfl rfl rfl rfl rfl rfl rfl rfl (by rw [Store.set_ne _ _ (Ne.symm h11t)]; exact Store.set_same _ _ _) rfl ?_
          rw [← Store.set_comm _ _ _ (Ne.symm h11t), Store.set_set]
          repeat (first | with_reducible refine iN ?_ | refine RL.nil ?_)
          exact ⟨rfl, (by repeat (first | exact trivial | refine ⟨⟨_, rfl, AVle.refl _⟩, ?_⟩)), Store.sub_refl _⟩
        · have hT : textN sc tk e.op e.text = (e.text, tk) := by
            rw [textN, if_neg (by rw [show (e.op == 3) = false from h3]; simp), if_neg (by rw [show (e.op == 9) = false from h9]; simp)]
          rw [hT]
          repeat (first | with_reducible refine iN ?_ | with_reducible refine CW.skip ?_)
          exact ⟨rfl, (by repeat (first | exact trivial | refine ⟨⟨_, rfl, AVle.refl _⟩, ?_⟩)), Store.sub_refl _⟩
    have hput := renam_def e sc tk
    have htx := textN_taken sc tk e.op e.text
    generalize textN sc tk e.op e.text = tx at hput htx ⊢
    obtain ⟨t', tk1⟩ := tx
    simp only at hput htx ⊢
    rw [FExp.size_def] at htk
    repeat (first | with_reducible refine CW.seq ?_ | with_reducible refine aN ?_ | with_reducible refine CW.block ?_ | refine CW.reg (RL.run tO rfl (RL.nil ?_)))
    refine CW.loop (σ := Nat × Own × List FExp × List Str) (fun q => [(0, .fptr [.map tb] 0), (2, scopeAV sc), (4, .fptr e.cells 0), (6, .ptr b8 0), (7, .ptr b11 0), (36, .slc 4 e.kav .fro), (37, .int .i64 e.kav.length), (38, .int .i64 (q.1 : Int))])
      (fun q => rowOf (((s.set b8 box0).set b11 (.box 27 (part4 e.op e.n t' q.2.2.1 q.2.1))).set tb (.map (setA q.2.2.2))) 27 4 q.1 q.2.1)
      (fun q => q.1 ≤ e.kids.length ∧ q.2.2.1.length = q.1 ∧ OwnOk (((s.set b8 box0).set b11 (.box 27 (part4 e.op e.n t' q.2.2.1 q.2.1))).set tb (.map (setA q.2.2.2))) q.1 q.2.1 ∧
        q.2.2.2.length + FExp.sizes (e.kids.drop q.1) < 698 ∧
        FExp.renam sc tk e = (.mk e.op e.n t' (q.2.2.1 ++ (FExp.renams (e.op == 9) e.text t' sc q.1 q.2.2.2 (e.kids.drop q.1)).1), (FExp.renams (e.op == 9) e.text t' sc q.1 q.2.2.2 (e.kids.drop q.1)).2))
      (fun q => e.kids.length - q.1) (0, .nil, [], tk1) ⟨by simp, rfl, trivial, by simp; omega, hput⟩ ?_ (Store.sub_refl _) ?_
    · exact (by repeat (first | exact trivial | refine ⟨⟨_, rfl, AVle.refl _⟩, ?_⟩))
    · rintro ⟨j, own, rs, tk2⟩ ⟨hj, hrs, hok, htk2, hP⟩
      simp only at hj hrs hok htk2 hP
      repeat (first | with_reducible refine CW.seq ?_ | with_reducible refine aN ?_ | refine CW.reg (RL.run tO rfl (RL.nil ?_)))
      refine CW.cond rfl (fun h => ?_) (fun h => ?_)
      · have hlt : j < e.kids.length := by rw [hkl] at h; simpa using h
        obtain ⟨k, hk, hk', hks⟩ := FExp.kid_at hlt
        rw [drop_cons hk, FExp.renams] at hP
        rw [FExp.sizes_drop hk] at htk2
        repeat (first | with_reducible refine CW.seq ?_ | with_reducible refine aN ?_ | with_reducible refine CW.skip ?_ | with_reducible refine CW.block ?_ | refine CW.reg ?_ | refine RL.step tO rfl rfl rfl rfl ?_ | refine RL.idx tO _ rfl rfl rfl rfl rfl rfl rfl rfl rfl rfl rfl (by assumption) rfl ?_)
        refine RL.alloc tO rfl rfl rfl rfl rfl rfl rfl (fun b13 hb13 => ?_)
        refine RL.step tO rfl rfl rfl rfl ?_
        refine RL.storeP tO rfl rfl rfl rfl rfl rfl rfl rfl rfl (Store.set_same _ _ _) rfl ?_
        rw [Store.set_set]
        refine RL.freeze 9 b13 rfl (Store.set_same _ _ _) ?_
        rw [Store.del_set _ _ _ hb13]
        refine RL.nil (aN ?_)
        have hnb11 : ∀ b', own = .own b' → b' ≠ b11 := OwnOk.ne (n := j) hok (by rw [Store.set_ne _ _ (Ne.symm h11t)]; exact Store.set_same _ _ _)
        have hnbt : ∀ b', own = .own b' → b' ≠ tb := OwnOk.ne (n := j) hok (Store.set_same _ _ _)
        have hg11 : ∀ M, rowOf (((s.set b8 box0).set b11 (.box 27 (part4 e.op e.n t' rs own))).set tb M) 27 4 j own b11 = some (.box 27 (part4 e.op e.n t' rs own)) := fun M =>
          rowOf_get (m := j) (OwnOk.congr (n := j) (fun z hz => by
            by_cases ez : z = tb
            · subst ez; rw [Store.set_same] at hz; cases hz
            · rw [Store.set_ne _ _ ez] at hz ⊢; exact hz) hok) (by rw [Store.set_ne _ _ (Ne.symm h11t)]; exact Store.set_same _ _ _)
        refine CW.seqCut [(0, .fptr [.map tb] 0), (2, scopeAV sc), (4, .fptr e.cells 0), (6, .ptr b8 0), (7, .ptr b11 0), (36, .slc 4 e.kav .fro), (37, .int .i64 e.kav.length), (38, .int .i64 (j : Int)), (9, .fptr k.cells 0), (8, .int .i64 (j : Int)), (10, scopeAV sc)] (rowOf (((s.set b8 box0).set b11 (.box 27 (part4 e.op e.n t' rs own))).set tb (.map (setA tk2))) 27 4 j own) ?_ ?_
        · repeat (first | refine CW.reg (RL.run tO rfl (RL.nil ?_)))
          exact ⟨rfl, (by repeat (first | exact trivial | refine ⟨⟨_, rfl, AVle.refl _⟩, ?_⟩)), Store.sub_refl _⟩
        refine CW.seqCut [(0, .fptr [.map tb] 0), (2, scopeAV sc), (4, .fptr e.cells 0), (6, .ptr b8 0), (7, .ptr b11 0), (36, .slc 4 e.kav .fro), (37, .int .i64 e.kav.length), (38, .int .i64 (j : Int)), (9, .fptr k.cells 0), (10, scopeAV (if e.op == 9 && j == 1 then (e.text, t') :: sc else sc))] (rowOf (((s.set b8 box0).set b11 (.box 27 (part4 e.op e.n t' rs own))).set tb (.map (setA tk2))) 27 4 j own) ?_ ?_
        · repeat (first | with_reducible refine CW.seq ?_ | refine CW.reg ?_ | refine RL.step tO rfl rfl rfl rfl ?_)
          refine RL.cut 3 [(0, .fptr [.map tb] 0), (2, scopeAV sc), (4, .fptr e.cells 0), (6, .ptr b8 0), (7, .ptr b11 0), (36, .slc 4 e.kav .fro), (37, .int .i64 e.kav.length), (38, .int .i64 (j : Int)), (9, .fptr k.cells 0), (10, scopeAV sc), (50, .bool (e.op == 9 && j == 1))] ?_ ?_
          · repeat' (first | refine RL.nil ?_ | refine RL.step tO rfl rfl rfl rfl ?_ | refine RL.skip rfl rfl rfl ?_ | refine RL.gstepT tO rfl rfl rfl rfl rfl rfl rfl (fun _ => ?_) (fun _ => ?_))
            all_goals refine ⟨rfl, (by repeat (first | exact trivial | refine ⟨⟨_, rfl, AVle.refl _⟩, ?_⟩ | refine ⟨⟨_, rfl, AVle.of_eq (by first | (simp_all; done) | (simp_all; rw [Bool.eq_iff_iff]; simp; omega))⟩, ?_⟩)), rfl⟩
          cases hc : e.op == 9 && j == 1 with
          | false =>
            repeat (first | with_reducible refine aN ?_ | with_reducible refine CW.skip ?_ | refine RL.nil ?_ | refine CW.condF rfl ?_)
            exact ⟨rfl, (by repeat (first | exact trivial | refine ⟨⟨_, rfl, AVle.refl _⟩, ?_⟩)), Store.sub_refl _⟩
          | true =>
            cases sc with
            | nil =>
              repeat (first | with_reducible refine aN ?_ | refine CW.reg ?_ | refine RL.nil ?_ | refine CW.condT rfl ?_ | refine RL.step tO rfl rfl rfl rfl ?_)
              refine RL.loadP tO rfl rfl rfl rfl rfl rfl (hg11 _) rfl ?_
              repeat (first | refine RL.nil ?_ | refine RL.step tO rfl rfl rfl rfl ?_)
              exact ⟨rfl, (by repeat (first | exact trivial | refine ⟨⟨_, rfl, AVle.refl _⟩, ?_⟩)), Store.sub_refl _⟩
            | cons _ _ =>
              repeat (first | with_reducible refine aN ?_ | refine CW.reg ?_ | refine RL.nil ?_ | refine CW.condT rfl ?_ | refine RL.step tO rfl rfl rfl rfl ?_)
              refine RL.loadP tO rfl rfl rfl rfl rfl rfl (hg11 _) rfl ?_
              repeat (first | refine RL.nil ?_ | refine RL.step tO rfl rfl rfl rfl ?_)
              exact ⟨rfl, (by repeat (first | exact trivial | refine ⟨⟨_, rfl, AVle.refl _⟩, ?_⟩)), Store.sub_refl _⟩
        generalize (if (e.op == 9 && j == 1) = true then (e.text, t') :: sc else sc) = sc' at hP ⊢
        have hcall := ih k sc' tk2 (rowOf (((s.set b8 box0).set b11 (.box 27 (part4 e.op e.n t' rs own))).set tb (.map (setA tk2))) 27 4 j own) (by omega) (by omega) (by omega)
          (rowOf_get hok (Store.set_same _ _ _))
        rw [rowOf_upd1 hnbt] at hcall
        skip
        refine CW.drw tO mixed rfl (RD.run rfl ?_)
        generalize hq : FExp.renam sc' tk2 k = pk at hcall hP ⊢
        obtain ⟨k', tk3⟩ := pk
        simp only at hcall hP
        have htk3 : tk3.length ≤ tk2.length + k.size := by
          have := renam_taken k sc' tk2
          rw [hq] at this; exact this
        refine' RD.loadCall (i := 1) (j := 5) (σ := Unit) (P1 := _) (fun _ => k'.av) (fun _ => rowOf (((s.set b8 box0).set b11 (.box 27 (part4 e.op e.n t' rs own))).set tb (.map (setA tk3))) 27 4 j own) (fun _ => True) tO rfl rfl rfl rfl rfl rfl rfl rfl rfl rfl rfl rfl (hg11 _) rfl rfl rfl rfl (OW.call rfl (fv := .func 52 [] []) rfl rfl (ACallV.of_calls hcall)) (fun y s' ⟨h1, h2⟩ => ⟨(), trivial, by cases h1; rfl, h2⟩) ?A ?B ?C (fun _ _ ⟨h, _⟩ => by cases h)
        case A => intro _ _ hP; refine RD.run rfl ?_; exact hP
        case B =>
          intro _ _ hP
          refine RD.run rfl (RD.one (i := 1) rfl rfl rfl rfl rfl (OW.loadP tO rfl rfl rfl (hg11 _) rfl (X := fun _ _ => False)) ?_ (fun _ _ h => False.elim h))
          rintro _ _ ⟨rfl, rfl⟩
          refine RD.congr _ (get_mv _ _ _ [_, _] ?_) hP
          rfl
        case C =>
          intro _ _
          have hok3 : OwnOk (((s.set b8 box0).set b11 (.box 27 (part4 e.op e.n t' rs own))).set tb (.map (setA tk3))) j own := by
            have := OwnOk.set (m := j) (o' := .map (setA tk3)) hok (Store.set_same _ _ _)
            rwa [Store.set_set] at this
          refine RD.append1 (i := 7) tO rfl rfl rfl rfl rfl rfl rfl rfl rfl (by intro k h; cases h) rfl rfl rfl rfl rfl rfl rfl (n := j) (by simp [hrs]) (by show (j + 1) * 56 ≤ _; omega) (by omega) rfl hok3 (fun b' hb' => ?_)
          have hb11' : ∀ b'', Own.own b' = .own b'' → b'' ≠ b11 := OwnOk.ne (n := j) (own := .own b') hb' (by rw [Store.set_ne _ _ (Ne.symm h11t)]; exact Store.set_same _ _ _)
          refine RD.run rfl ?_
          refine RD.oneN (i := 9) rfl rfl rfl rfl (OW.storeP tO rfl rfl rfl rfl rfl rfl rfl (rowOf_get (n := j + 1) (m := j) (own := .own b') hb' (by rw [Store.set_ne _ _ (Ne.symm h11t)]; exact Store.set_same _ _ _)) rfl (X := fun _ _ => False)) ?_ (fun _ _ h => False.elim h)
          rintro _ _ rfl
          refine RD.run rfl (RD.done rfl ?_)
          rw [rowOf_upd2 hb11' (Ne.symm h11t)]
          repeat (first | with_reducible refine aN ?_ | with_reducible refine iN ?_ | refine CW.reg (RL.run tO rfl (RL.nil ?_)))
          refine ⟨(j + 1, .own b', rs ++ [k'], tk3), ⟨hlt, by simp [hrs], ?_, by show tk3.length + FExp.sizes (e.kids.drop (j + 1)) < 698; omega, by rw [hP]; simp⟩, (by repeat (first | exact trivial | refine ⟨⟨_, rfl, AVle.refl _⟩, ?_⟩ | refine ⟨⟨_, rfl, AVle.of_eq (by (show AV.int .i64 (IntKind.wrap .i64 ((j : Int) + 1)) = .int .i64 ((j + 1 : Nat) : Int); rw [i64_succ (by omega)]))⟩, ?_⟩)), ?_, by show e.kids.length - (j + 1) < e.kids.length - j; omega⟩
          · refine OwnOk.congr (n := j) (s := ((s.set b8 box0).set b11 (.box 27 (part4 e.op e.n t' rs own))).set tb (.map (setA tk3))) (fun z hz => ?_) hb'
            by_cases e1 : z = tb
            · subst e1; rw [Store.set_same] at hz; cases hz
            · rw [Store.set_ne _ _ e1] at hz ⊢
              by_cases e2 : z = b11
              · subst e2; rw [Store.set_same] at hz; cases hz
              · rw [Store.set_ne _ _ e2] at hz ⊢; exact hz
          · simp only [part4, List.map_append, List.map_cons, List.map_nil]
            exact Store.sub_refl _
      · have hge : e.kids.length ≤ j := by rw [hkl] at h; simpa using h
        have hje : j = e.kids.length := by omega
        rw [List.drop_eq_nil_of_le hge, FExp.renams, List.append_nil] at hP
        repeat (first | with_reducible refine CW.seq ?_ | with_reducible refine aN ?_ | with_reducible refine aX ?_ | with_reducible refine iH ?_ | with_reducible refine CW.exit ?_ | refine CW.reg ?_)
        refine RL.loadP tO rfl rfl rfl rfl rfl rfl (rowOf_get hok (by rw [Store.set_ne _ _ (Ne.symm h11t)]; exact Store.set_same _ _ _)) rfl ?_
        refine RL.storeP tO rfl rfl rfl rfl rfl rfl rfl rfl rfl (rowOf_get hok (by rw [Store.set_ne _ _ (Ne.symm h8t), Store.set_ne _ _ (fun e => by rw [← e, Store.set_same] at hb11; cases hb11)]; exact Store.set_same _ _ _)) rfl ?_
        repeat (first | with_reducible refine aN ?_ | with_reducible refine CW.ret ?_ | refine RL.nil ?_)
        refine ⟨_, _, s.set tb (.map (setA tk2)), resA_cell rfl rfl (Store.set_same _ _ _) rfl, part4_le e.op e.n t' rs own, ?_, ?_, ?_⟩
        · have q8 : (s.set tb (.map (setA tk2))) b8 = none := by rw [Store.set_ne _ _ (Ne.symm h8t)]; exact hb8
          have q11 : (s.set tb (.map (setA tk2))) b11 = none := by rw [Store.set_ne _ _ (Ne.symm h11t)]; exact hn11
          refine Store.subSet (Store.subRow (m := j) ?_ ?_) q8
          · rw [Store.set_comm _ _ _ (Ne.symm h11t), Store.set_comm _ _ _ (Ne.symm h8t)]
            exact Store.subSet (Store.subSet (Store.sub_refl _) q8) q11
          · refine OwnOk.congr (n := j) (fun z hz => ?_) hok
            by_cases e1 : z = tb
            · subst e1; rw [Store.set_same] at hz; cases hz
            · rw [Store.set_ne _ _ e1] at hz ⊢
              exact (Store.set_none (Store.set_none hz).2).2
        · rw [hP]
        · rw [hP]
end Go.Proofs.YtaafacnoddjhgaaGreat

/- Contracts of the layer 'shape': a fact under other names. -/
namespace Go.Proofs.YtaafacnoddjhgaaGreat
open Go.AE

mutual
def FFact.renam (sc : List (Str × Str)) : FFact → FFact
 | .mk o x p c n ks => .mk o (if x == [] then [] else (stands sc x).getD x) p c n (FFact.renams sc ks)
def FFact.renams (sc : List (Str × Str)) : List FFact → List FFact
 | [] => []
 | k :: r => FFact.renam sc k :: FFact.renams sc r
end

theorem FFact.renams_eq (sc : List (Str × Str)) : ∀ l : List FFact, FFact.renams sc l = l.map (FFact.renam sc)
 | [] => rfl
 | k :: r => by rw [FFact.renams, FFact.renams_eq sc r]; rfl

theorem FFact.renam_def (sc : List (Str × Str)) (f : FFact) : f.renam sc = .mk f.op (if f.name == [] then [] else (stands sc f.name).getD f.name) f.path f.cls f.n (f.kids.map (FFact.renam sc)) := by
 cases f; rw [FFact.renam, FFact.renams_eq]; rfl

def FFact.Slim (d : Nat) (f : FFact) : Prop := ∀ (d' : Nat) (g : FFact), (d', Part.fact g) ∈ (Part.fact f).nodes d → g.path.length < big
theorem FFact.Slim.kid {d : Nat} {f k : FFact} (h : f.Slim d) (hk : k ∈ f.kids) : k.Slim (d + 1) := fun d' g hg => h d' g (by
 rw [Part.nodes_eq]
 exact List.mem_cons_of_mem _ (List.mem_flatMap.2 ⟨.fact k, List.mem_map.2 ⟨k, hk, rfl⟩, hg⟩))

def part6 (op : Int) (name : Str) (path : List Str) (cls : Str) (n : Int) (ks : List FFact) (own : Own) : List AV := [.int .i64 op, .str name, .slc 1 (strs path) .fro, .str cls, .int .i64 n, .slc 6 (ks.map FFact.av) own]

theorem part6_le (op : Int) (name : Str) (path : List Str) (cls : Str) (n : Int) (ks : List FFact) (own : Own) : AVle (.agg (part6 op name path cls n ks own)) (FFact.av (.mk op name path cls n ks)) := by
 refine AVle.agg (.cons (AVle.refl _) (.cons (AVle.refl _) (.cons (AVle.refl _) (.cons (AVle.refl _) (.cons (AVle.refl _) (.one ?_))))))
 rw [FFact.kav_eq]; exact AVle.fro

theorem part6_nil (op : Int) (name : Str) (path : List Str) (cls : Str) (n : Int) : AVleL [.int .i64 op, .str name, .slc 1 (strs path) .fro, .str cls, .int .i64 n, .slc 0 [] .nil] (part6 op name path cls n [] .nil) :=
 .cons (AVle.refl _) (.cons (AVle.refl _) (.cons (AVle.refl _) (.cons (AVle.refl _) (.cons (AVle.refl _) (.one (AVle.nil (by simp)))))))

theorem FFact.kid_at {f : FFact} {j : Nat} (h : j < f.kids.length) : ∃ k, f.kids[j]? = some k ∧ f.kav[j]? = some (.agg k.cells) ∧ k.size < f.size := by
 refine ⟨f.kids[j], List.getElem?_eq_getElem h, ?_, FFact.kids_size (List.getElem_mem h)⟩
 rw [FFact.kav_eq]; exact factParts_get _ _ _ (List.getElem?_eq_getElem h)
theorem FFact.kav_length (f : FFact) : f.kav.length = f.kids.length := by rw [FFact.kav_eq, List.length_map]

set_option maxRecDepth 10000 in
set_option maxHeartbeats 1000000 in
theorem renamed_spec (sc : List (Str × Str)) : ∀ (n : Nat) (f : FFact) (d : Nat) (s : Store), f.size ≤ n → f.size ≤ big → f.Slim d →
  ACalls Tryz.prog 51 [f.av, scopeAV sc] s (fun o s' => o = .ret (f.renam sc).av ∧ s' = s) := by
 intro n
 induction n with
 | zero => intro e d s h; have := e.size_pos; omega
 | succ n ih =>
  intro f d s hn hbig htx
  have hlen := f.kids_length
  have hkl := f.kav_length
  have hb : big = 1099511627776 := rfl
  refine ACalls.of_CW tO call51 Tryz.func51 rfl rfl ?_
  have hpl : f.path.length < big := htx d f (by rw [Part.nodes_eq]; exact List.mem_cons_self)
  repeat (first | with_reducible refine CW.seq ?_ | refine CW.reg ?_ | refine RL.step tO rfl rfl rfl rfl ?_)
  refine RL.alloc tO rfl rfl rfl rfl rfl rfl rfl (fun b4 hb4 => ?_)
  repeat (first | with_reducible refine CW.seq ?_ | with_reducible refine aN ?_ | refine RL.nil ?_)
  generalize hZ : AObj.box 55 _ = Z
  refine CW.drw tO mixed rfl (RD.run rfl ?_)
  refine RD.calmP (i := 4) rfl rfl rfl rfl rfl rfl rfl (fun s => cloneStr_spec f.path s hpl) ?_
  refine RD.run rfl ?_
  refine RD.one (i := 10) rfl rfl rfl rfl rfl (OW.alloc tO rfl rfl rfl rfl (X := fun _ _ => False)) ?_ (fun _ _ h => False.elim h)
  rintro _ _ ⟨b5, hb5, rfl, rfl⟩
  refine RD.run rfl ?_
  refine RD.oneN (i := 11) rfl rfl rfl rfl (OW.storeP tO rfl rfl rfl rfl rfl rfl rfl (Store.set_same _ _ _) rfl (X := fun _ _ => False)) ?_ (fun _ _ h => False.elim h)
  rintro _ _ rfl
  refine RD.run rfl (RD.done rfl ?_)
  rw [Store.set_set]
  repeat (first | with_reducible refine CW.seq ?_ | with_reducible refine aN ?_ | refine CW.reg (RL.run tO rfl (RL.nil ?_)))
  refine CW.boxWeak b5 (part6 f.op [] f.path f.cls f.n [] .nil) (Store.set_same _ _ _) (part6_nil _ _ _ _ _) ?_
  rw [Store.set_set]
  have hnm : FFact.renam sc f = .mk f.op (if f.name == [] then [] else (stands sc f.name).getD f.name) f.path f.cls f.n (f.kids.map (FFact.renam sc)) := FFact.renam_def sc f
  obtain ⟨hn5, hs5⟩ := Store.set_none hb5
  refine CW.atCut (σ := Unit) (fun _ => [(1, scopeAV sc), (2, .fptr f.cells 0), (4, .ptr b4 0), (5, .ptr b5 0)]) (fun _ => (s.set b4 Z).set b5 (.box 55 (part6 f.op (if f.name == [] then [] else (stands sc f.name).getD f.name) f.path f.cls f.n [] .nil))) (fun _ => True) ?_ ?_
  ·refine CW.cond rfl (fun h => ?_) (fun h => ?_)
   ·have h' : (f.name == []) = false := by
     have : (!(f.name == [])) = true := h
     simpa using this
    rw [h']
    repeat (first | refine CW.reg ?_ | refine RL.step tO rfl rfl rfl rfl ?_)
    refine RL.callP rfl rfl rfl rfl rfl (scopeLook_spec f.name _ sc) ?_
    repeat (first | refine RL.nil ?_ | refine RL.step tO rfl rfl rfl rfl ?_ | (refine RL.storeP tO rfl rfl rfl rfl rfl rfl rfl rfl rfl (Store.set_same _ _ _) rfl ?_; try with_reducible rw [Store.set_set]))
    exact ⟨rfl, (), trivial, (by repeat (first | exact trivial | refine ⟨⟨_, rfl, AVle.refl _⟩, ?_⟩)), Store.sub_refl _⟩
   ·have h' : (f.name == []) = true := by
     have : (!(f.name == [])) = false := h
     simpa using this
    rw [h']
    repeat (first | with_reducible refine CW.skip ?_)
    exact ⟨rfl, (), trivial, (by repeat (first | exact trivial | refine ⟨⟨_, rfl, AVle.refl _⟩, ?_⟩)), Store.sub_refl _⟩
  intro _ _
  generalize (if (f.name == []) = true then [] else (stands sc f.name).getD f.name) = nm at hnm ⊢
  repeat (first | with_reducible refine CW.seq ?_ | with_reducible refine aN ?_ | with_reducible refine CW.block ?_ | refine CW.reg (RL.run tO rfl (RL.nil ?_)))
  refine CW.loop (σ := Nat × Own) (fun q => [(1, scopeAV sc), (2, .fptr f.cells 0), (4, .ptr b4 0), (5, .ptr b5 0), (30, .slc 6 f.kav .fro), (31, .int .i64 f.kav.length), (32, .int .i64 (q.1 : Int))])
   (fun q => rowOf ((s.set b4 Z).set b5 (.box 55 (part6 f.op nm f.path f.cls f.n ((f.kids.take q.1).map (FFact.renam sc)) q.2))) 55 6 q.1 q.2)
   (fun q => q.1 ≤ f.kids.length ∧ OwnOk ((s.set b4 Z).set b5 (.box 55 (part6 f.op nm f.path f.cls f.n ((f.kids.take q.1).map (FFact.renam sc)) q.2))) q.1 q.2) (fun q => f.kids.length - q.1) (0, .nil) ⟨by simp, trivial⟩ ?_ (Store.sub_refl _) ?_
  ·exact (by repeat (first | exact trivial | refine ⟨⟨_, rfl, AVle.refl _⟩, ?_⟩))
  ·rintro ⟨j, own⟩ ⟨hj, hok⟩
   simp only at hj hok
   repeat (first | with_reducible refine CW.seq ?_ | with_reducible refine aN ?_ | refine CW.reg (RL.run tO rfl (RL.nil ?_)))
   refine CW.cond rfl (fun h => ?_) (fun h => ?_)
   ·have hlt : j < f.kids.length := by rw [hkl] at h; simpa using h
    obtain ⟨k, hk, hk', hks⟩ := FFact.kid_at hlt
    repeat (first | with_reducible refine CW.seq ?_ | with_reducible refine aN ?_ | with_reducible refine CW.skip ?_ | with_reducible refine CW.block ?_ | refine CW.reg ?_ | refine RL.step tO rfl rfl rfl rfl ?_ | refine RL.idx tO _ rfl rfl rfl rfl rfl rfl rfl rfl rfl rfl rfl (by assumption) rfl ?_)
    refine RL.newBox tO rfl rfl rfl rfl rfl rfl rfl (fun _ => rfl) rfl rfl (fun _ => rfl) rfl rfl rfl rfl ?_
    repeat (first | with_reducible refine aN ?_ | refine RL.nil ?_)
    refine CW.drw tO mixed rfl (RD.run rfl ?_)
    refine RD.calmP (i := 4) rfl rfl rfl rfl rfl rfl rfl (fun s => ih k (d + 1) s (by omega) (by omega) (htx.kid (List.mem_of_getElem? hk))) ?_
    refine RD.run rfl ?_
    refine RD.one (i := 1) rfl rfl rfl rfl rfl (OW.loadP tO rfl rfl rfl (rowOf_get hok (Store.set_same _ _ _)) rfl (X := fun _ _ => False)) ?_ (fun _ _ h => False.elim h)
    rintro _ _ ⟨rfl, rfl⟩
    refine RD.run rfl ?_
    refine RD.append1 (i := 6) tO rfl rfl rfl rfl rfl rfl rfl rfl rfl (by intro k h; cases h) rfl rfl rfl rfl rfl rfl rfl (n := j) (by simp; omega) (by show (j + 1) * 96 ≤ _; omega) (by omega) rfl hok (fun b' hb' => ?_)
    refine RD.run rfl ?_
    refine RD.oneN (i := 8) rfl rfl rfl rfl (OW.storeP tO rfl rfl rfl rfl rfl rfl rfl (rowOf_get (n := j + 1) (m := j) (own := .own b') hb' (Store.set_same _ _ _)) rfl (X := fun _ _ => False)) ?_ (fun _ _ h => False.elim h)
    rintro _ _ rfl
    refine RD.run rfl (RD.done rfl ?_)
    rw [rowOf_set (OwnOk.ne (n := j) (own := .own b') hb' (Store.set_same _ _ _)), Store.set_set]
    repeat (first | with_reducible refine aN ?_ | with_reducible refine iN ?_ | refine CW.reg (RL.run tO rfl (RL.nil ?_)))
    refine ⟨(j + 1, .own b'), ⟨hlt, ?_⟩, (by repeat (first | exact trivial | refine ⟨⟨_, rfl, AVle.refl _⟩, ?_⟩ | refine ⟨⟨_, rfl, AVle.of_eq (by (show AV.int .i64 (IntKind.wrap .i64 ((j : Int) + 1)) = .int .i64 ((j + 1 : Nat) : Int); rw [i64_succ (by omega)]))⟩, ?_⟩)), ?_, by show f.kids.length - (j + 1) < f.kids.length - j; omega⟩
    ·have := OwnOk.set (m := j + 1) (n := j) (own := .own b') (o' := .box 55 (part6 f.op nm f.path f.cls f.n ((f.kids.take (j + 1)).map (FFact.renam sc)) (.own b'))) hb' (Store.set_same _ _ _)
     rwa [Store.set_set] at this
    ·simp only [part6, ← map_take_succ (FFact.renam sc) hk, List.map_append, List.map_cons, List.map_nil]
     exact Store.sub_refl _
   ·have hge : f.kids.length ≤ j := by rw [hkl] at h; simpa using h
    have hje : j = f.kids.length := by omega
    subst hje
    rw [List.take_length] at hok ⊢
    repeat (first | with_reducible refine CW.seq ?_ | with_reducible refine aN ?_ | with_reducible refine aX ?_ | with_reducible refine iH ?_ | with_reducible refine CW.exit ?_ | refine CW.reg ?_)
    refine RL.loadP tO rfl rfl rfl rfl rfl rfl (rowOf_get hok (Store.set_same _ _ _)) rfl ?_
    subst hZ
    refine RL.storeP tO rfl rfl rfl rfl rfl rfl rfl rfl rfl (rowOf_get hok (by rw [Store.set_ne _ _ (Ne.symm hn5)]; exact Store.set_same _ _ _)) rfl ?_
    refine RL.freeze 4 b4 rfl (Store.set_same _ _ _) ?_
    repeat (first | with_reducible refine aN ?_ | with_reducible refine CW.ret ?_ | refine RL.nil ?_)
    refine ⟨_, _, s, rfl, part6_le _ _ _ _ _ _ own, ?_, by rw [hnm], rfl⟩
    exact Store.subDel (Store.subSet (Store.subRow (Store.subSet (Store.subSet (Store.sub_refl _) hb4) hs5) (OwnOk.of_set (m := f.kids.length) (OwnOk.of_set (m := f.kids.length) hok))) hb4) hb4

end Go.Proofs.YtaafacnoddjhgaaGreat

/- Contracts of the layer 'shape': a program with the first names for its bound ones. -/
namespace Go.Proofs.YtaafacnoddjhgaaGreat
open Go.AE

def paramsN : List Str → List Str → List (Str × Str) → List Str → List Str × List (Str × Str) × List Str
 | [], ns, sc, tk => (ns, sc, tk)
 | x :: r, ns, sc, tk => paramsN r (ns ++ [freshS tk]) ((x, freshS tk) :: sc) (insS tk (freshS tk))

def FMethod.canon (m : FMethod) : FMethod :=
 let p := paramsN m.params [] [] []
 { kind := m.kind, name := m.name, params := p.1, fact := m.fact.renam p.2.1, body := (FExp.renam p.2.1 p.2.2 m.body).1 }

def FProg.canon (P : FProg) : FProg := { classes := P.classes, methods := P.methods.map FMethod.canon, main := (FExp.renam [] [] P.main).1 }

theorem Store.subRowOf {s t : Store} {e : TypeId} {sz n : Nat} {own : Own} (h : Store.Sub s t) : Store.Sub (rowOf s e sz n own) (rowOf t e sz n own) := by
 cases own with
 | own b =>
  intro x
  by_cases ex : x = b
  ·subst ex; left; show (s.set x _) x = (t.set x _) x; rw [Store.set_same, Store.set_same]
  ·show (s.set b _) x = (t.set b _) x ∨ (s.set b _) x = none
   rw [Store.set_ne _ _ ex, Store.set_ne _ _ ex]; exact h x
 | nil => exact h
 | clip => exact h
 | fro => exact h

theorem rowOf_none {s : Store} {e : TypeId} {sz n b : Nat} {own : Own} (h : rowOf s e sz n own b = none) : (∀ b', own = .own b' → b' ≠ b) ∧ s b = none := by
 cases own with
 | own b' =>
  have := Store.set_none (s := s) (b := b') h
  exact ⟨fun b'' e => by cases e; exact fun e => this.1 e.symm, this.2⟩
 | nil => exact ⟨(fun _ e => by cases e), h⟩
 | clip => exact ⟨(fun _ e => by cases e), h⟩
 | fro => exact ⟨(fun _ e => by cases e), h⟩

def newMeth (k : Int) (name : Str) (ns : List Str) (own : Own) : List AV :=
 [.int .i64 k, .str name, .slc 1 (strs ns) own, .int .i64 0, .str [], .slc 0 [] .nil, .str [], .int .i64 0, .slc 0 [] .nil, .int .i64 0, .int .i64 0, .str [], .slc 0 [] .nil]

theorem newMeth_nil (k : Int) (name : Str) : AVleL [.int .i64 k, .str name, .slc 0 [] .nil, .int .i64 0, .str [], .slc 0 [] .nil, .str [], .int .i64 0, .slc 0 [] .nil, .int .i64 0, .int .i64 0, .str [], .slc 0 [] .nil] (newMeth k name [] .nil) :=
 .cons (AVle.refl _) (.cons (AVle.refl _) (.cons (AVle.nil (by simp)) (AVleL.refl _)))

def newProg (cl : List FClass) (oc : Own) (ms : List FMethod) (om : Own) : List AV := [.slc 4 (cl.map FClass.av) oc, .slc 13 (ms.map FMethod.av) om, .int .i64 0, .int .i64 0, .str [], .slc 0 [] .nil]

theorem newProg_nil : AVleL [.slc 0 [] .nil, .slc 0 [] .nil, .int .i64 0, .int .i64 0, .str [], .slc 0 [] .nil] (newProg [] .nil [] .nil) :=
 .cons (AVle.nil (by simp)) (.cons (AVle.nil (by simp)) (AVleL.refl _))

structure FProg.Canonable (P : FProg) : Prop where
 clen : P.classes.length < big
 cls : ∀ c ∈ P.classes, c.parents.length < big ∧ c.slots.length < big ∧ c.inits.length < big
 mlen : P.methods.length < 1048577
 mth : ∀ m ∈ P.methods, m.params.length + m.body.size < 698 ∧ m.fact.size ≤ big ∧ m.fact.Slim 1
 main : P.main.size < 698

set_option maxRecDepth 10000 in
set_option maxHeartbeats 2000000 in
theorem canon_spec (P : FProg) (s : Store) (hP : P.Canonable) :
    ACalls Tryz.prog 16 [P.av] s (fun o s' => o = .ret P.canon.av ∧ s' = s) := by
  have hb : big = 1099511627776 := rfl
  have hcl := hP.clen
  have hml := hP.mlen
  refine ACalls.of_CW tO call16 Tryz.func16 rfl rfl ?_
  repeat (first | with_reducible refine CW.seq ?_ | refine CW.reg ?_ | refine RL.step tO rfl rfl rfl rfl ?_)
  refine RL.alloc tO rfl rfl rfl rfl rfl rfl rfl (fun b2 hb2 => ?_)
  repeat (first | with_reducible refine CW.seq ?_ | with_reducible refine aN ?_ | refine CW.reg ?_ | refine RL.nil ?_)
  refine RL.alloc tO rfl rfl rfl rfl rfl rfl rfl (fun b3 hb3 => ?_)
  refine RL.boxWeak b3 (newProg [] .nil [] .nil) (Store.set_same _ _ _) newProg_nil ?_
  rw [Store.set_set]
  generalize hZ : AObj.box 29 _ = Z at hb3 ⊢
  obtain ⟨hn3, hs3⟩ := Store.set_none hb3
  repeat (first | with_reducible refine CW.seq ?_ | with_reducible refine aN ?_ | with_reducible refine CW.block ?_ | refine CW.reg (RL.run tO rfl (RL.nil ?_)) | refine RL.nil ?_)
  refine CW.loop (σ := Nat × Own) (fun q => [(1, .fptr P.cells 0), (2, .ptr b2 0), (3, .ptr b3 0), (16, .slc 4 (P.classes.map FClass.av) .fro), (17, .int .i64 (P.classes.map FClass.av).length), (18, .int .i64 (q.1 : Int))])
    (fun q => rowOf ((s.set b2 Z).set b3 (.box 29 (newProg (P.classes.take q.1) q.2 [] .nil))) 49 4 q.1 q.2)
    (fun q => q.1 ≤ P.classes.length ∧ OwnOk ((s.set b2 Z).set b3 (.box 29 (newProg (P.classes.take q.1) q.2 [] .nil))) q.1 q.2) (fun q => P.classes.length - q.1) (0, .nil) ⟨by simp, trivial⟩ ?_ (Store.sub_refl _) ?_
  · exact (by repeat (first | exact trivial | refine ⟨⟨_, rfl, AVle.refl _⟩, ?_⟩))
  · rintro ⟨j, own⟩ ⟨hj, hok⟩
    simp only at hj hok
    repeat (first | with_reducible refine CW.seq ?_ | with_reducible refine aN ?_ | refine CW.reg (RL.run tO rfl (RL.nil ?_)))
    refine CW.cond rfl (fun h => ?_) (fun h => ?_)
    · have hlt : j < P.classes.length := by simpa using h
      obtain ⟨c, hk⟩ : ∃ c, P.classes[j]? = some c := ⟨_, List.getElem?_eq_getElem hlt⟩
      have hk' : (P.classes.map FClass.av)[j]? = some (.agg c.cells) := by rw [List.getElem?_map, hk]; rfl
      obtain ⟨q1, q2, q3⟩ := hP.cls c (List.mem_of_getElem? hk)
      repeat (first | with_reducible refine CW.seq ?_ | with_reducible refine aN ?_ | with_reducible refine CW.skip ?_ | with_reducible refine CW.block ?_ | refine CW.reg ?_ | refine RL.step tO rfl rfl rfl rfl ?_ | refine RL.idx tO _ rfl rfl rfl rfl rfl rfl rfl rfl rfl rfl rfl (by assumption) rfl ?_)
      refine RL.newBox tO rfl rfl rfl rfl rfl rfl rfl (fun _ => rfl) rfl rfl (fun _ => rfl) rfl rfl rfl rfl ?_
      repeat (first | with_reducible refine aN ?_ | refine RL.nil ?_)
      refine CW.drw tO mixed rfl (RD.run rfl ?_)
      refine RD.calmP (i := 6) rfl rfl rfl rfl rfl rfl rfl (fun s => cloneStr_spec c.parents s q1) ?_
      refine RD.run rfl ?_
      refine RD.calmP (i := 9) rfl rfl rfl rfl rfl rfl rfl (fun s => cloneStr_spec c.slots s q2) ?_
      refine RD.run rfl ?_
      refine RD.calmP (i := 12) rfl rfl rfl rfl rfl rfl rfl (fun s => cloneInit_spec c.inits s q3) ?_
      refine RD.run rfl ?_
      refine RD.one (i := 1) rfl rfl rfl rfl rfl (OW.loadP tO rfl rfl rfl (rowOf_get hok (Store.set_same _ _ _)) rfl (X := fun _ _ => False)) ?_ (fun _ _ h => False.elim h)
      rintro _ _ ⟨rfl, rfl⟩
      refine RD.run rfl ?_
      refine RD.append1 (i := 15) tO rfl rfl rfl rfl rfl rfl rfl rfl rfl (by intro k h; cases h) rfl rfl rfl rfl rfl rfl rfl (n := j) (by simp; omega) (by show (j + 1) * 88 ≤ _; omega) (by omega) rfl hok (fun b' hb' => ?_)
      refine RD.run rfl ?_
      refine RD.oneN (i := 17) rfl rfl rfl rfl (OW.storeP tO rfl rfl rfl rfl rfl rfl rfl (rowOf_get (n := j + 1) (m := j) (own := .own b') hb' (Store.set_same _ _ _)) rfl (X := fun _ _ => False)) ?_ (fun _ _ h => False.elim h)
      rintro _ _ rfl
      refine RD.run rfl (RD.done rfl ?_)
      rw [rowOf_set (OwnOk.ne (n := j) (own := .own b') hb' (Store.set_same _ _ _)), Store.set_set]
      repeat (first | with_reducible refine aN ?_ | with_reducible refine iN ?_ | refine CW.reg (RL.run tO rfl (RL.nil ?_)))
      refine ⟨(j + 1, .own b'), ⟨hlt, ?_⟩, (by repeat (first | exact trivial | refine ⟨⟨_, rfl, AVle.refl _⟩, ?_⟩ | refine ⟨⟨_, rfl, AVle.of_eq (by (show AV.int .i64 (IntKind.wrap .i64 ((j : Int) + 1)) = .int .i64 ((j + 1 : Nat) : Int); rw [i64_succ (by omega)]))⟩, ?_⟩)), ?_, by show P.classes.length - (j + 1) < P.classes.length - j; omega⟩
      · have := OwnOk.set (m := j + 1) (n := j) (own := .own b') (o' := .box 29 (newProg (P.classes.take (j + 1)) (.own b') [] .nil)) hb' (Store.set_same _ _ _)
        rwa [Store.set_set] at this
      · simp only [newProg, ← map_take_succ FClass.av hk]
        exact Store.sub_refl _
    · have hje : j = P.classes.length := by have : P.classes.length ≤ j := by simpa using h
                                            omega
      subst hje
      rw [List.take_length] at hok ⊢
      refine CW.drop _ (rowOf_sub hok) ?_
      refine CW.boxWeak b3 (newProg P.classes .fro [] .nil) (Store.set_same _ _ _) (.cons AVle.fro (AVleL.refl _)) ?_
      rw [Store.set_set]
      repeat (first | with_reducible refine CW.seq ?_ | with_reducible refine aN ?_ | with_reducible refine aX ?_ | with_reducible refine iH ?_ | with_reducible refine CW.exit ?_ | with_reducible refine CW.block ?_ | refine CW.reg (RL.run tO rfl (RL.nil ?_)))
      refine CW.loop (σ := Nat × Own) (fun q => [(1, .fptr P.cells 0), (2, .ptr b2 0), (3, .ptr b3 0), (41, .slc 13 (P.methods.map FMethod.av) .fro), (42, .int .i64 (P.methods.map FMethod.av).length), (43, .int .i64 (q.1 : Int))])
        (fun q => rowOf ((s.set b2 Z).set b3 (.box 29 (newProg P.classes .fro ((P.methods.take q.1).map FMethod.canon) q.2))) 57 13 q.1 q.2)
        (fun q => q.1 ≤ P.methods.length ∧ OwnOk ((s.set b2 Z).set b3 (.box 29 (newProg P.classes .fro ((P.methods.take q.1).map FMethod.canon) q.2))) q.1 q.2) (fun q => P.methods.length - q.1) (0, .nil) ⟨by simp, trivial⟩ ?_ (Store.sub_refl _) ?_
      · exact (by repeat (first | exact trivial | refine ⟨⟨_, rfl, AVle.refl _⟩, ?_⟩))
      · clear hok hj h own
        rintro ⟨j, own⟩ ⟨hj, hok⟩
        simp only at hj hok
        repeat (first | with_reducible refine CW.seq ?_ | with_reducible refine aN ?_ | refine CW.reg (RL.run tO rfl (RL.nil ?_)))
        refine CW.cond rfl (fun h => ?_) (fun h => ?_)
        · have hlt : j < P.methods.length := by simpa using h
          obtain ⟨m, hk⟩ : ∃ m, P.methods[j]? = some m := ⟨_, List.getElem?_eq_getElem hlt⟩
          have hk' : (P.methods.map FMethod.av)[j]? = some (.agg m.cells) := by rw [List.getElem?_map, hk]; rfl
          obtain ⟨q1, q2, q3⟩ := hP.mth m (List.mem_of_getElem? hk)
          rw [FMethod.cellsG] at hk'
          repeat (first | with_reducible refine CW.seq ?_ | with_reducible refine aN ?_ | with_reducible refine CW.skip ?_ | with_reducible refine CW.block ?_ | refine CW.reg ?_ | refine RL.step tO rfl rfl rfl rfl ?_ | refine RL.idx tO _ rfl rfl rfl rfl rfl rfl rfl rfl rfl rfl rfl (by assumption) rfl ?_)
          refine RL.newBox tO rfl rfl rfl rfl rfl rfl rfl (fun _ => rfl) rfl rfl (fun _ => rfl) rfl rfl rfl rfl ?_
          rw [← FMethod.cellsG]
          generalize hU : rowOf _ _ _ _ _ = U
          repeat (first | with_reducible refine CW.seq ?_ | with_reducible refine aN ?_ | refine CW.reg ?_ | refine RL.nil ?_)
          refine RL.makeMap rfl rfl rfl rfl (fun tb htb => ?_)
          repeat (first | with_reducible refine CW.seq ?_ | with_reducible refine aN ?_ | refine CW.reg (RL.run tO rfl (RL.nil ?_)) | refine CW.reg ?_ | refine RL.nil ?_ | refine RL.step tO rfl rfl rfl rfl ?_)
          refine RL.alloc tO rfl rfl rfl rfl rfl rfl rfl (fun b10 hb10 => ?_)
          repeat (first | with_reducible refine CW.seq ?_ | with_reducible refine aN ?_ | with_reducible refine CW.block ?_ | refine CW.reg (RL.run tO rfl (RL.nil ?_)) | refine RL.nil ?_ | (refine RL.storeP tO rfl rfl rfl rfl rfl rfl rfl rfl rfl (Store.set_same _ _ _) rfl ?_; try with_reducible rw [Store.set_set]))
          refine CW.boxWeak b10 (newMeth m.kind m.name [] .nil) (Store.set_same _ _ _) (newMeth_nil _ _) ?_
          rw [Store.set_set]
          obtain ⟨hnt, hU10⟩ := Store.set_none hb10
          have htb10 : tb ≠ b10 := fun e => by subst e; rw [Store.set_same] at hb10; cases hb10
          refine CW.loop (σ := Nat × Own × List Str × List (Str × Str) × List Str) (fun q => [(1, .fptr P.cells 0), (2, .ptr b2 0), (3, .ptr b3 0), (7, .fptr m.cells 0), (8, .fptr [.map tb] 0), (9, scopeAV q.2.2.2.1), (10, .ptr b10 0), (41, .slc 13 (P.methods.map FMethod.av) .fro), (42, .int .i64 (P.methods.map FMethod.av).length), (43, .int .i64 (j : Int)), (56, .slc 1 (strs m.params) .fro), (57, .int .i64 (strs m.params).length), (58, .int .i64 (q.1 : Int))])
            (fun q => rowOf ((U.set tb (.map (setA q.2.2.2.2))).set b10 (.box 57 (newMeth m.kind m.name q.2.2.1 q.2.1))) 9 1 q.1 q.2.1)
            (fun q => q.1 ≤ m.params.length ∧ OwnOk U 0 q.2.1 ∧ (∀ b', q.2.1 = .own b' → b' ≠ tb ∧ b' ≠ b10) ∧ q.2.2.1.length = q.1 ∧ q.2.2.2.2.length ≤ q.1 ∧ paramsN (m.params.drop q.1) q.2.2.1 q.2.2.2.1 q.2.2.2.2 = paramsN m.params [] [] []) (fun q => m.params.length - q.1)
            (0, .nil, [], [], []) ⟨by simp, trivial, (fun _ e => by cases e), rfl, Nat.le_refl _, rfl⟩ ?_ (Store.sub_refl _) ?_
          · exact (by repeat (first | exact trivial | refine ⟨⟨_, rfl, AVle.refl _⟩, ?_⟩))
          · rintro ⟨i, own1, ns, sc, tk⟩ ⟨hi, hok1, hne1, hns, htk, hI⟩
            simp only at hi hok1 hne1 hns htk hI
            have hokS : ∀ M Y, OwnOk ((U.set tb M).set b10 Y) i own1 := fun M Y => by
              cases own1 with
              | own b' =>
                obtain ⟨e1, e2⟩ := hne1 b' rfl
                show ((U.set tb M).set b10 Y) b' = none
                rw [Store.set_ne _ _ e2, Store.set_ne _ _ e1]; exact hok1
              | nil => trivial
              | clip => trivial
              | fro => exact hok1
            repeat (first | with_reducible refine CW.seq ?_ | with_reducible refine aN ?_ | refine CW.reg (RL.run tO rfl (RL.nil ?_)))
            refine CW.cond rfl (fun h => ?_) (fun h => ?_)
            · have hlti : i < m.params.length := by simpa using h
              obtain ⟨x, hx⟩ : ∃ x, m.params[i]? = some x := ⟨_, List.getElem?_eq_getElem hlti⟩
              have hx' : (strs m.params)[i]? = some (.str x) := by rw [strs, List.getElem?_map, hx]; rfl
              rw [drop_cons hx, paramsN] at hI
              repeat (first | with_reducible refine CW.seq ?_ | with_reducible refine aN ?_ | with_reducible refine CW.skip ?_ | with_reducible refine CW.block ?_ | refine CW.reg ?_ | refine RL.nil ?_ | refine RL.step tO rfl rfl rfl rfl ?_ | refine RL.idx tO _ rfl rfl rfl rfl rfl rfl rfl rfl rfl rfl rfl (by assumption) rfl ?_)
              refine RL.call rfl rfl rfl rfl rfl (next_spec tk tb _ (rowOf_get (hokS _ _) (by rw [Store.set_ne _ _ htb10]; exact Store.set_same _ _ _)) (hasFree_of (by omega))) ?_ (fun _ _ ⟨h, _⟩ => by cases h)
              rintro _ _ ⟨⟨⟩, rfl⟩
              rw [rowOf_upd2 (fun b' e => (hne1 b' e).1) htb10]
              cases sc with
              | nil =>
                repeat (first | with_reducible refine CW.seq ?_ | with_reducible refine aN ?_ | refine CW.reg (RL.run tO rfl (RL.nil ?_)) | refine CW.reg ?_ | refine RL.nil ?_ | refine RL.step tO rfl rfl rfl rfl ?_)
                refine RL.loadP tO rfl rfl rfl rfl rfl rfl (rowOf_get (hokS _ _) (Store.set_same _ _ _)) rfl ?_
                repeat (first | refine RL.step tO rfl rfl rfl rfl ?_)
                refine RL.append1 tO rfl rfl rfl rfl rfl rfl rfl (by intro k; simp) rfl rfl rfl rfl rfl rfl rfl (n := i) (by simp; omega) (by show (i + 1) * 16 ≤ _; omega) (by omega) (s := (U.set tb (.map (setA (insS tk (freshS tk))))).set b10 (.box 57 (newMeth m.kind m.name ns own1))) rfl (hokS _ _) (fun b' hb' => ?_)
                simp only [Store.set_eq_none] at hb'
                repeat (first | refine RL.step tO rfl rfl rfl rfl ?_)
                refine RL.storeP tO rfl rfl rfl rfl rfl rfl rfl rfl rfl (rowOf_get (m := 0) (show _ = none from by simp only [Store.set_eq_none]; exact hb') (Store.set_same _ _ _)) rfl ?_
                rw [rowOf_upd1 (fun b'' e => by cases e; exact hb'.1)]
                repeat (first | with_reducible refine aN ?_ | with_reducible refine iN ?_ | refine CW.reg (RL.run tO rfl (RL.nil ?_)) | refine RL.nil ?_)
                refine ⟨(i + 1, .own b', ns ++ [freshS tk], (x, freshS tk) :: [], insS tk (freshS tk)), ⟨hlti, hb'.2.2, (fun b'' e => by cases e; exact ⟨hb'.2.1, hb'.1⟩), by simp [hns], by have := insS_len tk (freshS tk); show (insS tk (freshS tk)).length ≤ i + 1; omega, hI⟩, (by repeat (first | exact trivial | refine ⟨⟨_, rfl, AVle.refl _⟩, ?_⟩ | refine ⟨⟨_, rfl, AVle.of_eq (by (show AV.int .i64 (IntKind.wrap .i64 ((i : Int) + 1)) = .int .i64 ((i + 1 : Nat) : Int); rw [i64_succ (by omega)]))⟩, ?_⟩)), ?_, by show m.params.length - (i + 1) < m.params.length - i; omega⟩
                simp only [newMeth, strs, List.map_append, List.map_cons, List.map_nil]
                exact Store.sub_refl _
              | cons a b =>
                repeat (first | with_reducible refine CW.seq ?_ | with_reducible refine aN ?_ | refine CW.reg (RL.run tO rfl (RL.nil ?_)) | refine CW.reg ?_ | refine RL.nil ?_ | refine RL.step tO rfl rfl rfl rfl ?_)
                refine RL.loadP tO rfl rfl rfl rfl rfl rfl (rowOf_get (hokS _ _) (Store.set_same _ _ _)) rfl ?_
                repeat (first | refine RL.step tO rfl rfl rfl rfl ?_)
                refine RL.append1 tO rfl rfl rfl rfl rfl rfl rfl (by intro k; simp) rfl rfl rfl rfl rfl rfl rfl (n := i) (by simp; omega) (by show (i + 1) * 16 ≤ _; omega) (by omega) (s := (U.set tb (.map (setA (insS tk (freshS tk))))).set b10 (.box 57 (newMeth m.kind m.name ns own1))) rfl (hokS _ _) (fun b' hb' => ?_)
                simp only [Store.set_eq_none] at hb'
                repeat (first | refine RL.step tO rfl rfl rfl rfl ?_)
                refine RL.storeP tO rfl rfl rfl rfl rfl rfl rfl rfl rfl (rowOf_get (m := 0) (show _ = none from by simp only [Store.set_eq_none]; exact hb') (Store.set_same _ _ _)) rfl ?_
                rw [rowOf_upd1 (fun b'' e => by cases e; exact hb'.1)]
                repeat (first | with_reducible refine aN ?_ | with_reducible refine iN ?_ | refine CW.reg (RL.run tO rfl (RL.nil ?_)) | refine RL.nil ?_)
                refine ⟨(i + 1, .own b', ns ++ [freshS tk], (x, freshS tk) :: (a :: b), insS tk (freshS tk)), ⟨hlti, hb'.2.2, (fun b'' e => by cases e; exact ⟨hb'.2.1, hb'.1⟩), by simp [hns], by have := insS_len tk (freshS tk); show (insS tk (freshS tk)).length ≤ i + 1; omega, hI⟩, (by repeat (first | exact trivial | refine ⟨⟨_, rfl, AVle.refl _⟩, ?_⟩ | refine ⟨⟨_, rfl, AVle.of_eq (by (show AV.int .i64 (IntKind.wrap .i64 ((i : Int) + 1)) = .int .i64 ((i + 1 : Nat) : Int); rw [i64_succ (by omega)]))⟩, ?_⟩)), ?_, by show m.params.length - (i + 1) < m.params.length - i; omega⟩
                simp only [newMeth, strs, List.map_append, List.map_cons, List.map_nil]
                exact Store.sub_refl _
            · have hie : i = m.params.length := by have : m.params.length ≤ i := by simpa using h
                                                   omega
              subst hie
              rw [List.drop_length, paramsN] at hI
              refine CW.drop _ (rowOf_sub (hokS _ _)) ?_
              refine CW.boxWeak b10 (newMeth m.kind m.name ns .fro) (Store.set_same _ _ _) (.cons (AVle.refl _) (.cons (AVle.refl _) (.cons AVle.fro (AVleL.refl _)))) ?_
              rw [Store.set_set]
              have hcn : FMethod.canon m = { kind := m.kind, name := m.name, params := ns, fact := m.fact.renam sc, body := (FExp.renam sc tk m.body).1 } := by rw [FMethod.canon, ← hI]
              repeat (first | with_reducible refine CW.seq ?_ | with_reducible refine aN ?_ | with_reducible refine aX ?_ | with_reducible refine iH ?_ | with_reducible refine CW.exit ?_ | refine CW.reg ?_ | refine RL.step tO rfl rfl rfl rfl ?_)
              refine RL.callP rfl rfl rfl rfl rfl (renamed_spec sc m.fact.size m.fact 1 _ (Nat.le_refl _) q2 q3) ?_
              repeat (first | with_reducible refine CW.seq ?_ | with_reducible refine aN ?_ | refine CW.reg ?_ | refine RL.nil ?_ | refine RL.step tO rfl rfl rfl rfl ?_ | (refine RL.storeP tO rfl rfl rfl rfl rfl rfl rfl rfl rfl (Store.set_same _ _ _) rfl ?_; try with_reducible rw [Store.set_set]))
              refine RL.call rfl rfl rfl rfl rfl (exp_spec tb m.body.size m.body sc tk _ (Nat.le_refl _) (by omega) (by omega) (by rw [Store.set_ne _ _ htb10]; exact Store.set_same _ _ _)) ?_ (fun _ _ ⟨h, _⟩ => by cases h)
              rintro _ _ ⟨⟨⟩, rfl⟩
              rw [Store.set_comm _ _ _ (Ne.symm htb10), Store.set_set]
              repeat (first | with_reducible refine aN ?_ | refine CW.reg ?_ | refine RL.nil ?_ | refine RL.step tO rfl rfl rfl rfl ?_ | (refine RL.storeP tO rfl rfl rfl rfl rfl rfl rfl rfl rfl (Store.set_same _ _ _) rfl ?_; try with_reducible rw [Store.set_set]))
              subst hU
              rw [rowOf_set (fun b' e => (rowOf_none htb).1 b' e), rowOf_set (fun b' e => (rowOf_none hU10).1 b' e)]
              obtain ⟨e1, e2⟩ := Store.set_none (rowOf_none htb).2
              obtain ⟨e3, e4⟩ := Store.set_none (rowOf_none hU10).2
              obtain ⟨e5, e6⟩ := Store.set_none e2
              obtain ⟨e7, e8⟩ := Store.set_none e4
              generalize hM : (setA (FExp.renam sc tk m.body).2) = M
              have hokA : ∀ Y, OwnOk ((((s.set b2 Z).set b3 (.box 29 (newProg P.classes .fro ((P.methods.take j).map FMethod.canon) own))).set tb (.map M)).set b10 Y) j own := fun Y => by
                cases own with
                | own b' =>
                  have f1 := (rowOf_none htb).1 b' rfl
                  have f2 := (rowOf_none hU10).1 b' rfl
                  show Store.set _ b10 Y b' = none
                  rw [Store.set_ne _ _ f2, Store.set_ne _ _ f1]; exact hok
                | nil => trivial
                | clip => trivial
                | fro => exact hok
              refine RL.loadP tO rfl rfl rfl rfl rfl rfl (rowOf_get (hokA _) (by rw [Store.set_ne _ _ (Ne.symm e3), Store.set_ne _ _ (Ne.symm e1)]; exact Store.set_same _ _ _)) rfl ?_
              refine RL.loadP tO rfl rfl rfl rfl rfl rfl (rowOf_get (hokA _) (Store.set_same _ _ _)) rfl ?_
              repeat (first | refine RL.step tO rfl rfl rfl rfl ?_)
              refine RL.append1 tO rfl rfl rfl rfl rfl rfl rfl (by intro k; simp) rfl rfl rfl rfl rfl rfl rfl (n := j) (by simp; omega) (by show (j + 1) * 200 ≤ _; omega) (by omega) rfl (hokA _) (fun b' hb' => ?_)
              simp only [Store.set_eq_none] at hb'
              obtain ⟨g1, g2, g3, g4, g5⟩ := hb'
              repeat (first | refine RL.step tO rfl rfl rfl rfl ?_)
              refine RL.storeP tO rfl rfl rfl rfl rfl rfl rfl rfl rfl (rowOf_get (m := 0) (show _ = none from by simp only [Store.set_eq_none]; exact ⟨g1, g2, g3, g4, g5⟩) (by rw [Store.set_ne _ _ (Ne.symm e3), Store.set_ne _ _ (Ne.symm e1)]; exact Store.set_same _ _ _)) rfl ?_
              rw [rowOf_set (fun b'' e => by cases e; exact g3), Store.set_comm _ _ _ e3, Store.set_comm _ _ _ e1, Store.set_set]
              repeat (first | with_reducible refine aN ?_ | with_reducible refine iN ?_ | refine CW.reg (RL.run tO rfl (RL.nil ?_)) | refine RL.nil ?_)
              refine ⟨(j + 1, .own b'), ⟨hlt, ?_⟩, (by repeat (first | exact trivial | refine ⟨⟨_, rfl, AVle.refl _⟩, ?_⟩ | refine ⟨⟨_, rfl, AVle.of_eq (by (show AV.int .i64 (IntKind.wrap .i64 ((j : Int) + 1)) = .int .i64 ((j + 1 : Nat) : Int); rw [i64_succ (by omega)]))⟩, ?_⟩)), ?_, by show P.methods.length - (j + 1) < P.methods.length - j; omega⟩
              · show Store.set _ _ _ b' = none
                simp only [Store.set_eq_none]; exact ⟨g3, g4, g5⟩
              · have hmt : (P.methods.take (j + 1)).map FMethod.canon = (P.methods.take j).map FMethod.canon ++ [{ kind := m.kind, name := m.name, params := ns, fact := m.fact.renam sc, body := (FExp.renam sc tk m.body).1 }] := by
                  rw [← map_take_succ FMethod.canon hk, hcn]
                simp only [hmt, newProg, List.map_append, List.map_cons, List.map_nil]
                refine Store.subRowOf ?_
                refine Store.subSet (Store.subSet (Store.sub_refl _) ?_) ?_
                · simp only [Store.set_eq_none]; exact ⟨e1, e5, e6⟩
                · simp only [Store.set_eq_none]; exact ⟨e3, e7, e8⟩
        · have hje : j = P.methods.length := by have : P.methods.length ≤ j := by simpa using h
                                                omega
          subst hje
          rw [List.take_length] at hok ⊢
          refine CW.drop _ (rowOf_sub hok) ?_
          refine CW.boxWeak b3 (newProg P.classes .fro (P.methods.map FMethod.canon) .fro) (Store.set_same _ _ _) (.cons (AVle.refl _) (.cons AVle.fro (AVleL.refl _))) ?_
          rw [Store.set_set]
          repeat (first | with_reducible refine CW.seq ?_ | with_reducible refine aN ?_ | with_reducible refine aX ?_ | with_reducible refine iH ?_ | with_reducible refine CW.exit ?_ | refine CW.reg ?_)
          refine RL.makeMap rfl rfl rfl rfl (fun tb htb => ?_)
          repeat (first | with_reducible refine CW.seq ?_ | with_reducible refine aN ?_ | refine CW.reg ?_ | refine RL.nil ?_ | refine RL.step tO rfl rfl rfl rfl ?_)
          obtain ⟨e1, e2⟩ := Store.set_none htb
          obtain ⟨e3, e4⟩ := Store.set_none e2
          refine RL.call rfl rfl rfl rfl rfl (exp_spec tb P.main.size P.main [] [] _ (Nat.le_refl _) (by have := hP.main; omega) (by simpa using hP.main) (Store.set_same _ _ _)) ?_ (fun _ _ ⟨h, _⟩ => by cases h)
          rintro _ _ ⟨⟨⟩, rfl⟩
          rw [Store.set_set]
          repeat (first | refine RL.step tO rfl rfl rfl rfl ?_)
          refine RL.storeP tO rfl rfl rfl rfl rfl rfl rfl rfl rfl (by rw [Store.set_ne _ _ (Ne.symm e1)]; exact Store.set_same _ _ _) rfl ?_
          rw [Store.set_comm _ _ _ e1, Store.set_set]
          repeat (first | with_reducible refine CW.seq ?_ | with_reducible refine aN ?_ | refine CW.reg ?_ | refine RL.nil ?_)
          refine RL.loadP tO rfl rfl rfl rfl rfl rfl (by rw [Store.set_ne _ _ (Ne.symm e1)]; exact Store.set_same _ _ _) rfl ?_
          subst hZ
          refine RL.storeP tO rfl rfl rfl rfl rfl rfl rfl rfl rfl (by rw [Store.set_ne _ _ (Ne.symm e3), Store.set_ne _ _ (Ne.symm hn3)]; exact Store.set_same _ _ _) rfl ?_
          repeat (first | with_reducible refine aN ?_ | with_reducible refine CW.ret ?_ | refine RL.nil ?_)
          refine ⟨_, _, s, resA_cell rfl rfl (Store.set_same _ _ _) rfl, AVle.refl _, ?_, rfl, rfl⟩
          exact Store.subSet (Store.subSet (Store.subSet (Store.subSet (Store.sub_refl _) hb2) hs3) e4) hb2
end Go.Proofs.YtaafacnoddjhgaaGreat

/- Contracts of the layer 'shape': Canon. -/
namespace Go.Proofs.YtaafacnoddjhgaaGreat
open Go.AE

theorem knownB_size {names slots : List Str} {cnt : Nat} {e : FExp} {params : List Str} {next : Bool} (h : knownB names slots cnt e params next = true) : e.size ≤ 120 := by
 simp only [knownB, Bool.and_eq_true, decide_eq_true_eq] at h; omega

theorem methodsOk_mem {names slots : List Str} : ∀ {l : List FMethod} {cnt : Nat} {m : FMethod}, methodsOk names slots cnt l = true → m ∈ l → m.params.length ≤ 3 ∧ m.body.size ≤ 120
  | [], _, _, _, h => by cases h
  | a :: l, cnt, m, h, hm => by
    simp only [methodsOk, Bool.and_eq_true] at h
    rcases List.mem_cons.1 hm with rfl | hm
    · have h1 := h.1
      simp only [methodOk, mB1, Bool.and_eq_true, decide_eq_true_eq] at h1
      exact ⟨by omega, knownB_size h1.2.2.2⟩
    · exact methodsOk_mem h.2 hm

def FProg.Slim (P : FProg) : Prop := ∀ m ∈ P.methods, m.fact.Slim 1

theorem FProg.canonable {P : FProg} (hP : P.Fair) (hs : P.Slim) (h : progOk P = true) : P.Canonable := by
 unfold progOk at h
 cases hc : clsAll P.classes with
 | none => rw [hc] at h; cases h
 | some st =>
  rw [hc] at h
  simp only [Bool.and_eq_true, decide_eq_true_eq] at h
  obtain ⟨h1, h2, h3, h4⟩ := h
  have := knownB_size h2
  refine ⟨hP.clen, fun c hcm => ⟨(hP.cls c hcm).parents.1, (hP.cls c hcm).slots.1, (hP.cls c hcm).ilen⟩, by omega, fun m hm => ?_, by omega⟩
  obtain ⟨g1, g2⟩ := methodsOk_mem h3 hm
  exact ⟨by omega, Nat.le_of_lt (hP.mth m hm).fact.size, hs m hm⟩

def zeroP : FProg := { classes := [], methods := [], main := zeroE }
theorem zeroP_le : AVle (.agg [.slc 0 [] .nil, .slc 0 [] .nil, .int .i64 0, .int .i64 0, .str [], .slc 0 [] .nil]) zeroP.av :=
 AVle.agg (.cons AVle.empty (.cons AVle.empty (.cons (AVle.refl _) (.cons (AVle.refl _) (.cons (AVle.refl _) (.one AVle.empty))))))

set_option maxRecDepth 10000 in
theorem shapeCanon_spec (P : FProg) (s : Store) (hP : P.Fair) (hs : P.Slim) :
  ACalls Tryz.prog 6 [P.av] s (fun o s' => o = .ret (.tup [(if progOk P then P.canon else zeroP).av, err (progOk P)]) ∧ s' = s) := by
 refine ACalls.of_CW tO call6 Tryz.func6 rfl rfl ?_
 cases hok : progOk P with
 | true =>
  repeat (first | with_reducible refine CW.seq ?_ | refine CW.reg ?_ | refine RL.step tO rfl rfl rfl rfl ?_)
  refine RL.alloc tO rfl rfl rfl rfl rfl rfl rfl (fun b2 hb2 => ?_)
  repeat (first | with_reducible refine CW.seq ?_ | with_reducible refine aN ?_ | refine CW.reg ?_ | refine RL.nil ?_ | refine RL.step tO rfl rfl rfl rfl ?_)
  refine RL.callP rfl rfl rfl rfl rfl (by have := shapeCheck_spec P (s.set b2 (.box 29 [.slc 0 [] .nil, .slc 0 [] .nil, .int .i64 0, .int .i64 0, .str [], .slc 0 [] .nil])) hP; rw [hok] at this; exact this) ?_
  repeat (first | with_reducible refine CW.seq ?_ | with_reducible refine aN ?_ | with_reducible refine CW.skip ?_ | refine CW.reg ?_ | refine RL.nil ?_ | refine CW.condF rfl ?_ | refine RL.step tO rfl rfl rfl rfl ?_)
  refine RL.callP rfl rfl rfl rfl rfl (canon_spec P _ (P.canonable hP hs hok)) ?_
  repeat (first | with_reducible refine aN ?_ | with_reducible refine CW.ret ?_ | refine RL.nil ?_ | refine RL.step tO rfl rfl rfl rfl ?_ | (refine RL.storeP tO rfl rfl rfl rfl rfl rfl rfl rfl rfl (Store.set_same _ _ _) rfl ?_; try with_reducible rw [Store.set_set]))
  exact ⟨_, _, s, resA_cellT rfl rfl (Store.set_same _ _ _) rfl rfl, AVle.refl _, Store.sub_set _ _ _ hb2, rfl, rfl⟩
 | false =>
  repeat (first | with_reducible refine CW.seq ?_ | refine CW.reg ?_ | refine RL.step tO rfl rfl rfl rfl ?_)
  refine RL.alloc tO rfl rfl rfl rfl rfl rfl rfl (fun b2 hb2 => ?_)
  repeat (first | with_reducible refine CW.seq ?_ | with_reducible refine aN ?_ | refine CW.reg ?_ | refine RL.nil ?_ | refine RL.step tO rfl rfl rfl rfl ?_)
  refine RL.callP rfl rfl rfl rfl rfl (by have := shapeCheck_spec P (s.set b2 (.box 29 [.slc 0 [] .nil, .slc 0 [] .nil, .int .i64 0, .int .i64 0, .str [], .slc 0 [] .nil])) hP; rw [hok] at this; exact this) ?_
  repeat (first | with_reducible refine CW.seq ?_ | with_reducible refine aN ?_ | with_reducible refine aR ?_ | with_reducible refine CW.ret ?_ | refine CW.reg ?_ | refine RL.nil ?_ | refine CW.condT rfl ?_ | refine RL.step tO rfl rfl rfl rfl ?_ | (refine RL.storeP tO rfl rfl rfl rfl rfl rfl rfl rfl rfl (Store.set_same _ _ _) rfl ?_; try with_reducible rw [Store.set_set]))
  exact ⟨_, _, s, resA_cellT rfl rfl (Store.set_same _ _ _) rfl rfl, AVle.tup (.cons zeroP_le (.one (AVle.refl _))), Store.sub_set _ _ _ hb2, rfl, rfl⟩
end Go.Proofs.YtaafacnoddjhgaaGreat

/- Contracts of the laws' own small functions, and of the example. -/
namespace Go.Proofs.YtaafacnoddjhgaaGreat
open Go.AE

def numE (n : Int) : FExp := .mk 1 n [] []
theorem num_le (n : Int) : AVle (.agg [.int .i64 1, .int .i64 n, .str [], .slc 0 [] .nil]) (numE n).av :=
 AVle.agg (.cons (AVle.refl _) (.cons (AVle.refl _) (.cons (AVle.refl _) (.one AVle.empty))))

set_option maxRecDepth 10000 in
theorem lawName_spec (x : Str) (s : Store) : ACalls Tryz.prog 28 [.str x] s (fun o s' => o = .ret (nameE x).av ∧ s' = s) := by
 refine ACalls.of_CW tO call28 Tryz.func28 rfl rfl ?_
 repeat (first | with_reducible refine CW.seq ?_ | refine CW.reg ?_)
 refine RL.alloc tO rfl rfl rfl rfl rfl rfl rfl (fun b2 hb2 => ?_)
 repeat (first | with_reducible refine CW.seq ?_ | with_reducible refine aN ?_ | with_reducible refine CW.ret ?_ | refine CW.reg ?_ | refine RL.nil ?_ | refine RL.step tO rfl rfl rfl rfl ?_ | (refine RL.storeP tO rfl rfl rfl rfl rfl rfl rfl rfl rfl (Store.set_same _ _ _) rfl ?_; try with_reducible rw [Store.set_set]))
 exact ⟨_, _, s, resA_cell rfl rfl (Store.set_same _ _ _) rfl, name_le _, Store.sub_set _ _ _ hb2, rfl, rfl⟩

set_option maxRecDepth 10000 in
theorem lawNum_spec (n : Int) (s : Store) : ACalls Tryz.prog 27 [.int .i64 n] s (fun o s' => o = .ret (numE n).av ∧ s' = s) := by
 refine ACalls.of_CW tO call27 Tryz.func27 rfl rfl ?_
 repeat (first | with_reducible refine CW.seq ?_ | refine CW.reg ?_)
 refine RL.alloc tO rfl rfl rfl rfl rfl rfl rfl (fun b2 hb2 => ?_)
 repeat (first | with_reducible refine CW.seq ?_ | with_reducible refine aN ?_ | with_reducible refine CW.ret ?_ | refine CW.reg ?_ | refine RL.nil ?_ | refine RL.step tO rfl rfl rfl rfl ?_ | (refine RL.storeP tO rfl rfl rfl rfl rfl rfl rfl rfl rfl (Store.set_same _ _ _) rfl ?_; try with_reducible rw [Store.set_set]))
 exact ⟨_, _, s, resA_cell rfl rfl (Store.set_same _ _ _) rfl, num_le _, Store.sub_set _ _ _ hb2, rfl, rfl⟩

set_option maxRecDepth 10000 in
theorem lawExp_spec (o : Int) (t : Str) (ks : List FExp) (s : Store) : ACalls Tryz.prog 26 [.int .i64 o, .str t, .slc 4 (ks.map FExp.av) .fro] s (fun r s' => r = .ret (FExp.mk o 0 t ks).av ∧ s' = s) := by
 refine ACalls.of_CW tO call26 Tryz.func26 rfl rfl ?_
 repeat (first | with_reducible refine CW.seq ?_ | refine CW.reg ?_)
 refine RL.alloc tO rfl rfl rfl rfl rfl rfl rfl (fun b2 hb2 => ?_)
 repeat (first | with_reducible refine CW.seq ?_ | with_reducible refine aN ?_ | with_reducible refine CW.ret ?_ | refine CW.reg ?_ | refine RL.nil ?_ | refine RL.step tO rfl rfl rfl rfl ?_ | (refine RL.storeP tO rfl rfl rfl rfl rfl rfl rfl rfl rfl (Store.set_same _ _ _) rfl ?_; try with_reducible rw [Store.set_set]))
 refine ⟨_, _, s, resA_cell rfl rfl (Store.set_same _ _ _) rfl, AVle.of_eq ?_, Store.sub_set _ _ _ hb2, rfl, rfl⟩
 simp only [FExp.av, FExp.cells, FExp.kav_eq]; rfl

def exA : FClass := ⟨[97], [], [[102]], [⟨[102], 7⟩]⟩
def exB : FClass := ⟨[98], [[97]], [[103]], []⟩
def exC (parents : List Str) : FClass := ⟨[99], parents, [], [⟨[102], 1⟩]⟩
def exM : FMethod := ⟨1, [115, 104, 111, 119], [[120]], .mk 2 [120] [] [97] 0 [], .mk 17 0 [] [.mk 4 0 [102] [nameE [120]]]⟩
def exN : FMethod := ⟨2, [115, 104, 111, 119], [[121]], .mk 3 [121] [[102]] [] 5 [], .mk 9 0 [122] [nameE [121], nameE [122]]⟩
def exampleP (parents : List Str) : FProg := ⟨[exA, exB, exC parents], [exM, exN], .mk 5 0 [115, 104, 111, 119] [.mk 6 0 [99] []]⟩

set_option maxRecDepth 10000 in
set_option maxHeartbeats 1000000 in
theorem example_spec (parents : List Str) (s : Store) : ACalls Tryz.prog 22 [.slc 1 (strs parents) .fro] s (fun o s' => o = .ret (exampleP parents).av ∧ s' = s) := by
 refine ACalls.of_CW tO call22 Tryz.func22 rfl rfl ?_
 repeat (first | with_reducible refine CW.seq ?_ | refine CW.reg ?_)
 refine RL.alloc tO rfl rfl rfl rfl rfl rfl rfl (fun b2 hb2 => ?_)
 repeat (first | with_reducible refine CW.seq ?_ | with_reducible refine aN ?_ | refine CW.reg ?_ | refine RL.nil ?_ | refine RL.step tO rfl rfl rfl rfl ?_)
 refine RL.callP rfl rfl rfl rfl rfl (lawName_spec _ _) ?_
 repeat (first | refine RL.step tO rfl rfl rfl rfl ?_)
 refine RL.callP rfl rfl rfl rfl rfl (ACalls.weakArgs (.cons (AVle.refl _) (.cons (AVle.refl _) (.one AVle.fro))) (lawExp_spec 4 [102] [nameE [120]] _)) ?_
 repeat (first | refine RL.step tO rfl rfl rfl rfl ?_)
 refine RL.callP rfl rfl rfl rfl rfl (ACalls.weakArgs (.cons (AVle.refl _) (.cons (AVle.refl _) (.one AVle.fro))) (lawExp_spec 17 [] [.mk 4 0 [102] [nameE [120]]] _)) ?_
 repeat (first | refine RL.step tO rfl rfl rfl rfl ?_)
 refine RL.callP rfl rfl rfl rfl rfl (lawName_spec _ _) ?_
 skip
 refine RL.callP rfl rfl rfl rfl rfl (lawName_spec _ _) ?_
 repeat (first | refine RL.step tO rfl rfl rfl rfl ?_)
 refine RL.callP rfl rfl rfl rfl rfl (ACalls.weakArgs (.cons (AVle.refl _) (.cons (AVle.refl _) (.one AVle.fro))) (lawExp_spec 9 [122] [nameE [121], nameE [122]] _)) ?_
 repeat (first | refine RL.step tO rfl rfl rfl rfl ?_)
 refine RL.callP rfl rfl rfl rfl rfl (ACalls.weakArgs (.cons (AVle.refl _) (.cons (AVle.refl _) (.one AVle.empty))) (lawExp_spec 6 [99] [] _)) ?_
 repeat (first | refine RL.step tO rfl rfl rfl rfl ?_)
 refine RL.callP rfl rfl rfl rfl rfl (ACalls.weakArgs (.cons (AVle.refl _) (.cons (AVle.refl _) (.one AVle.fro))) (lawExp_spec 5 [115, 104, 111, 119] [.mk 6 0 [99] []] _)) ?_
 repeat (first | with_reducible refine aN ?_ | with_reducible refine CW.ret ?_ | refine RL.nil ?_ | refine RL.step tO rfl rfl rfl rfl ?_ | (refine RL.storeP tO rfl rfl rfl rfl rfl rfl rfl rfl rfl (Store.set_same _ _ _) rfl ?_; try with_reducible rw [Store.set_set]))
 refine ⟨_, _, s, resA_cell rfl rfl (Store.set_same _ _ _) rfl, ?_, Store.sub_set _ _ _ hb2, rfl, rfl⟩
 repeat' (first | exact AVle.refl _ | exact AVle.empty | exact AVleL.nil | refine AVle.slc ?_ | refine AVle.agg ?_ | refine AVleL.cons ?_ ?_)
end Go.Proofs.YtaafacnoddjhgaaGreat

/- Contracts of the laws: known. -/
namespace Go.Proofs.YtaafacnoddjhgaaGreat
open Go.AE

def exP : FProg := exampleP [[97], [98]]

theorem exP_ok : progOk exP = true := by decide +kernel
theorem exP_count : progCount exP = 13 := by decide +kernel
theorem exP_above : aboveS exP.classes [99] = some [[97], [98]] := by decide +kernel
theorem exP_gens : (progGens exP).1.map (·.1) = [[115, 104, 111, 119]] := by decide +kernel
theorem exP_slots : exP.classes.flatMap FClass.slots = [[102], [103]] := by decide +kernel

def shortB : Part → Bool
 | .exp e => decide (e.text.length < 9223372036854775807)
 | .fact f => decide (f.name.length < 9223372036854775807) && (decide (f.cls.length < 9223372036854775807) && (decide (f.path.length < big) && f.path.all fun x => decide (x.length < 9223372036854775807)))

theorem FExp.fair_of {e : FExp} (h : (decide (e.size < big) && ((Part.exp e).nodes 1).all fun x => shortB x.2) = true) : e.Fair := by
 simp only [Bool.and_eq_true, decide_eq_true_eq, List.all_eq_true] at h
 refine ⟨h.1, fun x hx => ?_⟩
 have := h.2 x hx
 cases hp : x.2 with
 | exp g => rw [hp] at this; simpa [shortB, Part.short] using this
 | fact g => trivial

theorem FFact.fair_of {f : FFact} (h : (decide (f.size < big) && ((Part.fact f).nodes 1).all fun x => shortB x.2) = true) : f.Fair ∧ f.Slim 1 := by
 have hb : big = 1099511627776 := rfl
 simp only [Bool.and_eq_true, decide_eq_true_eq, List.all_eq_true] at h
 refine ⟨⟨h.1, fun x hx => ?_⟩, fun d g hg => ?_⟩
 ·have := h.2 x hx
  cases hp : x.2 with
  | exp g => rw [hp] at this; simpa [shortB, Part.texts] using this
  | fact g =>
   rw [hp] at this
   simp only [shortB, Bool.and_eq_true, decide_eq_true_eq, List.all_eq_true] at this
   exact ⟨this.1, this.2.1, by have := this.2.2.1; omega, this.2.2.2⟩
 ·have := h.2 _ hg
  simp only [shortB, Bool.and_eq_true, decide_eq_true_eq, List.all_eq_true] at this
  exact this.2.2.1

def shtB (x : Str) : Bool := decide (x.length < 9223372036854775807)
def strsB (l : List Str) : Bool := decide (l.length < big) && l.all shtB
theorem Strs.of {l : List Str} (h : strsB l = true) : Strs l := by
 simp only [strsB, shtB, Bool.and_eq_true, decide_eq_true_eq, List.all_eq_true] at h
 exact ⟨h.1, h.2⟩
def fairB (P : FProg) : Bool :=
 decide (P.classes.length < big) && ((P.classes.all fun c => shtB c.name && (strsB c.parents && (strsB c.slots && (decide (c.inits.length < big) && c.inits.all fun x => shtB x.slot)))) &&
  (decide (P.methods.length < big) && ((P.methods.all fun m => shtB m.name && (strsB m.params && ((decide (m.fact.size < big) && ((Part.fact m.fact).nodes 1).all fun x => shortB x.2) && (decide (m.body.size < big) && ((Part.exp m.body).nodes 1).all fun x => shortB x.2)))) &&
   ((decide (P.main.size < big) && ((Part.exp P.main).nodes 1).all fun x => shortB x.2) && (decide ((progNotes P).length < big) && decide ((P.classes.flatMap FClass.slots).length < big))))))
theorem FProg.fair_of {P : FProg} (h : fairB P = true) : P.Fair ∧ P.Slim := by
 simp only [fairB, Bool.and_eq_true] at h
 obtain ⟨h1, h2, h3, h4, h5, h6, h7⟩ := h
 simp only [List.all_eq_true, Bool.and_eq_true] at h2 h4
 refine ⟨⟨by simpa using h1, fun c hc => ?_, by simpa using h3, fun m hm => ?_, FExp.fair_of (by simpa using h5), by simpa using h6, by simpa using h7⟩, fun m hm => ?_⟩
 ·obtain ⟨a, b, c', d, e⟩ := h2 c hc
  exact ⟨by simpa [shtB, Sh] using a, .of b, .of c', by simpa using d, fun x hx => by simpa [shtB, Sh] using e x hx⟩
 ·obtain ⟨a, b, c', d⟩ := h4 m hm
  exact ⟨by simpa [shtB, Sh] using a, .of b, (FFact.fair_of (by simpa using c')).1, FExp.fair_of (by simpa using d)⟩
 ·obtain ⟨a, b, c', d⟩ := h4 m hm
  exact (FFact.fair_of (by simpa using c')).2
theorem exP_fair : exP.Fair ∧ exP.Slim := FProg.fair_of (by decide +kernel)

def exE : FExp := .mk 9 0 [97] [numE 2, .mk 12 0 [] [nameE [120], nameE [97]]]
def exY : FExp := .mk 12 0 [] [nameE [97], numE 1]
def exR : FExp := .mk 9 0 [98] [numE 2, .mk 12 0 [] [.mk 12 0 [] [nameE [97], numE 1], nameE [98]]]
theorem exE_fair : exE.Fair := FExp.fair_of (by decide +kernel)
theorem exY_fair : exY.Fair := FExp.fair_of (by decide +kernel)
theorem exPut : FExp.beq (putR exE [120] exY).1 exR = true := by decide +kernel
theorem exPut2 : (putR exE [120] exY).2 = 0 := by decide +kernel
theorem exPut_size : (putR exE [120] exY).1.size < 100 := by decide +kernel

theorem exCanon : ∃ cl a k nm f o n ks mn, exP.canon = ⟨cl, [a, ⟨k, nm, [[97]], f, .mk o n [98] ks⟩], mn⟩ := by
 have h : exP.canon.methods.length = 2 ∧ (exP.canon.methods[1]?.map fun m => (m.params, m.body.text)) = some ([[97]], [98]) := by decide +kernel
 generalize exP.canon = C at h
 obtain ⟨cl, ms, mn⟩ := C
 obtain ⟨h1, h2⟩ := h
 match ms, h1 with
 | [a, ⟨k, nm, ps, f, .mk o n t ks⟩], _ =>
  simp [FExp.text] at h2
  obtain ⟨rfl, rfl⟩ := h2
  exact ⟨_, _, _, _, _, _, _, _, _, rfl⟩

theorem exFresh : freshS (setOf [[97], [98]]) = [99] := by decide +kernel
theorem exName : nameS [97] = true := by decide +kernel
theorem exName2 : nameS [105, 110] = false := by decide +kernel

set_option maxRecDepth 10000 in
set_option maxHeartbeats 2000000 in
theorem known_true (s : Store) : ACalls Tryz.prog 9 [] s (fun o s' => o = .ret (.bool true) ∧ s' = s) := by
 have hN : ∀ s, ACalls Tryz.prog 23 [exP.av] s (fun o s' => o = .ret (.tup [.int .i64 13, err true]) ∧ s' = s) := fun s => by
  have := shapeNodes_spec exP s exP_fair.1; rw [exP_ok, exP_count] at this; exact this
 have hA : ∀ s, ACalls Tryz.prog 24 [exP.av, .str [99]] s (fun o s' => o = .ret (.tup [.slc 1 (strs [[97], [98]]) .fro, err true]) ∧ s' = s) := fun s => by
  have := shapeAbove_spec exP [99] s exP_fair.1; rw [exP_ok, exP_above] at this; exact this
 have hC : ∀ s, ACalls Tryz.prog 15 [exP.av] s (fun o s' => o = .ret (err true) ∧ s' = s) := fun s => by
  have := shapeCheck_spec exP s exP_fair.1; rw [exP_ok] at this; exact this
 have hG : ∀ s, ACalls Tryz.prog 29 [exP.av] s (fun o s' => o = .ret (.tup [.slc 1 (strs [[115, 104, 111, 119]]) .fro, err true]) ∧ s' = s) := fun s => by
  have := shapeGens_spec exP s exP_fair.1; rw [exP_ok, exP_gens] at this; exact this
 have hS : ∀ s, ACalls Tryz.prog 30 [exP.av] s (fun o s' => o = .ret (.tup [.slc 1 (strs [[102], [103]]) .fro, err true]) ∧ s' = s) := fun s => by
  have := shapeSlots_spec exP s exP_fair.1; rw [exP_ok, exP_slots] at this; exact this
 have hK : ∀ s, ACalls Tryz.prog 6 [exP.av] s (fun o s' => o = .ret (.tup [exP.canon.av, err true]) ∧ s' = s) := fun s => by
  have := shapeCanon_spec exP s exP_fair.1 exP_fair.2; rw [exP_ok] at this; exact this
 have hP : ∀ s, ACalls Tryz.prog 25 [exE.av, .str [120], exY.av] s (fun o s' => o = .ret (.tup [(putR exE [120] exY).1.av, .int .i64 0]) ∧ s' = s) := fun s => by
  have := shapePut_spec exE [120] exY s exE_fair exY_fair (by decide); rw [exPut2] at this; exact this
 have hE : ∀ s, ACalls Tryz.prog 19 [(putR exE [120] exY).1.av, exR.av] s (fun o s' => o = .ret (.bool true) ∧ s' = s) := fun s => by
  have := refSameExp_spec _ (putR exE [120] exY).1 exR s (Nat.le_refl _) (by have := exPut_size; have : big = 1099511627776 := rfl; omega) (by decide); rw [exPut] at this; exact this
 have hT1 : ∀ s, ACalls Tryz.prog 14 [.slc 1 (strs [[97], [98]]) .fro, .slc 1 (strs [[97], [98]]) .clip] s (fun o s' => o = .ret (.bool true) ∧ s' = s) := fun s => sameTexts_spec [[97], [98]] [[97], [98]] .fro .clip s (by decide)
 have hT2 : ∀ s, ACalls Tryz.prog 14 [.slc 1 (strs [[102], [103]]) .fro, .slc 1 (strs [[102], [103]]) .clip] s (fun o s' => o = .ret (.bool true) ∧ s' = s) := fun s => sameTexts_spec [[102], [103]] [[102], [103]] .fro .clip s (by decide)
 have hX : ∀ s, ACalls Tryz.prog 22 [.slc 1 (strs [[97], [98]]) .fro] s (fun o s' => o = .ret exP.av ∧ s' = s) := fun s => example_spec [[97], [98]] s
 generalize (putR exE [120] exY).1 = R at hP hE
 obtain ⟨cl, a, k, nm, f, o, n, ks, mn, hcan⟩ := exCanon
 rw [hcan] at hK
 generalize hEP : exP = E at hN hA hC hG hS hK hX
 refine ACalls.of_CW tO call9 Tryz.func9 rfl rfl ?_
 repeat (first | with_reducible refine CW.seq ?_ | with_reducible refine aN ?_ | refine CW.reg (RL.run tO rfl (RL.nil ?_)) | refine CW.reg ?_ | refine RL.step tO rfl rfl rfl rfl ?_)
 refine RL.callP rfl rfl rfl rfl rfl (ACalls.weakArgs (.one AVle.fro) (hX _)) ?_
 refine RL.newBox tO rfl rfl rfl rfl rfl rfl rfl (fun _ => rfl) rfl rfl (fun _ => rfl) rfl rfl rfl rfl ?_
 repeat (first | with_reducible refine CW.seq ?_ | with_reducible refine aN ?_ | refine CW.reg ?_ | refine RL.nil ?_ | refine RL.step tO rfl rfl rfl rfl ?_)
 refine RL.callP rfl rfl rfl rfl rfl (hN _) ?_
 repeat (first | with_reducible refine CW.seq ?_ | with_reducible refine aN ?_ | refine CW.reg ?_ | refine RL.nil ?_ | refine RL.step tO rfl rfl rfl rfl ?_)
 refine RL.callP rfl rfl rfl rfl rfl (hA _) ?_
 repeat (first | with_reducible refine CW.seq ?_ | with_reducible refine aN ?_ | refine CW.reg ?_ | refine RL.nil ?_ | refine RL.step tO rfl rfl rfl rfl ?_)
 refine RL.callP rfl rfl rfl rfl rfl (hC _) ?_
 repeat (first | refine RL.step tO rfl rfl rfl rfl ?_)
 refine RL.callP rfl rfl rfl rfl rfl (hT1 _) ?_
 repeat (first | with_reducible refine CW.seq ?_ | with_reducible refine aN ?_ | with_reducible refine CW.skip ?_ | refine CW.reg ?_ | refine RL.nil ?_ | refine CW.condF rfl ?_ | refine RL.step tO rfl rfl rfl rfl ?_)
 refine RL.callP rfl rfl rfl rfl rfl (lawNum_spec 2 _) ?_
 skip
 refine RL.callP rfl rfl rfl rfl rfl (lawName_spec [120] _) ?_
 skip
 refine RL.callP rfl rfl rfl rfl rfl (lawName_spec [97] _) ?_
 repeat (first | refine RL.step tO rfl rfl rfl rfl ?_)
 refine RL.callP rfl rfl rfl rfl rfl (ACalls.weakArgs (.cons (AVle.refl _) (.cons (AVle.refl _) (.one AVle.fro))) (lawExp_spec 12 [] [nameE [120], nameE [97]] _)) ?_
 repeat (first | refine RL.step tO rfl rfl rfl rfl ?_)
 refine RL.callP rfl rfl rfl rfl rfl (ACalls.weakArgs (.cons (AVle.refl _) (.cons (AVle.refl _) (.one AVle.fro))) (lawExp_spec 9 [97] [numE 2, .mk 12 0 [] [nameE [120], nameE [97]]] _)) ?_
 skip
 refine RL.callP rfl rfl rfl rfl rfl (lawName_spec [97] _) ?_
 skip
 refine RL.callP rfl rfl rfl rfl rfl (lawNum_spec 1 _) ?_
 repeat (first | refine RL.step tO rfl rfl rfl rfl ?_)
 refine RL.callP rfl rfl rfl rfl rfl (ACalls.weakArgs (.cons (AVle.refl _) (.cons (AVle.refl _) (.one AVle.fro))) (lawExp_spec 12 [] [nameE [97], numE 1] _)) ?_
 skip
 refine RL.callP rfl rfl rfl rfl rfl (hP _) ?_
 repeat (first | refine RL.step tO rfl rfl rfl rfl ?_)
 refine RL.newBox tO rfl rfl rfl rfl rfl rfl rfl (fun _ => rfl) rfl rfl (fun _ => rfl) rfl rfl rfl rfl ?_
 repeat (first | with_reducible refine CW.seq ?_ | with_reducible refine aN ?_ | refine RL.nil ?_ | refine RL.step tO rfl rfl rfl rfl ?_)
 refine CW.drw tO mixed rfl (RD.run rfl ?_)
 refine RD.calmP (i := 4) rfl rfl rfl rfl rfl rfl rfl (fun s => lawNum_spec 2 s) ?_
 refine RD.run rfl ?_
 refine RD.calmP (i := 5) rfl rfl rfl rfl rfl rfl rfl (fun s => lawName_spec [97] s) ?_
 refine RD.run rfl ?_
 refine RD.calmP (i := 6) rfl rfl rfl rfl rfl rfl rfl (fun s => lawNum_spec 1 s) ?_
 refine RD.run rfl ?_
 refine RD.calmP (i := 8) rfl rfl rfl rfl rfl rfl rfl (fun s => ACalls.weakArgs (.cons (AVle.refl _) (.cons (AVle.refl _) (.one AVle.fro))) (lawExp_spec 12 [] [nameE [97], numE 1] s)) ?_
 refine RD.run rfl ?_
 refine RD.calmP (i := 9) rfl rfl rfl rfl rfl rfl rfl (fun s => lawName_spec [98] s) ?_
 refine RD.run rfl ?_
 refine RD.calmP (i := 11) rfl rfl rfl rfl rfl rfl rfl (fun s => ACalls.weakArgs (.cons (AVle.refl _) (.cons (AVle.refl _) (.one AVle.fro))) (lawExp_spec 12 [] [.mk 12 0 [] [nameE [97], numE 1], nameE [98]] s)) ?_
 refine RD.run rfl ?_
 refine RD.calmP (i := 13) rfl rfl rfl rfl rfl rfl rfl (fun s => ACalls.weakArgs (.cons (AVle.refl _) (.cons (AVle.refl _) (.one AVle.fro))) (lawExp_spec 9 [98] [numE 2, .mk 12 0 [] [.mk 12 0 [] [nameE [97], numE 1], nameE [98]]] s)) ?_
 refine RD.run rfl ?_
 refine RD.calmP (i := 14) rfl rfl rfl rfl rfl rfl rfl (fun s => hE s) ?_
 refine RD.run rfl (RD.done rfl ?_)
 repeat (first | with_reducible refine CW.seq ?_ | with_reducible refine aN ?_ | with_reducible refine CW.skip ?_ | refine CW.reg ?_ | refine CW.condF rfl ?_ | refine RL.step tO rfl rfl rfl rfl ?_)
 refine RL.callP rfl rfl rfl rfl rfl (hK _) ?_
 repeat (first | refine RL.step tO rfl rfl rfl rfl ?_)
 refine RL.newBox tO rfl rfl rfl rfl rfl rfl rfl (fun _ => rfl) rfl rfl (fun _ => rfl) rfl rfl rfl rfl ?_
 repeat (first | with_reducible refine CW.seq ?_ | with_reducible refine aN ?_ | refine CW.reg ?_ | refine RL.nil ?_ | refine RL.step tO rfl rfl rfl rfl ?_)
 refine RL.idx tO 1 rfl rfl rfl rfl rfl rfl rfl rfl rfl rfl rfl (by rfl) (by rfl) ?_
 repeat (first | refine RL.step tO rfl rfl rfl rfl ?_)
 refine RL.idx tO 1 rfl rfl rfl rfl rfl rfl rfl rfl rfl rfl rfl (by rfl) (by rfl) ?_
 repeat (first | refine RL.step tO rfl rfl rfl rfl ?_)
 refine RL.idx tO 0 rfl rfl rfl rfl rfl rfl rfl rfl rfl rfl rfl (by rfl) (by rfl) ?_
 repeat (first | refine RL.step tO rfl rfl rfl rfl ?_)
 refine RL.idx tO 1 rfl rfl rfl rfl rfl rfl rfl rfl rfl rfl rfl (by rfl) (by rfl) ?_
 repeat (first | with_reducible refine CW.seq ?_ | with_reducible refine aN ?_ | with_reducible refine CW.skip ?_ | refine CW.reg ?_ | refine RL.nil ?_ | refine CW.condF rfl ?_ | refine RL.step tO rfl rfl rfl rfl ?_)
 refine RL.callP rfl rfl rfl rfl rfl (hG _) ?_
 repeat (first | with_reducible refine CW.seq ?_ | with_reducible refine aN ?_ | refine CW.reg ?_ | refine RL.nil ?_ | refine RL.step tO rfl rfl rfl rfl ?_)
 refine RL.callP rfl rfl rfl rfl rfl (hS _) ?_
 repeat (first | with_reducible refine CW.seq ?_ | with_reducible refine aN ?_ | refine CW.reg ?_ | refine RL.nil ?_ | refine RL.step tO rfl rfl rfl rfl ?_)
 refine RL.idx tO 0 rfl rfl rfl rfl rfl rfl rfl rfl rfl rfl rfl (by rfl) (by rfl) ?_
 repeat (first | refine RL.step tO rfl rfl rfl rfl ?_)
 refine RL.callP rfl rfl rfl rfl rfl (hT2 _) ?_
 repeat (first | refine RL.step tO rfl rfl rfl rfl ?_)
 refine RL.callP rfl rfl rfl rfl rfl (show ACalls Tryz.prog 31 [.str [97]] s (fun o s' => o = .ret (.bool true) ∧ s' = s) by have := shapeName_spec [97] s (by decide); rw [exName] at this; exact this) ?_
 repeat (first | refine RL.step tO rfl rfl rfl rfl ?_)
 refine RL.callP rfl rfl rfl rfl rfl (show ACalls Tryz.prog 31 [.str [105, 110]] s (fun o s' => o = .ret (.bool false) ∧ s' = s) by have := shapeName_spec [105, 110] s (by decide); rw [exName2] at this; exact this) ?_
 repeat (first | refine RL.step tO rfl rfl rfl rfl ?_)
 refine RL.callP rfl rfl rfl rfl rfl (show ACalls Tryz.prog 32 [.slc 1 (strs [[97], [98]]) .clip] s (fun o s' => o = .ret (.str [99]) ∧ s' = s) by have := shapeFresh_spec [[97], [98]] .clip s (by decide) (hasFree_of (by decide +kernel)); rw [exFresh] at this; exact this) ?_
 repeat (first | with_reducible refine aN ?_ | with_reducible refine CW.ret ?_ | refine RL.nil ?_ | refine RL.step tO rfl rfl rfl rfl ?_)
 exact ⟨_, _, _, rfl, AVle.refl _, Store.sub_refl _, rfl, rfl⟩
end Go.Proofs.YtaafacnoddjhgaaGreat

/- Readings: what an argument's datum says of the value itself. -/
namespace Go.Proofs.YtaafacnoddjhgaaGreat
open Go.AE

def oldP (w : World) : Prot := fun b _ => b < w.heap.size

theorem wf_old (w : World) : Wf w (oldP w) (fun _ => none) := ⟨(fun _ _ h => by cases h), fun _ _ h => h⟩

theorem add_add (a : Addr) (x y : Nat) : (a.add x).add y = a.add (x + y) := by
 unfold Addr.add
 by_cases hx : x = 0
 ·subst hx; simp
 ·by_cases hy : y = 0
  ·subst hy; simp [hx]
  ·simp [hx, hy, Nat.add_assoc]

theorem cell_old {w : World} {a : Addr} {v : Value} (h : w.cell? a = some v) : a.spot = none ∧ a.block < w.heap.size := by
 unfold World.cell? at h
 split at h
 ·rename_i c _ _ hb
  refine ⟨?_, (Array.getElem?_eq_some_iff.1 hb).1⟩
  cases hs : a.spot with
  | none => rfl
  | some s => rw [hs] at h; simp at h
 ·cases h

theorem cells_old {w : World} {a : Addr} {n : Nat} {cs : List Value} (h : w.cells? 0 a n = some cs) : cs.length = n ∧ ∀ i v, cs[i]? = some v → w.cell? (a.add i) = some v := by
 unfold World.cells? at h
 rw [if_pos (Nat.zero_le _)] at h
 refine ⟨by simpa using mapM_some_length h, fun i v hv => ?_⟩
 have hi : i < n := by
  have := mapM_some_length h
  rw [List.length_range] at this
  rw [← this]; exact (List.getElem?_eq_some_iff.1 hv).1
 rw [mapM_some_get h i i (by rw [List.getElem?_range hi])]; exact hv

section
variable {H : Type} {enc : TypeId × Value → H} {w : World}

theorem flat_len {sz : Nat} : ∀ {vs : List Value}, (∀ v ∈ vs, v.cells.size = sz) → (flat vs).length = vs.length * sz
  | [], _ => by simp [flat]
  | v :: vs, h => by
    have := flat_len (vs := vs) (fun u hu => h u (List.mem_cons_of_mem _ hu))
    have hv := h v List.mem_cons_self
    simp only [flat, List.flatMap_cons, List.length_append, List.length_cons] at this ⊢
    rw [this, Array.length_toList, hv, Nat.add_mul, Nat.one_mul, Nat.add_comm]

theorem RelL.append' {p : Prot} : ∀ {vs us : List Value} {xs ys : List AV}, RelL w p vs xs → RelL w p us ys → RelL w p (vs ++ us) (xs ++ ys)
 | _, _, _, _, .nil, h => h
 | _, _, _, _, .cons v x vs xs h t, k => .cons _ _ _ _ h (RelL.append' t k)

theorem bulk_append (l r : List (DataW H)) : Rows.uptoBulkAll (l ++ r) = Rows.uptoBulkAll l + Rows.uptoBulkAll r := by
 induction l with
 | nil => simp [Rows.uptoBulkAll]
 | cons x l ih => simp only [List.cons_append, Rows.uptoBulkAll, ih]; omega

theorem trod_list {α : Type} {t e : TypeId} {sz fuel : Nat} {cs : List Value} {x : DataW H × List MemPlace} (f : α → AV) (m : α → Nat) (ht : Tryz.prog.underlying t = some (.slice e)) (hc : Tryz.prog.cellsOf e = sz) (hsz : 0 < sz)
  (hel : ∀ n cs y, n < fuel → DataW.trod enc Tryz.prog w 0 (fun _ => true) true n e cs = some y → cs.length = sz → ∃ (a : α) (v : Value), v.cells.toList = cs ∧ Rel w (oldP w) v (f a) ∧ m a ≤ Rows.uptoBulk y.1)
  (h : DataW.trod enc Tryz.prog w 0 (fun _ => true) true fuel t cs = some x) :
  ∃ (c : Value) (l : List α), cs = [c] ∧ Rel w (oldP w) c (.slc sz (l.map f) .fro) ∧ (l.map m).sum + 1 ≤ Rows.uptoBulk x.1 := by
 rcases DataW.trod_slice ht h with ⟨rfl, rfl⟩ | ⟨a, len, cap, elems, rest, n, rfl, rfl, rfl, hb, hl, hm, hlen, hel', hsp, hns⟩
 ·exact ⟨_, [], rfl, .slcNil _ _ (by simp), by simp [Rows.uptoBulk]⟩
 ·rw [hc] at hel' hsp
  have key : ∀ k, k ≤ len → ∃ (l : List α) (vs : List Value), l.length = k ∧ RelL w (oldP w) vs (l.map f) ∧ (∀ v ∈ vs, v.cells.size = sz) ∧ (∀ i u, (flat vs)[i]? = some u → w.cell? (a.add i) = some u) ∧
    (l.map m).sum ≤ Rows.uptoBulkAll ((elems.take k).map (·.1)) := by
   intro k
   induction k with
   | zero => intro _; exact ⟨[], [], rfl, .nil, by simp, by simp [flat], by simp⟩
   | succ k ih =>
    intro hk
    obtain ⟨l, vs, h1, h2, h3, h4, h5⟩ := ih (by omega)
    have hek : elems[k]? = some (elems[k]'(by omega)) := List.getElem?_eq_getElem (by omega)
    have hb := hel' k (by omega)
    rw [hek, Option.bind_eq_some_iff] at hb
    obtain ⟨cs', hcs, hy⟩ := hb
    obtain ⟨g1, g2⟩ := cells_old hcs
    obtain ⟨a', v, e1, e2, e3⟩ := hel n cs' _ (Nat.lt_succ_self n) hy g1
    have hvs : vs.length = k := by rw [h2.length, List.length_map, h1]
    refine ⟨l ++ [a'], vs ++ [v], by simp [h1], ?_, ?_, ?_, ?_⟩
    ·rw [List.map_append]; exact RelL.append' h2 (.cons _ _ _ _ e2 .nil)
    ·intro u hu
     rcases List.mem_append.1 hu with hu | hu
     ·exact h3 u hu
     ·simp only [List.mem_singleton] at hu
      subst hu
      rw [← Array.length_toList, e1, g1]
    ·intro i u hu
     have hf : flat (vs ++ [v]) = flat vs ++ cs' := by simp [flat, e1]
     rw [hf] at hu
     by_cases hi : i < (flat vs).length
     ·rw [List.getElem?_append_left hi] at hu; exact h4 i u hu
     ·rw [List.getElem?_append_right (by omega), flat_len h3, hvs] at hu
      have := g2 _ _ hu
      rw [add_add] at this
      rw [flat_len h3, hvs] at hi
      rwa [show k * sz + (i - k * sz) = i by omega] at this
    ·rw [List.take_add_one, hek]
     simp only [Option.toList_some, List.map_append, List.map_cons, List.map_nil, bulk_append, List.sum_append, List.sum_cons, List.sum_nil, Rows.uptoBulkAll]
     omega
  obtain ⟨l, vs, h1, h2, h3, h4, h5⟩ := key len (Nat.le_refl _)
  have hvs : vs.length = len := by rw [h2.length, List.length_map, h1]
  refine ⟨_, l, rfl, ?_, ?_⟩
  ·have hmx : maxLen = 9223372036854775807 := rfl
   by_cases hcap : cap = 0
   ·have hl0 : len = 0 := by omega
    subst hl0; subst hcap
    have : l = [] := List.eq_nil_of_length_eq_zero h1
    subst this
    exact .slcZ a _ _ (.inl rfl)
   ·have hcell : ∃ v, w.cell? a = some v := by
     by_cases hl0 : len = 0
     ·obtain ⟨hr, hr'⟩ := hsp rfl
      have hek : rest[0]? = some (rest[0]'(by omega)) := List.getElem?_eq_getElem (by omega)
      have := hr' 0 (by omega)
      rw [hek, Option.bind_eq_some_iff] at this
      obtain ⟨cs', hcs, -⟩ := this
      obtain ⟨g1, g2⟩ := cells_old hcs
      have := g2 0 _ (List.getElem?_eq_getElem (by omega))
      rw [hl0, add_add] at this
      simp only [Nat.add_zero, Nat.zero_mul, Addr.add, if_true] at this
      exact ⟨_, this⟩
     ·have := h4 0 _ (List.getElem?_eq_getElem (by rw [flat_len h3, hvs]; exact Nat.mul_pos (by omega) hsz))
      simp only [Addr.add, if_true] at this
      exact ⟨_, this⟩
    obtain ⟨v, hv⟩ := hcell
    obtain ⟨hs, hlt⟩ := cell_old hv
    obtain ⟨g, off, spot⟩ := a
    simp only at hs hlt
    subst hs
    refine .slc g off len cap sz vs _ .fro (by simp) (by rw [List.length_map, h1]) (fun i u hu => ⟨hlt, ?_⟩) h2 h3 (by omega) hl (by simp) (by simp)
    have := h4 i u hu
    rwa [add_none] at this
  ·simp only [Rows.uptoBulk]
   rw [List.take_of_length_le (by omega)] at h5
   omega

theorem trod_str {fuel : Nat} {cs : List Value} {y : DataW H × List MemPlace} (h : DataW.trod enc Tryz.prog w 0 (fun _ => true) true fuel 9 cs = some y) :
  ∃ (s : Str) (v : Value), v.cells.toList = cs ∧ Rel w (oldP w) v (.str s) ∧ s.length + 1 ≤ Rows.uptoBulk y.1 := by
 obtain ⟨s, rfl, rfl, hs⟩ := DataW.trod_string Tryz.underlying9 h
 exact ⟨s.data.toList, .string s, rfl, .str _ _ rfl, by simp [Rows.uptoBulk]⟩

theorem trod_strs {fuel : Nat} {cs : List Value} {x : DataW H × List MemPlace} (h : DataW.trod enc Tryz.prog w 0 (fun _ => true) true fuel 38 cs = some x) :
  ∃ (c : Value) (l : List Str), cs = [c] ∧ Rel w (oldP w) c (.slc 1 (strs l) .fro) ∧ (l.map fun s => s.length + 1).sum + 1 ≤ Rows.uptoBulk x.1 :=
 trod_list (fun s => AV.str s) (fun s => s.length + 1) Tryz.underlying38 (by kernel_rfl) (by omega) (fun _ _ _ _ h _ => trod_str h) h

theorem trod_int {t : TypeId} {fuel : Nat} {cs : List Value} {y : DataW H × List MemPlace} (ht : Tryz.prog.underlying t = some (.int .i64)) (h : DataW.trod enc Tryz.prog w 0 (fun _ => true) true fuel t cs = some y) :
  ∃ n : Int, RelL w (oldP w) cs [.int .i64 n] ∧ 1 ≤ Rows.uptoBulk y.1 := by
 obtain ⟨n, rfl, rfl, -⟩ := DataW.trod_int ht h
 exact ⟨n, .cons _ _ _ _ (.int _ _) .nil, by simp [Rows.uptoBulk]⟩

theorem trod_strC {fuel : Nat} {cs : List Value} {y : DataW H × List MemPlace} (h : DataW.trod enc Tryz.prog w 0 (fun _ => true) true fuel 9 cs = some y) :
  ∃ s : Str, RelL w (oldP w) cs [.str s] ∧ s.length + 1 ≤ Rows.uptoBulk y.1 := by
 obtain ⟨s, rfl, rfl, hs⟩ := DataW.trod_string Tryz.underlying9 h
 exact ⟨s.data.toList, .cons _ _ _ _ (.str _ _ rfl) .nil, by simp [Rows.uptoBulk]⟩

theorem trod_strsC {fuel : Nat} {cs : List Value} {y : DataW H × List MemPlace} (h : DataW.trod enc Tryz.prog w 0 (fun _ => true) true fuel 38 cs = some y) :
  ∃ l : List Str, RelL w (oldP w) cs [.slc 1 (strs l) .fro] ∧ (l.map fun s => s.length + 1).sum + 1 ≤ Rows.uptoBulk y.1 := by
 obtain ⟨c, l, rfl, h1, h2⟩ := trod_strs h
 exact ⟨l, .cons _ _ _ _ h1 .nil, h2⟩

theorem trod_aggs {α : Type} {t e : TypeId} {sz fuel : Nat} {cs : List Value} {x : DataW H × List MemPlace} (f : α → List AV) (m : α → Nat) (ht : Tryz.prog.underlying t = some (.slice e)) (hc : Tryz.prog.cellsOf e = sz) (hsz : 0 < sz)
  (hel : ∀ n cs y, n < fuel → DataW.trod enc Tryz.prog w 0 (fun _ => true) true n e cs = some y → ∃ a : α, RelL w (oldP w) cs (f a) ∧ m a ≤ Rows.uptoBulk y.1)
  (h : DataW.trod enc Tryz.prog w 0 (fun _ => true) true fuel t cs = some x) :
  ∃ l : List α, RelL w (oldP w) cs [.slc sz (l.map fun a => .agg (f a)) .fro] ∧ (l.map m).sum + 1 ≤ Rows.uptoBulk x.1 := by
 obtain ⟨c, l, rfl, h1, h2⟩ := trod_list (fun a => AV.agg (f a)) m ht hc hsz (fun n cs y hn hy _ => by
  obtain ⟨a, g1, g2⟩ := hel n cs y hn hy
  exact ⟨a, .agg cs.toArray, by simp [Value.cells], .agg _ _ (by simpa using g1), g2⟩) h
 exact ⟨l, .cons _ _ _ _ h1 .nil, h2⟩

theorem agg_bulk (l : List (DataW H)) : Rows.uptoBulk (.agg l) = Rows.uptoBulkAll l + 1 := by simp [Rows.uptoBulk]

def fld (nm : String) (t : TypeId) (off boff : Nat) : Field := { name := nm, type := t, offset := off, embedded := false, tag := "", pkgPath := "", byteOffset := boff }

mutual
def FExp.weight : FExp → Nat
 | .mk _ _ t ks => t.length + 5 + FExp.weights ks
def FExp.weights : List FExp → Nat
 | [] => 0
 | k :: r => k.weight + FExp.weights r
end
theorem FExp.weights_eq : ∀ l : List FExp, FExp.weights l = (l.map FExp.weight).sum
 | [] => rfl
 | k :: r => by rw [FExp.weights, FExp.weights_eq r]; rfl

set_option maxRecDepth 10000 in
theorem trod_exp : ∀ (fuel : Nat) (cs : List Value) (y : DataW H × List MemPlace), DataW.trod enc Tryz.prog w 0 (fun _ => true) true fuel 27 cs = some y → ∃ e : FExp, RelL w (oldP w) cs e.cells ∧ e.weight ≤ Rows.uptoBulk y.1 := by
 intro fuel
 induction fuel using Nat.strongRecOn with
 | _ fuel ih =>
  intro cs y h
  obtain ⟨xs, n, rfl, rfl, hl, hlen, hf⟩ := DataW.trod_struct Tryz.underlying27 h
  have c___api_FormExp : Tryz.prog.cellsOf 25 = 1 := by kernel_rfl
  have c_api_FormExp : Tryz.prog.cellsOf 27 = 4 := by kernel_rfl
  have c_api_FormOp : Tryz.prog.cellsOf 24 = 1 := by kernel_rfl
  have c_int : Tryz.prog.cellsOf 3 = 1 := by kernel_rfl
  have c_string : Tryz.prog.cellsOf 9 = 1 := by kernel_rfl
  rw [c_api_FormExp] at hl
  match cs, hl, xs, hlen with
  | [v0, v1, v2, v3], _, [y0, y1, y2, y3], _ =>
   have h0 := hf 0 (fld "Op" 24 0 0) rfl
   have h1 := hf 1 (fld "N" 3 1 8) rfl
   have h2 := hf 2 (fld "Text" 9 2 16) rfl
   have h3 := hf 3 (fld "Kids" 25 3 32) rfl
   simp only [fld, c___api_FormExp, c_api_FormExp, c_api_FormOp, c_int, c_string, List.drop, List.take] at h0 h1 h2 h3
   obtain ⟨o, g0, b0⟩ := trod_int Tryz.underlying24 h0
   obtain ⟨k, g1, b1⟩ := trod_int Tryz.underlying3 h1
   obtain ⟨s, g2, b2⟩ := trod_strC h2
   obtain ⟨ks, g3, b3⟩ := trod_aggs FExp.cells FExp.weight Tryz.underlying25 c_api_FormExp (by omega) (fun m cs y hm hy => ih m (by omega) cs y hy) h3
   refine ⟨.mk o k s ks, ?_, ?_⟩
   ·have : (FExp.mk o k s ks).cells = [.int .i64 o] ++ ([.int .i64 k] ++ ([.str s] ++ [.slc 4 (ks.map FExp.av) .fro])) := by
     show [_, _, _, _] = _
     rw [FExp.kav_eq]; rfl
    rw [this]
    exact RelL.append' (vs := [v0]) g0 (RelL.append' (vs := [v1]) g1 (RelL.append' (vs := [v2]) g2 g3))
   ·simp only [agg_bulk, List.map_cons, List.map_nil, Rows.uptoBulkAll, FExp.weight, FExp.weights_eq]
    omega

mutual
def FFact.weight : FFact → Nat
 | .mk _ x p c _ ks => x.length + (p.map fun s => s.length + 1).sum + c.length + 7 + FFact.weights ks
def FFact.weights : List FFact → Nat
 | [] => 0
 | k :: r => k.weight + FFact.weights r
end
theorem FFact.weights_eq : ∀ l : List FFact, FFact.weights l = (l.map FFact.weight).sum
 | [] => rfl
 | k :: r => by rw [FFact.weights, FFact.weights_eq r]; rfl

set_option maxRecDepth 10000 in
theorem trod_fact : ∀ (fuel : Nat) (cs : List Value) (y : DataW H × List MemPlace), DataW.trod enc Tryz.prog w 0 (fun _ => true) true fuel 55 cs = some y → ∃ e : FFact, RelL w (oldP w) cs e.cells ∧ e.weight ≤ Rows.uptoBulk y.1 := by
 intro fuel
 induction fuel using Nat.strongRecOn with
 | _ fuel ih =>
  intro cs y h
  obtain ⟨xs, n, rfl, rfl, hl, hlen, hf⟩ := DataW.trod_struct Tryz.underlying55 h
  have c___api_FormFact : Tryz.prog.cellsOf 53 = 1 := by kernel_rfl
  have c___string : Tryz.prog.cellsOf 38 = 1 := by kernel_rfl
  have c_api_FactOp : Tryz.prog.cellsOf 52 = 1 := by kernel_rfl
  have c_api_FormFact : Tryz.prog.cellsOf 55 = 6 := by kernel_rfl
  have c_int : Tryz.prog.cellsOf 3 = 1 := by kernel_rfl
  have c_string : Tryz.prog.cellsOf 9 = 1 := by kernel_rfl
  rw [c_api_FormFact] at hl
  match cs, hl, xs, hlen with
  | [v0, v1, v2, v3, v4, v5], _, [y0, y1, y2, y3, y4, y5], _ =>
   have h0 := hf 0 (fld "Op" 52 0 0) rfl
   have h1 := hf 1 (fld "Name" 9 1 8) rfl
   have h2 := hf 2 (fld "Path" 38 2 24) rfl
   have h3 := hf 3 (fld "Class" 9 3 48) rfl
   have h4 := hf 4 (fld "N" 3 4 64) rfl
   have h5 := hf 5 (fld "Kids" 53 5 72) rfl
   simp only [fld, c___api_FormFact, c___string, c_api_FactOp, c_api_FormFact, c_int, c_string, List.drop, List.take] at h0 h1 h2 h3 h4 h5
   obtain ⟨o, g0, b0⟩ := trod_int Tryz.underlying52 h0
   obtain ⟨a, g1, b1⟩ := trod_strC h1
   obtain ⟨p, g2, b2⟩ := trod_strsC h2
   obtain ⟨c, g3, b3⟩ := trod_strC h3
   obtain ⟨k, g4, b4⟩ := trod_int Tryz.underlying3 h4
   obtain ⟨ks, g5, b5⟩ := trod_aggs FFact.cells FFact.weight Tryz.underlying53 c_api_FormFact (by omega) (fun m cs y hm hy => ih m (by omega) cs y hy) h5
   refine ⟨.mk o a p c k ks, ?_, ?_⟩
   ·have : (FFact.mk o a p c k ks).cells = [.int .i64 o] ++ ([.str a] ++ ([.slc 1 (strs p) .fro] ++ ([.str c] ++ ([.int .i64 k] ++ [.slc 6 (ks.map FFact.av) .fro])))) := by
     show [_, _, _, _, _, _] = _
     rw [FFact.kav_eq]; rfl
    rw [this]
    exact RelL.append' (vs := [v0]) g0 (RelL.append' (vs := [v1]) g1 (RelL.append' (vs := [v2]) g2 (RelL.append' (vs := [v3]) g3 (RelL.append' (vs := [v4]) g4 g5))))
   ·simp only [agg_bulk, List.map_cons, List.map_nil, Rows.uptoBulkAll, FFact.weight, FFact.weights_eq]
    omega

def sumS (l : List Str) : Nat := (l.map fun s => s.length + 1).sum
def FInit.weight (x : FInit) : Nat := x.slot.length + 3
def FClass.weight (c : FClass) : Nat := c.name.length + sumS c.parents + sumS c.slots + (c.inits.map FInit.weight).sum + 5
def FMethod.weight (m : FMethod) : Nat := m.name.length + sumS m.params + m.fact.weight + m.body.weight + 4
def FProg.weight (P : FProg) : Nat := (P.classes.map FClass.weight).sum + (P.methods.map FMethod.weight).sum + P.main.weight + 3

set_option maxRecDepth 10000 in
theorem trod_init (fuel : Nat) (cs : List Value) (y : DataW H × List MemPlace) (h : DataW.trod enc Tryz.prog w 0 (fun _ => true) true fuel 73 cs = some y) : ∃ e : FInit, RelL w (oldP w) cs e.cells ∧ e.weight ≤ Rows.uptoBulk y.1 := by
 obtain ⟨xs, n, rfl, rfl, hl, hlen, hf⟩ := DataW.trod_struct Tryz.underlying73 h
 have c_api_FormInit : Tryz.prog.cellsOf 73 = 2 := by kernel_rfl
 have c_int : Tryz.prog.cellsOf 3 = 1 := by kernel_rfl
 have c_string : Tryz.prog.cellsOf 9 = 1 := by kernel_rfl
 rw [c_api_FormInit] at hl
 match cs, hl, xs, hlen with
 | [v0, v1], _, [y0, y1], _ =>
  have h0 := hf 0 (fld "Slot" 9 0 0) rfl
  have h1 := hf 1 (fld "N" 3 1 16) rfl
  simp only [fld, c_api_FormInit, c_int, c_string, List.drop, List.take] at h0 h1
  obtain ⟨s, g0, b0⟩ := trod_strC h0
  obtain ⟨k, g1, b1⟩ := trod_int Tryz.underlying3 h1
  refine ⟨⟨s, k⟩, ?_, ?_⟩
  ·have : (FInit.mk s k).cells = [.str s] ++ [.int .i64 k] := by
    rfl
   rw [this]
   exact RelL.append' (vs := [v0]) g0 g1
  ·simp only [agg_bulk, List.map_cons, List.map_nil, Rows.uptoBulkAll, FInit.weight]
   omega

set_option maxRecDepth 10000 in
theorem trod_class (fuel : Nat) (cs : List Value) (y : DataW H × List MemPlace) (h : DataW.trod enc Tryz.prog w 0 (fun _ => true) true fuel 49 cs = some y) : ∃ e : FClass, RelL w (oldP w) cs e.cells ∧ e.weight ≤ Rows.uptoBulk y.1 := by
 obtain ⟨xs, n, rfl, rfl, hl, hlen, hf⟩ := DataW.trod_struct Tryz.underlying49 h
 have c___api_FormInit : Tryz.prog.cellsOf 47 = 1 := by kernel_rfl
 have c___string : Tryz.prog.cellsOf 38 = 1 := by kernel_rfl
 have c_api_FormClass : Tryz.prog.cellsOf 49 = 4 := by kernel_rfl
 have c_string : Tryz.prog.cellsOf 9 = 1 := by kernel_rfl
 rw [c_api_FormClass] at hl
 match cs, hl, xs, hlen with
 | [v0, v1, v2, v3], _, [y0, y1, y2, y3], _ =>
  have h0 := hf 0 (fld "Name" 9 0 0) rfl
  have h1 := hf 1 (fld "Parents" 38 1 16) rfl
  have h2 := hf 2 (fld "Slots" 38 2 40) rfl
  have h3 := hf 3 (fld "Inits" 47 3 64) rfl
  simp only [fld, c___api_FormInit, c___string, c_api_FormClass, c_string, List.drop, List.take] at h0 h1 h2 h3
  obtain ⟨a, g0, b0⟩ := trod_strC h0
  obtain ⟨p, g1, b1⟩ := trod_strsC h1
  obtain ⟨q, g2, b2⟩ := trod_strsC h2
  obtain ⟨l, g3, b3⟩ := trod_aggs (sz := 2) FInit.cells FInit.weight Tryz.underlying47 (by kernel_rfl) (by omega) (fun m cs y _ hy => trod_init m cs y hy) h3
  refine ⟨⟨a, p, q, l⟩, ?_, ?_⟩
  ·have : (FClass.mk a p q l).cells = [.str a] ++ ([.slc 1 (strs p) .fro] ++ ([.slc 1 (strs q) .fro] ++ [.slc 2 (l.map FInit.av) .fro])) := by
    rfl
   rw [this]
   exact RelL.append' (vs := [v0]) g0 (RelL.append' (vs := [v1]) g1 (RelL.append' (vs := [v2]) g2 g3))
  ·simp only [agg_bulk, List.map_cons, List.map_nil, Rows.uptoBulkAll, FClass.weight, sumS]
   omega

set_option maxRecDepth 10000 in
theorem trod_method (fuel : Nat) (cs : List Value) (y : DataW H × List MemPlace) (h : DataW.trod enc Tryz.prog w 0 (fun _ => true) true fuel 57 cs = some y) : ∃ e : FMethod, RelL w (oldP w) cs e.cells ∧ e.weight ≤ Rows.uptoBulk y.1 := by
 obtain ⟨xs, n, rfl, rfl, hl, hlen, hf⟩ := DataW.trod_struct Tryz.underlying57 h
 have c___string : Tryz.prog.cellsOf 38 = 1 := by kernel_rfl
 have c_api_FormExp : Tryz.prog.cellsOf 27 = 4 := by kernel_rfl
 have c_api_FormFact : Tryz.prog.cellsOf 55 = 6 := by kernel_rfl
 have c_api_FormKind : Tryz.prog.cellsOf 51 = 1 := by kernel_rfl
 have c_api_FormMethod : Tryz.prog.cellsOf 57 = 13 := by kernel_rfl
 have c_string : Tryz.prog.cellsOf 9 = 1 := by kernel_rfl
 rw [c_api_FormMethod] at hl
 match cs, hl, xs, hlen with
 | [v0, v1, v2, v3, v4, v5, v6, v7, v8, v9, v10, v11, v12], _, [y0, y1, y2, y3, y4], _ =>
  have h0 := hf 0 (fld "Kind" 51 0 0) rfl
  have h1 := hf 1 (fld "Name" 9 1 8) rfl
  have h2 := hf 2 (fld "Params" 38 2 24) rfl
  have h3 := hf 3 (fld "Fact" 55 3 48) rfl
  have h4 := hf 4 (fld "Body" 27 9 144) rfl
  simp only [fld, c___string, c_api_FormExp, c_api_FormFact, c_api_FormKind, c_api_FormMethod, c_string, List.drop, List.take] at h0 h1 h2 h3 h4
  obtain ⟨o, g0, b0⟩ := trod_int Tryz.underlying51 h0
  obtain ⟨a, g1, b1⟩ := trod_strC h1
  obtain ⟨p, g2, b2⟩ := trod_strsC h2
  obtain ⟨f, g3, b3⟩ := trod_fact _ _ _ h3
  obtain ⟨e, g4, b4⟩ := trod_exp _ _ _ h4
  refine ⟨⟨o, a, p, f, e⟩, ?_, ?_⟩
  ·have : (FMethod.mk o a p f e).cells = [.int .i64 o] ++ ([.str a] ++ ([.slc 1 (strs p) .fro] ++ (f.cells ++ e.cells))) := by
    simp [FMethod.cells]
   rw [this]
   exact RelL.append' (vs := [v0]) g0 (RelL.append' (vs := [v1]) g1 (RelL.append' (vs := [v2]) g2 (RelL.append' (vs := [v3, v4, v5, v6, v7, v8]) g3 g4)))
  ·simp only [agg_bulk, List.map_cons, List.map_nil, Rows.uptoBulkAll, FMethod.weight, sumS]
   omega

set_option maxRecDepth 10000 in
theorem trod_prog (fuel : Nat) (cs : List Value) (y : DataW H × List MemPlace) (h : DataW.trod enc Tryz.prog w 0 (fun _ => true) true fuel 29 cs = some y) : ∃ e : FProg, RelL w (oldP w) cs e.cells ∧ e.weight ≤ Rows.uptoBulk y.1 := by
 obtain ⟨xs, n, rfl, rfl, hl, hlen, hf⟩ := DataW.trod_struct Tryz.underlying29 h
 have c___api_FormClass : Tryz.prog.cellsOf 22 = 1 := by kernel_rfl
 have c___api_FormMethod : Tryz.prog.cellsOf 23 = 1 := by kernel_rfl
 have c_api_FormExp : Tryz.prog.cellsOf 27 = 4 := by kernel_rfl
 have c_api_FormProg : Tryz.prog.cellsOf 29 = 6 := by kernel_rfl
 rw [c_api_FormProg] at hl
 match cs, hl, xs, hlen with
 | [v0, v1, v2, v3, v4, v5], _, [y0, y1, y2], _ =>
  have h0 := hf 0 (fld "Classes" 22 0 0) rfl
  have h1 := hf 1 (fld "Methods" 23 1 24) rfl
  have h2 := hf 2 (fld "Main" 27 2 48) rfl
  simp only [fld, c___api_FormClass, c___api_FormMethod, c_api_FormExp, c_api_FormProg, List.drop, List.take] at h0 h1 h2
  obtain ⟨l, g0, b0⟩ := trod_aggs (sz := 4) FClass.cells FClass.weight Tryz.underlying22 (by kernel_rfl) (by omega) (fun m cs y _ hy => trod_class m cs y hy) h0
  obtain ⟨q, g1, b1⟩ := trod_aggs (sz := 13) FMethod.cells FMethod.weight Tryz.underlying23 (by kernel_rfl) (by omega) (fun m cs y _ hy => trod_method m cs y hy) h1
  obtain ⟨e, g2, b2⟩ := trod_exp _ _ _ h2
  refine ⟨⟨l, q, e⟩, ?_, ?_⟩
  ·have : (FProg.mk l q e).cells = [.slc 4 (l.map FClass.av) .fro] ++ ([.slc 13 (q.map FMethod.av) .fro] ++ e.cells) := by
    rfl
   rw [this]
   exact RelL.append' (vs := [v0]) g0 (RelL.append' (vs := [v1]) g1 g2)
  ·simp only [agg_bulk, List.map_cons, List.map_nil, Rows.uptoBulkAll, FProg.weight]
   omega

end
end Go.Proofs.YtaafacnoddjhgaaGreat

/- How a contract closes a law: the call returns true, and the arguments read as they did. -/
namespace Go.Proofs.YtaafacnoddjhgaaGreat
open Go.AE Go.ChangeShapes Go.WideShapes Go.ChangeAt Go.RowKit

theorem trodAll_stays {H : Type} {enc : TypeId × Value → H} {P : Program} {W W' : World} (hl : laidOutB P = true) : ∀ {ts : List TypeId} {vs : List Value} {ds : List (DataW H)} {ps : List MemPlace} {sp : Nat → Bool}, (∀ t ∈ ts, P.readableRec t = true ∧ t < P.types.size) →
    DataW.TrodAll enc P W 0 (fun _ => true) true ts vs ds ps → (∀ p ∈ ps, W.sameAt W' p) → (∀ p ∈ ps, sp p.block = true) → DataW.TrodAll enc P W' 0 sp true ts vs ds ps
  | [], [], [], _, _, _, h, _, _ => h
  | t :: ts, v :: vs, d :: ds, ps, sp, ht, h, hs, hb => by
    obtain ⟨p, q, h1, h2, rfl⟩ := h
    obtain ⟨r1, r2⟩ := ht t List.mem_cons_self
    exact ⟨p, q, WideElems.Trod_stays hl r1 r2 h1 (fun x hx => hs x (List.mem_append_left _ hx)) (fun x hx => hb x (List.mem_append_left _ hx)),
      trodAll_stays hl (fun t ht' => ht t (List.mem_cons_of_mem _ ht')) h2 (fun x hx => hs x (List.mem_append_right _ hx)) (fun x hx => hb x (List.mem_append_right _ hx)), rfl⟩
  | [], [], _ :: _, _, _, _, h, _, _ => h.elim
  | [], _ :: _, _, _, _, _, h, _, _ => h.elim
  | _ :: _, [], _, _, _, _, h, _, _ => h.elim
  | _ :: _, _ :: _, [], _, _, _, h, _, _ => h.elim

theorem close_true {H : Type} {enc : TypeId × Value → H} {f : FuncId} {fn : Func} {spec : ChangeSpec} {W : World} {args : Array Value} {xs : List AV} {ds gs : List (DataW H)} {before : List MemPlace}
  (hl : laidOutB Tryz.prog = true) (hp : ∀ t ∈ fn.params.toList, Tryz.prog.readableRec t = true ∧ t < Tryz.prog.types.size) (hr : fn.resultTypes = #[4]) (hv : spec.vars = [])
  (hsp : gs = [] → spec.fn H (ds ++ gs) = { results := [.lit (.bool true)], args := ds })
  (hW : DataW.Whole enc Tryz.prog fn.params.toList spec.vars false W args.toList ds gs before) (hrel : RelL W (oldP W) args.toList xs) (hc : ACalls Tryz.prog f xs (fun _ => none) (fun o s' => o = .ret (.bool true) ∧ s' = fun _ => none)) :
  Calls Tryz.prog f args W fun e W' => ∃ v, e = .returned v ∧ spec.post enc Tryz.prog fn false true false false W args v W' := by
 have h := hc.2 W (oldP W) args.toList (wf_old W) hrel
 rw [Array.toArray_toList] at h
 refine Calls.mono h fun e W' ⟨hne, o, s', p', hout, ⟨ho, hs'⟩, hle, hk, hwf⟩ => ?_
 subst ho
 cases e with
 | returned v =>
  have hb : Rel W' p' v (.bool true) := hout
  cases hb
  have hbelow : Below W.heap.size W W' := ⟨hle.os, hle.tape, hle.output, hle.size, fun k hk' => hk.heap k hk' rfl⟩
  have hlt := hW.lt
  have hW' := hW
  obtain ⟨p, q, hA, hV, rfl, hfz, hnd⟩ := hW
  rw [hv] at hV
  obtain ⟨rfl, rfl⟩ := trodVars_none hV
  have hspec := hsp rfl
  refine ⟨_, rfl, ds, [], _, [], p, [], hW', ?_, ?_, ?_, hbelow.frame _, fun h => by cases h⟩
  ·rw [hspec, hr]
   exact trodAll_cons_mk (shut_bool Tryz.underlying4 _) trodAll_mk0
  ·rw [hspec]
   exact trodAll_stays hl hp hA (fun x hx => hbelow.same (hlt x (by simpa using hx))) (fun x hx => by simpa using hlt x (by simpa using hx))
  ·rw [hspec, hv]; exact rfl
 | panicked ch => exact hout.elim
 | outgrown => exact hout.elim

theorem laidOut : laidOutB Tryz.prog = true := by kernel_rfl
end Go.Proofs.YtaafacnoddjhgaaGreat

/- Contracts of the reference: what an expression's node has to have. -/
namespace Go.Proofs.YtaafacnoddjhgaaGreat
open Go.AE

set_option maxRecDepth 10000 in
theorem refIn_spec (n : Int) (s : Store) : ACalls Tryz.prog 98 [.int .i64 n] s (fun o s' => o = .ret (.bool (between n)) ∧ s' = s) := by
 refine ACalls.of_CW tO call98 Tryz.func98 rfl rfl ?_
 repeat' (first | with_reducible refine CW.seq ?_ | with_reducible refine aN ?_ | with_reducible refine CW.ret ?_ | refine CW.reg (RL.run tO rfl (RL.nil ?_)) | refine CW.reg ?_ | refine RL.nil ?_ | refine RL.step tO rfl rfl rfl rfl ?_ | refine RL.skip rfl rfl rfl ?_ | refine RL.gstepT tO rfl rfl rfl rfl rfl rfl rfl (fun _ => ?_) (fun _ => ?_))
 all_goals refine ⟨_, _, _, rfl, AVle.refl _, Store.sub_refl _, ?_, rfl⟩
 all_goals first | (simp_all [between]; done) | (simp_all [between]; omega)

def rowR (op : Int) (len : Nat) : Option (Int × Bool) :=
 if op == 2 || op == 18 then some (0, false) else if op == 3 || op == 6 then some (0, true) else if op == 4 || op == 8 then some (1, true) else if op == 7 || op == 9 then some (2, true)
 else if op == 5 then some (max 1 (min (len : Int) 3), true) else if op == 10 then some (3, false) else if op == 17 then some (1, false)
 else if ((((op == 11 || op == 12) || op == 13) || op == 14) || op == 15) || op == 16 then some (2, false) else none

def lastR (e : FExp) (r : Int × Bool) : Bool := ((e.n == 0 && ((e.kids.length : Int) == r.1)) && (r.2 == !(e.text == []))) && (!r.2 || nameS e.text)
def shapedB (e : FExp) : Bool :=
 if e.op == 1 then (between e.n && e.text == []) && ((e.kids.length : Int) == 0) else match rowR e.op e.kids.length with | none => false | some r => lastR e r

set_option maxRecDepth 10000 in
set_option maxHeartbeats 2000000 in
theorem refShaped_spec (e : FExp) (s : Store) (ht : e.text.length < 9223372036854775807) (hk : e.kids.length < 9223372036854775807) :
  ACalls Tryz.prog 127 [e.av] s (fun o s' => o = .ret (.bool (shapedB e)) ∧ s' = s) := by
 have hkl := e.kav_length
 by_cases h1 : e.op = 1
 ·refine ACalls.of_CW tO call127 Tryz.func127 rfl rfl ?_
  obtain ⟨o, n, t, ks⟩ := e
  simp only [FExp.op] at h1
  subst h1
  repeat' (first | with_reducible refine CW.seq ?_ | with_reducible refine aN ?_ | with_reducible refine aR ?_ | with_reducible refine iR ?_ | with_reducible refine CW.ret ?_ | with_reducible refine CW.block ?_ | refine CW.reg (RL.run tO rfl (RL.nil ?_)) | refine CW.reg ?_ | refine RL.nil ?_ | refine CW.condT rfl ?_ | refine RL.step tO rfl rfl rfl rfl ?_ | refine RL.skip rfl rfl rfl ?_ | refine RL.gstepT tO rfl rfl rfl rfl rfl rfl rfl (fun _ => ?_) (fun _ => ?_) | refine RL.callP rfl rfl rfl rfl rfl (refIn_spec n s) ?_)
  all_goals refine ⟨_, _, _, rfl, AVle.of_eq ?_, Store.sub_refl _, rfl, rfl⟩
  all_goals simp_all [shapedB, FExp.op, FExp.n, FExp.text, FExp.kids]
 by_cases hn : rowR e.op e.kids.length = none
 ·have hall : e.op ≠ 2 ∧ e.op ≠ 18 ∧ e.op ≠ 3 ∧ e.op ≠ 6 ∧ e.op ≠ 4 ∧ e.op ≠ 8 ∧ e.op ≠ 7 ∧ e.op ≠ 9 ∧ e.op ≠ 5 ∧ e.op ≠ 10 ∧ e.op ≠ 17 ∧ e.op ≠ 11 ∧ e.op ≠ 12 ∧ e.op ≠ 13 ∧ e.op ≠ 14 ∧ e.op ≠ 15 ∧ e.op ≠ 16 := by
   refine ⟨?_, ?_, ?_, ?_, ?_, ?_, ?_, ?_, ?_, ?_, ?_, ?_, ?_, ?_, ?_, ?_, ?_⟩ <;> (intro h; rw [h] at hn; simp [rowR] at hn)
  have hs : shapedB e = false := by
   unfold shapedB
   rw [if_neg (by simpa using h1), hn]
  rw [hs]
  refine ACalls.of_CW tO call127 Tryz.func127 rfl rfl ?_
  repeat (first | with_reducible refine CW.seq ?_ | with_reducible refine aN ?_ | with_reducible refine CW.block ?_ | refine CW.reg (RL.run tO rfl (RL.nil ?_)))
  refine CW.cond rfl (fun h => absurd h (by simp; omega)) (fun _ => ?_)
  repeat (first | with_reducible refine CW.seq ?_ | with_reducible refine aN ?_ | refine CW.reg (RL.run tO rfl (RL.nil ?_)))
  refine CW.cond rfl (fun h => absurd h (by simp; omega)) (fun _ => ?_)
  repeat (first | with_reducible refine aN ?_ | refine CW.reg (RL.run tO rfl (RL.nil ?_)))
  refine CW.cond rfl (fun h => absurd h (by simp; omega)) (fun _ => ?_)
  repeat (first | with_reducible refine CW.seq ?_ | with_reducible refine aN ?_ | refine CW.reg (RL.run tO rfl (RL.nil ?_)))
  refine CW.cond rfl (fun h => absurd h (by simp; omega)) (fun _ => ?_)
  repeat (first | with_reducible refine aN ?_ | refine CW.reg (RL.run tO rfl (RL.nil ?_)))
  refine CW.cond rfl (fun h => absurd h (by simp; omega)) (fun _ => ?_)
  repeat (first | with_reducible refine CW.seq ?_ | with_reducible refine aN ?_ | refine CW.reg (RL.run tO rfl (RL.nil ?_)))
  refine CW.cond rfl (fun h => absurd h (by simp; omega)) (fun _ => ?_)
  repeat (first | with_reducible refine aN ?_ | refine CW.reg (RL.run tO rfl (RL.nil ?_)))
  refine CW.cond rfl (fun h => absurd h (by simp; omega)) (fun _ => ?_)
  repeat (first | with_reducible refine CW.seq ?_ | with_reducible refine aN ?_ | refine CW.reg (RL.run tO rfl (RL.nil ?_)))
  refine CW.cond rfl (fun h => absurd h (by simp; omega)) (fun _ => ?_)
  repeat (first | with_reducible refine aN ?_ | refine CW.reg (RL.run tO rfl (RL.nil ?_)))
  refine CW.cond rfl (fun h => absurd h (by simp; omega)) (fun _ => ?_)
  repeat (first | with_reducible refine CW.seq ?_ | with_reducible refine aN ?_ | refine CW.reg (RL.run tO rfl (RL.nil ?_)))
  refine CW.cond rfl (fun h => absurd h (by simp; omega)) (fun _ => ?_)
  repeat (first | with_reducible refine CW.seq ?_ | with_reducible refine aN ?_ | refine CW.reg (RL.run tO rfl (RL.nil ?_)))
  refine CW.cond rfl (fun h => absurd h (by simp; omega)) (fun _ => ?_)
  repeat (first | with_reducible refine CW.seq ?_ | with_reducible refine aN ?_ | refine CW.reg (RL.run tO rfl (RL.nil ?_)))
  refine CW.cond rfl (fun h => absurd h (by simp; omega)) (fun _ => ?_)
  repeat (first | with_reducible refine CW.seq ?_ | with_reducible refine aN ?_ | refine CW.reg (RL.run tO rfl (RL.nil ?_)))
  refine CW.cond rfl (fun h => absurd h (by simp; omega)) (fun _ => ?_)
  repeat (first | with_reducible refine CW.seq ?_ | with_reducible refine aN ?_ | refine CW.reg (RL.run tO rfl (RL.nil ?_)))
  refine CW.cond rfl (fun h => absurd h (by simp; omega)) (fun _ => ?_)
  repeat (first | with_reducible refine CW.seq ?_ | with_reducible refine aN ?_ | refine CW.reg (RL.run tO rfl (RL.nil ?_)))
  refine CW.cond rfl (fun h => absurd h (by simp; omega)) (fun _ => ?_)
  repeat (first | with_reducible refine CW.seq ?_ | with_reducible refine aN ?_ | refine CW.reg (RL.run tO rfl (RL.nil ?_)))
  refine CW.cond rfl (fun h => absurd h (by simp; omega)) (fun _ => ?_)
  repeat (first | with_reducible refine CW.seq ?_ | with_reducible refine aN ?_ | refine CW.reg (RL.run tO rfl (RL.nil ?_)))
  refine CW.cond rfl (fun h => absurd h (by simp; omega)) (fun _ => ?_)
  repeat (first | with_reducible refine aN ?_ | refine CW.reg (RL.run tO rfl (RL.nil ?_)))
  refine CW.cond rfl (fun h => absurd h (by simp; omega)) (fun _ => ?_)
  repeat (first | with_reducible refine CW.seq ?_ | with_reducible refine aN ?_ | with_reducible refine aR ?_ | with_reducible refine iR ?_ | with_reducible refine CW.ret ?_ | refine CW.reg (RL.run tO rfl (RL.nil ?_)))
  exact ⟨_, _, _, rfl, AVle.refl _, Store.sub_refl _, rfl, rfl⟩
 ·obtain ⟨r, hr⟩ := Option.ne_none_iff_exists'.1 hn
  have hs : shapedB e = lastR e r := by
   unfold shapedB
   rw [if_neg (by simpa using h1), hr]
  rw [hs]
  refine ACalls.of_CW tO call127 Tryz.func127 rfl rfl ?_
  repeat (first | with_reducible refine CW.seq ?_ | with_reducible refine aN ?_ | refine CW.reg (RL.run tO rfl (RL.nil ?_)))
  refine CW.atCut (σ := Unit) (fun _ => [(1, .fptr e.cells 0), (3, .int .i64 r.1), (4, .bool r.2)]) (fun _ => s) (fun _ => True) ?_ ?_
  ·have hop : e.op = 2 ∨ e.op = 18 ∨ e.op = 3 ∨ e.op = 6 ∨ e.op = 4 ∨ e.op = 8 ∨ e.op = 7 ∨ e.op = 9 ∨ e.op = 5 ∨ e.op = 10 ∨ e.op = 17 ∨ e.op = 11 ∨ e.op = 12 ∨ e.op = 13 ∨ e.op = 14 ∨ e.op = 15 ∨ e.op = 16 := by
    refine Classical.byContradiction fun hc => hn ?_
    simp only [not_or] at hc
    obtain ⟨k2, k18, k3, k6, k4, k8, k7, k9, k5, k10, k17, k11, k12, k13, k14, k15, k16⟩ := hc
    simp [rowR, k2, k18, k3, k6, k4, k8, k7, k9, k5, k10, k17, k11, k12, k13, k14, k15, k16]
   obtain ⟨o, n, t, ks⟩ := e
   simp only [FExp.op, FExp.kids] at hop hr h1
   rcases hop with rfl | rfl | rfl | rfl | rfl | rfl | rfl | rfl | rfl | rfl | rfl | rfl | rfl | rfl | rfl | rfl | rfl
   all_goals (simp [rowR] at hr; subst hr)
   all_goals repeat (first | with_reducible refine CW.seq ?_ | with_reducible refine aN ?_ | with_reducible refine iN ?_ | with_reducible refine CW.skip ?_ | with_reducible refine CW.block ?_ | refine CW.reg (RL.run tO rfl (RL.nil ?_)) | refine CW.reg ?_ | refine RL.nil ?_ | refine CW.condT rfl ?_ | refine CW.condF rfl ?_ | refine RL.step tO rfl rfl rfl rfl ?_ | refine RL.stepX tO rfl rfl rfl rfl ?_)
   all_goals exact ⟨rfl, (), trivial, (by repeat (first | exact trivial | refine ⟨⟨_, rfl, AVle.refl _⟩, ?_⟩ | refine ⟨⟨_, rfl, AVle.of_eq (by (rw [hkl]; simp only [FExp.kids]; congr 1; (repeat' split) <;> omega))⟩, ?_⟩)), Store.sub_refl _⟩
  ·intro _ _
   repeat' (first | with_reducible refine CW.seq ?_ | with_reducible refine aN ?_ | with_reducible refine CW.ret ?_ | refine CW.reg ?_ | refine RL.nil ?_ | refine RL.step tO rfl rfl rfl rfl ?_ | refine RL.skip rfl rfl rfl ?_ | refine RL.gstepT tO rfl rfl rfl rfl rfl rfl rfl (fun _ => ?_) (fun _ => ?_) | refine RL.gstepF tO rfl rfl rfl rfl rfl rfl rfl (fun _ => ?_) (fun _ => ?_) | refine RL.callP rfl rfl rfl rfl rfl (refName_spec e.text s ht) ?_)
   all_goals refine ⟨_, _, _, rfl, AVle.of_eq ?_, Store.sub_refl _, rfl, rfl⟩
   all_goals simp_all [lastR]
end Go.Proofs.YtaafacnoddjhgaaGreat

/- Contracts of the reference: what an expression has to be. -/
namespace Go.Proofs.YtaafacnoddjhgaaGreat
open Go.AE

mutual
def FExp.cnt (d : Nat) (k : Int) : FExp → Bool × Int
 | .mk o n t ks => if (decide (k - 1 < 0) || decide (d > 12)) || !shapedB (.mk o n t ks) then (false, k - 1) else FExp.cnts (d + 1) (k - 1) ks
def FExp.cnts (d : Nat) (k : Int) : List FExp → Bool × Int
 | [] => (true, k)
 | e :: r => if (FExp.cnt d k e).1 then FExp.cnts d (FExp.cnt d k e).2 r else (false, (FExp.cnt d k e).2)
end

theorem FExp.cnt_def (d : Nat) (k : Int) (e : FExp) : FExp.cnt d k e = if (decide (k - 1 < 0) || decide (d > 12)) || !shapedB e then (false, k - 1) else FExp.cnts (d + 1) (k - 1) e.kids := by
 cases e; rw [FExp.cnt]; rfl

mutual
theorem FExp.cnt_le : ∀ (e : FExp) (d : Nat) (k : Int), (FExp.cnt d k e).1 = true → 0 ≤ (FExp.cnt d k e).2 ∧ (FExp.cnt d k e).2 ≤ k
  | .mk o n t ks, d, k, h => by
    rw [FExp.cnt] at h ⊢
    split at h
    · cases h
    · rename_i hc
      rw [if_neg hc]
      have := FExp.cnts_le ks (d + 1) (k - 1) (by simp only [Bool.or_eq_true, decide_eq_true_eq, not_or] at hc; omega) h
      omega
theorem FExp.cnts_le : ∀ (l : List FExp) (d : Nat) (k : Int), 0 ≤ k → (FExp.cnts d k l).1 = true → 0 ≤ (FExp.cnts d k l).2 ∧ (FExp.cnts d k l).2 ≤ k
  | [], d, k, hk, h => by rw [FExp.cnts]; exact ⟨hk, Int.le_refl _⟩
  | e :: r, d, k, hk, h => by
    rw [FExp.cnts] at h ⊢
    split at h
    · rename_i hc
      rw [if_pos hc]
      obtain ⟨h1, h2⟩ := FExp.cnt_le e d k hc
      obtain ⟨h3, h4⟩ := FExp.cnts_le r d _ h1 h
      exact ⟨h3, Int.le_trans h4 h2⟩
    · cases h
end

/-! ### It is the same as the other layer's look -/

theorem max3 (n : Nat) : ((n : Int) == max 1 (min (n : Int) 3)) = (decide ((n : Int) ≥ 1) && decide ((n : Int) ≤ 3)) := by
 rw [Bool.eq_iff_iff]; simp; omega

theorem shaped_node (e : FExp) : shapedB e = nodeE e := by
 obtain ⟨o, n, t, ks⟩ := e
 have hkl : (FExp.mk o n t ks).kav.length = ks.length := FExp.kav_length _
 simp only [nodeE, nodeE1, nodeE2, shapedB, lastR, FExp.op, FExp.n, FExp.text, FExp.kids, hkl]
 by_cases h : o ∈ shapeL.map (·.1)
 ·simp only [shapeL, List.map_cons, List.map_nil, List.mem_cons, List.not_mem_nil, or_false] at h
  rcases h with rfl | rfl | rfl | rfl | rfl | rfl | rfl | rfl | rfl | rfl | rfl | rfl | rfl | rfl | rfl | rfl | rfl | rfl
  all_goals simp only [shapeOf, shapeL, rowR, shA, shB, shN, max3]
  all_goals (rw [Bool.eq_iff_iff]; simp; (try omega); (try grind))
  have hb0 : between 0 = true := by decide
  by_cases hn0 : n = 0
  ·subst hn0; constructor <;> intro h <;> simp_all
  ·constructor <;> intro h <;> simp_all
 ·simp only [shapeL, List.map_cons, List.map_nil, List.mem_cons, List.not_mem_nil, or_false, not_or] at h
  obtain ⟨k1, k2, k18, k3, k6, k4, k8, k7, k9, k5, k10, k17, k11, k12, k13, k14, k15, k16⟩ := h
  simp [shapeOf, shapeL, rowR, k1, k2, k18, k3, k6, k4, k8, k7, k9, k5, k10, k17, k11, k12, k13, k14, k15, k16]

theorem exp_nodes (e : FExp) (d : Nat) : (Part.exp e).nodes d = (d, .exp e) :: e.kids.flatMap (fun k => (Part.exp k).nodes (d + 1)) := by
 rw [Part.nodes_eq]
 show _ :: (e.kids.map Part.exp).flatMap _ = _
 rw [List.flatMap_map]

mutual
theorem cnt_nodes : ∀ (e : FExp) (d : Nat) (k : Int), 0 ≤ k → (FExp.cnt d k e).1 = (decide ((e.size : Int) ≤ k) && ((Part.exp e).nodes d).all nodeOk) ∧ ((FExp.cnt d k e).1 = true → (FExp.cnt d k e).2 = k - e.size)
  | .mk o n t ks, d, k, hk => by
    have hsz : (FExp.mk o n t ks).size = 1 + FExp.sizes ks := by rw [FExp.size]
    rw [FExp.cnt, exp_nodes, List.all_cons]
    have hok : nodeOk (d, .exp (.mk o n t ks)) = (decide (d ≤ 12) && shapedB (.mk o n t ks)) := by rw [shaped_node]; rfl
    rw [hok]
    split
    · rename_i h
      refine ⟨?_, fun h => by cases h⟩
      simp only [Bool.or_eq_true, decide_eq_true_eq, Bool.not_eq_true'] at h
      rcases h with (h | h) | h
      · rw [decide_eq_false (by rw [hsz]; omega)]; rfl
      · rw [decide_eq_false (by omega : ¬ d ≤ 12)]; simp
      · rw [h]; simp
    · rename_i h
      simp only [Bool.or_eq_true, decide_eq_true_eq, Bool.not_eq_true', not_or, Bool.not_eq_false] at h
      obtain ⟨⟨h1, h2⟩, h3⟩ := h
      obtain ⟨g1, g2⟩ := cnts_nodes ks (d + 1) (k - 1) (by omega)
      refine ⟨?_, fun h => by rw [g2 h, hsz]; omega⟩
      rw [g1, h3, decide_eq_true (by omega : d ≤ 12), hsz]
      have : (decide (((1 + FExp.sizes ks : Nat) : Int) ≤ k)) = decide ((FExp.sizes ks : Int) ≤ k - 1) := by
        rw [Bool.eq_iff_iff]; simp; omega
      rw [this]; simp [FExp.kids]
theorem cnts_nodes : ∀ (l : List FExp) (d : Nat) (k : Int), 0 ≤ k → (FExp.cnts d k l).1 = (decide ((FExp.sizes l : Int) ≤ k) && (l.flatMap fun e => (Part.exp e).nodes d).all nodeOk) ∧ ((FExp.cnts d k l).1 = true → (FExp.cnts d k l).2 = k - FExp.sizes l)
  | [], d, k, hk => by simp [FExp.cnts, FExp.sizes, hk]
  | e :: r, d, k, hk => by
    obtain ⟨g1, g2⟩ := cnt_nodes e d k hk
    rw [FExp.cnts, FExp.sizes, List.flatMap_cons, List.all_append]
    split
    · rename_i h
      rw [g2 h]
      rw [h] at g1
      have g1' := g1.symm
      simp only [Bool.and_eq_true, decide_eq_true_eq] at g1'
      obtain ⟨q1, q2⟩ := cnts_nodes r d (k - e.size) (by omega)
      refine ⟨?_, fun h => by rw [q2 h]; omega⟩
      rw [q1, g1'.2]
      have : (decide (((e.size + FExp.sizes r : Nat) : Int) ≤ k)) = decide ((FExp.sizes r : Int) ≤ k - e.size) := by
        rw [Bool.eq_iff_iff]; simp; omega
      rw [this]; simp
    · rename_i h
      rw [Bool.not_eq_true] at h
      refine ⟨?_, fun h => by cases h⟩
      rw [h] at g1
      cases ha : ((Part.exp e).nodes d).all nodeOk with
      | false => simp
      | true =>
        rw [ha] at g1
        simp only [Bool.and_true] at g1
        have := of_decide_eq_false g1.symm
        rw [decide_eq_false (by omega)]; rfl
end

def leftO (k : Int) : AObj := .box 3 [.int .i64 k]

set_option maxRecDepth 10000 in
set_option maxHeartbeats 1000000 in
theorem refCount_spec (lb : Nat) : ∀ (n : Nat) (e : FExp) (dd d : Nat) (k : Int) (s : Store), e.size ≤ n → e.size ≤ big → (∀ x ∈ (Part.exp e).nodes dd, x.2.short) → 0 ≤ k → k ≤ 120 → d ≤ 13 → s lb = some (leftO k) →
  ACalls Tryz.prog 84 [e.av, .int .i64 (d : Int), .ptr lb 0] s (fun o s' => o = .ret (.bool (FExp.cnt d k e).1) ∧ s' = s.set lb (leftO (FExp.cnt d k e).2)) := by
 intro n
 induction n with
 | zero => intro e dd d k s h; have := e.size_pos; omega
 | succ n ih =>
  intro e dd d k s hn hbig hsh hk0 hk hd hs
  have hlen := e.kids_length
  have hkl := e.kav_length
  have hb : big = 1099511627776 := rfl
  have het : e.text.length < 9223372036854775807 := hsh (dd, .exp e) (by rw [Part.nodes_eq]; exact List.mem_cons_self)
  refine ACalls.of_CW tO call84 Tryz.func84 rfl rfl ?_
  refine CW.seqCut [(1, .int .i64 (d : Int)), (2, .ptr lb 0), (3, .fptr e.cells 0)] s ?_ ?_
  ·repeat (first | refine CW.reg (RL.run tO rfl (RL.nil ?_)))
   exact ⟨rfl, (by repeat (first | exact trivial | refine ⟨⟨_, rfl, AVle.refl _⟩, ?_⟩)), Store.sub_refl _⟩
  refine CW.seqCut [(1, .int .i64 (d : Int)), (2, .ptr lb 0), (3, .fptr e.cells 0)] (s.set lb (leftO (k - 1))) ?_ ?_
  ·repeat (first | refine CW.reg ?_ | refine RL.step tO rfl rfl rfl rfl ?_ | refine RL.loadP tO rfl rfl rfl rfl rfl rfl (by assumption) rfl ?_)
   refine RL.storeP tO rfl rfl rfl rfl rfl rfl rfl rfl rfl hs rfl ?_
   repeat (first | refine RL.nil ?_)
   refine ⟨rfl, (by repeat (first | exact trivial | refine ⟨⟨_, rfl, AVle.refl _⟩, ?_⟩)), ?_⟩
   show Store.Sub (s.set lb (leftO (k - 1))) (s.set lb (leftO (IntKind.wrap .i64 (k - 1))))
   rw [i64_wrap (by omega) (by omega)]; exact Store.sub_refl _
  have hs1 : (s.set lb (leftO (k - 1))) lb = some (leftO (k - 1)) := Store.set_same _ _ _
  refine CW.seq ?_
  refine CW.seqCut [(1, .int .i64 (d : Int)), (2, .ptr lb 0), (3, .fptr e.cells 0), (26, .bool ((decide (k - 1 < 0) || decide (d > 12)) || !shapedB e))] (s.set lb (leftO (k - 1))) ?_ ?_
  ·repeat' (first | refine CW.reg ?_ | refine RL.nil ?_ | refine RL.step tO rfl rfl rfl rfl ?_ | refine RL.skip rfl rfl rfl ?_ | refine RL.gstepF tO rfl rfl rfl rfl rfl rfl rfl (fun _ => ?_) (fun _ => ?_) | refine RL.loadP tO rfl rfl rfl rfl rfl rfl hs1 rfl ?_ | refine RL.callP rfl rfl rfl rfl rfl (refShaped_spec e _ het (by omega)) ?_)
   all_goals refine ⟨rfl, (by repeat (first | exact trivial | refine ⟨⟨_, rfl, AVle.refl _⟩, ?_⟩ | refine ⟨⟨_, rfl, AVle.of_eq (by (congr 1; rw [Bool.eq_iff_iff]; simp_all; (try omega)))⟩, ?_⟩)), Store.sub_refl _⟩
  have hcd := FExp.cnt_def d k e
  cases hc : (decide (k - 1 < 0) || decide (d > 12)) || !shapedB e with
  | true =>
   rw [hc, if_pos rfl] at hcd
   rw [hcd]
   repeat (first | with_reducible refine CW.seq ?_ | with_reducible refine aN ?_ | with_reducible refine aR ?_ | with_reducible refine CW.ret ?_ | refine CW.reg (RL.run tO rfl (RL.nil ?_)) | refine CW.condT rfl ?_)
   exact ⟨_, _, _, rfl, AVle.refl _, Store.sub_refl _, rfl, rfl⟩
  | false =>
   rw [hc, if_neg (by simp)] at hcd
   rw [hcd]
   simp only [Bool.or_eq_false_iff, decide_eq_false_iff_not] at hc
   repeat (first | with_reducible refine CW.seq ?_ | with_reducible refine aN ?_ | with_reducible refine CW.skip ?_ | with_reducible refine CW.block ?_ | refine CW.reg (RL.run tO rfl (RL.nil ?_)) | refine CW.condF rfl ?_)
   refine CW.loop (σ := Nat × Int) (fun q => [(1, .int .i64 (d : Int)), (2, .ptr lb 0), (3, .fptr e.cells 0), (7, .int .i64 (q.1 : Int))]) (fun q => s.set lb (leftO q.2))
    (fun q => q.1 ≤ e.kids.length ∧ 0 ≤ q.2 ∧ q.2 ≤ 120 ∧ FExp.cnts (d + 1) q.2 (e.kids.drop q.1) = FExp.cnts (d + 1) (k - 1) e.kids) (fun q => e.kids.length - q.1) (0, k - 1) ⟨by simp, by show 0 ≤ k - 1; omega, by show k - 1 ≤ 120; omega, rfl⟩ ?_ (Store.sub_refl _) ?_
   ·exact (by repeat (first | exact trivial | refine ⟨⟨_, rfl, AVle.refl _⟩, ?_⟩))
   ·rintro ⟨j, kq⟩ ⟨hj, h0, h120, hI⟩
    simp only at hj h0 h120 hI
    repeat (first | with_reducible refine CW.seq ?_ | with_reducible refine aN ?_ | refine CW.reg (RL.run tO rfl (RL.nil ?_)))
    refine CW.cond rfl (fun h => ?_) (fun h => ?_)
    ·have hlt : j < e.kids.length := by rw [hkl] at h; simpa using h
     obtain ⟨c, hk1, hk', hks⟩ := FExp.kid_at hlt
     rw [drop_cons hk1, FExp.cnts] at hI
     have hshc : ∀ x ∈ (Part.exp c).nodes (dd + 1), x.2.short := fun x hx => hsh x (by rw [exp_nodes]; exact List.mem_cons_of_mem _ (List.mem_flatMap.2 ⟨c, List.mem_of_getElem? hk1, hx⟩))
     have hcall := ih c (dd + 1) (d + 1) kq (s.set lb (leftO kq)) (by omega) (by omega) hshc h0 h120 (by omega) (Store.set_same _ _ _)
     rw [Store.set_set] at hcall
     have hle := FExp.cnt_le c (d + 1) kq
     generalize FExp.cnt (d + 1) kq c = pk at hcall hle hI
     obtain ⟨b, k'⟩ := pk
     have hd1 : IntKind.wrap .i64 ((d : Int) + 1) = ((d + 1 : Nat) : Int) := i64_succ (by omega)
     cases b with
     | true =>
      obtain ⟨g0, g1⟩ := hle rfl
      repeat (first | with_reducible refine CW.seq ?_ | with_reducible refine aN ?_ | with_reducible refine CW.skip ?_ | with_reducible refine CW.block ?_ | refine CW.reg ?_ | refine RL.step tO rfl rfl rfl rfl ?_ | refine RL.idx tO _ rfl rfl rfl rfl rfl rfl rfl rfl rfl rfl rfl (by assumption) rfl ?_)
      rw [hd1]
      refine RL.call rfl rfl rfl rfl rfl hcall ?_ (fun _ _ ⟨h, _⟩ => by cases h)
      rintro _ _ ⟨⟨⟩, rfl⟩
      repeat (first | with_reducible refine aN ?_ | with_reducible refine iN ?_ | with_reducible refine CW.skip ?_ | refine CW.reg (RL.run tO rfl (RL.nil ?_)) | refine RL.nil ?_ | refine CW.condF rfl ?_ | refine RL.step tO rfl rfl rfl rfl ?_)
      refine ⟨(j + 1, k'), ⟨hlt, g0, by show k' ≤ 120; simp only at g1; omega, by simpa using hI⟩, (by repeat (first | exact trivial | refine ⟨⟨_, rfl, AVle.refl _⟩, ?_⟩ | refine ⟨⟨_, rfl, AVle.of_eq (by (show AV.int .i64 (IntKind.wrap .i64 ((j : Int) + 1)) = .int .i64 ((j + 1 : Nat) : Int); rw [i64_succ (by omega)]))⟩, ?_⟩)), Store.sub_refl _, by show e.kids.length - (j + 1) < e.kids.length - j; omega⟩
     | false =>
      rw [← hI]
      repeat (first | with_reducible refine CW.seq ?_ | with_reducible refine aN ?_ | with_reducible refine CW.skip ?_ | with_reducible refine CW.block ?_ | refine CW.reg ?_ | refine RL.step tO rfl rfl rfl rfl ?_ | refine RL.idx tO _ rfl rfl rfl rfl rfl rfl rfl rfl rfl rfl rfl (by assumption) rfl ?_)
      rw [hd1]
      refine RL.call rfl rfl rfl rfl rfl hcall ?_ (fun _ _ ⟨h, _⟩ => by cases h)
      rintro _ _ ⟨⟨⟩, rfl⟩
      repeat (first | with_reducible refine CW.seq ?_ | with_reducible refine aN ?_ | with_reducible refine aR ?_ | with_reducible refine iR ?_ | with_reducible refine CW.ret ?_ | refine CW.reg (RL.run tO rfl (RL.nil ?_)) | refine RL.nil ?_ | refine CW.condT rfl ?_ | refine RL.step tO rfl rfl rfl rfl ?_)
      exact ⟨_, _, _, rfl, AVle.refl _, Store.sub_refl _, rfl, rfl⟩
    ·have hge : e.kids.length ≤ j := by rw [hkl] at h; simpa using h
     rw [List.drop_eq_nil_of_le hge, FExp.cnts] at hI
     rw [← hI]
     repeat (first | with_reducible refine CW.seq ?_ | with_reducible refine aN ?_ | with_reducible refine aX ?_ | with_reducible refine iH ?_ | with_reducible refine CW.ret ?_ | with_reducible refine CW.exit ?_ | refine CW.reg (RL.run tO rfl (RL.nil ?_)))
     exact ⟨_, _, _, rfl, AVle.refl _, Store.sub_refl _, rfl, rfl⟩
end Go.Proofs.YtaafacnoddjhgaaGreat

/- Contracts of the reference: Formed, CheckExp, All, DepthOf, Depth. -/
namespace Go.Proofs.YtaafacnoddjhgaaGreat
open Go.AE

theorem part_len : ∀ (e : FExp) (d : Nat), ((Part.exp e).nodes d).length = e.size := by
 intro e d
 exact Part.nodes_size _ _ _ (Nat.le_refl _)

theorem cnt_good (e : FExp) : (FExp.cnt 1 120 e).1 = goodB e := by
 rw [(cnt_nodes e 1 120 (by omega)).1, goodB, lookB, part_len]
 congr 1
 rw [Bool.eq_iff_iff]; simp; omega

set_option maxRecDepth 10000 in
theorem refFormed_spec (e : FExp) (s : Store) (h : e.Fair) : ACalls Tryz.prog 45 [e.av] s (fun o s' => o = .ret (.bool (goodB e)) ∧ s' = s) := by
 refine ACalls.of_CW tO call45 Tryz.func45 rfl rfl ?_
 repeat (first | with_reducible refine CW.seq ?_ | with_reducible refine aN ?_ | refine CW.reg (RL.run tO rfl (RL.nil ?_)) | refine CW.reg ?_)
 refine RL.alloc tO rfl rfl rfl rfl rfl rfl rfl (fun b hb => ?_)
 repeat (first | with_reducible refine CW.seq ?_ | with_reducible refine aN ?_ | refine CW.reg ?_ | refine RL.nil ?_ | refine RL.step tO rfl rfl rfl rfl ?_ | (refine RL.storeP tO rfl rfl rfl rfl rfl rfl rfl rfl rfl (Store.set_same _ _ _) rfl ?_; try with_reducible rw [Store.set_set]))
 refine RL.call rfl rfl rfl rfl rfl (refCount_spec b e.size e 1 1 120 _ (Nat.le_refl _) (Nat.le_of_lt h.size) h.short (by omega) (by omega) (by omega) (Store.set_same _ _ _)) ?_ (fun _ _ ⟨h, _⟩ => by cases h)
 rintro _ _ ⟨⟨⟩, rfl⟩
 rw [Store.set_set, cnt_good]
 repeat (first | with_reducible refine aN ?_ | with_reducible refine CW.ret ?_ | refine RL.nil ?_ | refine RL.step tO rfl rfl rfl rfl ?_)
 exact ⟨_, _, _, rfl, AVle.refl _, Store.sub_set _ _ _ hb, rfl, rfl⟩

theorem exps_elem (l : List FExp) : ∀ y ∈ l.map FExp.av, elemOk 4 y = true := by
 intro y hy; simp only [List.mem_map] at hy; obtain ⟨z, -, rfl⟩ := hy; rfl

def allUpto (e : FExp) (j : Nat) : List FExp := e :: (e.kids.take j).flatMap FExp.allE
theorem allUpto_succ {e k : FExp} {j : Nat} (h : e.kids[j]? = some k) : allUpto e (j + 1) = allUpto e j ++ k.allE := by
 unfold allUpto; rw [flatMap_take_succ _ h]; rfl
theorem allUpto_le (e : FExp) (j : Nat) : (allUpto e j).length ≤ e.size := by
 have := flatMap_take_le FExp.allE e.kids j
 rw [← allE_length, FExp.allE_eq]
 simp only [allUpto, List.length_cons]; omega
theorem allUpto_end {e : FExp} {j : Nat} (h : e.kids.length ≤ j) : allUpto e j = e.allE := by
 unfold allUpto; rw [List.take_of_length_le h, FExp.allE_eq]

set_option maxRecDepth 10000 in
theorem refAll_spec : ∀ (n : Nat) (e : FExp) (s : Store), e.size ≤ n → e.size ≤ big → ACalls Tryz.prog 55 [e.av] s (fun o s' => o = .ret (.slc 4 (e.allE.map FExp.av) .fro) ∧ s' = s) := by
 intro n
 induction n with
 | zero => intro e s h; have := e.size_pos; omega
 | succ n ih =>
  intro e s hn hbig
  have hlen := e.kids_length
  have hkl := e.kav_length
  have hb : big = 1099511627776 := rfl
  refine ACalls.of_CW tO call55 Tryz.func55 rfl rfl ?_
  repeat (first | with_reducible refine CW.seq ?_ | with_reducible refine aN ?_ | with_reducible refine CW.block ?_ | refine CW.reg (RL.run tO rfl (RL.nil ?_)))
  refine CW.loop (σ := Nat × Own) (fun q => [(1, .fptr e.cells 0), (3, .slc 4 ((allUpto e q.1).map FExp.av) q.2), (4, .int .i64 (q.1 : Int))])
   (fun q => rowOf s 27 4 (allUpto e q.1).length q.2) (fun q => q.1 ≤ e.kids.length ∧ OwnOk s 0 q.2) (fun q => e.kids.length - q.1) (0, .clip) ⟨by simp, trivial⟩ ?_ (Store.sub_refl _) ?_
  ·exact (by repeat (first | exact trivial | refine ⟨⟨_, rfl, AVle.refl _⟩, ?_⟩))
  ·rintro ⟨j, own⟩ ⟨hj, hok⟩
   simp only at hj hok
   repeat (first | with_reducible refine CW.seq ?_ | with_reducible refine aN ?_ | refine CW.reg (RL.run tO rfl (RL.nil ?_)))
   refine CW.cond rfl (fun h => ?_) (fun h => ?_)
   ·have hlt : j < e.kids.length := by rw [hkl] at h; simpa using h
    obtain ⟨k, hk, hk', hks⟩ := FExp.kid_at hlt
    have hle := allUpto_le e (j + 1)
    rw [allUpto_succ hk, List.length_append] at hle
    repeat (first | with_reducible refine CW.seq ?_ | with_reducible refine aN ?_ | with_reducible refine CW.skip ?_ | with_reducible refine CW.block ?_ | refine CW.reg ?_ | refine RL.step tO rfl rfl rfl rfl ?_ | refine RL.idx tO _ rfl rfl rfl rfl rfl rfl rfl rfl rfl rfl rfl (by assumption) rfl ?_)
    refine RL.callP rfl rfl rfl rfl rfl (ih k _ (by omega) (by omega)) ?_
    refine RL.appendR tO rfl rfl rfl rfl rfl rfl rfl (by intro k; simp) rfl rfl rfl rfl (.inr rfl) rfl (exps_elem _) (n := (allUpto e j).length) ?_ ?_ (List.length_map ..).symm rfl (OwnOk.sub' hok) ?_
    ·simp only [List.length_map]; show _ * 56 ≤ _; omega
    ·simp only [List.length_map]; omega
    rintro own' h1
    repeat (first | with_reducible refine aN ?_ | with_reducible refine iN ?_ | refine CW.reg (RL.run tO rfl (RL.nil ?_)) | refine RL.nil ?_ | refine RL.step tO rfl rfl rfl rfl ?_)
    refine ⟨(j + 1, own'), ⟨hlt, OwnOk.sub' h1⟩, (by repeat (first | exact trivial | refine ⟨⟨_, rfl, AVle.refl _⟩, ?_⟩ | refine ⟨⟨_, rfl, AVle.of_eq (by (first | (show AV.int .i64 (IntKind.wrap .i64 ((j : Int) + 1)) = .int .i64 ((j + 1 : Nat) : Int); rw [i64_succ (by omega)]) | (rw [allUpto_succ hk, List.map_append])))⟩, ?_⟩)), ?_, by show e.kids.length - (j + 1) < e.kids.length - j; omega⟩
    show Store.Sub (rowOf s _ 4 _ own') _
    rw [allUpto_succ hk, List.length_append, List.length_map, List.length_map]
    exact Store.sub_refl _
   ·have hge : e.kids.length ≤ j := by rw [hkl] at h; simpa using h
    repeat (first | with_reducible refine CW.seq ?_ | with_reducible refine aN ?_ | with_reducible refine aX ?_ | with_reducible refine iH ?_ | with_reducible refine CW.ret ?_ | with_reducible refine CW.exit ?_ | refine CW.reg (RL.run tO rfl (RL.nil ?_)))
    refine ⟨_, _, s, rfl, AVle.fro, rowOf_sub hok, ?_, rfl⟩
    rw [allUpto_end hge]

mutual
def FExp.dep : FExp → Nat
 | .mk _ _ _ ks => FExp.deps ks + 1
def FExp.deps : List FExp → Nat
 | [] => 0
 | k :: r => max (FExp.dep k) (FExp.deps r)
end

end Go.Proofs.YtaafacnoddjhgaaGreat

/- How the arguments of a law are read. -/
namespace Go.Proofs.YtaafacnoddjhgaaGreat
open Go.AE Go.ChangeShapes Go.WideShapes Go.ChangeAt Go.RowKit

theorem val_agg {P : Program} {W : World} {r : Reach} {b : Nat} {t : TypeId} {fs : Array Field} {v : Value} (ht : P.underlying t = some (.struct fs)) (h : Value.okWide P W r b t v) : ∃ cs, v = .agg cs := by
 obtain ⟨cs, h1, -⟩ := okWide_struct ht h
 exact ⟨cs, h1⟩

theorem rel_agg {w : World} {p : Prot} {v : Value} {xs : List AV} (hv : ∃ cs, v = .agg cs) (h : RelL w p v.cells.toList xs) : Rel w p v (.agg xs) := by
 obtain ⟨cs, rfl⟩ := hv
 exact .agg _ _ h

end Go.Proofs.YtaafacnoddjhgaaGreat

/- General rules: known guards in drawn regions, rows that grow in stores that are known in part. -/
namespace Go.Proofs.YtaafacnoddjhgaaGreat
open Go.AE

theorem RD.knowT {P : Program} {Γ : Tys} {N : Nat} {ops : Array Oper} {Q : AEx → Env → Store → Prop} {D : Nat → Bool} {env : Env} {s : Store} (t : Nat) {b : Bool} (hv : env.get? t = some (.bool b)) (he : b = true)
  (h : RD P Γ N ops Q D ((t, .bool true) :: env) s) : RD P Γ N ops Q D env s := by
 subst he
 refine RD.congr _ (fun x => ?_) h
 show (if Nat.beq t x then _ else _) = _
 split
 ·rename_i hx
  rw [← hv, Nat.eq_of_beq_eq_true hx]
 ·rfl
theorem RD.knowF {P : Program} {Γ : Tys} {N : Nat} {ops : Array Oper} {Q : AEx → Env → Store → Prop} {D : Nat → Bool} {env : Env} {s : Store} (t : Nat) {b : Bool} (hv : env.get? t = some (.bool b)) (he : b = false)
  (h : RD P Γ N ops Q D ((t, .bool false) :: env) s) : RD P Γ N ops Q D env s := by
 subst he
 refine RD.congr _ (fun x => ?_) h
 show (if Nat.beq t x then _ else _) = _
 split
 ·rename_i hx
  rw [← hv, Nat.eq_of_beq_eq_true hx]
 ·rfl

/-! ### A row that grows in a store that is known in part -/
section
variable {s t : Store} {e e2 : TypeId} {sz n m sz2 n2 x : Nat} {own own' own2 : Own} {o : AObj}

theorem row_ne (h : RowIs t e sz n own) (hx : t x = some o) (ho : notRow o = true) : ∀ b, own = .own b → x ≠ b := fun b hb he => by
 subst hb; subst he
 simp only [RowIs] at h; rw [h] at hx; cases hx; cases ho
theorem base_keep (hx : t x = some o) (hne : ∀ b, own = .own b → x ≠ b) : rowBase t own x = some o := by
 cases own with
 | own b => exact (Store.del_ne _ (hne b rfl)).trans hx
 | nil => exact hx
 | clip => exact hx
 | fro => exact hx
theorem grow_at (hok : OwnOk (rowBase t own) n own') (hx : rowBase t own x = some o) : rowOf (rowBase t own) e sz m own' x = some o := by
 cases own' with
 | own b => exact (Store.set_ne _ _ (fun he => by subst he; have : rowBase t own x = none := hok; rw [hx] at this; cases this)).trans hx
 | nil => exact hx
 | clip => exact hx
 | fro => exact hok.elim
theorem grow_keep (h : RowIs t e2 sz2 n2 own) (hok : OwnOk (rowBase t own) n own') (hx : t x = some o) (ho : notRow o = true) : rowOf (rowBase t own) e sz m own' x = some o := grow_at hok (base_keep hx (row_ne h hx ho))
theorem grow_row (h2 : RowIs t e2 sz2 n2 own2) (hd : ∀ b, own = .own b → own2 ≠ .own b) (hok : OwnOk (rowBase t own) n own') : RowIs (rowOf (rowBase t own) e sz m own') e2 sz2 n2 own2 := by
 cases own2 with
 | own b2 => exact grow_at hok (base_keep h2 (fun b hb he => hd b hb (by rw [he])))
 | nil => trivial
 | clip => trivial
 | fro => exact h2
theorem grow_dis (h2 : RowIs t e2 sz2 n2 own2) (hd : ∀ b, own = .own b → own2 ≠ .own b) (hok : OwnOk (rowBase t own) n own') : ∀ b, own' = .own b → own2 ≠ .own b := fun b hb hb2 => by
 subst hb; subst hb2
 have h1 : rowBase t own b = some _ := base_keep h2 (fun c hc he => hd c hc (by rw [he]))
 have h2 : rowBase t own b = none := hok
 rw [h1] at h2; cases h2
theorem grow_own (hok : OwnOk (rowBase t own) n own') : RowIs (rowOf (rowBase t own) e sz m own') e sz m own' := by
 cases own' with
 | own b => exact Store.set_same _ _ _
 | nil => trivial
 | clip => trivial
 | fro => exact hok
theorem grow_sub (hsub : Store.Sub s t) (hs : ∀ b, own = .own b → s b = none) (hok : OwnOk (rowBase t own) n own') : Store.Sub s (rowOf (rowBase t own) e sz m own') ∧ ∀ b, own' = .own b → s b = none := by
 have h1 : Store.Sub s (rowBase t own) := by
  cases own with
  | own b => exact Store.subDel hsub (hs b rfl)
  | nil => exact hsub
  | clip => exact hsub
  | fro => exact hsub
 have h2 : ∀ b, own' = .own b → s b = none := fun b hb => by
  subst hb
  have : rowBase t own b = none := hok
  rcases h1 b with q | q
  ·rw [q]; exact this
  ·exact q
 exact ⟨Store.subRow h1 (m := n) (by
  cases own' with
  | own b => exact h2 b rfl
  | nil => trivial
  | clip => trivial
  | fro => exact hok.elim), h2⟩
theorem set_row {b : Nat} {o' : AObj} (h : RowIs t e sz n own) (hx : t b = some o) (ho : notRow o = true) : RowIs (t.set b o') e sz n own := by
 cases own with
 | own c => exact (Store.set_ne _ _ (fun he => by subst he; simp only [RowIs] at h; rw [h] at hx; cases hx; cases ho)).trans h
 | nil => trivial
 | clip => trivial
 | fro => exact h
end

section
variable {P : Program} {Γ : Tys} {N : Nat} {Q : AEx → Env → Store → Prop} {env : Env} {s : Store} {l : List Oper} {m : Nat}
theorem RD.appendR (hΓ : TysOk P Γ) {i : Nat} {o : Oper} {d : Nat} {t t' e : TypeId} {x y : Operand} {it it' ie : TI} {sx sy n : Nat} {xs ys : List AV} {own oy : Own} (hr : readyL l.toArray m (idxs 0 l) = [i]) (ho : l.toArray[i]? = some o) (hd : o.dst = some d) (hN : Nat.blt d N = true)
  (hg : guardOf l.toArray (pickE env (looks l.toArray o)) o = some true) (hop : o.op = .call { callee := .builtin .append, args := #[x, y], argTypes := #[t, t'] }) (ht : Γ.get? t = some it) (htd : it.td = .slc e) (ht' : Γ.get? t' = some it') (htd' : ∀ k, it'.td ≠ .int k)
  (hie : Γ.get? e = some ie) (hx : ev (pickE env (looks l.toArray o)) x = some (.slc sx xs own)) (hy : ev (pickE env (looks l.toArray o)) y = some (.slc sy ys oy)) (hsx : sx = ie.size) (hsy : ys = [] ∨ sy = ie.size)
  (hzs' : Nat.beq ie.zero.cells.size ie.size = true) (hel : ∀ y ∈ ys, elemOk ie.size y = true) (hb : (xs.length + ys.length) * ie.bytes ≤ 140737488355328) (h63 : xs.length + ys.length ≤ 9223372036854775807) (hn : n = xs.length)
  {s₀ : Store} (hs : s₀ = rowOf s e ie.size n own) (hok : OwnOk s n own)
  (h : ∀ own', OwnOk s (xs.length + ys.length) own' → RD P Γ N l.toArray Q (dn (m ||| 2 ^ i)) ((d, .slc ie.size (xs ++ ys) own') :: env) (rowOf s e ie.size (xs.length + ys.length) own')) : RD P Γ N l.toArray Q (dn m) env s₀ := by
 subst hs
 subst hn
 refine RD.one hr ho hd hN hg (OW.appendR hΓ hop ht htd ht' htd' hie hx hy hsx hsy hzs' hel hb h63 rfl hok (X := fun _ _ => False)) ?_ (fun _ _ h => h.elim)
 rintro r s' ⟨own', h1, -, -, rfl, rfl⟩
 exact h own' h1
end

end Go.Proofs.YtaafacnoddjhgaaGreat

/- Expressions that weigh little are fair. -/
namespace Go.Proofs.YtaafacnoddjhgaaGreat
open Go.AE

mutual
theorem exp_light {W : Nat} : ∀ (e : FExp), e.weight ≤ W → e.size ≤ e.weight ∧ e.AllT (fun t => t.length ≤ W)
  | .mk o n t ks, h => by
    rw [FExp.weight] at h ⊢
    rw [FExp.size, FExp.AllT]
    have := exps_light ks (by omega : FExp.weights ks ≤ W)
    exact ⟨by omega, by omega, this.2⟩
theorem exps_light {W : Nat} : ∀ (l : List FExp), FExp.weights l ≤ W → FExp.sizes l ≤ FExp.weights l ∧ FExp.AllTs (fun t => t.length ≤ W) l
  | [], _ => ⟨Nat.le_refl _, trivial⟩
  | k :: r, h => by
    rw [FExp.weights] at h ⊢
    rw [FExp.sizes, FExp.AllTs]
    have h1 := exp_light k (by omega : k.weight ≤ W)
    have h2 := exps_light r (by omega : FExp.weights r ≤ W)
    exact ⟨by omega, h1.2, h2.2⟩
end
theorem exp_fair {e : FExp} (h : e.weight ≤ 1048576) : e.Fair := by
 obtain ⟨h1, h2⟩ := exp_light e h
 have hb : big = 1099511627776 := rfl
 refine ⟨by omega, fun x hx => ?_⟩
 obtain ⟨g, hg⟩ := nodes_exp hx
 have := AllT_iff.1 h2 x.2.expOf (mem_nodes_all hx)
 rw [hg] at this ⊢
 show g.text.length < _
 have h3 : g.text.length ≤ 1048576 := this
 omega

end Go.Proofs.YtaafacnoddjhgaaGreat

/- Contracts of the reference: what a fact has to be. -/
namespace Go.Proofs.YtaafacnoddjhgaaGreat
open Go.AE

/-! ### What is known, and a fact within it -/
def knownCells (ps ss cs : List Str) (o1 o2 o3 : Own) : List AV := [.slc 1 (strs ps) o1, .slc 1 (strs ss) o2, .slc 1 (strs cs) o3]

def opF (op : Int) : Bool := decide (1 ≤ op) && decide (op ≤ 7)
def badK1 (ps : List Str) (f : FFact) : Bool :=
 ((!((f.kids.length : Int) == kidsF f.op) || (!atomF f && (!(f.name == []) || decide ((f.path.length : Int) > 0)))) || (atomF f && !ps.contains f.name)) || decide ((f.path.length : Int) > 2)
def badK2 (cs : List Str) (f : FFact) : Bool := !((f.op == 2) == !(f.cls == [])) || (f.op == 2 && !cs.contains f.cls)
def badK3 (f : FFact) : Bool := ((!(f.op == 3) && !(f.op == 4)) && !(f.n == 0)) || !between f.n
def okK (ps ss cs : List Str) (f : FFact) : Bool := opF f.op && (!badK1 ps f && (!badK2 cs f && (!badK3 f && f.path.all ss.contains)))

mutual
def FFact.cnt (ps ss cs : List Str) (d : Nat) (k : Int) : FFact → Bool × Int
 | .mk o x p c n ks => if (decide (k - 1 < 0) || decide (d > 12)) || !okK ps ss cs (.mk o x p c n ks) then (false, k - 1) else FFact.cnts ps ss cs (d + 1) (k - 1) ks
def FFact.cnts (ps ss cs : List Str) (d : Nat) (k : Int) : List FFact → Bool × Int
 | [] => (true, k)
 | e :: r => if (FFact.cnt ps ss cs d k e).1 then FFact.cnts ps ss cs d (FFact.cnt ps ss cs d k e).2 r else (false, (FFact.cnt ps ss cs d k e).2)
end

theorem FFact.cnt_def (ps ss cs : List Str) (d : Nat) (k : Int) (e : FFact) : FFact.cnt ps ss cs d k e = if (decide (k - 1 < 0) || decide (d > 12)) || !okK ps ss cs e then (false, k - 1) else FFact.cnts ps ss cs (d + 1) (k - 1) e.kids := by
 cases e; rw [FFact.cnt]; rfl

mutual
theorem FFact.cnt_le (ps ss cs : List Str) : ∀ (e : FFact) (d : Nat) (k : Int), (FFact.cnt ps ss cs d k e).1 = true → 0 ≤ (FFact.cnt ps ss cs d k e).2 ∧ (FFact.cnt ps ss cs d k e).2 ≤ k
  | .mk o x p c n ks, d, k, h => by
    rw [FFact.cnt] at h ⊢
    split at h
    · cases h
    · rename_i hc
      rw [if_neg hc]
      have := FFact.cnts_le ps ss cs ks (d + 1) (k - 1) (by simp only [Bool.or_eq_true, decide_eq_true_eq, not_or] at hc; omega) h
      omega
theorem FFact.cnts_le (ps ss cs : List Str) : ∀ (l : List FFact) (d : Nat) (k : Int), 0 ≤ k → (FFact.cnts ps ss cs d k l).1 = true → 0 ≤ (FFact.cnts ps ss cs d k l).2 ∧ (FFact.cnts ps ss cs d k l).2 ≤ k
  | [], d, k, hk, h => by rw [FFact.cnts]; exact ⟨hk, Int.le_refl _⟩
  | e :: r, d, k, hk, h => by
    rw [FFact.cnts] at h ⊢
    split at h
    · rename_i hc
      rw [if_pos hc]
      obtain ⟨h1, h2⟩ := FFact.cnt_le ps ss cs e d k hc
      obtain ⟨h3, h4⟩ := FFact.cnts_le ps ss cs r d _ h1 h
      exact ⟨h3, Int.le_trans h4 h2⟩
    · cases h
end

theorem fact_nodes (e : FFact) (d : Nat) : (Part.fact e).nodes d = (d, .fact e) :: e.kids.flatMap (fun k => (Part.fact k).nodes (d + 1)) := by
 rw [Part.nodes_eq]
 show _ :: (e.kids.map Part.fact).flatMap _ = _
 rw [List.flatMap_map]

def okKP (ps ss cs : List Str) (x : Nat × Part) : Bool := decide (x.1 ≤ 12) && match x.2 with | .fact f => okK ps ss cs f | .exp _ => true

mutual
theorem cntF_nodes (ps ss cs : List Str) : ∀ (e : FFact) (d : Nat) (k : Int), 0 ≤ k → (FFact.cnt ps ss cs d k e).1 = (decide ((e.size : Int) ≤ k) && ((Part.fact e).nodes d).all (okKP ps ss cs)) ∧ ((FFact.cnt ps ss cs d k e).1 = true → (FFact.cnt ps ss cs d k e).2 = k - e.size)
  | .mk o x p c n ks, d, k, hk => by
    have hsz : (FFact.mk o x p c n ks).size = 1 + FFact.sizes ks := by rw [FFact.size]
    rw [FFact.cnt, fact_nodes, List.all_cons]
    have hok : okKP ps ss cs (d, .fact (.mk o x p c n ks)) = (decide (d ≤ 12) && okK ps ss cs (.mk o x p c n ks)) := rfl
    rw [hok]
    split
    · rename_i h
      refine ⟨?_, fun h => by cases h⟩
      simp only [Bool.or_eq_true, decide_eq_true_eq, Bool.not_eq_true'] at h
      rcases h with (h | h) | h
      · rw [decide_eq_false (by rw [hsz]; omega)]; rfl
      · rw [decide_eq_false (by omega : ¬ d ≤ 12)]; simp
      · rw [h]; simp
    · rename_i h
      simp only [Bool.or_eq_true, decide_eq_true_eq, Bool.not_eq_true', not_or, Bool.not_eq_false] at h
      obtain ⟨⟨h1, h2⟩, h3⟩ := h
      obtain ⟨g1, g2⟩ := cntsF_nodes ps ss cs ks (d + 1) (k - 1) (by omega)
      refine ⟨?_, fun h => by rw [g2 h, hsz]; omega⟩
      rw [g1, h3, decide_eq_true (by omega : d ≤ 12), hsz]
      have : (decide (((1 + FFact.sizes ks : Nat) : Int) ≤ k)) = decide ((FFact.sizes ks : Int) ≤ k - 1) := by
        rw [Bool.eq_iff_iff]; simp; omega
      rw [this]; simp [FFact.kids]
theorem cntsF_nodes (ps ss cs : List Str) : ∀ (l : List FFact) (d : Nat) (k : Int), 0 ≤ k → (FFact.cnts ps ss cs d k l).1 = (decide ((FFact.sizes l : Int) ≤ k) && (l.flatMap fun e => (Part.fact e).nodes d).all (okKP ps ss cs)) ∧ ((FFact.cnts ps ss cs d k l).1 = true → (FFact.cnts ps ss cs d k l).2 = k - FFact.sizes l)
  | [], d, k, hk => by simp [FFact.cnts, FFact.sizes, hk]
  | e :: r, d, k, hk => by
    obtain ⟨g1, g2⟩ := cntF_nodes ps ss cs e d k hk
    rw [FFact.cnts, FFact.sizes, List.flatMap_cons, List.all_append]
    split
    · rename_i h
      rw [g2 h]
      rw [h] at g1
      have g1' := g1.symm
      simp only [Bool.and_eq_true, decide_eq_true_eq] at g1'
      obtain ⟨q1, q2⟩ := cntsF_nodes ps ss cs r d (k - e.size) (by omega)
      refine ⟨?_, fun h => by rw [q2 h]; omega⟩
      rw [q1, g1'.2]
      have : (decide (((e.size + FFact.sizes r : Nat) : Int) ≤ k)) = decide ((FFact.sizes r : Int) ≤ k - e.size) := by
        rw [Bool.eq_iff_iff]; simp; omega
      rw [this]; simp
    · rename_i h
      rw [Bool.not_eq_true] at h
      refine ⟨?_, fun h => by cases h⟩
      rw [h] at g1
      cases ha : ((Part.fact e).nodes d).all (okKP ps ss cs) with
      | false => simp
      | true =>
        rw [ha] at g1
        simp only [Bool.and_true] at g1
        have := of_decide_eq_false g1.symm
        rw [decide_eq_false (by omega)]; rfl
end

theorem all_take {α : Type} {f : α → Bool} {l : List α} {j : Nat} {x : α} (hx : l[j]? = some x) (h : l.all f = (l.drop j).all f) (hf : f x = true) : l.all f = (l.drop (j + 1)).all f := by
 rw [h, drop_cons hx, List.all_cons, hf]; rfl
theorem all_miss {α : Type} {f : α → Bool} {l : List α} {j : Nat} {x : α} (hx : l[j]? = some x) (hf : f x = false) : l.all f = false := by
 rw [Bool.eq_false_iff]; intro h
 have := List.all_eq_true.1 h x (List.mem_of_getElem? hx)
 rw [hf] at this; cases this

set_option maxRecDepth 10000 in
set_option maxHeartbeats 4000000 in
theorem refKFact_spec (lb : Nat) (ps ss cs : List Str) (o1 o2 o3 : Own) (hps : ps.length < 9223372036854775807) (hss : ss.length < 9223372036854775807) (hcs : cs.length < 9223372036854775807) :
  ∀ (n : Nat) (f : FFact) (dd d : Nat) (k : Int) (s : Store), f.size ≤ n → f.size ≤ big → (∀ x ∈ (Part.fact f).nodes dd, x.2.texts) → 0 ≤ k → k ≤ 120 → d ≤ 13 → s lb = some (leftO k) →
  ACalls Tryz.prog 100 [.agg (knownCells ps ss cs o1 o2 o3), f.av, .int .i64 (d : Int), .ptr lb 0] s (fun o s' => o = .ret (.bool (FFact.cnt ps ss cs d k f).1) ∧ s' = s.set lb (leftO (FFact.cnt ps ss cs d k f).2)) := by
 intro n
 induction n with
 | zero => intro f dd d k s h; have := f.size_pos; omega
 | succ n ih =>
  intro f dd d k s hn hbig hsh hk0 hk hd hs
  have hlen := f.kids_length
  have hkl := f.kav_length
  have hb : big = 1099511627776 := rfl
  have htx : f.Texts := hsh (dd, .fact f) (by rw [Part.nodes_eq]; exact List.mem_cons_self)
  obtain ⟨-, -, hpl, -⟩ := htx
  have hcd := FFact.cnt_def ps ss cs d k f
  refine ACalls.of_CW tO call100 Tryz.func100 rfl rfl ?_
  refine CW.seqCut [(2, .int .i64 (d : Int)), (3, .ptr lb 0), (4, .fptr (knownCells ps ss cs o1 o2 o3) 0), (5, .fptr f.cells 0)] s ?_ ?_
  ·repeat (first | refine CW.reg (RL.run tO rfl (RL.nil ?_)))
   exact ⟨rfl, (by repeat (first | exact trivial | refine ⟨⟨_, rfl, AVle.refl _⟩, ?_⟩)), Store.sub_refl _⟩
  refine CW.seqCut [(2, .int .i64 (d : Int)), (3, .ptr lb 0), (4, .fptr (knownCells ps ss cs o1 o2 o3) 0), (5, .fptr f.cells 0)] (s.set lb (leftO (k - 1))) ?_ ?_
  ·repeat (first | refine CW.reg ?_ | refine RL.step tO rfl rfl rfl rfl ?_ | refine RL.loadP tO rfl rfl rfl rfl rfl rfl (by assumption) rfl ?_)
   refine RL.storeP tO rfl rfl rfl rfl rfl rfl rfl rfl rfl hs rfl ?_
   repeat (first | refine RL.nil ?_)
   refine ⟨rfl, (by repeat (first | exact trivial | refine ⟨⟨_, rfl, AVle.refl _⟩, ?_⟩)), ?_⟩
   show Store.Sub (s.set lb (leftO (k - 1))) (s.set lb (leftO (IntKind.wrap .i64 (k - 1))))
   rw [i64_wrap (by omega) (by omega)]; exact Store.sub_refl _
  have hs1 : (s.set lb (leftO (k - 1))) lb = some (leftO (k - 1)) := Store.set_same _ _ _
  refine CW.seq ?_
  refine CW.seqCut [(2, .int .i64 (d : Int)), (3, .ptr lb 0), (4, .fptr (knownCells ps ss cs o1 o2 o3) 0), (5, .fptr f.cells 0), (26, .bool (decide (k - 1 < 0) || decide (d > 12)))] (s.set lb (leftO (k - 1))) ?_ ?_
  ·repeat' (first | refine CW.reg ?_ | refine RL.nil ?_ | refine RL.step tO rfl rfl rfl rfl ?_ | refine RL.skip rfl rfl rfl ?_ | refine RL.gstepF tO rfl rfl rfl rfl rfl rfl rfl (fun _ => ?_) (fun _ => ?_) | refine RL.loadP tO rfl rfl rfl rfl rfl rfl hs1 rfl ?_)
   all_goals refine ⟨rfl, (by repeat (first | exact trivial | refine ⟨⟨_, rfl, AVle.refl _⟩, ?_⟩ | refine ⟨⟨_, rfl, AVle.of_eq (by (congr 1; rw [Bool.eq_iff_iff]; simp_all; (try omega)))⟩, ?_⟩)), Store.sub_refl _⟩
  cases hc : decide (k - 1 < 0) || decide (d > 12) with
  | true =>
   rw [hc, Bool.true_or, if_pos rfl] at hcd
   rw [hcd]
   repeat (first | with_reducible refine CW.seq ?_ | with_reducible refine aN ?_ | with_reducible refine aR ?_ | with_reducible refine CW.ret ?_ | refine CW.reg (RL.run tO rfl (RL.nil ?_)) | refine CW.condT rfl ?_)
   exact ⟨_, _, _, rfl, AVle.refl _, Store.sub_refl _, rfl, rfl⟩
  | false =>
  rw [hc, Bool.false_or] at hcd
  simp only [Bool.or_eq_false_iff, decide_eq_false_iff_not] at hc
  have hbad : okK ps ss cs f = false → FFact.cnt ps ss cs d k f = (false, k - 1) := fun h => by rw [hcd, h]; rfl
  refine CW.condF rfl (CW.skip (aN ?_))
  refine CW.seqCut [(2, .int .i64 (d : Int)), (3, .ptr lb 0), (4, .fptr (knownCells ps ss cs o1 o2 o3) 0), (5, .fptr f.cells 0), (9, .bool (atomF f))] (s.set lb (leftO (k - 1))) ?_ ?_
  ·repeat' (first | refine CW.reg ?_ | refine RL.nil ?_ | refine RL.step tO rfl rfl rfl rfl ?_ | refine RL.skip rfl rfl rfl ?_ | refine RL.gstepF tO rfl rfl rfl rfl rfl rfl rfl (fun _ => ?_) (fun _ => ?_))
   all_goals refine ⟨rfl, (by repeat (first | exact trivial | refine ⟨⟨_, rfl, AVle.refl _⟩, ?_⟩ | refine ⟨⟨_, rfl, AVle.of_eq (by (simp only [atomF]; simp_all))⟩, ?_⟩)), Store.sub_refl _⟩
  by_cases hop : opF f.op = true
  case neg =>
   have hok : okK ps ss cs f = false := by unfold okK; rw [Bool.eq_false_iff.2 hop]; rfl
   have hall : f.op ≠ 1 ∧ f.op ≠ 2 ∧ f.op ≠ 3 ∧ f.op ≠ 4 ∧ f.op ≠ 5 ∧ f.op ≠ 6 ∧ f.op ≠ 7 := by
    refine ⟨?_, ?_, ?_, ?_, ?_, ?_, ?_⟩ <;> (intro h; rw [h] at hop; simp [opF] at hop)
   rw [hbad hok]
   repeat (first | with_reducible refine CW.seq ?_ | with_reducible refine aN ?_ | with_reducible refine CW.block ?_ | refine CW.reg (RL.run tO rfl (RL.nil ?_)))
   refine CW.cond rfl (fun h => absurd h (by simp; omega)) (fun _ => ?_)
   repeat (first | with_reducible refine CW.seq ?_ | with_reducible refine aN ?_ | refine CW.reg (RL.run tO rfl (RL.nil ?_)))
   refine CW.cond rfl (fun h => absurd h (by simp; omega)) (fun _ => ?_)
   repeat (first | with_reducible refine aN ?_ | refine CW.reg (RL.run tO rfl (RL.nil ?_)))
   refine CW.cond rfl (fun h => absurd h (by simp; omega)) (fun _ => ?_)
   repeat (first | with_reducible refine CW.seq ?_ | with_reducible refine aN ?_ | refine CW.reg (RL.run tO rfl (RL.nil ?_)))
   refine CW.cond rfl (fun h => absurd h (by simp; omega)) (fun _ => ?_)
   repeat (first | with_reducible refine CW.seq ?_ | with_reducible refine aN ?_ | refine CW.reg (RL.run tO rfl (RL.nil ?_)))
   refine CW.cond rfl (fun h => absurd h (by simp; omega)) (fun _ => ?_)
   repeat (first | with_reducible refine CW.seq ?_ | with_reducible refine aN ?_ | refine CW.reg (RL.run tO rfl (RL.nil ?_)))
   refine CW.cond rfl (fun h => absurd h (by simp; omega)) (fun _ => ?_)
   repeat (first | with_reducible refine aN ?_ | refine CW.reg (RL.run tO rfl (RL.nil ?_)))
   refine CW.cond rfl (fun h => absurd h (by simp; omega)) (fun _ => ?_)
   repeat (first | with_reducible refine CW.seq ?_ | with_reducible refine aN ?_ | with_reducible refine aR ?_ | with_reducible refine iR ?_ | with_reducible refine CW.ret ?_ | refine CW.reg (RL.run tO rfl (RL.nil ?_)))
   exact ⟨_, _, _, rfl, AVle.refl _, Store.sub_refl _, rfl, rfl⟩
  refine CW.seqCut [(2, .int .i64 (d : Int)), (3, .ptr lb 0), (4, .fptr (knownCells ps ss cs o1 o2 o3) 0), (5, .fptr f.cells 0), (9, .bool (atomF f)), (10, .int .i64 0)] (s.set lb (leftO (k - 1))) ?_ ?_
  ·repeat (first | refine CW.reg (RL.run tO rfl (RL.nil ?_)))
   exact ⟨rfl, (by repeat (first | exact trivial | refine ⟨⟨_, rfl, AVle.refl _⟩, ?_⟩)), Store.sub_refl _⟩
  refine CW.seqCut [(2, .int .i64 (d : Int)), (3, .ptr lb 0), (4, .fptr (knownCells ps ss cs o1 o2 o3) 0), (5, .fptr f.cells 0), (9, .bool (atomF f)), (10, .int .i64 (kidsF f.op))] (s.set lb (leftO (k - 1))) ?_ ?_
  ·have ho : f.op = 1 ∨ f.op = 2 ∨ f.op = 3 ∨ f.op = 4 ∨ f.op = 5 ∨ f.op = 6 ∨ f.op = 7 := by
    simp only [opF, Bool.and_eq_true, decide_eq_true_eq] at hop; omega
   generalize hat : atomF f = at_
   clear hat
   obtain ⟨o, x, p, c, n', ks⟩ := f
   simp only [FFact.op] at ho
   rcases ho with rfl | rfl | rfl | rfl | rfl | rfl | rfl
   all_goals repeat (first | with_reducible refine CW.seq ?_ | with_reducible refine aN ?_ | with_reducible refine iN ?_ | with_reducible refine CW.skip ?_ | with_reducible refine CW.block ?_ | refine CW.reg (RL.run tO rfl (RL.nil ?_)) | refine CW.condT rfl ?_ | refine CW.condF rfl ?_)
   all_goals exact ⟨rfl, (by repeat (first | exact trivial | refine ⟨⟨_, rfl, AVle.refl _⟩, ?_⟩)), Store.sub_refl _⟩
  refine CW.seq ?_
  refine CW.seqCut [(2, .int .i64 (d : Int)), (3, .ptr lb 0), (4, .fptr (knownCells ps ss cs o1 o2 o3) 0), (5, .fptr f.cells 0), (9, .bool (atomF f)), (88, .bool (badK1 ps f))] (s.set lb (leftO (k - 1))) ?_ ?_
  ·generalize hat : atomF f = at_
   repeat' (first | refine CW.reg ?_ | refine RL.nil ?_ | refine RL.step tO rfl rfl rfl rfl ?_ | refine RL.skip rfl rfl rfl ?_ | refine RL.gstepT tO rfl rfl rfl rfl rfl rfl rfl (fun _ => ?_) (fun _ => ?_) | refine RL.gstepF tO rfl rfl rfl rfl rfl rfl rfl (fun _ => ?_) (fun _ => ?_) | refine RL.callP rfl rfl rfl rfl rfl (refHas_spec ps o1 f.name _ hps) ?_)
   all_goals refine ⟨rfl, (by repeat (first | exact trivial | refine ⟨⟨_, rfl, AVle.refl _⟩, ?_⟩ | refine ⟨⟨_, rfl, AVle.of_eq (by (simp only [badK1, hat]; simp_all))⟩, ?_⟩)), Store.sub_refl _⟩
  cases h1 : badK1 ps f with
  | true =>
   rw [hbad (by unfold okK; rw [h1]; simp)]
   repeat (first | with_reducible refine CW.seq ?_ | with_reducible refine aN ?_ | with_reducible refine aR ?_ | with_reducible refine CW.ret ?_ | refine CW.reg (RL.run tO rfl (RL.nil ?_)) | refine CW.condT rfl ?_)
   exact ⟨_, _, _, rfl, AVle.refl _, Store.sub_refl _, rfl, rfl⟩
  | false =>
  refine CW.condF rfl (CW.skip (aN ?_))
  refine CW.seq ?_
  refine CW.seqCut [(2, .int .i64 (d : Int)), (3, .ptr lb 0), (4, .fptr (knownCells ps ss cs o1 o2 o3) 0), (5, .fptr f.cells 0), (108, .bool (badK2 cs f))] (s.set lb (leftO (k - 1))) ?_ ?_
  ·repeat' (first | refine CW.reg ?_ | refine RL.nil ?_ | refine RL.step tO rfl rfl rfl rfl ?_ | refine RL.skip rfl rfl rfl ?_ | refine RL.gstepT tO rfl rfl rfl rfl rfl rfl rfl (fun _ => ?_) (fun _ => ?_) | refine RL.gstepF tO rfl rfl rfl rfl rfl rfl rfl (fun _ => ?_) (fun _ => ?_) | refine RL.callP rfl rfl rfl rfl rfl (refHas_spec cs o3 f.cls _ hcs) ?_)
   all_goals refine ⟨rfl, (by repeat (first | exact trivial | refine ⟨⟨_, rfl, AVle.refl _⟩, ?_⟩ | refine ⟨⟨_, rfl, AVle.of_eq (by (simp only [badK2]; simp_all))⟩, ?_⟩)), Store.sub_refl _⟩
  cases h2 : badK2 cs f with
  | true =>
   rw [hbad (by unfold okK; rw [h2]; simp)]
   repeat (first | with_reducible refine CW.seq ?_ | with_reducible refine aN ?_ | with_reducible refine aR ?_ | with_reducible refine CW.ret ?_ | refine CW.reg (RL.run tO rfl (RL.nil ?_)) | refine CW.condT rfl ?_)
   exact ⟨_, _, _, rfl, AVle.refl _, Store.sub_refl _, rfl, rfl⟩
  | false =>
  refine CW.condF rfl (CW.skip (aN ?_))
  refine CW.seq ?_
  refine CW.seqCut [(2, .int .i64 (d : Int)), (3, .ptr lb 0), (4, .fptr (knownCells ps ss cs o1 o2 o3) 0), (5, .fptr f.cells 0), (127, .bool (badK3 f))] (s.set lb (leftO (k - 1))) ?_ ?_
  ·repeat' (first | refine CW.reg ?_ | refine RL.nil ?_ | refine RL.step tO rfl rfl rfl rfl ?_ | refine RL.skip rfl rfl rfl ?_ | refine RL.gstepT tO rfl rfl rfl rfl rfl rfl rfl (fun _ => ?_) (fun _ => ?_) | refine RL.gstepF tO rfl rfl rfl rfl rfl rfl rfl (fun _ => ?_) (fun _ => ?_) | refine RL.callP rfl rfl rfl rfl rfl (refIn_spec f.n _) ?_)
   all_goals refine ⟨rfl, (by repeat (first | exact trivial | refine ⟨⟨_, rfl, AVle.refl _⟩, ?_⟩ | refine ⟨⟨_, rfl, AVle.of_eq (by (simp only [badK3]; simp_all))⟩, ?_⟩)), Store.sub_refl _⟩
  cases h3 : badK3 f with
  | true =>
   rw [hbad (by unfold okK; rw [h3]; simp)]
   repeat (first | with_reducible refine CW.seq ?_ | with_reducible refine aN ?_ | with_reducible refine aR ?_ | with_reducible refine CW.ret ?_ | refine CW.reg (RL.run tO rfl (RL.nil ?_)) | refine CW.condT rfl ?_)
   exact ⟨_, _, _, rfl, AVle.refl _, Store.sub_refl _, rfl, rfl⟩
  | false =>
  have hokp : okK ps ss cs f = f.path.all ss.contains := by unfold okK; rw [hop, h1, h2, h3]; rfl
  refine CW.condF rfl (CW.skip (aN ?_))
  repeat (first | with_reducible refine CW.seq ?_ | with_reducible refine aN ?_ | with_reducible refine CW.block ?_ | refine CW.reg (RL.run tO rfl (RL.nil ?_)))
  refine CW.loop (σ := Nat) (fun j => [(2, .int .i64 (d : Int)), (3, .ptr lb 0), (4, .fptr (knownCells ps ss cs o1 o2 o3) 0), (5, .fptr f.cells 0), (11, .int .i64 (j : Int))]) (fun _ => s.set lb (leftO (k - 1)))
   (fun j => j ≤ f.path.length ∧ f.path.all ss.contains = (f.path.drop j).all ss.contains) (fun j => f.path.length - j) 0 ⟨by omega, rfl⟩ (by repeat (first | exact trivial | refine ⟨⟨_, rfl, AVle.refl _⟩, ?_⟩)) (Store.sub_refl _) ?_
  rintro j ⟨hj, hI⟩
  repeat (first | with_reducible refine CW.seq ?_ | with_reducible refine aN ?_ | refine CW.reg (RL.run tO rfl (RL.nil ?_)))
  refine CW.cond rfl (fun h => ?_) (fun h => ?_)
  ·have hlt : j < f.path.length := by simpa using h
   obtain ⟨x, hx⟩ : ∃ x, f.path[j]? = some x := ⟨_, List.getElem?_eq_getElem hlt⟩
   have hx' : (strs f.path)[j]? = some (.str x) := by rw [strs_get, hx]; rfl
   repeat (first | with_reducible refine CW.seq ?_ | with_reducible refine aN ?_ | with_reducible refine CW.skip ?_ | with_reducible refine CW.block ?_ | refine CW.drw tO mixed rfl (RD.run rfl ?_))
   refine RD.idx 5 j rfl rfl rfl rfl rfl rfl rfl rfl rfl rfl rfl rfl rfl hx' rfl ?_
   refine RD.run rfl ?_
   refine RD.callP (i := 7) rfl rfl rfl rfl rfl rfl rfl (refHas_spec ss o2 x _ hss) ?_
   refine RD.run rfl (RD.done rfl ?_)
   cases hc : ss.contains x with
   | true =>
    repeat (first | with_reducible refine aN ?_ | with_reducible refine iN ?_ | with_reducible refine CW.skip ?_ | refine CW.reg (RL.run tO rfl (RL.nil ?_)) | refine CW.condF rfl ?_)
    refine ⟨j + 1, ⟨hlt, all_take hx hI hc⟩, (by repeat (first | exact trivial | refine ⟨⟨_, rfl, AVle.refl _⟩, ?_⟩ | refine ⟨⟨_, rfl, AVle.of_eq (by (rw [i64_succ (by omega)]))⟩, ?_⟩)), Store.sub_refl _, by omega⟩
   | false =>
    rw [hbad (by rw [hokp]; exact all_miss hx hc)]
    repeat (first | with_reducible refine CW.seq ?_ | with_reducible refine aN ?_ | with_reducible refine aR ?_ | with_reducible refine iR ?_ | with_reducible refine CW.ret ?_ | refine CW.reg (RL.run tO rfl (RL.nil ?_)) | refine CW.condT rfl ?_)
    exact ⟨_, _, _, rfl, AVle.refl _, Store.sub_refl _, rfl, rfl⟩
  have hge : f.path.length ≤ j := by simpa using h
  rw [List.drop_eq_nil_of_le hge] at hI
  rw [hokp, hI] at hcd
  replace hcd : FFact.cnt ps ss cs d k f = FFact.cnts ps ss cs (d + 1) (k - 1) f.kids := hcd
  rw [hcd]
  clear hbad hI hge h
  repeat (first | with_reducible refine CW.seq ?_ | with_reducible refine aN ?_ | with_reducible refine aX ?_ | with_reducible refine iH ?_ | with_reducible refine CW.exit ?_ | with_reducible refine CW.block ?_ | refine CW.reg (RL.run tO rfl (RL.nil ?_)))
  refine CW.loop (σ := Nat × Int) (fun q => [(2, .int .i64 (d : Int)), (3, .ptr lb 0), (4, .fptr (knownCells ps ss cs o1 o2 o3) 0), (5, .fptr f.cells 0), (12, .int .i64 (q.1 : Int))]) (fun q => s.set lb (leftO q.2))
   (fun q => q.1 ≤ f.kids.length ∧ 0 ≤ q.2 ∧ q.2 ≤ 120 ∧ FFact.cnts ps ss cs (d + 1) q.2 (f.kids.drop q.1) = FFact.cnts ps ss cs (d + 1) (k - 1) f.kids) (fun q => f.kids.length - q.1) (0, k - 1) ⟨by simp, by show 0 ≤ k - 1; omega, by show k - 1 ≤ 120; omega, rfl⟩ ?_ (Store.sub_refl _) ?_
  ·exact (by repeat (first | exact trivial | refine ⟨⟨_, rfl, AVle.refl _⟩, ?_⟩))
  ·rintro ⟨j, kq⟩ ⟨hj, h0, h120, hI⟩
   simp only at hj h0 h120 hI
   repeat (first | with_reducible refine CW.seq ?_ | with_reducible refine aN ?_ | refine CW.reg (RL.run tO rfl (RL.nil ?_)))
   refine CW.cond rfl (fun h => ?_) (fun h => ?_)
   ·have hlt : j < f.kids.length := by rw [hkl] at h; simpa using h
    obtain ⟨c, hk1, hk', hks⟩ := FFact.kid_at hlt
    rw [drop_cons hk1, FFact.cnts] at hI
    have hshc : ∀ x ∈ (Part.fact c).nodes (dd + 1), x.2.texts := fun x hx => hsh x (by rw [fact_nodes]; exact List.mem_cons_of_mem _ (List.mem_flatMap.2 ⟨c, List.mem_of_getElem? hk1, hx⟩))
    have hcall := ih c (dd + 1) (d + 1) kq (s.set lb (leftO kq)) (by omega) (by omega) hshc h0 h120 (by omega) (Store.set_same _ _ _)
    rw [Store.set_set] at hcall
    have hle := FFact.cnt_le ps ss cs c (d + 1) kq
    generalize FFact.cnt ps ss cs (d + 1) kq c = pk at hcall hle hI
    obtain ⟨b, k'⟩ := pk
    have hd1 : IntKind.wrap .i64 ((d : Int) + 1) = ((d + 1 : Nat) : Int) := i64_succ (by omega)
    repeat (first | with_reducible refine CW.seq ?_ | with_reducible refine aN ?_ | with_reducible refine CW.skip ?_ | with_reducible refine CW.block ?_ | refine CW.drw tO mixed rfl (RD.run rfl ?_))
    refine RD.idx 4 j rfl rfl rfl rfl rfl rfl rfl rfl rfl rfl rfl rfl rfl hk' rfl ?_
    refine RD.run rfl ?_
    rw [hd1]
    refine RD.call (i := 9) rfl rfl rfl rfl rfl rfl rfl hcall ?_ (fun _ _ ⟨h, _⟩ => by cases h)
    rintro _ _ ⟨⟨⟩, rfl⟩
    refine RD.run rfl (RD.done rfl ?_)
    cases b with
    | true =>
     obtain ⟨g0, g1⟩ := hle rfl
     repeat (first | with_reducible refine aN ?_ | with_reducible refine iN ?_ | with_reducible refine CW.skip ?_ | refine CW.reg (RL.run tO rfl (RL.nil ?_)) | refine CW.condF rfl ?_)
     refine ⟨(j + 1, k'), ⟨hlt, g0, by show k' ≤ 120; simp only at g1; omega, by simpa using hI⟩, (by repeat (first | exact trivial | refine ⟨⟨_, rfl, AVle.refl _⟩, ?_⟩ | refine ⟨⟨_, rfl, AVle.of_eq (by (show AV.int .i64 (IntKind.wrap .i64 ((j : Int) + 1)) = .int .i64 ((j + 1 : Nat) : Int); rw [i64_succ (by omega)]))⟩, ?_⟩)), Store.sub_refl _, by show f.kids.length - (j + 1) < f.kids.length - j; omega⟩
    | false =>
     rw [← hI]
     repeat (first | with_reducible refine CW.seq ?_ | with_reducible refine aN ?_ | with_reducible refine aR ?_ | with_reducible refine iR ?_ | with_reducible refine CW.ret ?_ | refine CW.reg (RL.run tO rfl (RL.nil ?_)) | refine CW.condT rfl ?_)
     exact ⟨_, _, _, rfl, AVle.refl _, Store.sub_refl _, rfl, rfl⟩
   ·have hge : f.kids.length ≤ j := by rw [hkl] at h; simpa using h
    rw [List.drop_eq_nil_of_le hge, FFact.cnts] at hI
    rw [← hI]
    repeat (first | with_reducible refine CW.seq ?_ | with_reducible refine aN ?_ | with_reducible refine aX ?_ | with_reducible refine iH ?_ | with_reducible refine CW.ret ?_ | with_reducible refine CW.exit ?_ | refine CW.reg (RL.run tO rfl (RL.nil ?_)))
    exact ⟨_, _, _, rfl, AVle.refl _, Store.sub_refl _, rfl, rfl⟩

mutual
def FFact.pl : FFact → Nat
 | .mk _ _ p _ _ ks => p.length + FFact.pls ks
def FFact.pls : List FFact → Nat
 | [] => 0
 | k :: r => FFact.pl k + FFact.pls r
end
theorem FFact.pl_def (f : FFact) : f.pl = f.path.length + FFact.pls f.kids := by cases f; rw [FFact.pl]; rfl
theorem FFact.size_def (f : FFact) : f.size = 1 + FFact.sizes f.kids := by cases f; rw [FFact.size]; rfl

mutual
def FFact.allF : FFact → List FFact
 | .mk o x p c n ks => .mk o x p c n ks :: FFact.allFs ks
def FFact.allFs : List FFact → List FFact
 | [] => []
 | k :: r => FFact.allF k ++ FFact.allFs r
end

mutual
theorem mem_allF : ∀ (f : FFact) (d : Nat) (x : Nat × Part), x ∈ (Part.fact f).nodes d → ∃ g ∈ f.allF, x.2 = .fact g
  | .mk o n p c m ks, d, x, h => by
    rw [fact_nodes, List.mem_cons] at h
    rw [FFact.allF]
    rcases h with rfl | h
    · exact ⟨_, List.mem_cons_self .., rfl⟩
    · obtain ⟨g, hg, hx⟩ := mem_allFs ks (d + 1) x h
      exact ⟨g, List.mem_cons_of_mem _ hg, hx⟩
theorem mem_allFs : ∀ (l : List FFact) (d : Nat) (x : Nat × Part), x ∈ l.flatMap (fun k => (Part.fact k).nodes d) → ∃ g ∈ FFact.allFs l, x.2 = .fact g
  | [], _, _, h => by simp at h
  | k :: r, d, x, h => by
    rw [List.flatMap_cons, List.mem_append] at h
    rw [FFact.allFs]
    rcases h with h | h
    · obtain ⟨g, hg, hx⟩ := mem_allF k d x h
      exact ⟨g, List.mem_append_left _ hg, hx⟩
    · obtain ⟨g, hg, hx⟩ := mem_allFs r d x h
      exact ⟨g, List.mem_append_right _ hg, hx⟩
end

end Go.Proofs.YtaafacnoddjhgaaGreat

/- What weighs little is fair. -/
namespace Go.Proofs.YtaafacnoddjhgaaGreat
open Go.AE

theorem sum_mem {l : List Str} {y : Str} (h : y ∈ l) : y.length ≤ (l.map fun s => s.length + 1).sum := by
 induction l with
 | nil => cases h
 | cons a l ih =>
  simp only [List.map_cons, List.sum_cons]
  rcases List.mem_cons.1 h with rfl | h
  ·omega
  ·have := ih h; omega
theorem sum_len (l : List Str) : l.length ≤ (l.map fun s => s.length + 1).sum := by
 induction l with
 | nil => simp
 | cons a l ih => simp only [List.map_cons, List.sum_cons, List.length_cons]; omega

def FFact.light (W : Nat) (f : FFact) : Prop := f.name.length ≤ W ∧ f.cls.length ≤ W ∧ f.path.length ≤ W ∧ ∀ y ∈ f.path, y.length ≤ W
mutual
theorem fact_light {W : Nat} : ∀ (f : FFact) (d : Nat), f.weight ≤ W → (f.size ≤ f.weight ∧ f.pl ≤ f.weight) ∧ ∀ d' g, (d', Part.fact g) ∈ (Part.fact f).nodes d → g.light W
  | .mk o x p c n ks, d, h => by
    rw [FFact.weight] at h ⊢
    rw [FFact.size, FFact.pl, fact_nodes]
    have h1 := facts_light ks (d + 1) (by omega : FFact.weights ks ≤ W)
    have h2 := sum_len p
    refine ⟨⟨by omega, by omega⟩, fun d' g hg => ?_⟩
    rcases List.mem_cons.1 hg with hg | hg
    · cases hg
      exact ⟨by show x.length ≤ _; omega, by show c.length ≤ _; omega, by show p.length ≤ _; omega, fun y hy => by have := sum_mem hy; simp only [FFact.path] at this; omega⟩
    · exact h1.2 d' g hg
theorem facts_light {W : Nat} : ∀ (l : List FFact) (d : Nat), FFact.weights l ≤ W → (FFact.sizes l ≤ FFact.weights l ∧ FFact.pls l ≤ FFact.weights l) ∧ ∀ d' g, (d', Part.fact g) ∈ l.flatMap (fun k => (Part.fact k).nodes d) → g.light W
  | [], _, _ => ⟨⟨Nat.le_refl _, Nat.le_refl _⟩, fun _ _ h => by simp at h⟩
  | k :: r, d, h => by
    rw [FFact.weights] at h ⊢
    rw [FFact.sizes, FFact.pls, List.flatMap_cons]
    have h1 := fact_light k d (by omega : k.weight ≤ W)
    have h2 := facts_light r d (by omega : FFact.weights r ≤ W)
    refine ⟨⟨by omega, by omega⟩, fun d' g hg => ?_⟩
    rcases List.mem_append.1 hg with hg | hg
    · exact h1.2 d' g hg
    · exact h2.2 d' g hg
end
theorem fact_fair {f : FFact} (h : f.weight ≤ 1048576) : f.Fair ∧ f.pl < big ∧ f.Slim 1 := by
 obtain ⟨⟨h1, h2⟩, h3⟩ := fact_light f 1 h
 have hb : big = 1099511627776 := rfl
 refine ⟨⟨by omega, fun x hx => ?_⟩, by omega, fun d' g hg => ?_⟩
 ·obtain ⟨g, hg⟩ := nodes_fact hx
  obtain ⟨d, p⟩ := x
  simp only at hg
  subst hg
  obtain ⟨a, b, c, e⟩ := h3 d g hx
  exact ⟨by omega, by omega, by omega, fun y hy => by have := e y hy; omega⟩
 ·obtain ⟨a, b, c, e⟩ := h3 d' g hg
  omega

theorem map_sum_mem {α : Type} {f : α → Nat} {l : List α} {x : α} (h : x ∈ l) : f x ≤ (l.map f).sum := by
 induction l with
 | nil => cases h
 | cons a l ih =>
  simp only [List.map_cons, List.sum_cons]
  rcases List.mem_cons.1 h with rfl | h
  ·omega
  ·have := ih h; omega
theorem map_sum_len {α : Type} {f : α → Nat} (hf : ∀ x, 1 ≤ f x) (l : List α) : l.length ≤ (l.map f).sum := by
 induction l with
 | nil => simp
 | cons a l ih => have := hf a; simp only [List.map_cons, List.sum_cons, List.length_cons]; omega
theorem flatMap_len {α β : Type} {f : α → List β} {w : α → Nat} (hf : ∀ x, (f x).length ≤ w x) (l : List α) : (l.flatMap f).length ≤ (l.map w).sum := by
 induction l with
 | nil => simp
 | cons a l ih => have := hf a; simp only [List.map_cons, List.sum_cons, List.flatMap_cons, List.length_append]; omega

theorem strs_fair {l : List Str} (h : sumS l ≤ 1048576) : Strs l := by
 have h1 := sum_len l
 have hb : big = 1099511627776 := rfl
 unfold sumS at h
 exact ⟨by omega, fun x hx => by have := sum_mem hx; show x.length < _; omega⟩

theorem prog_fair {P : FProg} (h : P.weight ≤ 1048576) : P.Fair ∧ P.Slim := by
 have hb : big = 1099511627776 := rfl
 unfold FProg.weight at h
 have hcl := map_sum_len (f := FClass.weight) (fun x => by unfold FClass.weight; omega) P.classes
 have hml := map_sum_len (f := FMethod.weight) (fun x => by unfold FMethod.weight; omega) P.methods
 have hme : ∀ m ∈ P.methods, m.weight ≤ 1048576 := fun m hm => by have := map_sum_mem (f := FMethod.weight) hm; omega
 have hmf : ∀ m ∈ P.methods, m.fact.weight ≤ 1048576 ∧ m.body.weight ≤ 1048576 ∧ m.name.length ≤ 1048576 ∧ sumS m.params ≤ 1048576 := fun m hm => by
  have := hme m hm
  unfold FMethod.weight at this
  exact ⟨by omega, by omega, by omega, by omega⟩
 have hsz : ∀ e : FExp, e.weight ≤ 1048576 → e.size ≤ e.weight := fun e he => (exp_light e he).1
 refine ⟨⟨by omega, fun c hc => ?_, by omega, fun m hm => ?_, exp_fair (by omega), ?_, ?_⟩, fun m hm => (fact_fair (hmf m hm).1).2.2⟩
 ·have h1 := map_sum_mem (f := FClass.weight) hc
  replace h1 : c.weight ≤ 1048576 := by omega
  unfold FClass.weight at h1
  have h2 := map_sum_len (f := FInit.weight) (fun x => by unfold FInit.weight; omega) c.inits
  refine ⟨by show c.name.length < _; omega, strs_fair (by omega), strs_fair (by omega), by omega, fun x hx => ?_⟩
  have h3 := map_sum_mem (f := FInit.weight) hx
  replace h3 : x.weight ≤ 1048576 := by omega
  unfold FInit.weight at h3
  show x.slot.length < _; omega
 ·obtain ⟨a, b, c, d⟩ := hmf m hm
  exact ⟨by show m.name.length < _; omega, strs_fair d, (fact_fair a).1, exp_fair b⟩
 ·have hcalls : ∀ l : List FExp, (callsL l).length ≤ l.length := fun l => by unfold callsL; rw [List.length_map]; exact List.length_filter_le _ _
  have h1 := flatMap_len (f := fun e => callsL e.allE) (w := FExp.size) (fun e => by have := hcalls e.allE; rw [allE_length] at this; exact this) (P.methods.map FMethod.body ++ [P.main])
  have h2 : (((P.methods.map FMethod.body ++ [P.main]).map FExp.size).sum) ≤ (P.methods.map FMethod.weight).sum + P.main.weight := by
   rw [List.map_append, List.sum_append]
   have h3 := hsz P.main (by omega)
   have h4 : ∀ l : List FMethod, (∀ m ∈ l, m.weight ≤ 1048576) → ((l.map FMethod.body).map FExp.size).sum ≤ (l.map FMethod.weight).sum := by
    intro l hl
    induction l with
    | nil => simp
    | cons a l ih =>
     have := ih fun m hm => hl m (List.mem_cons_of_mem _ hm)
     have q := hl a (List.mem_cons_self ..)
     unfold FMethod.weight at q
     have q2 := hsz a.body (by omega)
     simp only [List.map_cons, List.sum_cons, FMethod.weight]
     omega
   have := h4 P.methods hme
   simp only [List.map_cons, List.map_nil, List.sum_cons, List.sum_nil]
   omega
  unfold progNotes
  rw [List.length_append]
  have : (methodNotes P.methods).length = P.methods.length := by unfold methodNotes; rw [List.length_map]
  omega
 ·have := flatMap_len (f := FClass.slots) (w := FClass.weight) (fun c => by have := sum_len c.slots; unfold FClass.weight sumS; omega) P.classes
  omega
end Go.Proofs.YtaafacnoddjhgaaGreat

/- The theorem of substitution, in plain Lean: expressions in which bound names are numbers. -/
namespace Go.Proofs.YtaafacnoddjhgaaGreat
open Go.AE

mutual
def FExp.sub : FExp → Str → FExp → FExp
 | .mk o n t ks, x, y => if o == 3 then (if n == 0 && t == x then y else .mk o n t ks) else .mk o n t (FExp.subs ks x y)
def FExp.subs : List FExp → Str → FExp → List FExp
 | [], _, _ => []
 | k :: r, x, y => FExp.sub k x y :: FExp.subs r x y
end

mutual
def FExp.fv : FExp → List Str
 | .mk o n t ks => if o == 3 then (if n == 0 then [t] else []) else FExp.fvs ks
def FExp.fvs : List FExp → List Str
 | [] => []
 | k :: r => FExp.fv k ++ FExp.fvs r
end

def neat1 (g : FExp) : Bool := (!(g.op == 3) || (g.n == 0 && g.kids.isEmpty)) && (!(g.op == 9) || g.kids.length == 2)
mutual
def FExp.neat : FExp → Bool
 | .mk o n t ks => neat1 (.mk o n t ks) && FExp.neats ks
def FExp.neats : List FExp → Bool
 | [] => true
 | k :: r => FExp.neat k && FExp.neats r
end
mutual
theorem neat_of : ∀ (e : FExp), (∀ g ∈ e.allE, neat1 g = true) → e.neat = true
  | .mk o n t ks, h => by
    rw [FExp.allE] at h
    rw [FExp.neat, Bool.and_eq_true]
    exact ⟨h _ (List.mem_cons_self ..), neats_of ks (fun g hg => h g (List.mem_cons_of_mem _ hg))⟩
theorem neats_of : ∀ (l : List FExp), (∀ g ∈ FExp.allEs l, neat1 g = true) → FExp.neats l = true
  | [], _ => rfl
  | k :: r, h => by
    rw [FExp.neats, Bool.and_eq_true]
    rw [FExp.allEs] at h
    exact ⟨neat_of k (fun g hg => h g (List.mem_append_left _ hg)), neats_of r (fun g hg => h g (List.mem_append_right _ hg))⟩
end
theorem neats_mem : ∀ {l : List FExp} {k : FExp}, FExp.neats l = true → k ∈ l → k.neat = true
  | k :: r, x, h, hx => by
    rw [FExp.neats, Bool.and_eq_true] at h
    rcases List.mem_cons.1 hx with rfl | hx
    · exact h.1
    · exact neats_mem h.2 hx

theorem good_neat {e : FExp} (h : goodB e = true) : e.neat = true := by
 refine neat_of e fun g hg => ?_
 have := goodB_node h hg
 have h3 : shapeOf 3 = some (true, 0, 0) := by decide
 have h9 : shapeOf 9 = some (true, 2, 2) := by decide
 obtain ⟨o, n, t, ks⟩ := g
 have hkl : (FExp.mk o n t ks).kav.length = ks.length := FExp.kav_length _
 simp only [nodeE, nodeE1, nodeE2, FExp.op, FExp.n, FExp.text, hkl] at this
 simp only [neat1, FExp.op, FExp.n, FExp.kids]
 by_cases h1 : o = 3
 ·subst h1
  rw [h3] at this
  match ks, this with
  | [], this =>
   simp [shA, shB, shN] at this
   simp
   exact this.2.2
  | k :: r, this =>
   simp [shA, shB, shN] at this
   exact absurd (of_decide_eq_true this.1.2.1) (by omega)
 ·by_cases h2 : o = 9
  ·subst h2
   rw [h9] at this
   match ks, this with
   | [], this => simp [shA, shB, shN] at this
   | [_], this => simp [shA, shB, shN] at this
   | [_, _], _ => simp
   | _ :: _ :: _ :: r, this =>
    simp [shA, shB, shN] at this
    exact absurd (of_decide_eq_true this.1.2.1) (by omega)
  ·simp [h1, h2]

theorem mem_addAll {v : Str} : ∀ {l acc : List Str}, v ∈ addAll acc l ↔ v ∈ acc ∨ v ∈ l
  | [], acc => by simp [addAll]
  | x :: l, acc => by
    show v ∈ addAll (insS acc x) l ↔ _
    rw [mem_addAll, mem_insS, List.mem_cons, or_assoc]
theorem mem_frees {e : FExp} {v : Str} : v ∈ e.frees ↔ v ∈ e.loose [] := by
 unfold FExp.frees; rw [mem_addAll]; simp

end Go.Proofs.YtaafacnoddjhgaaGreat

/- Contracts of the reference: with, loose, Sort, FreeOf, texts. -/
namespace Go.Proofs.YtaafacnoddjhgaaGreat
open Go.AE

section
variable {P : Program} {Γ : Tys} {N : Nat} {env : Env} {s : Store}
theorem OW.appendN (hΓ : TysOk P Γ) {o : Oper} {t t' e : TypeId} {x y : Operand} {it it' ie : TI} {sx sy : Nat} {ys : List AV} {oy : Own}
  (ho : o.op = .call { callee := .builtin .append, args := #[x, y], argTypes := #[t, t'] }) (ht : Γ.get? t = some it) (htd : it.td = .slc e) (ht' : Γ.get? t' = some it') (htd' : ∀ k, it'.td ≠ .int k)
  (hie : Γ.get? e = some ie) (hx : ev env x = some (.slc sx [] .nil)) (hy : ev env y = some (.slc sy ys oy)) (hsy : ys = [] ∨ sy = ie.size)
  (hzs' : Nat.beq ie.zero.cells.size ie.size = true) (hel : ∀ y ∈ ys, elemOk ie.size y = true) (hb : ys.length * ie.bytes ≤ 140737488355328) (h63 : ys.length ≤ 9223372036854775807) {X : AV → Store → Prop} :
  OW P N o env s (fun r s' => ∃ own', OwnOk s ys.length own' ∧ r = .slc ie.size ys own' ∧ s' = rowOf s e ie.size ys.length own') X := by
 refine OW.mono (OW.append hΓ ho ht htd ht' htd' hie hx hy (.inl rfl) hsy hzs' hel (by simpa using hb) (by simpa using h63) (.inl (.inl rfl)) (X := X)) ?_ (fun _ _ h => h)
 rintro r s' (⟨h1, -, rfl, rfl⟩ | ⟨s₁, hs₁, b, h1, rfl, rfl⟩)
 ·exact ⟨.nil, trivial, by rw [h1], rfl⟩
 ·rcases hs₁ with rfl | ⟨b', e, -⟩
  ·exact ⟨.own b, h1, by simp, by simp [rowOf]⟩
  ·cases e
variable {ops : Array Oper} {l : List Oper} {Q : AEx → Env → Store → Prop} {o : Oper} {d m : Nat}
theorem RL.appendN (hΓ : TysOk P Γ) {t t' e : TypeId} {x y : Operand} {it it' ie : TI} {sx sy n : Nat} {ys : List AV} {oy : Own} (hg : guardOf ops env o = some true) (hd : o.dst = some d) (hN : Nat.blt d N = true)
  (ho : o.op = .call { callee := .builtin .append, args := #[x, y], argTypes := #[t, t'] }) (ht : Γ.get? t = some it) (htd : it.td = .slc e) (ht' : Γ.get? t' = some it') (htd' : ∀ k, it'.td ≠ .int k)
  (hie : Γ.get? e = some ie) (hx : ev env x = some (.slc sx [] .nil)) (hy : ev env y = some (.slc sy ys oy)) (hsy : ys = [] ∨ sy = ie.size)
  (hzs' : Nat.beq ie.zero.cells.size ie.size = true) (hel : ∀ y ∈ ys, elemOk ie.size y = true) (hn : n = ys.length) (hb : n * ie.bytes ≤ 140737488355328) (h63 : n ≤ 9223372036854775807)
  (h : ∀ own', OwnOk s n own' → RL P N ops l Q ((d, .slc ie.size ys own') :: env) (rowOf s e ie.size n own')) : RL P N ops (o :: l) Q env s := by
 subst hn
 refine RL.op hg hd hN (OW.appendN hΓ ho ht htd ht' htd' hie hx hy hsy hzs' hel hb h63 (X := fun _ _ => False)) ?_ (fun _ _ h => h.elim)
 rintro r s' ⟨own', h1, rfl, rfl⟩
 exact h own' h1
theorem RD.appendN (hΓ : TysOk P Γ) {i : Nat} {t t' e : TypeId} {x y : Operand} {it it' ie : TI} {sx sy n : Nat} {ys : List AV} {oy : Own} (hr : readyL l.toArray m (idxs 0 l) = [i]) (ho : l.toArray[i]? = some o) (hd : o.dst = some d) (hN : Nat.blt d N = true)
  (hg : guardOf l.toArray (pickE env (looks l.toArray o)) o = some true) (hop : o.op = .call { callee := .builtin .append, args := #[x, y], argTypes := #[t, t'] }) (ht : Γ.get? t = some it) (htd : it.td = .slc e) (ht' : Γ.get? t' = some it') (htd' : ∀ k, it'.td ≠ .int k)
  (hie : Γ.get? e = some ie) (hx : ev (pickE env (looks l.toArray o)) x = some (.slc sx [] .nil)) (hy : ev (pickE env (looks l.toArray o)) y = some (.slc sy ys oy)) (hsy : ys = [] ∨ sy = ie.size)
  (hzs' : Nat.beq ie.zero.cells.size ie.size = true) (hel : ∀ y ∈ ys, elemOk ie.size y = true) (hn : n = ys.length) (hb : n * ie.bytes ≤ 140737488355328) (h63 : n ≤ 9223372036854775807)
  (h : ∀ own', OwnOk s n own' → RD P Γ N l.toArray Q (dn (m ||| 2 ^ i)) ((d, .slc ie.size ys own') :: env) (rowOf s e ie.size n own')) : RD P Γ N l.toArray Q (dn m) env s := by
 subst hn
 refine RD.one hr ho hd hN hg (OW.appendN hΓ hop ht htd ht' htd' hie hx hy hsy hzs' hel hb h63 (X := fun _ _ => False)) ?_ (fun _ _ h => h.elim)
 rintro r s' ⟨own', h1, rfl, rfl⟩
 exact h own' h1
end

set_option maxRecDepth 10000 in
theorem refWith_spec (l : List Str) (own : Own) (x : Str) (s : Store) (hl : l.length < big) :
  ACalls Tryz.prog 128 [.slc 1 (strs l) own, .str x] s (fun o s' => o = .ret (.slc 1 (strs (insS l x)) .fro) ∧ s' = s) := by
 have hb : big = 1099511627776 := rfl
 refine ACalls.of_CW tO call128 Tryz.func128 rfl rfl ?_
 have hcall := refHas_spec l own x s (by omega)
 cases hc : l.contains x with
 | true =>
  rw [hc] at hcall
  repeat (first | with_reducible refine CW.seq ?_ | with_reducible refine aN ?_ | refine CW.reg (RL.run tO rfl (RL.nil ?_)) | refine CW.reg ?_ | refine RL.step tO rfl rfl rfl rfl ?_)
  refine RL.callP rfl rfl rfl rfl rfl hcall ?_
  repeat (first | with_reducible refine CW.seq ?_ | with_reducible refine aN ?_ | with_reducible refine aR ?_ | with_reducible refine CW.ret ?_ | refine CW.reg (RL.run tO rfl (RL.nil ?_)) | refine RL.nil ?_ | refine CW.condT rfl ?_)
  exact ⟨_, _, _, rfl, AVle.fro, Store.sub_refl _, by rw [insS, if_pos hc], rfl⟩
 | false =>
  rw [hc] at hcall
  repeat (first | with_reducible refine CW.seq ?_ | with_reducible refine aN ?_ | refine CW.reg (RL.run tO rfl (RL.nil ?_)) | refine CW.reg ?_ | refine RL.step tO rfl rfl rfl rfl ?_)
  refine RL.callP rfl rfl rfl rfl rfl hcall ?_
  repeat (first | with_reducible refine CW.seq ?_ | with_reducible refine aN ?_ | with_reducible refine CW.skip ?_ | refine CW.reg ?_ | refine RL.nil ?_ | refine CW.condF rfl ?_ | refine RL.step tO rfl rfl rfl rfl ?_)
  refine RL.appendN tO rfl rfl rfl rfl rfl rfl rfl (by intro k h; cases h) rfl rfl rfl (.inr rfl) rfl (strs_elem _) (n := l.length) (strs_length _).symm (by show l.length * 16 ≤ _; omega) (by omega) (fun o1 h1 => ?_)
  repeat (first | refine RL.step tO rfl rfl rfl rfl ?_)
  refine RL.append1 tO rfl rfl rfl rfl rfl rfl rfl (by intro k h; cases h) rfl rfl rfl rfl rfl rfl rfl (strs_length _).symm (by show (l.length + 1) * 16 ≤ _; omega) (by omega) (s := s) rfl h1 (fun rb hrb => ?_)
  repeat (first | with_reducible refine aN ?_ | with_reducible refine CW.ret ?_ | refine RL.nil ?_ | refine RL.step tO rfl rfl rfl rfl ?_)
  refine ⟨_, _, s, rfl, AVle.fro, Store.sub_set _ _ _ hrb, ?_, rfl⟩
  rw [insS, if_neg (by rw [hc]; simp)]; simp [strs]

/-! ### Free names -/
mutual
def FExp.looseR : List Str → FExp → List Str
 | b, .mk o _ t ks => if o == 3 && !b.contains t then [t] else FExp.loosesR (o == 9) t b 0 ks
def FExp.loosesR (isLet : Bool) (t : Str) (b : List Str) : Nat → List FExp → List Str
 | _, [] => []
 | i, k :: r => FExp.looseR (if isLet && i == 1 then insS b t else b) k ++ FExp.loosesR isLet t b (i + 1) r
end
theorem FExp.looseR_def (b : List Str) (e : FExp) : e.looseR b = if e.op == 3 && !b.contains e.text then [e.text] else FExp.loosesR (e.op == 9) e.text b 0 e.kids := by cases e; rw [FExp.looseR]; rfl

mutual
theorem looseR_eq : ∀ (e : FExp) (b c : List Str), e.neat = true → (∀ z, z ∈ b ↔ z ∈ c) → e.looseR b = e.loose c
  | .mk o n t ks, b, c, h, hbc => by
    rw [FExp.neat, Bool.and_eq_true] at h
    rw [FExp.looseR, FExp.loose]
    have hct : b.contains t = c.contains t := by rw [Bool.eq_iff_iff, List.contains_iff_mem, List.contains_iff_mem]; exact hbc t
    by_cases h3 : o = 3
    · subst h3
      have hk : ks = [] := by
        have := h.1
        simp [neat1, FExp.op, FExp.n, FExp.kids] at this
        exact this.2
      subst hk
      rw [hct]
      cases c.contains t <;> simp [FExp.loosesR, FExp.looses]
    · have h3' : (o == 3) = false := by simpa using h3
      rw [h3', loosesR_eq ks (o == 9) t b c 0 h.2 hbc]
      simp
theorem loosesR_eq : ∀ (ks : List FExp) (isLet : Bool) (t : Str) (b c : List Str) (i : Nat), FExp.neats ks = true → (∀ z, z ∈ b ↔ z ∈ c) → FExp.loosesR isLet t b i ks = FExp.looses isLet t c i ks
  | [], _, _, _, _, _, _, _ => rfl
  | k :: r, isLet, t, b, c, i, h, hbc => by
    rw [FExp.neats, Bool.and_eq_true] at h
    rw [FExp.loosesR, FExp.looses, loosesR_eq r isLet t b c (i + 1) h.2 hbc]
    congr 1
    cases isLet && i == 1 with
    | false => exact looseR_eq k b c h.1 hbc
    | true => exact looseR_eq k (insS b t) (t :: c) h.1 (fun z => by rw [mem_insS, List.mem_cons, hbc z, or_comm])
end
mutual
theorem looseR_len : ∀ (e : FExp) (b : List Str), (e.looseR b).length ≤ e.size
  | .mk o n t ks, b => by
    rw [FExp.looseR, FExp.size]
    have := loosesR_len ks (o == 9) t b 0
    split
    · simp
    · omega
theorem loosesR_len : ∀ (ks : List FExp) (isLet : Bool) (t : Str) (b : List Str) (i : Nat), (FExp.loosesR isLet t b i ks).length ≤ FExp.sizes ks
  | [], _, _, _, _ => by simp [FExp.loosesR, FExp.sizes]
  | k :: r, isLet, t, b, i => by
    rw [FExp.loosesR, FExp.sizes, List.length_append]
    have := looseR_len k (if isLet && i == 1 then insS b t else b)
    have := loosesR_len r isLet t b (i + 1)
    omega
end

set_option maxRecDepth 10000 in
set_option maxHeartbeats 1000000 in
theorem refLoose_spec : ∀ (n : Nat) (e : FExp) (b : List Str) (ob : Own) (s : Store), e.size ≤ n → b.length + e.size < big →
  ACalls Tryz.prog 86 [e.av, .slc 1 (strs b) ob] s (fun o s' => o = .ret (.slc 1 (strs (e.looseR b)) .fro) ∧ s' = s) := by
 intro n
 induction n with
 | zero => intro e b ob s h; have := e.size_pos; omega
 | succ n ih =>
  intro e b ob s hn hbig
  have hlen := e.kids_length
  have hkl := e.kav_length
  have hb : big = 1099511627776 := rfl
  have hdef := e.looseR_def b
  refine ACalls.of_CW tO call86 Tryz.func86 rfl rfl ?_
  refine CW.seqCut [(1, .slc 1 (strs b) ob), (2, .fptr e.cells 0)] s ?_ ?_
  ·repeat (first | refine CW.reg (RL.run tO rfl (RL.nil ?_)))
   exact ⟨rfl, (by repeat (first | exact trivial | refine ⟨⟨_, rfl, AVle.refl _⟩, ?_⟩)), Store.sub_refl _⟩
  refine CW.seq ?_
  refine CW.seqCut [(1, .slc 1 (strs b) ob), (2, .fptr e.cells 0), (17, .bool (e.op == 3 && !b.contains e.text))] s ?_ ?_
  ·repeat' (first | refine CW.reg ?_ | refine RL.nil ?_ | refine RL.step tO rfl rfl rfl rfl ?_ | refine RL.skip rfl rfl rfl ?_ | refine RL.gstepT tO rfl rfl rfl rfl rfl rfl rfl (fun _ => ?_) (fun _ => ?_) | refine RL.callP rfl rfl rfl rfl rfl (refHas_spec b ob e.text _ (by omega)) ?_)
   all_goals refine ⟨rfl, (by repeat (first | exact trivial | refine ⟨⟨_, rfl, AVle.refl _⟩, ?_⟩ | refine ⟨⟨_, rfl, AVle.of_eq (by (simp_all))⟩, ?_⟩)), Store.sub_refl _⟩
  cases hc : e.op == 3 && !b.contains e.text with
  | true =>
   rw [hc, if_pos rfl] at hdef
   repeat (first | with_reducible refine CW.seq ?_ | with_reducible refine aN ?_ | with_reducible refine aR ?_ | with_reducible refine CW.ret ?_ | refine CW.reg (RL.run tO rfl (RL.nil ?_)) | refine CW.condT rfl ?_)
   exact ⟨_, _, _, rfl, AVle.fro, Store.sub_refl _, by rw [hdef]; rfl, rfl⟩
  | false =>
  rw [hc, if_neg (by simp)] at hdef
  refine CW.condF rfl (CW.skip (aN ?_))
  repeat (first | with_reducible refine CW.seq ?_ | with_reducible refine aN ?_ | with_reducible refine CW.block ?_ | refine CW.reg (RL.run tO rfl (RL.nil ?_)))
  refine CW.loop (σ := Nat × Own × List Str) (fun q => [(1, .slc 1 (strs b) ob), (2, .fptr e.cells 0), (5, .slc 1 (strs q.2.2) q.2.1), (6, .int .i64 (q.1 : Int))])
   (fun q => rowOf s 9 1 q.2.2.length q.2.1) (fun q => q.1 ≤ e.kids.length ∧ OwnOk s 0 q.2.1 ∧ q.2.2 ++ FExp.loosesR (e.op == 9) e.text b q.1 (e.kids.drop q.1) = e.looseR b) (fun q => e.kids.length - q.1) (0, .nil, []) ⟨by simp, trivial, by rw [hdef]; rfl⟩ ?_ (Store.sub_refl _) ?_
  ·exact ⟨⟨_, rfl, AVle.refl _⟩, ⟨_, rfl, AVle.refl _⟩, ⟨_, rfl, AVle.nil (by simp)⟩, ⟨_, rfl, AVle.refl _⟩, trivial⟩
  rintro ⟨j, own, acc⟩ ⟨hj, hok, hI⟩
  simp only at hj hok hI
  repeat (first | with_reducible refine CW.seq ?_ | with_reducible refine aN ?_ | refine CW.reg (RL.run tO rfl (RL.nil ?_)))
  refine CW.cond rfl (fun h => ?_) (fun h => ?_)
  ·have hlt : j < e.kids.length := by rw [hkl] at h; simpa using h
   obtain ⟨k, hk, hk', hks⟩ := FExp.kid_at hlt
   rw [drop_cons hk, FExp.loosesR, ← List.append_assoc] at hI
   have hl := looseR_len e b
   rw [← hI, List.length_append, List.length_append] at hl
   have hil : (insS b e.text).length ≤ b.length + 1 := insS_len _ _
   refine CW.skip (aN (CW.seq (CW.block ?_)))
   refine CW.seqCut [(1, .slc 1 (strs b) ob), (2, .fptr e.cells 0), (5, .slc 1 (strs acc) own), (6, .int .i64 (j : Int)), (7, .slc 1 (strs b) .fro)] (rowOf s 9 1 acc.length own) ?_ ?_
   ·repeat (first | refine CW.reg (RL.run tO rfl (RL.nil ?_)))
    exact ⟨rfl, ⟨⟨_, rfl, AVle.refl _⟩, ⟨_, rfl, AVle.refl _⟩, ⟨_, rfl, AVle.refl _⟩, ⟨_, rfl, AVle.refl _⟩, ⟨_, rfl, AVle.fro⟩, trivial⟩, Store.sub_refl _⟩
   refine CW.seqCut [(1, .slc 1 (strs b) ob), (2, .fptr e.cells 0), (5, .slc 1 (strs acc) own), (6, .int .i64 (j : Int)), (7, .slc 1 (strs (if e.op == 9 && j == 1 then insS b e.text else b)) .fro)] (rowOf s 9 1 acc.length own) ?_ ?_
   ·refine CW.seqCut [(1, .slc 1 (strs b) ob), (2, .fptr e.cells 0), (5, .slc 1 (strs acc) own), (6, .int .i64 (j : Int)), (7, .slc 1 (strs b) .fro), (35, .bool (e.op == 9 && j == 1))] (rowOf s 9 1 acc.length own) ?_ ?_
    ·repeat' (first | refine CW.reg ?_ | refine RL.nil ?_ | refine RL.step tO rfl rfl rfl rfl ?_ | refine RL.skip rfl rfl rfl ?_ | refine RL.gstepT tO rfl rfl rfl rfl rfl rfl rfl (fun _ => ?_) (fun _ => ?_))
     all_goals refine ⟨rfl, (by repeat (first | exact trivial | refine ⟨⟨_, rfl, AVle.refl _⟩, ?_⟩ | refine ⟨⟨_, rfl, AVle.of_eq (by (first | (simp_all; done) | (simp_all; rw [Bool.eq_iff_iff]; simp; omega)))⟩, ?_⟩)), Store.sub_refl _⟩
    cases hc9 : e.op == 9 && j == 1 with
    | true =>
     repeat (first | refine CW.reg ?_ | refine CW.condT rfl ?_ | refine RL.step tO rfl rfl rfl rfl ?_)
     refine RL.callP rfl rfl rfl rfl rfl (refWith_spec b ob e.text _ (by omega)) ?_
     repeat (first | refine RL.nil ?_ | refine RL.step tO rfl rfl rfl rfl ?_)
     exact ⟨rfl, (by repeat (first | exact trivial | refine ⟨⟨_, rfl, AVle.refl _⟩, ?_⟩)), Store.sub_refl _⟩
    | false =>
     repeat (first | with_reducible refine CW.skip ?_ | refine CW.condF rfl ?_)
     exact ⟨rfl, (by repeat (first | exact trivial | refine ⟨⟨_, rfl, AVle.refl _⟩, ?_⟩)), Store.sub_refl _⟩
   have hbb : (if e.op == 9 && j == 1 then insS b e.text else b).length ≤ b.length + 1 := by split <;> omega
   generalize (if e.op == 9 && j == 1 then insS b e.text else b) = bb at hbb hI hl ⊢
   repeat (first | refine CW.reg ?_ | refine RL.step tO rfl rfl rfl rfl ?_ | refine RL.idx tO _ rfl rfl rfl rfl rfl rfl rfl rfl rfl rfl rfl (by assumption) rfl ?_)
   refine RL.callP rfl rfl rfl rfl rfl (ih k bb .fro _ (by omega) (by omega)) ?_
   refine RL.appendR tO rfl rfl rfl rfl rfl rfl rfl (by intro k h; cases h) rfl rfl rfl rfl (.inr rfl) rfl (strs_elem _) (n := acc.length) ?_ ?_ (strs_length _).symm rfl (OwnOk.sub' hok) ?_
   ·simp only [strs_length]; show _ * 16 ≤ _; omega
   ·simp only [strs_length]; omega
   rintro own' h1
   repeat (first | with_reducible refine aN ?_ | with_reducible refine iN ?_ | refine CW.reg (RL.run tO rfl (RL.nil ?_)) | refine RL.nil ?_ | refine RL.step tO rfl rfl rfl rfl ?_)
   refine ⟨(j + 1, own', acc ++ k.looseR bb), ⟨hlt, OwnOk.sub' h1, hI⟩, (by repeat (first | exact trivial | refine ⟨⟨_, rfl, AVle.refl _⟩, ?_⟩ | refine ⟨⟨_, rfl, AVle.of_eq (by (first | (show AV.int .i64 (IntKind.wrap .i64 ((j : Int) + 1)) = .int .i64 ((j + 1 : Nat) : Int); rw [i64_succ (by omega)]) | (simp [strs])))⟩, ?_⟩)), ?_, by show e.kids.length - (j + 1) < e.kids.length - j; omega⟩
   show Store.Sub (rowOf s _ 1 (acc ++ k.looseR bb).length own') _
   rw [List.length_append, strs_length, strs_length]
   exact Store.sub_refl _
  ·have hge : e.kids.length ≤ j := by rw [hkl] at h; simpa using h
   rw [List.drop_eq_nil_of_le hge, FExp.loosesR, List.append_nil] at hI
   repeat (first | with_reducible refine CW.seq ?_ | with_reducible refine aN ?_ | with_reducible refine aX ?_ | with_reducible refine iH ?_ | with_reducible refine CW.ret ?_ | with_reducible refine CW.exit ?_ | refine CW.reg (RL.run tO rfl (RL.nil ?_)))
   exact ⟨_, _, s, rfl, AVle.fro, rowOf_sub hok, by rw [hI], rfl⟩

end Go.Proofs.YtaafacnoddjhgaaGreat

/- Contracts of the reference: Sort, FreeOf. -/
namespace Go.Proofs.YtaafacnoddjhgaaGreat
open Go.AE

def cutS (out : List Str) (x : Str) : Nat := (out.takeWhile fun y => Op.bytesLess y x).length
def insSo (out : List Str) (x : Str) : List Str := if (cutS out x == out.length) || !(out[cutS out x]? == some x) then out.take (cutS out x) ++ [x] ++ out.drop (cutS out x) else out
def sortS (l : List Str) : List Str := l.foldl insSo []
theorem insSo_len (out : List Str) (x : Str) : (insSo out x).length ≤ out.length + 1 := by
 unfold insSo
 split
 ·simp only [List.length_append, List.length_take, List.length_drop, List.length_cons, List.length_nil]; omega
 ·omega
theorem cutS_le (out : List Str) (x : Str) : cutS out x ≤ out.length := by
 unfold cutS
 induction out with
 | nil => simp
 | cons y r ih => rw [List.takeWhile_cons]; split <;> simp <;> omega

set_option maxRecDepth 10000 in
set_option maxHeartbeats 1000000 in
theorem refSort_spec (l : List Str) (ol : Own) (s : Store) (hl : l.length < big) :
  ACalls Tryz.prog 85 [.slc 1 (strs l) ol] s (fun o s' => o = .ret (.slc 1 (strs (sortS l)) .fro) ∧ s' = s) := by
 have hb : big = 1099511627776 := rfl
 refine ACalls.of_CW tO call85 Tryz.func85 rfl rfl ?_
 repeat (first | with_reducible refine CW.seq ?_ | with_reducible refine aN ?_ | with_reducible refine CW.block ?_ | refine CW.reg (RL.run tO rfl (RL.nil ?_)))
 refine CW.loop (σ := Nat × Own × List Str) (fun q => [(0, .slc 1 (strs l) ol), (3, .slc 1 (strs q.2.2) q.2.1), (4, .int .i64 (q.1 : Int))])
  (fun q => rowOf s 9 1 q.2.2.length q.2.1) (fun q => q.1 ≤ l.length ∧ OwnOk s 0 q.2.1 ∧ q.2.2.length ≤ q.1 ∧ (l.drop q.1).foldl insSo q.2.2 = sortS l) (fun q => l.length - q.1) (0, .nil, []) ⟨by simp, trivial, by simp, rfl⟩ ?_ (Store.sub_refl _) ?_
 ·exact ⟨⟨_, rfl, AVle.refl _⟩, ⟨_, rfl, AVle.nil (by simp)⟩, ⟨_, rfl, AVle.refl _⟩, trivial⟩
 rintro ⟨i, ow, out⟩ ⟨hi, hok, hol, hI⟩
 simp only at hi hok hol hI
 repeat (first | with_reducible refine CW.seq ?_ | with_reducible refine aN ?_ | refine CW.reg (RL.run tO rfl (RL.nil ?_)))
 refine CW.cond rfl (fun h => ?_) (fun h => ?_)
 ·have hlt : i < l.length := by simpa using h
  obtain ⟨x, hx⟩ : ∃ x, l[i]? = some x := ⟨_, List.getElem?_eq_getElem hlt⟩
  have hx' : (strs l)[i]? = some (.str x) := by rw [strs_get, hx]; rfl
  rw [drop_cons hx, List.foldl_cons] at hI
  have hcl := cutS_le out x
  refine CW.skip (aN (CW.seq (CW.block ?_)))
  refine CW.seqCut [(0, .slc 1 (strs l) ol), (3, .slc 1 (strs out) ow), (4, .int .i64 (i : Int)), (5, .int .i64 0)] (rowOf s 9 1 out.length ow) ?_ ?_
  ·repeat (first | refine CW.reg (RL.run tO rfl (RL.nil ?_)))
   exact ⟨rfl, (by repeat (first | exact trivial | refine ⟨⟨_, rfl, AVle.refl _⟩, ?_⟩)), Store.sub_refl _⟩
  refine CW.seqCut [(0, .slc 1 (strs l) ol), (3, .slc 1 (strs out) ow), (4, .int .i64 (i : Int)), (5, .int .i64 (cutS out x : Int))] (rowOf s 9 1 out.length ow) ?_ ?_
  ·repeat (first | with_reducible refine CW.block ?_)
   refine CW.loop (σ := Nat) (fun a => [(0, .slc 1 (strs l) ol), (3, .slc 1 (strs out) ow), (4, .int .i64 (i : Int)), (5, .int .i64 (a : Int))]) (fun _ => rowOf s 9 1 out.length ow)
    (fun a => a ≤ out.length ∧ a + cutS (out.drop a) x = cutS out x) (fun a => out.length - a) 0 ⟨by simp, by simp⟩ (by repeat (first | exact trivial | refine ⟨⟨_, rfl, AVle.refl _⟩, ?_⟩)) (Store.sub_refl _) ?_
   rintro a ⟨ha, hA⟩
   repeat (first | with_reducible refine CW.seq ?_)
   refine CW.drw tO mixed rfl (RD.runs (is := [0, 1, 2, 3, 4]) rfl ?_)
   by_cases hal : a < out.length
   ·obtain ⟨y, hy⟩ : ∃ y, out[a]? = some y := ⟨_, List.getElem?_eq_getElem hal⟩
    have hy' : (strs out)[a]? = some (.str y) := by rw [strs_get, hy]; rfl
    refine RD.knowT 16 (b := decide ((a : Int) < ((strs out).length : Int))) rfl (by simp; omega) ?_
    refine RD.run rfl ?_
    refine RD.idx 7 a rfl rfl rfl rfl rfl rfl rfl rfl rfl rfl rfl rfl rfl hy' rfl ?_
    refine RD.idx 11 i rfl rfl rfl rfl rfl rfl rfl rfl rfl rfl rfl rfl rfl hx' rfl ?_
    refine RD.run rfl (RD.done rfl ?_)
    have hd : cutS (out.drop a) x = if Op.bytesLess y x then cutS (out.drop (a + 1)) x + 1 else 0 := by
     rw [drop_cons hy]; unfold cutS; rw [List.takeWhile_cons]
     cases Op.bytesLess y x <;> simp
    cases hc : Op.bytesLess y x with
    | true =>
     rw [hc, if_pos rfl] at hd
     repeat (first | with_reducible refine aN ?_ | with_reducible refine iN ?_ | with_reducible refine CW.skip ?_ | with_reducible refine CW.block ?_ | refine CW.reg (RL.run tO rfl (RL.nil ?_)) | refine CW.condT rfl ?_)
     exact ⟨a + 1, ⟨hal, by omega⟩, (by repeat (first | exact trivial | refine ⟨⟨_, rfl, AVle.refl _⟩, ?_⟩ | refine ⟨⟨_, rfl, AVle.of_eq (by (rw [i64_succ (by omega)]))⟩, ?_⟩)), Store.sub_refl _, by omega⟩
    | false =>
     rw [hc, if_neg (by simp)] at hd
     have hac : cutS out x = a := by omega
     rw [hac]
     repeat (first | with_reducible refine aN ?_ | with_reducible refine aX ?_ | with_reducible refine iH ?_ | with_reducible refine CW.exit ?_ | refine CW.condF rfl ?_)
     exact ⟨rfl, (by repeat (first | exact trivial | refine ⟨⟨_, rfl, AVle.refl _⟩, ?_⟩)), Store.sub_refl _⟩
   ·have hac : cutS out x = a := by
     rw [List.drop_eq_nil_of_le (by omega)] at hA
     have : cutS [] x = 0 := rfl
     omega
    rw [hac]
    refine RD.knowF 16 (b := decide ((a : Int) < ((strs out).length : Int))) rfl (by simp; omega) ?_
    refine RD.run rfl (RD.done rfl ?_)
    repeat (first | with_reducible refine aN ?_ | with_reducible refine aX ?_ | with_reducible refine iH ?_ | with_reducible refine CW.exit ?_ | refine CW.condF rfl ?_)
    exact ⟨rfl, (by repeat (first | exact trivial | refine ⟨⟨_, rfl, AVle.refl _⟩, ?_⟩)), Store.sub_refl _⟩
  generalize hct : cutS out x = a at hcl ⊢
  have hir : ∀ y, out[a]? = some y → (y == x) = false → insSo out x = out.take a ++ [x] ++ out.drop a := fun y hy hyx => by
   unfold insSo; rw [hct, if_pos]
   rw [hy]; simp; exact .inr (by simpa using hyx)
  repeat (first | with_reducible refine CW.seq ?_)
  refine CW.drw tO mixed rfl (RD.runs (is := [0, 1, 2, 3, 4]) rfl ?_)
  by_cases hal : a < out.length
  ·obtain ⟨y, hy⟩ : ∃ y, out[a]? = some y := ⟨_, List.getElem?_eq_getElem hal⟩
   have hy' : (strs out)[a]? = some (.str y) := by rw [strs_get, hy]; rfl
   refine RD.knowF 33 (b := ((a : Int) == ((strs out).length : Int))) rfl (by simp; omega) ?_
   refine RD.run rfl ?_
   refine RD.idx 7 a rfl rfl rfl rfl rfl rfl rfl rfl rfl rfl rfl rfl rfl hy' rfl ?_
   refine RD.idx 11 i rfl rfl rfl rfl rfl rfl rfl rfl rfl rfl rfl rfl rfl hx' rfl ?_
   refine RD.run rfl (RD.done rfl ?_)
   cases hyx : y == x with
   | true =>
    have hr : insSo out x = out := by
     unfold insSo; rw [hct, if_neg]
     rw [hy]; simp; exact ⟨by omega, by simpa using hyx⟩
    rw [hr] at hI
    repeat (first | with_reducible refine aN ?_ | with_reducible refine iN ?_ | with_reducible refine CW.skip ?_ | refine CW.reg (RL.run tO rfl (RL.nil ?_)) | refine CW.condF rfl ?_)
    exact ⟨(i + 1, ow, out), ⟨hlt, hok, by show out.length ≤ i + 1; omega, hI⟩, (by repeat (first | exact trivial | refine ⟨⟨_, rfl, AVle.refl _⟩, ?_⟩ | refine ⟨⟨_, rfl, AVle.of_eq (by (show AV.int .i64 (IntKind.wrap .i64 ((i : Int) + 1)) = .int .i64 ((i + 1 : Nat) : Int); rw [i64_succ (by omega)]))⟩, ?_⟩)), Store.sub_refl _, by show l.length - (i + 1) < l.length - i; omega⟩
   | false =>
    have hr := hir y hy hyx
    repeat (first | with_reducible refine aN ?_ | refine CW.condT rfl ?_)
    refine CW.sub [(0, .slc 1 (strs l) ol), (3, .slc 1 (strs out) .fro), (4, .int .i64 (i : Int)), (5, .int .i64 (a : Int))] (by exact ⟨⟨_, rfl, AVle.refl _⟩, ⟨_, rfl, AVle.fro⟩, ⟨_, rfl, AVle.refl _⟩, ⟨_, rfl, AVle.refl _⟩, trivial⟩) ?_
    refine CW.drop s (rowOf_sub hok) ?_
    have h1 : (out.take a).length = a := by rw [List.length_take]; omega
    have h2 : (out.drop a).length = out.length - a := List.length_drop
    repeat (first | refine CW.drw tO mixed rfl (RD.run rfl ?_))
    refine RD.slice 2 0 a rfl rfl rfl rfl rfl rfl rfl rfl rfl rfl (.inr rfl) (.inl ⟨rfl, rfl⟩) (.inr ⟨_, _, rfl, rfl⟩) (.inl ⟨rfl, rfl⟩) (by omega) (by rw [strs_length]; omega) ?_
    refine RD.slice 12 a out.length rfl rfl rfl rfl rfl rfl rfl rfl rfl rfl (.inr rfl) (.inr ⟨_, _, rfl, rfl⟩) (.inl ⟨rfl, rfl, by simp⟩) (.inl ⟨rfl, rfl⟩) (by omega) (by rw [strs_length]; omega) ?_
    refine RD.idx 6 i rfl rfl rfl rfl rfl rfl rfl rfl rfl rfl rfl rfl rfl hx' rfl ?_
    refine RD.run rfl ?_
    have e1 : ((strs out).take a).drop 0 = strs (out.take a) := by simp [strs, List.map_take]
    have e2 : ((strs out).take out.length).drop a = strs (out.drop a) := by rw [List.take_of_length_le (by simp)]; simp [strs, List.map_drop]
    rw [e1, e2]
    refine RD.appendN (i := 3) tO rfl rfl rfl rfl rfl rfl rfl rfl rfl (by intro k h; cases h) rfl rfl rfl (.inr rfl) rfl (strs_elem _) (n := a) (by rw [strs_length, h1]) (by show a * 16 ≤ _; omega) (by omega) (fun o1 hq1 => ?_)
    refine RD.run rfl ?_
    refine RD.append1 (i := 9) tO rfl rfl rfl rfl rfl rfl rfl rfl rfl (by intro k h; cases h) rfl rfl rfl rfl rfl rfl rfl (n := a) (by rw [strs_length, h1]) (by show (a + 1) * 16 ≤ _; omega) (by omega) (s := s) rfl hq1 (fun b2 hb2 => ?_)
    refine RD.run rfl ?_
    refine RD.appendR (i := 13) tO rfl rfl rfl rfl rfl rfl rfl rfl rfl (by intro k h; cases h) rfl rfl rfl rfl (.inr rfl) rfl (strs_elem _) (n := a + 1) ?_ ?_ (by rw [List.length_append, strs_length, h1]; rfl) rfl hb2 (fun o3 hq3 => ?_)
    ·simp only [List.length_append, strs_length, List.length_cons, List.length_nil, h1, h2]; show _ * 16 ≤ _; omega
    ·simp only [List.length_append, strs_length, List.length_cons, List.length_nil, h1, h2]; omega
    refine RD.run rfl (RD.done rfl ?_)
    have hrl : (insSo out x).length = out.length + 1 := by rw [hr]; simp only [List.length_append, h1, h2, List.length_cons, List.length_nil]; omega
    have hil := insSo_len out x
    repeat (first | with_reducible refine aN ?_ | with_reducible refine iN ?_ | refine CW.reg (RL.run tO rfl (RL.nil ?_)))
    refine ⟨(i + 1, o3, insSo out x), ⟨hlt, OwnOk.sub' hq3, by show (insSo out x).length ≤ i + 1; omega, hI⟩, (by repeat (first | exact trivial | refine ⟨⟨_, rfl, AVle.refl _⟩, ?_⟩ | refine ⟨⟨_, rfl, AVle.of_eq (by (first | (show AV.int .i64 (IntKind.wrap .i64 ((i : Int) + 1)) = .int .i64 ((i + 1 : Nat) : Int); rw [i64_succ (by omega)]) | (show AV.slc 1 _ _ = AV.slc 1 (strs (insSo out x)) o3; rw [hr]; simp [strs])))⟩, ?_⟩)), ?_, by show l.length - (i + 1) < l.length - i; omega⟩
    show Store.Sub (rowOf s _ 1 (insSo out x).length o3) _
    rw [hrl]
    simp only [List.length_append, strs_length, List.length_cons, List.length_nil, h1, h2]
    rw [show a + (0 + 1) + (out.length - a) = out.length + 1 by omega]
    exact Store.sub_refl _
  ·have hae : a = out.length := by omega
   have hr : insSo out x = out.take a ++ [x] ++ out.drop a := by unfold insSo; rw [hct, if_pos (by simp [hae])]
   refine RD.knowT 33 (b := ((a : Int) == ((strs out).length : Int))) rfl (by simp; omega) ?_
   refine RD.run rfl (RD.done rfl ?_)
   repeat (first | with_reducible refine aN ?_ | refine CW.condT rfl ?_)
   refine CW.sub [(0, .slc 1 (strs l) ol), (3, .slc 1 (strs out) .fro), (4, .int .i64 (i : Int)), (5, .int .i64 (a : Int))] (by exact ⟨⟨_, rfl, AVle.refl _⟩, ⟨_, rfl, AVle.fro⟩, ⟨_, rfl, AVle.refl _⟩, ⟨_, rfl, AVle.refl _⟩, trivial⟩) ?_
   refine CW.drop s (rowOf_sub hok) ?_
   have h1 : (out.take a).length = a := by rw [List.length_take]; omega
   have h2 : (out.drop a).length = out.length - a := List.length_drop
   repeat (first | refine CW.drw tO mixed rfl (RD.run rfl ?_))
   refine RD.slice 2 0 a rfl rfl rfl rfl rfl rfl rfl rfl rfl rfl (.inr rfl) (.inl ⟨rfl, rfl⟩) (.inr ⟨_, _, rfl, rfl⟩) (.inl ⟨rfl, rfl⟩) (by omega) (by rw [strs_length]; omega) ?_
   refine RD.slice 12 a out.length rfl rfl rfl rfl rfl rfl rfl rfl rfl rfl (.inr rfl) (.inr ⟨_, _, rfl, rfl⟩) (.inl ⟨rfl, rfl, by simp⟩) (.inl ⟨rfl, rfl⟩) (by omega) (by rw [strs_length]; omega) ?_
   refine RD.idx 6 i rfl rfl rfl rfl rfl rfl rfl rfl rfl rfl rfl rfl rfl hx' rfl ?_
   refine RD.run rfl ?_
   have e1 : ((strs out).take a).drop 0 = strs (out.take a) := by simp [strs, List.map_take]
   have e2 : ((strs out).take out.length).drop a = strs (out.drop a) := by rw [List.take_of_length_le (by simp)]; simp [strs, List.map_drop]
   rw [e1, e2]
   refine RD.appendN (i := 3) tO rfl rfl rfl rfl rfl rfl rfl rfl rfl (by intro k h; cases h) rfl rfl rfl (.inr rfl) rfl (strs_elem _) (n := a) (by rw [strs_length, h1]) (by show a * 16 ≤ _; omega) (by omega) (fun o1 hq1 => ?_)
   refine RD.run rfl ?_
   refine RD.append1 (i := 9) tO rfl rfl rfl rfl rfl rfl rfl rfl rfl (by intro k h; cases h) rfl rfl rfl rfl rfl rfl rfl (n := a) (by rw [strs_length, h1]) (by show (a + 1) * 16 ≤ _; omega) (by omega) (s := s) rfl hq1 (fun b2 hb2 => ?_)
   refine RD.run rfl ?_
   refine RD.appendR (i := 13) tO rfl rfl rfl rfl rfl rfl rfl rfl rfl (by intro k h; cases h) rfl rfl rfl rfl (.inr rfl) rfl (strs_elem _) (n := a + 1) ?_ ?_ (by rw [List.length_append, strs_length, h1]; rfl) rfl hb2 (fun o3 hq3 => ?_)
   ·simp only [List.length_append, strs_length, List.length_cons, List.length_nil, h1, h2]; show _ * 16 ≤ _; omega
   ·simp only [List.length_append, strs_length, List.length_cons, List.length_nil, h1, h2]; omega
   refine RD.run rfl (RD.done rfl ?_)
   have hrl : (insSo out x).length = out.length + 1 := by rw [hr]; simp only [List.length_append, h1, h2, List.length_cons, List.length_nil]; omega
   have hil := insSo_len out x
   repeat (first | with_reducible refine aN ?_ | with_reducible refine iN ?_ | refine CW.reg (RL.run tO rfl (RL.nil ?_)))
   refine ⟨(i + 1, o3, insSo out x), ⟨hlt, OwnOk.sub' hq3, by show (insSo out x).length ≤ i + 1; omega, hI⟩, (by repeat (first | exact trivial | refine ⟨⟨_, rfl, AVle.refl _⟩, ?_⟩ | refine ⟨⟨_, rfl, AVle.of_eq (by (first | (show AV.int .i64 (IntKind.wrap .i64 ((i : Int) + 1)) = .int .i64 ((i + 1 : Nat) : Int); rw [i64_succ (by omega)]) | (show AV.slc 1 _ _ = AV.slc 1 (strs (insSo out x)) o3; rw [hr]; simp [strs])))⟩, ?_⟩)), ?_, by show l.length - (i + 1) < l.length - i; omega⟩
   show Store.Sub (rowOf s _ 1 (insSo out x).length o3) _
   rw [hrl]
   simp only [List.length_append, strs_length, List.length_cons, List.length_nil, h1, h2]
   rw [show a + (0 + 1) + (out.length - a) = out.length + 1 by omega]
   exact Store.sub_refl _
 ·have hge : l.length ≤ i := by simpa using h
  rw [List.drop_eq_nil_of_le hge, List.foldl_nil] at hI
  repeat (first | with_reducible refine CW.seq ?_ | with_reducible refine aN ?_ | with_reducible refine aX ?_ | with_reducible refine iH ?_ | with_reducible refine CW.ret ?_ | with_reducible refine CW.exit ?_ | refine CW.reg (RL.run tO rfl (RL.nil ?_)))
  exact ⟨_, _, s, rfl, AVle.fro, rowOf_sub hok, by rw [hI], rfl⟩

set_option maxRecDepth 10000 in
theorem refFreeOf_spec (e : FExp) (s : Store) (hbig : e.size < big) :
  ACalls Tryz.prog 46 [e.av] s (fun o s' => o = .ret (.slc 1 (strs (sortS (e.looseR []))) .fro) ∧ s' = s) := by
 have hb : big = 1099511627776 := rfl
 have hl := looseR_len e []
 refine ACalls.of_CW tO call46 Tryz.func46 rfl rfl ?_
 repeat (first | with_reducible refine CW.seq ?_ | with_reducible refine aN ?_ | refine CW.reg (RL.run tO rfl (RL.nil ?_)) | refine CW.reg ?_ | refine RL.step tO rfl rfl rfl rfl ?_)
 refine RL.callP rfl rfl rfl rfl rfl (ACalls.weakArgs (.cons (AVle.refl _) (.one (AVle.nil (by simp)))) (refLoose_spec _ e [] .nil s (Nat.le_refl _) (by simpa using hbig))) ?_
 skip
 refine RL.callP rfl rfl rfl rfl rfl (refSort_spec _ _ s (by omega)) ?_
 repeat (first | with_reducible refine aN ?_ | with_reducible refine CW.ret ?_ | refine RL.nil ?_ | refine RL.step tO rfl rfl rfl rfl ?_)
 exact ⟨_, _, s, rfl, AVle.refl _, Store.sub_refl _, rfl, rfl⟩
end Go.Proofs.YtaafacnoddjhgaaGreat

/- Plain laws: sorted strings; expressions that are neat. -/
namespace Go.Proofs.YtaafacnoddjhgaaGreat
open Go.AE

theorem mem_insSo {out : List Str} {x z : Str} : z ∈ insSo out x ↔ z ∈ out ∨ z = x := by
 unfold insSo
 split
 ·rw [List.mem_append, List.mem_append, List.mem_singleton]
  constructor
  ·rintro ((h | h) | h)
   ·exact .inl (List.mem_of_mem_take h)
   ·exact .inr h
   ·exact .inl (List.mem_of_mem_drop h)
  ·rintro (h | h)
   ·rw [← List.take_append_drop (cutS out x) out, List.mem_append] at h
    rcases h with h | h
    ·exact .inl (.inl h)
    ·exact .inr h
   ·exact .inl (.inr h)
 ·rename_i hc
  simp only [Bool.or_eq_true, Bool.not_eq_true', not_or, Bool.not_eq_false, beq_iff_eq] at hc
  exact ⟨.inl, fun h => by
   rcases h with h | h
   ·exact h
   ·rw [h]; exact List.mem_of_getElem? hc.2⟩
theorem mem_foldSo {z : Str} : ∀ {l out : List Str}, z ∈ l.foldl insSo out ↔ z ∈ out ∨ z ∈ l
 | [], out => by simp
 | x :: l, out => by rw [List.foldl_cons, mem_foldSo, mem_insSo, List.mem_cons, or_assoc]
theorem mem_sortS {l : List Str} {z : Str} : z ∈ sortS l ↔ z ∈ l := by unfold sortS; rw [mem_foldSo]; simp

/-! ### The state of it -/
theorem neat_name {e : FExp} (h : e.neat = true) (h3 : (e.op == 3) = true) : e = nameE e.text := by
 obtain ⟨o, n, t, ks⟩ := e
 rw [FExp.neat, Bool.and_eq_true] at h
 have h3' : o = 3 := by simpa [FExp.op] using h3
 subst h3'
 have := h.1
 simp [neat1, FExp.op, FExp.n, FExp.kids] at this
 rw [this.1, this.2]; rfl
theorem neat_kid {e k : FExp} (h : e.neat = true) (hk : k ∈ e.kids) : k.neat = true := by
 obtain ⟨o, n, t, ks⟩ := e
 rw [FExp.neat, Bool.and_eq_true] at h
 exact neats_mem h.2 hk
theorem neat_let {e : FExp} (h : e.neat = true) (h9 : (e.op == 9) = true) : e.kids.length = 2 := by
 obtain ⟨o, n, t, ks⟩ := e
 rw [FExp.neat, Bool.and_eq_true] at h
 have h9' : o = 9 := by simpa [FExp.op] using h9
 subst h9'
 have := h.1
 simpa [neat1, FExp.op, FExp.n, FExp.kids] using this

end Go.Proofs.YtaafacnoddjhgaaGreat

/- Contracts of the reference: what expressions speak of; which functions there are. -/
namespace Go.Proofs.YtaafacnoddjhgaaGreat
open Go.AE

def saysB (e : FExp) (free slots own : List Str) (next : Bool) : Bool := e.allE.all (spokenE own slots next) && (sortS (e.looseR [])).all free.contains

theorem sortS_length (l : List Str) : (sortS l).length ≤ l.length := by
 have : ∀ (l out : List Str), (l.foldl insSo out).length ≤ out.length + l.length := by
  intro l
  induction l with
  | nil => intro out; simp
  | cons z l ih => intro out; have h1 := ih (insSo out z); have h2 := insSo_len out z; simp only [List.foldl_cons, List.length_cons]; omega
 have := this l []
 unfold sortS
 simpa using this

set_option maxRecDepth 10000 in
set_option maxHeartbeats 2000000 in
theorem refSays_spec (e : FExp) (free slots own : List Str) (o1 o2 o3 : Own) (next : Bool) (s : Store) (he : e.size < big) (hf : free.length < 9223372036854775807) (hs : slots.length < 9223372036854775807) (ho : own.length < 9223372036854775807) :
  ACalls Tryz.prog 57 [e.av, .slc 1 (strs free) o1, .slc 1 (strs slots) o2, .slc 1 (strs own) o3, .bool next] s (fun o s' => o = .ret (.bool (saysB e free slots own next)) ∧ s' = s) := by
 have hb : big = 1099511627776 := rfl
 have hal := allE_length e
 have hfl := sortS_length (e.looseR [])
 have hll := looseR_len e []
 refine ACalls.of_CW tO call57 Tryz.func57 rfl rfl ?_
 refine CW.seqCut [(1, .slc 1 (strs free) o1), (2, .slc 1 (strs slots) o2), (3, .slc 1 (strs own) o3), (4, .bool next), (5, .fptr e.cells 0)] s ?_ ?_
 ·repeat (first | refine CW.reg (RL.run tO rfl (RL.nil ?_)))
  exact ⟨rfl, (by repeat (first | exact trivial | refine ⟨⟨_, rfl, AVle.refl _⟩, ?_⟩)), Store.sub_refl _⟩
 refine CW.seqCut [(1, .slc 1 (strs free) o1), (2, .slc 1 (strs slots) o2), (3, .slc 1 (strs own) o3), (4, .bool next), (5, .fptr e.cells 0), (11, .slc 4 (e.allE.map FExp.av) .fro)] s ?_ ?_
 ·repeat (first | refine CW.reg ?_ | refine RL.step tO rfl rfl rfl rfl ?_)
  refine RL.callP rfl rfl rfl rfl rfl (refAll_spec _ e s (Nat.le_refl _) (Nat.le_of_lt he)) ?_
  repeat (first | refine RL.nil ?_ | refine RL.step tO rfl rfl rfl rfl ?_)
  exact ⟨rfl, (by repeat (first | exact trivial | refine ⟨⟨_, rfl, AVle.refl _⟩, ?_⟩)), Store.sub_refl _⟩
 have hsb : saysB e free slots own next = (e.allE.all (spokenE own slots next) && (sortS (e.looseR [])).all free.contains) := rfl
 generalize e.allE = l at hal hsb ⊢
 repeat (first | with_reducible refine CW.seq ?_ | with_reducible refine aN ?_ | with_reducible refine CW.block ?_ | refine CW.reg (RL.run tO rfl (RL.nil ?_)))
 refine CW.loop (σ := Nat) (fun j => [(1, .slc 1 (strs free) o1), (2, .slc 1 (strs slots) o2), (3, .slc 1 (strs own) o3), (4, .bool next), (5, .fptr e.cells 0), (11, .slc 4 (l.map FExp.av) .fro), (12, .int .i64 (j : Int))]) (fun _ => s)
  (fun j => j ≤ l.length ∧ l.all (spokenE own slots next) = (l.drop j).all (spokenE own slots next)) (fun j => l.length - j) 0 ⟨by omega, rfl⟩ (by repeat (first | exact trivial | refine ⟨⟨_, rfl, AVle.refl _⟩, ?_⟩)) (Store.sub_refl _) ?_
 rintro j ⟨hj, hI⟩
 repeat (first | with_reducible refine CW.seq ?_ | with_reducible refine aN ?_ | refine CW.reg (RL.run tO rfl (RL.nil ?_)))
 refine CW.cond rfl (fun h => ?_) (fun h => ?_)
 ·have hlt : j < l.length := by simpa using h
  obtain ⟨g, hg⟩ : ∃ g, l[j]? = some g := ⟨_, List.getElem?_eq_getElem hlt⟩
  have hg' : (l.map FExp.av)[j]? = some (.agg g.cells) := by rw [List.getElem?_map, hg]; rfl
  have hgood : spokenE own slots next g = true → l.all (spokenE own slots next) = (l.drop (j + 1)).all (spokenE own slots next) := all_take hg hI
  have hbad : spokenE own slots next g = false → saysB e free slots own next = false := fun hc => by rw [hsb, all_miss hg hc]; rfl
  clear hsb hI
  obtain ⟨o, n, t, ks⟩ := g
  have hse : spokenE own slots next (.mk o n t ks) = if o == 4 || o == 7 then slots.contains t else if o == 6 || o == 8 then own.contains t else if o == 18 then next else true := rfl
  rw [hse] at hgood hbad
  by_cases q4 : o = 4
  ·subst q4
   have hcall := refHas_spec slots o2 t s hs
   replace hgood : slots.contains t = true → _ := hgood
   replace hbad : slots.contains t = false → _ := hbad
   cases hc : slots.contains t with
   | true =>
    rw [hc] at hcall hgood
    repeat (first | with_reducible refine CW.seq ?_ | with_reducible refine aN ?_ | with_reducible refine CW.skip ?_ | with_reducible refine CW.block ?_ | refine CW.reg (RL.run tO rfl (RL.nil ?_)) | refine CW.reg ?_ | refine RL.nil ?_ | refine CW.condT rfl ?_ | refine RL.step tO rfl rfl rfl rfl ?_ | refine RL.idx tO _ rfl rfl rfl rfl rfl rfl rfl rfl rfl rfl rfl (by assumption) rfl ?_)
    refine RL.callP rfl rfl rfl rfl rfl hcall ?_
    repeat (first | with_reducible refine aN ?_ | with_reducible refine iN ?_ | with_reducible refine CW.skip ?_ | refine CW.reg (RL.run tO rfl (RL.nil ?_)) | refine RL.nil ?_ | refine CW.condF rfl ?_ | refine RL.step tO rfl rfl rfl rfl ?_)
    exact ⟨j + 1, ⟨hlt, hgood rfl⟩, (by repeat (first | exact trivial | refine ⟨⟨_, rfl, AVle.refl _⟩, ?_⟩ | refine ⟨⟨_, rfl, AVle.of_eq (by (rw [i64_succ (by omega)]))⟩, ?_⟩)), Store.sub_refl _, by omega⟩
   | false =>
    rw [hc] at hcall hbad
    repeat (first | with_reducible refine CW.seq ?_ | with_reducible refine aN ?_ | with_reducible refine CW.skip ?_ | with_reducible refine CW.block ?_ | refine CW.reg (RL.run tO rfl (RL.nil ?_)) | refine CW.reg ?_ | refine RL.nil ?_ | refine CW.condT rfl ?_ | refine RL.step tO rfl rfl rfl rfl ?_ | refine RL.idx tO _ rfl rfl rfl rfl rfl rfl rfl rfl rfl rfl rfl (by assumption) rfl ?_)
    refine RL.callP rfl rfl rfl rfl rfl hcall ?_
    rw [hbad rfl]
    repeat (first | with_reducible refine CW.seq ?_ | with_reducible refine aN ?_ | with_reducible refine aR ?_ | with_reducible refine iR ?_ | with_reducible refine CW.ret ?_ | refine CW.reg (RL.run tO rfl (RL.nil ?_)) | refine RL.nil ?_ | refine CW.condT rfl ?_ | refine RL.step tO rfl rfl rfl rfl ?_)
    exact ⟨_, _, _, rfl, AVle.refl _, Store.sub_refl _, rfl, rfl⟩
  by_cases q7 : o = 7
  ·subst q7
   have hcall := refHas_spec slots o2 t s hs
   replace hgood : slots.contains t = true → _ := hgood
   replace hbad : slots.contains t = false → _ := hbad
   cases hc : slots.contains t with
   | true =>
    rw [hc] at hcall hgood
    repeat (first | with_reducible refine CW.seq ?_ | with_reducible refine aN ?_ | with_reducible refine CW.skip ?_ | with_reducible refine CW.block ?_ | refine CW.reg (RL.run tO rfl (RL.nil ?_)) | refine CW.reg ?_ | refine RL.nil ?_ | refine CW.condT rfl ?_ | refine CW.condF rfl ?_ | refine RL.step tO rfl rfl rfl rfl ?_ | refine RL.idx tO _ rfl rfl rfl rfl rfl rfl rfl rfl rfl rfl rfl (by assumption) rfl ?_)
    refine RL.callP rfl rfl rfl rfl rfl hcall ?_
    repeat (first | with_reducible refine aN ?_ | with_reducible refine iN ?_ | with_reducible refine CW.skip ?_ | refine CW.reg (RL.run tO rfl (RL.nil ?_)) | refine RL.nil ?_ | refine CW.condF rfl ?_ | refine RL.step tO rfl rfl rfl rfl ?_)
    exact ⟨j + 1, ⟨hlt, hgood rfl⟩, (by repeat (first | exact trivial | refine ⟨⟨_, rfl, AVle.refl _⟩, ?_⟩ | refine ⟨⟨_, rfl, AVle.of_eq (by (rw [i64_succ (by omega)]))⟩, ?_⟩)), Store.sub_refl _, by omega⟩
   | false =>
    rw [hc] at hcall hbad
    repeat (first | with_reducible refine CW.seq ?_ | with_reducible refine aN ?_ | with_reducible refine CW.skip ?_ | with_reducible refine CW.block ?_ | refine CW.reg (RL.run tO rfl (RL.nil ?_)) | refine CW.reg ?_ | refine RL.nil ?_ | refine CW.condT rfl ?_ | refine CW.condF rfl ?_ | refine RL.step tO rfl rfl rfl rfl ?_ | refine RL.idx tO _ rfl rfl rfl rfl rfl rfl rfl rfl rfl rfl rfl (by assumption) rfl ?_)
    refine RL.callP rfl rfl rfl rfl rfl hcall ?_
    rw [hbad rfl]
    repeat (first | with_reducible refine CW.seq ?_ | with_reducible refine aN ?_ | with_reducible refine aR ?_ | with_reducible refine iR ?_ | with_reducible refine CW.ret ?_ | refine CW.reg (RL.run tO rfl (RL.nil ?_)) | refine RL.nil ?_ | refine CW.condT rfl ?_ | refine RL.step tO rfl rfl rfl rfl ?_)
    exact ⟨_, _, _, rfl, AVle.refl _, Store.sub_refl _, rfl, rfl⟩
  by_cases q6 : o = 6
  ·subst q6
   have hcall := refHas_spec own o3 t s ho
   replace hgood : own.contains t = true → _ := hgood
   replace hbad : own.contains t = false → _ := hbad
   cases hc : own.contains t with
   | true =>
    rw [hc] at hcall hgood
    repeat (first | with_reducible refine CW.seq ?_ | with_reducible refine aN ?_ | with_reducible refine CW.skip ?_ | with_reducible refine CW.block ?_ | refine CW.reg (RL.run tO rfl (RL.nil ?_)) | refine CW.reg ?_ | refine RL.nil ?_ | refine CW.condT rfl ?_ | refine CW.condF rfl ?_ | refine RL.step tO rfl rfl rfl rfl ?_ | refine RL.idx tO _ rfl rfl rfl rfl rfl rfl rfl rfl rfl rfl rfl (by assumption) rfl ?_)
    refine RL.callP rfl rfl rfl rfl rfl hcall ?_
    repeat (first | with_reducible refine aN ?_ | with_reducible refine iN ?_ | with_reducible refine CW.skip ?_ | refine CW.reg (RL.run tO rfl (RL.nil ?_)) | refine RL.nil ?_ | refine CW.condF rfl ?_ | refine RL.step tO rfl rfl rfl rfl ?_)
    exact ⟨j + 1, ⟨hlt, hgood rfl⟩, (by repeat (first | exact trivial | refine ⟨⟨_, rfl, AVle.refl _⟩, ?_⟩ | refine ⟨⟨_, rfl, AVle.of_eq (by (rw [i64_succ (by omega)]))⟩, ?_⟩)), Store.sub_refl _, by omega⟩
   | false =>
    rw [hc] at hcall hbad
    repeat (first | with_reducible refine CW.seq ?_ | with_reducible refine aN ?_ | with_reducible refine CW.skip ?_ | with_reducible refine CW.block ?_ | refine CW.reg (RL.run tO rfl (RL.nil ?_)) | refine CW.reg ?_ | refine RL.nil ?_ | refine CW.condT rfl ?_ | refine CW.condF rfl ?_ | refine RL.step tO rfl rfl rfl rfl ?_ | refine RL.idx tO _ rfl rfl rfl rfl rfl rfl rfl rfl rfl rfl rfl (by assumption) rfl ?_)
    refine RL.callP rfl rfl rfl rfl rfl hcall ?_
    rw [hbad rfl]
    repeat (first | with_reducible refine CW.seq ?_ | with_reducible refine aN ?_ | with_reducible refine aR ?_ | with_reducible refine iR ?_ | with_reducible refine CW.ret ?_ | refine CW.reg (RL.run tO rfl (RL.nil ?_)) | refine RL.nil ?_ | refine CW.condT rfl ?_ | refine RL.step tO rfl rfl rfl rfl ?_)
    exact ⟨_, _, _, rfl, AVle.refl _, Store.sub_refl _, rfl, rfl⟩
  by_cases q8 : o = 8
  ·subst q8
   have hcall := refHas_spec own o3 t s ho
   replace hgood : own.contains t = true → _ := hgood
   replace hbad : own.contains t = false → _ := hbad
   cases hc : own.contains t with
   | true =>
    rw [hc] at hcall hgood
    repeat (first | with_reducible refine CW.seq ?_ | with_reducible refine aN ?_ | with_reducible refine CW.skip ?_ | with_reducible refine CW.block ?_ | refine CW.reg (RL.run tO rfl (RL.nil ?_)) | refine CW.reg ?_ | refine RL.nil ?_ | refine CW.condT rfl ?_ | refine CW.condF rfl ?_ | refine RL.step tO rfl rfl rfl rfl ?_ | refine RL.idx tO _ rfl rfl rfl rfl rfl rfl rfl rfl rfl rfl rfl (by assumption) rfl ?_)
    refine RL.callP rfl rfl rfl rfl rfl hcall ?_
    repeat (first | with_reducible refine aN ?_ | with_reducible refine iN ?_ | with_reducible refine CW.skip ?_ | refine CW.reg (RL.run tO rfl (RL.nil ?_)) | refine RL.nil ?_ | refine CW.condF rfl ?_ | refine RL.step tO rfl rfl rfl rfl ?_)
    exact ⟨j + 1, ⟨hlt, hgood rfl⟩, (by repeat (first | exact trivial | refine ⟨⟨_, rfl, AVle.refl _⟩, ?_⟩ | refine ⟨⟨_, rfl, AVle.of_eq (by (rw [i64_succ (by omega)]))⟩, ?_⟩)), Store.sub_refl _, by omega⟩
   | false =>
    rw [hc] at hcall hbad
    repeat (first | with_reducible refine CW.seq ?_ | with_reducible refine aN ?_ | with_reducible refine CW.skip ?_ | with_reducible refine CW.block ?_ | refine CW.reg (RL.run tO rfl (RL.nil ?_)) | refine CW.reg ?_ | refine RL.nil ?_ | refine CW.condT rfl ?_ | refine CW.condF rfl ?_ | refine RL.step tO rfl rfl rfl rfl ?_ | refine RL.idx tO _ rfl rfl rfl rfl rfl rfl rfl rfl rfl rfl rfl (by assumption) rfl ?_)
    refine RL.callP rfl rfl rfl rfl rfl hcall ?_
    rw [hbad rfl]
    repeat (first | with_reducible refine CW.seq ?_ | with_reducible refine aN ?_ | with_reducible refine aR ?_ | with_reducible refine iR ?_ | with_reducible refine CW.ret ?_ | refine CW.reg (RL.run tO rfl (RL.nil ?_)) | refine RL.nil ?_ | refine CW.condT rfl ?_ | refine RL.step tO rfl rfl rfl rfl ?_)
    exact ⟨_, _, _, rfl, AVle.refl _, Store.sub_refl _, rfl, rfl⟩
  by_cases q18 : o = 18
  ·subst q18
   cases next with
   | true =>
    repeat (first | with_reducible refine CW.seq ?_ | with_reducible refine aN ?_ | with_reducible refine iN ?_ | with_reducible refine CW.skip ?_ | with_reducible refine CW.block ?_ | refine CW.reg (RL.run tO rfl (RL.nil ?_)) | refine CW.reg ?_ | refine RL.nil ?_ | refine CW.condT rfl ?_ | refine CW.condF rfl ?_ | refine RL.step tO rfl rfl rfl rfl ?_ | refine RL.idx tO _ rfl rfl rfl rfl rfl rfl rfl rfl rfl rfl rfl (by assumption) rfl ?_)
    exact ⟨j + 1, ⟨hlt, hgood rfl⟩, (by repeat (first | exact trivial | refine ⟨⟨_, rfl, AVle.refl _⟩, ?_⟩ | refine ⟨⟨_, rfl, AVle.of_eq (by (rw [i64_succ (by omega)]))⟩, ?_⟩)), Store.sub_refl _, by omega⟩
   | false =>
    rw [hbad rfl]
    repeat (first | with_reducible refine CW.seq ?_ | with_reducible refine aN ?_ | with_reducible refine aR ?_ | with_reducible refine iR ?_ | with_reducible refine CW.ret ?_ | with_reducible refine CW.skip ?_ | with_reducible refine CW.block ?_ | refine CW.reg (RL.run tO rfl (RL.nil ?_)) | refine CW.reg ?_ | refine RL.nil ?_ | refine CW.condT rfl ?_ | refine CW.condF rfl ?_ | refine RL.step tO rfl rfl rfl rfl ?_ | refine RL.idx tO _ rfl rfl rfl rfl rfl rfl rfl rfl rfl rfl rfl (by assumption) rfl ?_)
    exact ⟨_, _, _, rfl, AVle.refl _, Store.sub_refl _, rfl, rfl⟩
  have hn : (if o == 4 || o == 7 then slots.contains t else if o == 6 || o == 8 then own.contains t else if o == 18 then next else true) = true := by simp [q4, q7, q6, q8, q18]
  have hgood' := hgood hn
  repeat (first | with_reducible refine CW.seq ?_ | with_reducible refine aN ?_ | with_reducible refine CW.skip ?_ | with_reducible refine CW.block ?_ | refine CW.reg (RL.run tO rfl (RL.nil ?_)) | refine CW.reg ?_ | refine RL.nil ?_ | refine RL.step tO rfl rfl rfl rfl ?_ | refine RL.idx tO _ rfl rfl rfl rfl rfl rfl rfl rfl rfl rfl rfl (by assumption) rfl ?_)
  refine CW.cond rfl (fun h => absurd h (by simp only [FExp.op, beq_iff_eq]; omega)) (fun _ => ?_)
  repeat (first | with_reducible refine aN ?_ | refine CW.reg (RL.run tO rfl (RL.nil ?_)))
  refine CW.cond rfl (fun h => absurd h (by simp only [FExp.op, beq_iff_eq]; omega)) (fun _ => ?_)
  repeat (first | with_reducible refine CW.seq ?_ | with_reducible refine aN ?_ | refine CW.reg (RL.run tO rfl (RL.nil ?_)))
  refine CW.cond rfl (fun h => absurd h (by simp only [FExp.op, beq_iff_eq]; omega)) (fun _ => ?_)
  repeat (first | with_reducible refine aN ?_ | refine CW.reg (RL.run tO rfl (RL.nil ?_)))
  refine CW.cond rfl (fun h => absurd h (by simp only [FExp.op, beq_iff_eq]; omega)) (fun _ => ?_)
  repeat (first | with_reducible refine CW.seq ?_ | with_reducible refine aN ?_ | refine CW.reg (RL.run tO rfl (RL.nil ?_)))
  refine CW.cond rfl (fun h => absurd h (by simp only [FExp.op, beq_iff_eq]; omega)) (fun _ => ?_)
  repeat (first | with_reducible refine aN ?_ | with_reducible refine iN ?_ | with_reducible refine CW.skip ?_ | refine CW.reg (RL.run tO rfl (RL.nil ?_)))
  exact ⟨j + 1, ⟨hlt, hgood'⟩, (by repeat (first | exact trivial | refine ⟨⟨_, rfl, AVle.refl _⟩, ?_⟩ | refine ⟨⟨_, rfl, AVle.of_eq (by (rw [i64_succ (by omega)]))⟩, ?_⟩)), Store.sub_refl _, by omega⟩
 ·have hge : l.length ≤ j := by simpa using h
  rw [List.drop_eq_nil_of_le hge, List.all_nil] at hI
  rw [hI, Bool.true_and] at hsb
  repeat (first | with_reducible refine CW.seq ?_ | with_reducible refine aN ?_ | with_reducible refine aX ?_ | with_reducible refine iH ?_ | with_reducible refine CW.exit ?_ | refine CW.reg ?_ | refine RL.step tO rfl rfl rfl rfl ?_)
  refine RL.callP rfl rfl rfl rfl rfl (refFreeOf_spec e s he) ?_
  generalize sortS (e.looseR []) = f at hsb hfl ⊢
  repeat (first | with_reducible refine CW.seq ?_ | with_reducible refine aN ?_ | with_reducible refine CW.block ?_ | refine CW.reg (RL.run tO rfl (RL.nil ?_)) | refine RL.nil ?_ | refine RL.step tO rfl rfl rfl rfl ?_)
  refine CW.loop (σ := Nat) (fun j => [(1, .slc 1 (strs free) o1), (13, .slc 1 (strs f) .fro), (14, .int .i64 (j : Int))]) (fun _ => s)
   (fun j => j ≤ f.length ∧ f.all free.contains = (f.drop j).all free.contains) (fun j => f.length - j) 0 ⟨by omega, rfl⟩ (by repeat (first | exact trivial | refine ⟨⟨_, rfl, AVle.refl _⟩, ?_⟩)) (Store.sub_refl _) ?_
  rintro k ⟨hk, hK⟩
  repeat (first | with_reducible refine CW.seq ?_ | with_reducible refine aN ?_ | refine CW.reg (RL.run tO rfl (RL.nil ?_)))
  refine CW.cond rfl (fun h => ?_) (fun h => ?_)
  ·have hlt : k < f.length := by simpa using h
   obtain ⟨x, hx⟩ : ∃ x, f[k]? = some x := ⟨_, List.getElem?_eq_getElem hlt⟩
   have hx' : (strs f)[k]? = some (.str x) := by rw [strs_get, hx]; rfl
   have hcall := refHas_spec free o1 x s hf
   repeat (first | with_reducible refine CW.seq ?_ | with_reducible refine aN ?_ | with_reducible refine CW.skip ?_ | with_reducible refine CW.block ?_ | refine CW.reg ?_ | refine RL.step tO rfl rfl rfl rfl ?_ | refine RL.idx tO _ rfl rfl rfl rfl rfl rfl rfl rfl rfl rfl rfl (by assumption) rfl ?_)
   cases hc : free.contains x with
   | true =>
    rw [hc] at hcall
    refine RL.callP rfl rfl rfl rfl rfl hcall ?_
    repeat (first | with_reducible refine aN ?_ | with_reducible refine iN ?_ | with_reducible refine CW.skip ?_ | refine CW.reg (RL.run tO rfl (RL.nil ?_)) | refine RL.nil ?_ | refine CW.condF rfl ?_ | refine RL.step tO rfl rfl rfl rfl ?_)
    exact ⟨k + 1, ⟨hlt, all_take hx hK hc⟩, (by repeat (first | exact trivial | refine ⟨⟨_, rfl, AVle.refl _⟩, ?_⟩ | refine ⟨⟨_, rfl, AVle.of_eq (by (rw [i64_succ (by omega)]))⟩, ?_⟩)), Store.sub_refl _, by omega⟩
   | false =>
    rw [hc] at hcall
    refine RL.callP rfl rfl rfl rfl rfl hcall ?_
    rw [hsb, all_miss hx hc]
    repeat (first | with_reducible refine CW.seq ?_ | with_reducible refine aN ?_ | with_reducible refine aR ?_ | with_reducible refine iR ?_ | with_reducible refine CW.ret ?_ | refine CW.reg (RL.run tO rfl (RL.nil ?_)) | refine RL.nil ?_ | refine CW.condT rfl ?_ | refine RL.step tO rfl rfl rfl rfl ?_)
    exact ⟨_, _, _, rfl, AVle.refl _, Store.sub_refl _, rfl, rfl⟩
  ·have hge : f.length ≤ k := by simpa using h
   rw [List.drop_eq_nil_of_le hge, List.all_nil] at hK
   rw [hsb, hK]
   repeat (first | with_reducible refine CW.seq ?_ | with_reducible refine aN ?_ | with_reducible refine aX ?_ | with_reducible refine iH ?_ | with_reducible refine CW.ret ?_ | with_reducible refine CW.exit ?_ | refine CW.reg (RL.run tO rfl (RL.nil ?_)))
   exact ⟨_, _, _, rfl, AVle.refl _, Store.sub_refl _, rfl, rfl⟩

section
variable {P : Program} {Γ : Tys} {N : Nat} {env : Env} {s : Store}
theorem OW.appendB (hΓ : TysOk P Γ) {o : Oper} {t t' e : TypeId} {x y : Operand} {it it' ie : TI} {sx sy n : Nat} {xs : List AV} {v : AV} {own oy : Own}
  (ho : o.op = .call { callee := .builtin .append, args := #[x, y], argTypes := #[t, t'] }) (ht : Γ.get? t = some it) (htd : it.td = .slc e) (ht' : Γ.get? t' = some it') (htd' : ∀ k, it'.td ≠ .int k)
  (hie : Γ.get? e = some ie) (hx : ev env x = some (.slc sx xs own)) (hy : ev env y = some (.slc sy [v] oy)) (hsx : sx = ie.size) (hsy : sy = ie.size)
  (hzs' : Nat.beq ie.zero.cells.size ie.size = true) (hel : elemOk ie.size v = true) (hn : n = xs.length) (hb : (n + 1) * ie.bytes ≤ 140737488355328) (h63 : n + 1 ≤ 9223372036854775807)
  (hrow : RowIs s e ie.size n own) {X : AV → Store → Prop} :
  OW P N o env s (fun r s' => ∃ b, OwnOk (rowBase s own) 0 (.own b) ∧ r = .slc ie.size (xs ++ [v]) (.own b) ∧ s' = rowOf (rowBase s own) e ie.size (n + 1) (.own b)) X := by
 subst hn
 have h := OW.appendR (N := N) (own := own) (s := rowBase s own) hΓ ho ht htd ht' htd' hie hx hy hsx (.inr hsy) hzs' (by intro y hy; simp at hy; subst hy; exact hel) hb h63 rfl (rowBase_ok hrow) (X := X)
 rw [← rowBase_eq hrow] at h
 refine OW.mono h ?_ (fun _ _ h => h)
 rintro r s' ⟨own', h1, h2, -, rfl, rfl⟩
 obtain ⟨b, rfl⟩ := h2 (by simp)
 exact ⟨b, h1, rfl, rfl⟩
end

/-! ### The noter -/
def ints (l : List Int) : List AV := l.map (.int .i64)
theorem ints_length (l : List Int) : (ints l).length = l.length := by simp [ints]
def noterCells (G : List (Str × Int)) (o1 o2 : Own) (bad : Bool) : List AV := [.slc 1 (strs (G.map (·.1))) o1, .slc 1 (ints (G.map (·.2))) o2, .bool bad]

structure NoI (s t : Store) (xb : Nat) (G : List (Str × Int)) (is : Bool) (o1 o2 : Own) : Prop where
 hx : t xb = some (.box 153 (noterCells G o1 o2 (!is)))
 r1 : RowIs t 9 1 G.length o1
 r2 : RowIs t 3 1 G.length o2
 sub : Store.Sub s t
 sn : s xb = none
 s1 : ∀ b, o1 = .own b → s b = none
 s2 : ∀ b, o2 = .own b → s b = none
 d12 : ∀ b, o1 = .own b → o2 ≠ .own b

theorem NoI.add {s t : Store} {xb : Nat} {G : List (Str × Int)} {is : Bool} {o1 o2 : Own} (h : NoI s t xb G is o1 o2) (x : Str) (n : Int) {b1 b2 : Nat} (h1 : OwnOk (rowBase t o1) 0 (.own b1))
  (h2 : OwnOk (rowBase (rowOf (rowBase t o1) 9 1 (G.length + 1) (.own b1)) o2) 0 (.own b2)) :
  NoI s ((rowOf (rowBase (rowOf (rowBase t o1) 9 1 (G.length + 1) (.own b1)) o2) 3 1 (G.length + 1) (.own b2)).set xb (.box 153 (noterCells (G ++ [(x, n)]) (.own b1) (.own b2) (!is)))) xb (G ++ [(x, n)]) is (.own b1) (.own b2) := by
 have hx1 := grow_keep (e := 9) (sz := 1) (m := G.length + 1) h.r1 h1 h.hx rfl
 have r2' := grow_row (e := 9) (sz := 1) (m := G.length + 1) h.r2 h.d12 h1
 have q1 := grow_own (e := 9) (sz := 1) (m := G.length + 1) h1
 have g1 := grow_sub (e := 9) (sz := 1) (m := G.length + 1) h.sub h.s1 h1
 have d1 := grow_dis h.r2 h.d12 h1
 generalize rowOf (rowBase t o1) 9 1 (G.length + 1) (.own b1) = t1 at hx1 r2' q1 g1 h2 ⊢
 have d1' : ∀ b, o2 = .own b → Own.own b1 ≠ .own b := fun b hb hc => d1 b hc hb
 have hx2 := grow_keep (e := 3) (sz := 1) (m := G.length + 1) r2' h2 hx1 rfl
 have q1' := grow_row (e := 3) (sz := 1) (m := G.length + 1) q1 d1' h2
 have q2 := grow_own (e := 3) (sz := 1) (m := G.length + 1) h2
 have g2 := grow_sub (e := 3) (sz := 1) (m := G.length + 1) g1.1 h.s2 h2
 have d2 := grow_dis q1 d1' h2
 have hl : (G ++ [(x, n)]).length = G.length + 1 := by simp
 refine ⟨Store.set_same _ _ _, ?_, ?_, Store.subSet g2.1 h.sn, h.sn, g1.2, g2.2, fun b hb hc => d2 b hc hb⟩
 ·rw [hl]; exact set_row q1' hx2 rfl
 ·rw [hl]; exact set_row q2 hx2 rfl
theorem NoI.bad {s t : Store} {xb : Nat} {G : List (Str × Int)} {is : Bool} {o1 o2 : Own} (h : NoI s t xb G is o1 o2) (is' : Bool) :
  NoI s (t.set xb (.box 153 (noterCells G o1 o2 (!is')))) xb G is' o1 o2 :=
 ⟨Store.set_same _ _ _, set_row h.r1 h.hx rfl, set_row h.r2 h.hx rfl, Store.subSet h.sub h.sn, h.sn, h.s1, h.s2, h.d12⟩

theorem find_idxFrom (G : List (Str × Int)) (s : Str) :
  match G.find? (fun x => s == x.1) with
  | some q => ∃ j : Nat, G[j]? = some q ∧ idxFrom (G.map (·.1)) s 0 = (j : Int)
  | none => idxFrom (G.map (·.1)) s 0 = -1 := by
 unfold idxFrom
 rw [List.drop_zero, List.findIdx?_map]
 have he : ((fun x => x == s) ∘ fun x : Str × Int => x.1) = fun x => s == x.1 := by funext x; exact BEq.comm
 rw [he]
 cases hf : G.find? (fun x => s == x.1) with
 | none =>
  have : G.findIdx? (fun x => s == x.1) = none := by
   rw [List.findIdx?_eq_none_iff]
   intro x hx
   have := List.find?_eq_none.1 hf x hx
   simpa using this
  rw [this]
 | some q =>
  simp only
  have hsome : (G.findIdx? (fun x => s == x.1)).isSome = true := by
   rw [List.findIdx?_isSome, List.any_eq_true]
   exact ⟨q, List.mem_of_find?_eq_some hf, List.find?_some (p := fun x : Str × Int => s == x.1) hf⟩
  obtain ⟨j, hj⟩ := Option.isSome_iff_exists.1 hsome
  refine ⟨j, ?_, by rw [hj]; simp⟩
  rw [List.findIdx?_eq_some_iff_getElem] at hj
  obtain ⟨hlt, h1, h2⟩ := hj
  rw [List.find?_eq_some_iff_getElem] at hf
  obtain ⟨h3, i, hi, h4, h5⟩ := hf
  have hij : i = j := by
   refine Classical.byContradiction fun hne => ?_
   rcases Nat.lt_or_gt_of_ne hne with h | h
   ·have := h2 i h
    rw [h4] at this
    exact absurd h3 this
   ·have := h5 j h
    rw [h1] at this; cases this
  subst hij
  rw [List.getElem?_eq_getElem hi, h4]

set_option maxRecDepth 10000 in
set_option maxHeartbeats 1000000 in
theorem refNote_spec (s t : Store) (xb : Nat) (G : List (Str × Int)) (is : Bool) (o1 o2 : Own) (x : Str) (n : Int) (h : NoI s t xb G is o1 o2) (hG : G.length < big) :
  ACalls Tryz.prog 101 [.ptr xb 0, .str x, .int .i64 n] t (fun o t' => o = .ret (.tup []) ∧ ∃ o1' o2', NoI s t' xb (gNote (G, is) x n).1 (gNote (G, is) x n).2 o1' o2') := by
 have hb : big = 1099511627776 := rfl
 have hx := h.hx
 have hidx := find_idxFrom G x
 refine ACalls.of_CW tO call101 Tryz.func101 rfl rfl ?_
 repeat (first | with_reducible refine CW.seq ?_ | refine CW.reg ?_ | refine RL.step tO rfl rfl rfl rfl ?_ | refine RL.loadP tO rfl rfl rfl rfl rfl rfl (by assumption) rfl ?_)
 refine RL.callP rfl rfl rfl rfl rfl (refIndex_spec (G.map (·.1)) o1 x t (by rw [List.length_map]; omega)) ?_
 cases hf : G.find? (fun q => x == q.1) with
 | none =>
  have hgn : gNote (G, is) x n = (G ++ [(x, n)], is) := by unfold gNote; rw [hf]
  rw [hf] at hidx
  simp only at hidx
  rw [hidx, hgn]
  repeat (first | with_reducible refine CW.seq ?_ | with_reducible refine aN ?_ | refine CW.reg (RL.run tO rfl (RL.nil ?_)) | refine RL.nil ?_ | refine CW.condT rfl ?_ | refine RL.step tO rfl rfl rfl rfl ?_ | refine CW.drw tO mixed rfl (RD.run rfl ?_))
  refine RD.many rfl (RDAll.c (RDStep.mk (i := 5) rfl rfl rfl rfl (OW.loadP tO rfl rfl rfl hx rfl (X := fun _ _ => False)) ?_ (fun _ _ h => False.elim h)) (RDAll.c (RDStep.mk (i := 12) rfl rfl rfl rfl (OW.loadP tO rfl rfl rfl hx rfl (X := fun _ _ => False)) ?_ (fun _ _ h => False.elim h)) RDAll.n))
  ·rintro _ _ ⟨rfl, hs2⟩
   rw [hs2]
   clear hs2
   refine RD.run rfl ?_
   refine RD.many rfl (RDAll.c (RDStep.mk (i := 8) rfl rfl rfl rfl (OW.appendB tO rfl rfl rfl rfl (by intro k h; cases h) rfl rfl rfl rfl rfl rfl rfl (n := G.length) (by rw [strs_length, List.length_map]) (by show (G.length + 1) * 16 ≤ _; omega) (by omega) h.r1 (X := fun _ _ => False)) ?_ (fun _ _ h => False.elim h)) (RDAll.c (RDStep.mk (i := 12) rfl rfl rfl rfl (OW.loadP tO rfl rfl rfl hx rfl (X := fun _ _ => False)) ?_ (fun _ _ h => False.elim h)) RDAll.n))
   ·rintro _ _ ⟨b1, hf1, rfl, rfl⟩
    refine RD.run rfl ?_
    refine RD.many rfl (RDAll.c (RDStep.mk (i := 12) rfl rfl rfl rfl (OW.loadP tO rfl rfl rfl (grow_keep (n := 0) (own' := .own b1) h.r1 hf1 hx rfl) rfl (X := fun _ _ => False)) ?_ (fun _ _ h => False.elim h)) RDAll.n)
    ·rintro _ _ ⟨rfl, hs2⟩
     rw [hs2]
     clear hs2
     refine RD.run rfl ?_
     have r2' := grow_row (e := 9) (sz := 1) (m := G.length + 1) (n := 0) (own' := .own b1) h.r2 h.d12 hf1
     have hx1 := grow_keep (e := 9) (sz := 1) (m := G.length + 1) (n := 0) (own' := .own b1) h.r1 hf1 hx rfl
     refine RD.one (i := 15) rfl rfl rfl rfl rfl (OW.appendB tO rfl rfl rfl rfl (by intro k h; cases h) rfl rfl rfl rfl rfl rfl rfl (n := G.length) (by rw [ints_length, List.length_map]) (by show (G.length + 1) * 8 ≤ _; omega) (by omega) r2' (X := fun _ _ => False)) ?_ (fun _ _ h => False.elim h)
     rintro _ _ ⟨b2, hb2, rfl, rfl⟩
     have hx2 := grow_keep (e := 3) (sz := 1) (m := G.length + 1) (n := 0) (own' := .own b2) r2' hb2 hx1 rfl
     refine RD.run rfl ?_
     refine RD.oneN (i := 18) rfl rfl rfl rfl (OW.storeP tO rfl rfl rfl rfl rfl rfl rfl hx2 rfl (X := fun _ _ => False)) ?_ (fun _ _ h => False.elim h)
     rintro _ _ rfl
     refine RD.run rfl ?_
     refine RD.oneN (i := 21) rfl rfl rfl rfl (OW.storeP tO rfl rfl rfl rfl rfl rfl rfl (Store.set_same _ _ _) rfl (X := fun _ _ => False)) ?_ (fun _ _ h => False.elim h)
     rintro _ _ rfl
     refine RD.run rfl (RD.done rfl ?_)
     rw [Store.set_set]
     have hA := h.add x n hf1 hb2
     skip
     refine ⟨_, _, _, rfl, AVle.refl _, ?_, rfl, .own b1, .own b2, hA⟩
     have e1 : strs ((G ++ [(x, n)]).map (·.1)) = strs (G.map (·.1)) ++ [.str x] := by simp [strs]
     have e2 : ints ((G ++ [(x, n)]).map (·.2)) = ints (G.map (·.2)) ++ [.int .i64 n] := by simp [ints]
     rw [noterCells, e1, e2]
     exact Store.sub_refl _
   ·rintro _ _ ⟨rfl, hs2⟩
    rw [hs2]
    clear hs2
    refine RD.run rfl ?_
    refine RD.many rfl (RDAll.c (RDStep.mk (i := 8) rfl rfl rfl rfl (OW.appendB tO rfl rfl rfl rfl (by intro k h; cases h) rfl rfl rfl rfl rfl rfl rfl (n := G.length) (by rw [strs_length, List.length_map]) (by show (G.length + 1) * 16 ≤ _; omega) (by omega) h.r1 (X := fun _ _ => False)) ?_ (fun _ _ h => False.elim h)) RDAll.n)
    ·rintro _ _ ⟨b1, hf1, rfl, rfl⟩
     refine RD.run rfl ?_
     have r2' := grow_row (e := 9) (sz := 1) (m := G.length + 1) (n := 0) (own' := .own b1) h.r2 h.d12 hf1
     have hx1 := grow_keep (e := 9) (sz := 1) (m := G.length + 1) (n := 0) (own' := .own b1) h.r1 hf1 hx rfl
     refine RD.one (i := 15) rfl rfl rfl rfl rfl (OW.appendB tO rfl rfl rfl rfl (by intro k h; cases h) rfl rfl rfl rfl rfl rfl rfl (n := G.length) (by rw [ints_length, List.length_map]) (by show (G.length + 1) * 8 ≤ _; omega) (by omega) r2' (X := fun _ _ => False)) ?_ (fun _ _ h => False.elim h)
     rintro _ _ ⟨b2, hb2, rfl, rfl⟩
     have hx2 := grow_keep (e := 3) (sz := 1) (m := G.length + 1) (n := 0) (own' := .own b2) r2' hb2 hx1 rfl
     refine RD.run rfl ?_
     refine RD.oneN (i := 18) rfl rfl rfl rfl (OW.storeP tO rfl rfl rfl rfl rfl rfl rfl hx2 rfl (X := fun _ _ => False)) ?_ (fun _ _ h => False.elim h)
     rintro _ _ rfl
     refine RD.run rfl ?_
     refine RD.oneN (i := 21) rfl rfl rfl rfl (OW.storeP tO rfl rfl rfl rfl rfl rfl rfl (Store.set_same _ _ _) rfl (X := fun _ _ => False)) ?_ (fun _ _ h => False.elim h)
     rintro _ _ rfl
     refine RD.run rfl (RD.done rfl ?_)
     rw [Store.set_set]
     have hA := h.add x n hf1 hb2
     skip
     refine ⟨_, _, _, rfl, AVle.refl _, ?_, rfl, .own b1, .own b2, hA⟩
     have e1 : strs ((G ++ [(x, n)]).map (·.1)) = strs (G.map (·.1)) ++ [.str x] := by simp [strs]
     have e2 : ints ((G ++ [(x, n)]).map (·.2)) = ints (G.map (·.2)) ++ [.int .i64 n] := by simp [ints]
     rw [noterCells, e1, e2]
     exact Store.sub_refl _
  ·rintro _ _ ⟨rfl, hs2⟩
   rw [hs2]
   clear hs2
   refine RD.run rfl ?_
   refine RD.many rfl (RDAll.c (RDStep.mk (i := 5) rfl rfl rfl rfl (OW.loadP tO rfl rfl rfl hx rfl (X := fun _ _ => False)) ?_ (fun _ _ h => False.elim h)) RDAll.n)
   ·rintro _ _ ⟨rfl, hs2⟩
    rw [hs2]
    clear hs2
    refine RD.run rfl ?_
    refine RD.many rfl (RDAll.c (RDStep.mk (i := 8) rfl rfl rfl rfl (OW.appendB tO rfl rfl rfl rfl (by intro k h; cases h) rfl rfl rfl rfl rfl rfl rfl (n := G.length) (by rw [strs_length, List.length_map]) (by show (G.length + 1) * 16 ≤ _; omega) (by omega) h.r1 (X := fun _ _ => False)) ?_ (fun _ _ h => False.elim h)) RDAll.n)
    ·rintro _ _ ⟨b1, hf1, rfl, rfl⟩
     refine RD.run rfl ?_
     have r2' := grow_row (e := 9) (sz := 1) (m := G.length + 1) (n := 0) (own' := .own b1) h.r2 h.d12 hf1
     have hx1 := grow_keep (e := 9) (sz := 1) (m := G.length + 1) (n := 0) (own' := .own b1) h.r1 hf1 hx rfl
     refine RD.one (i := 15) rfl rfl rfl rfl rfl (OW.appendB tO rfl rfl rfl rfl (by intro k h; cases h) rfl rfl rfl rfl rfl rfl rfl (n := G.length) (by rw [ints_length, List.length_map]) (by show (G.length + 1) * 8 ≤ _; omega) (by omega) r2' (X := fun _ _ => False)) ?_ (fun _ _ h => False.elim h)
     rintro _ _ ⟨b2, hb2, rfl, rfl⟩
     have hx2 := grow_keep (e := 3) (sz := 1) (m := G.length + 1) (n := 0) (own' := .own b2) r2' hb2 hx1 rfl
     refine RD.run rfl ?_
     refine RD.oneN (i := 18) rfl rfl rfl rfl (OW.storeP tO rfl rfl rfl rfl rfl rfl rfl hx2 rfl (X := fun _ _ => False)) ?_ (fun _ _ h => False.elim h)
     rintro _ _ rfl
     refine RD.run rfl ?_
     refine RD.oneN (i := 21) rfl rfl rfl rfl (OW.storeP tO rfl rfl rfl rfl rfl rfl rfl (Store.set_same _ _ _) rfl (X := fun _ _ => False)) ?_ (fun _ _ h => False.elim h)
     rintro _ _ rfl
     refine RD.run rfl (RD.done rfl ?_)
     rw [Store.set_set]
     have hA := h.add x n hf1 hb2
     skip
     refine ⟨_, _, _, rfl, AVle.refl _, ?_, rfl, .own b1, .own b2, hA⟩
     have e1 : strs ((G ++ [(x, n)]).map (·.1)) = strs (G.map (·.1)) ++ [.str x] := by simp [strs]
     have e2 : ints ((G ++ [(x, n)]).map (·.2)) = ints (G.map (·.2)) ++ [.int .i64 n] := by simp [ints]
     rw [noterCells, e1, e2]
     exact Store.sub_refl _
 | some q =>
  have hgn : gNote (G, is) x n = (G, is && q.2 == n) := by unfold gNote; rw [hf]
  rw [hf] at hidx
  simp only at hidx
  obtain ⟨j, hj, hidx⟩ := hidx
  rw [hidx, hgn]
  have hjl : j < G.length := (List.getElem?_eq_some_iff.1 hj).1
  have hq' : (ints (G.map (·.2)))[j]? = some (.int .i64 q.2) := by simp [ints, hj]
  repeat (first | with_reducible refine CW.seq ?_ | with_reducible refine aN ?_ | refine CW.reg (RL.run tO rfl (RL.nil ?_)) | refine CW.reg ?_ | refine RL.nil ?_ | refine CW.condF rfl ?_ | refine RL.step tO rfl rfl rfl rfl ?_ | refine RL.loadP tO rfl rfl rfl rfl rfl rfl (by assumption) rfl ?_ | refine RL.idx tO _ rfl rfl rfl rfl rfl rfl rfl rfl rfl rfl rfl (by assumption) rfl ?_)
  refine CW.cond rfl (fun hc => ?_) (fun hc => ?_)
  ·have hne : (q.2 == n) = false := by simpa using hc
   rw [hne, Bool.and_false]
   repeat (first | refine CW.reg ?_ | refine RL.step tO rfl rfl rfl rfl ?_)
   refine RL.storeP tO rfl rfl rfl rfl rfl rfl rfl rfl rfl hx rfl ?_
   repeat (first | refine RL.nil ?_)
   exact ⟨_, _, _, rfl, AVle.refl _, Store.sub_refl _, rfl, o1, o2, h.bad false⟩
  ·have heq : (q.2 == n) = true := by simpa using hc
   rw [heq, Bool.and_true]
   repeat (first | with_reducible refine CW.skip ?_)
   exact ⟨_, _, _, rfl, AVle.refl _, Store.sub_refl _, rfl, o1, o2, h⟩
end Go.Proofs.YtaafacnoddjhgaaGreat

