import Derived.Test.YtaafacnoddjhgaaMl
/- Contracts of the reference: what a fact has to be. -/
namespace Go.Proofs.Ytaafacnoddjhgaa
open Go.AE

/-! ### Its nodes -/
set_option maxRecDepth 10000 in
theorem refFactNodes_spec : ∀ (n : Nat) (e : FFact) (s : Store), e.size ≤ n → e.size ≤ big → ACalls Try.prog 53 [e.av] s (fun o s' => o = .ret (.int .i64 (e.size : Int)) ∧ s' = s) := by
  intro n
  induction n with
  | zero => intro e s h; have := e.size_pos; omega
  | succ n ih =>
    intro e s hn hbig
    have hlen := e.kids_length
    have hkl := e.kav_length
    have hb : big = 1099511627776 := rfl
    have hsz : e.size = 1 + FFact.sizes e.kids := by cases e; rw [FFact.size]; rfl
    refine ACalls.of_CW tysOk call53 Try.func53 rfl rfl ?_
    repeat (first | with_reducible refine CW.seq ?_ | with_reducible refine andThen_normal ?_ | with_reducible refine CW.block ?_ | refine CW.reg (RL.run tysOk rfl (RL.nil ?_)))
    refine CW.loop (σ := Nat × Nat) (fun q => [(1, .fptr e.cells 0), (3, .int .i64 (q.2 : Int)), (4, .int .i64 (q.1 : Int))])
      (fun _ => s) (fun q => q.1 ≤ e.kids.length ∧ q.2 + FFact.sizes (e.kids.drop q.1) = e.size) (fun q => e.kids.length - q.1) (0, 1) ⟨by simp, by simp [hsz]⟩ ?_ (Store.sub_refl _) ?_
    · exact (by repeat (first | exact trivial | refine ⟨⟨_, rfl, AVle.refl _⟩, ?_⟩))
    · rintro ⟨j, m⟩ ⟨hj, hI⟩
      simp only at hj hI
      repeat (first | with_reducible refine CW.seq ?_ | with_reducible refine andThen_normal ?_ | refine CW.reg (RL.run tysOk rfl (RL.nil ?_)))
      refine CW.cond rfl (fun h => ?_) (fun h => ?_)
      · have hlt : j < e.kids.length := by rw [hkl] at h; simpa using h
        obtain ⟨k, hk, hk', hks⟩ := FFact.kid_at hlt
        rw [drop_cons hk, FFact.sizes] at hI
        repeat (first | with_reducible refine CW.seq ?_ | with_reducible refine andThen_normal ?_ | with_reducible refine CW.skip ?_ | with_reducible refine CW.block ?_ | refine CW.reg ?_ | refine RL.step tysOk rfl rfl rfl rfl ?_ | refine RL.idx tysOk _ rfl rfl rfl rfl rfl rfl rfl rfl rfl rfl rfl (by assumption) rfl ?_)
        refine RL.callP rfl rfl rfl rfl rfl (ih k _ (by omega) (by omega)) ?_
        repeat (first | with_reducible refine andThen_normal ?_ | with_reducible refine inBlock_normal ?_ | refine CW.reg (RL.run tysOk rfl (RL.nil ?_)) | refine RL.nil ?_ | refine RL.step tysOk rfl rfl rfl rfl ?_)
        refine ⟨(j + 1, m + k.size), ⟨hlt, by simp only; omega⟩, (by repeat (first | exact trivial | refine ⟨⟨_, rfl, AVle.refl _⟩, ?_⟩ | refine ⟨⟨_, rfl, AVle.of_eq (by (first | (show AV.int .i64 (IntKind.wrap .i64 ((j : Int) + 1)) = .int .i64 ((j + 1 : Nat) : Int); rw [i64_succ (by omega)]) | (rw [i64_wrap (by omega) (by omega)]; congr 1)))⟩, ?_⟩)), Store.sub_refl _, by show e.kids.length - (j + 1) < e.kids.length - j; omega⟩
      · have hge : e.kids.length ≤ j := by rw [hkl] at h; simpa using h
        rw [List.drop_eq_nil_of_le hge, FFact.sizes] at hI
        repeat (first | with_reducible refine CW.seq ?_ | with_reducible refine andThen_normal ?_ | with_reducible refine andThen_exit ?_ | with_reducible refine inBlock_here ?_ | with_reducible refine CW.ret ?_ | with_reducible refine CW.exit ?_ | refine CW.reg (RL.run tysOk rfl (RL.nil ?_)))
        refine ⟨_, _, s, rfl, AVle.refl _, Store.sub_refl _, ?_, rfl⟩
        rw [← hI]; rfl

/-! ### What is known, and a fact within it -/
def knownCells (ps ss cs : List Str) (o1 o2 o3 : Own) : List AV := [.slc 1 (strs ps) o1, .slc 1 (strs ss) o2, .slc 1 (strs cs) o3]

def opF (op : Int) : Bool := decide (1 ≤ op) && decide (op ≤ 7)
def badK1 (ps : List Str) (f : FFact) : Bool :=
  ((!((f.kids.length : Int) == kidsF f.op) || (!atomF f && (!(f.name == []) || decide ((f.path.length : Int) > 0)))) || (atomF f && !ps.contains f.name)) || decide ((f.path.length : Int) > 2)
def badK2 (cs : List Str) (f : FFact) : Bool := !((f.op == 2) == !(f.cls == [])) || (f.op == 2 && !cs.contains f.cls)
def badK3 (f : FFact) : Bool := ((!(f.op == 3) && !(f.op == 4)) && !(f.n == 0)) || !between f.n
def okK (ps ss cs : List Str) (f : FFact) : Bool := opF f.op && (!badK1 ps f && (!badK2 cs f && (!badK3 f && f.path.all ss.contains)))

mutual
/-- The nodes counted down from k: whether all are right, and what is left. -/
def FFact.cnt (ps ss cs : List Str) (d : Nat) (k : Int) : FFact → Bool × Int
  | .mk o x p c n ks => if (decide (k - 1 < 0) || decide (d > 12)) || !okK ps ss cs (.mk o x p c n ks) then (false, k - 1) else FFact.cnts ps ss cs (d + 1) (k - 1) ks
def FFact.cnts (ps ss cs : List Str) (d : Nat) (k : Int) : List FFact → Bool × Int
  | [] => (true, k)
  | e :: r => if (FFact.cnt ps ss cs d k e).1 then FFact.cnts ps ss cs d (FFact.cnt ps ss cs d k e).2 r else (false, (FFact.cnt ps ss cs d k e).2)
end

theorem FFact.cnt_def (ps ss cs : List Str) (d : Nat) (k : Int) (e : FFact) : FFact.cnt ps ss cs d k e = if (decide (k - 1 < 0) || decide (d > 12)) || !okK ps ss cs e then (false, k - 1) else FFact.cnts ps ss cs (d + 1) (k - 1) e.kids := by
  cases e; rw [FFact.cnt]; rfl

mutual
theorem FFact.cnt_le (ps ss cs : List Str) : ∀ (e : FFact) (d : Nat) (k : Int), (FFact.cnt ps ss cs d k e).1 = true → 0 ≤ (FFact.cnt ps ss cs d k e).2 ∧ (FFact.cnt ps ss cs d k e).2 ≤ k
  | .mk o x p c n ks, d, k, h => by
    rw [FFact.cnt] at h ⊢
    split at h
    · cases h
    · rename_i hc
      rw [if_neg hc]
      have := FFact.cnts_le ps ss cs ks (d + 1) (k - 1) (by simp only [Bool.or_eq_true, decide_eq_true_eq, not_or] at hc; omega) h
      omega
theorem FFact.cnts_le (ps ss cs : List Str) : ∀ (l : List FFact) (d : Nat) (k : Int), 0 ≤ k → (FFact.cnts ps ss cs d k l).1 = true → 0 ≤ (FFact.cnts ps ss cs d k l).2 ∧ (FFact.cnts ps ss cs d k l).2 ≤ k
  | [], d, k, hk, h => by rw [FFact.cnts]; exact ⟨hk, Int.le_refl _⟩
  | e :: r, d, k, hk, h => by
    rw [FFact.cnts] at h ⊢
    split at h
    · rename_i hc
      rw [if_pos hc]
      obtain ⟨h1, h2⟩ := FFact.cnt_le ps ss cs e d k hc
      obtain ⟨h3, h4⟩ := FFact.cnts_le ps ss cs r d _ h1 h
      exact ⟨h3, Int.le_trans h4 h2⟩
    · cases h
end

theorem fact_nodes (e : FFact) (d : Nat) : (Part.fact e).nodes d = (d, .fact e) :: e.kids.flatMap (fun k => (Part.fact k).nodes (d + 1)) := by
  rw [Part.nodes_eq]
  show _ :: (e.kids.map Part.fact).flatMap _ = _
  rw [List.flatMap_map]

def okKP (ps ss cs : List Str) (x : Nat × Part) : Bool := decide (x.1 ≤ 12) && match x.2 with | .fact f => okK ps ss cs f | .exp _ => true

mutual
theorem cntF_nodes (ps ss cs : List Str) : ∀ (e : FFact) (d : Nat) (k : Int), 0 ≤ k → (FFact.cnt ps ss cs d k e).1 = (decide ((e.size : Int) ≤ k) && ((Part.fact e).nodes d).all (okKP ps ss cs)) ∧ ((FFact.cnt ps ss cs d k e).1 = true → (FFact.cnt ps ss cs d k e).2 = k - e.size)
  | .mk o x p c n ks, d, k, hk => by
    have hsz : (FFact.mk o x p c n ks).size = 1 + FFact.sizes ks := by rw [FFact.size]
    rw [FFact.cnt, fact_nodes, List.all_cons]
    have hok : okKP ps ss cs (d, .fact (.mk o x p c n ks)) = (decide (d ≤ 12) && okK ps ss cs (.mk o x p c n ks)) := rfl
    rw [hok]
    split
    · rename_i h
      refine ⟨?_, fun h => by cases h⟩
      simp only [Bool.or_eq_true, decide_eq_true_eq, Bool.not_eq_true'] at h
      rcases h with (h | h) | h
      · rw [decide_eq_false (by rw [hsz]; omega)]; rfl
      · rw [decide_eq_false (by omega : ¬ d ≤ 12)]; simp
      · rw [h]; simp
    · rename_i h
      simp only [Bool.or_eq_true, decide_eq_true_eq, Bool.not_eq_true', not_or, Bool.not_eq_false] at h
      obtain ⟨⟨h1, h2⟩, h3⟩ := h
      obtain ⟨g1, g2⟩ := cntsF_nodes ps ss cs ks (d + 1) (k - 1) (by omega)
      refine ⟨?_, fun h => by rw [g2 h, hsz]; omega⟩
      rw [g1, h3, decide_eq_true (by omega : d ≤ 12), hsz]
      have : (decide (((1 + FFact.sizes ks : Nat) : Int) ≤ k)) = decide ((FFact.sizes ks : Int) ≤ k - 1) := by
        rw [Bool.eq_iff_iff]; simp; omega
      rw [this]; simp [FFact.kids]
theorem cntsF_nodes (ps ss cs : List Str) : ∀ (l : List FFact) (d : Nat) (k : Int), 0 ≤ k → (FFact.cnts ps ss cs d k l).1 = (decide ((FFact.sizes l : Int) ≤ k) && (l.flatMap fun e => (Part.fact e).nodes d).all (okKP ps ss cs)) ∧ ((FFact.cnts ps ss cs d k l).1 = true → (FFact.cnts ps ss cs d k l).2 = k - FFact.sizes l)
  | [], d, k, hk => by simp [FFact.cnts, FFact.sizes, hk]
  | e :: r, d, k, hk => by
    obtain ⟨g1, g2⟩ := cntF_nodes ps ss cs e d k hk
    rw [FFact.cnts, FFact.sizes, List.flatMap_cons, List.all_append]
    split
    · rename_i h
      rw [g2 h]
      rw [h] at g1
      have g1' := g1.symm
      simp only [Bool.and_eq_true, decide_eq_true_eq] at g1'
      obtain ⟨q1, q2⟩ := cntsF_nodes ps ss cs r d (k - e.size) (by omega)
      refine ⟨?_, fun h => by rw [q2 h]; omega⟩
      rw [q1, g1'.2]
      have : (decide (((e.size + FFact.sizes r : Nat) : Int) ≤ k)) = decide ((FFact.sizes r : Int) ≤ k - e.size) := by
        rw [Bool.eq_iff_iff]; simp; omega
      rw [this]; simp
    · rename_i h
      rw [Bool.not_eq_true] at h
      refine ⟨?_, fun h => by cases h⟩
      rw [h] at g1
      cases ha : ((Part.fact e).nodes d).all (okKP ps ss cs) with
      | false => simp
      | true =>
        rw [ha] at g1
        simp only [Bool.and_true] at g1
        have := of_decide_eq_false g1.symm
        rw [decide_eq_false (by omega)]; rfl
end

theorem all_take {α : Type} {f : α → Bool} {l : List α} {j : Nat} {x : α} (hx : l[j]? = some x) (h : l.all f = (l.drop j).all f) (hf : f x = true) : l.all f = (l.drop (j + 1)).all f := by
  rw [h, drop_cons hx, List.all_cons, hf]; rfl
theorem all_miss {α : Type} {f : α → Bool} {l : List α} {j : Nat} {x : α} (hx : l[j]? = some x) (hf : f x = false) : l.all f = false := by
  rw [Bool.eq_false_iff]; intro h
  have := List.all_eq_true.1 h x (List.mem_of_getElem? hx)
  rw [hf] at this; cases this

set_option maxRecDepth 10000 in
set_option maxHeartbeats 4000000 in
theorem refKFact_spec (lb : Nat) (ps ss cs : List Str) (o1 o2 o3 : Own) (hps : ps.length < 9223372036854775807) (hss : ss.length < 9223372036854775807) (hcs : cs.length < 9223372036854775807) :
    ∀ (n : Nat) (f : FFact) (dd d : Nat) (k : Int) (s : Store), f.size ≤ n → f.size ≤ big → (∀ x ∈ (Part.fact f).nodes dd, x.2.texts) → 0 ≤ k → k ≤ 120 → d ≤ 13 → s lb = some (leftO k) →
    ACalls Try.prog 111 [.agg (knownCells ps ss cs o1 o2 o3), f.av, .int .i64 (d : Int), .ptr lb 0] s (fun o s' => o = .ret (.bool (FFact.cnt ps ss cs d k f).1) ∧ s' = s.set lb (leftO (FFact.cnt ps ss cs d k f).2)) := by
  intro n
  induction n with
  | zero => intro f dd d k s h; have := f.size_pos; omega
  | succ n ih =>
    intro f dd d k s hn hbig hsh hk0 hk hd hs
    have hlen := f.kids_length
    have hkl := f.kav_length
    have hb : big = 1099511627776 := rfl
    have htx : f.Texts := hsh (dd, .fact f) (by rw [Part.nodes_eq]; exact List.mem_cons_self)
    obtain ⟨-, -, hpl, -⟩ := htx
    have hcd := FFact.cnt_def ps ss cs d k f
    refine ACalls.of_CW tysOk call111 Try.func111 rfl rfl ?_
    refine CW.seqCut [(2, .int .i64 (d : Int)), (3, .ptr lb 0), (4, .fptr (knownCells ps ss cs o1 o2 o3) 0), (5, .fptr f.cells 0)] s ?_ ?_
    · repeat (first | refine CW.reg (RL.run tysOk rfl (RL.nil ?_)))
      exact ⟨rfl, (by repeat (first | exact trivial | refine ⟨⟨_, rfl, AVle.refl _⟩, ?_⟩)), Store.sub_refl _⟩
    refine CW.seqCut [(2, .int .i64 (d : Int)), (3, .ptr lb 0), (4, .fptr (knownCells ps ss cs o1 o2 o3) 0), (5, .fptr f.cells 0)] (s.set lb (leftO (k - 1))) ?_ ?_
    · repeat (first | refine CW.reg ?_ | refine RL.step tysOk rfl rfl rfl rfl ?_ | refine RL.loadP tysOk rfl rfl rfl rfl rfl rfl (by assumption) rfl ?_)
      refine RL.storeP tysOk rfl rfl rfl rfl rfl rfl rfl rfl rfl hs rfl ?_
      repeat (first | refine RL.nil ?_)
      refine ⟨rfl, (by repeat (first | exact trivial | refine ⟨⟨_, rfl, AVle.refl _⟩, ?_⟩)), ?_⟩
      show Store.Sub (s.set lb (leftO (k - 1))) (s.set lb (leftO (IntKind.wrap .i64 (k - 1))))
      rw [i64_wrap (by omega) (by omega)]; exact Store.sub_refl _
    have hs1 : (s.set lb (leftO (k - 1))) lb = some (leftO (k - 1)) := Store.set_same _ _ _
    refine CW.seq ?_
    refine CW.seqCut [(2, .int .i64 (d : Int)), (3, .ptr lb 0), (4, .fptr (knownCells ps ss cs o1 o2 o3) 0), (5, .fptr f.cells 0), (26, .bool (decide (k - 1 < 0) || decide (d > 12)))] (s.set lb (leftO (k - 1))) ?_ ?_
    · repeat' (first | refine CW.reg ?_ | refine RL.nil ?_ | refine RL.step tysOk rfl rfl rfl rfl ?_ | refine RL.skip rfl rfl rfl ?_ | refine RL.gstepF tysOk rfl rfl rfl rfl rfl rfl rfl (fun _ => ?_) (fun _ => ?_) | refine RL.loadP tysOk rfl rfl rfl rfl rfl rfl hs1 rfl ?_)
      all_goals refine ⟨rfl, (by repeat (first | exact trivial | refine ⟨⟨_, rfl, AVle.refl _⟩, ?_⟩ | refine ⟨⟨_, rfl, AVle.of_eq (by (congr 1; rw [Bool.eq_iff_iff]; simp_all; (try omega)))⟩, ?_⟩)), Store.sub_refl _⟩
    cases hc : decide (k - 1 < 0) || decide (d > 12) with
    | true =>
      rw [hc, Bool.true_or, if_pos rfl] at hcd
      rw [hcd]
      repeat (first | with_reducible refine CW.seq ?_ | with_reducible refine andThen_normal ?_ | with_reducible refine andThen_ret ?_ | with_reducible refine CW.ret ?_ | refine CW.reg (RL.run tysOk rfl (RL.nil ?_)) | refine CW.condT rfl ?_)
      exact ⟨_, _, _, rfl, AVle.refl _, Store.sub_refl _, rfl, rfl⟩
    | false =>
    rw [hc, Bool.false_or] at hcd
    simp only [Bool.or_eq_false_iff, decide_eq_false_iff_not] at hc
    have hbad : okK ps ss cs f = false → FFact.cnt ps ss cs d k f = (false, k - 1) := fun h => by rw [hcd, h]; rfl
    refine CW.condF rfl (CW.skip (andThen_normal ?_))
    refine CW.seqCut [(2, .int .i64 (d : Int)), (3, .ptr lb 0), (4, .fptr (knownCells ps ss cs o1 o2 o3) 0), (5, .fptr f.cells 0), (9, .bool (atomF f))] (s.set lb (leftO (k - 1))) ?_ ?_
    · repeat' (first | refine CW.reg ?_ | refine RL.nil ?_ | refine RL.step tysOk rfl rfl rfl rfl ?_ | refine RL.skip rfl rfl rfl ?_ | refine RL.gstepF tysOk rfl rfl rfl rfl rfl rfl rfl (fun _ => ?_) (fun _ => ?_))
      all_goals refine ⟨rfl, (by repeat (first | exact trivial | refine ⟨⟨_, rfl, AVle.refl _⟩, ?_⟩ | refine ⟨⟨_, rfl, AVle.of_eq (by (simp only [atomF]; simp_all))⟩, ?_⟩)), Store.sub_refl _⟩
    by_cases hop : opF f.op = true
    case neg =>
      have hok : okK ps ss cs f = false := by unfold okK; rw [Bool.eq_false_iff.2 hop]; rfl
      have hall : f.op ≠ 1 ∧ f.op ≠ 2 ∧ f.op ≠ 3 ∧ f.op ≠ 4 ∧ f.op ≠ 5 ∧ f.op ≠ 6 ∧ f.op ≠ 7 := by
        refine ⟨?_, ?_, ?_, ?_, ?_, ?_, ?_⟩ <;> (intro h; rw [h] at hop; simp [opF] at hop)
      rw [hbad hok]
      repeat (first | with_reducible refine CW.seq ?_ | with_reducible refine andThen_normal ?_ | with_reducible refine CW.block ?_ | refine CW.reg (RL.run tysOk rfl (RL.nil ?_)))
      refine CW.cond rfl (fun h => absurd h (by simp; omega)) (fun _ => ?_)
      repeat (first | with_reducible refine CW.seq ?_ | with_reducible refine andThen_normal ?_ | refine CW.reg (RL.run tysOk rfl (RL.nil ?_)))
      refine CW.cond rfl (fun h => absurd h (by simp; omega)) (fun _ => ?_)
      repeat (first | with_reducible refine andThen_normal ?_ | refine CW.reg (RL.run tysOk rfl (RL.nil ?_)))
      refine CW.cond rfl (fun h => absurd h (by simp; omega)) (fun _ => ?_)
      repeat (first | with_reducible refine CW.seq ?_ | with_reducible refine andThen_normal ?_ | refine CW.reg (RL.run tysOk rfl (RL.nil ?_)))
      refine CW.cond rfl (fun h => absurd h (by simp; omega)) (fun _ => ?_)
      repeat (first | with_reducible refine CW.seq ?_ | with_reducible refine andThen_normal ?_ | refine CW.reg (RL.run tysOk rfl (RL.nil ?_)))
      refine CW.cond rfl (fun h => absurd h (by simp; omega)) (fun _ => ?_)
      repeat (first | with_reducible refine CW.seq ?_ | with_reducible refine andThen_normal ?_ | refine CW.reg (RL.run tysOk rfl (RL.nil ?_)))
      refine CW.cond rfl (fun h => absurd h (by simp; omega)) (fun _ => ?_)
      repeat (first | with_reducible refine andThen_normal ?_ | refine CW.reg (RL.run tysOk rfl (RL.nil ?_)))
      refine CW.cond rfl (fun h => absurd h (by simp; omega)) (fun _ => ?_)
      repeat (first | with_reducible refine CW.seq ?_ | with_reducible refine andThen_normal ?_ | with_reducible refine andThen_ret ?_ | with_reducible refine inBlock_ret ?_ | with_reducible refine CW.ret ?_ | refine CW.reg (RL.run tysOk rfl (RL.nil ?_)))
      exact ⟨_, _, _, rfl, AVle.refl _, Store.sub_refl _, rfl, rfl⟩
    refine CW.seqCut [(2, .int .i64 (d : Int)), (3, .ptr lb 0), (4, .fptr (knownCells ps ss cs o1 o2 o3) 0), (5, .fptr f.cells 0), (9, .bool (atomF f)), (10, .int .i64 0)] (s.set lb (leftO (k - 1))) ?_ ?_
    · repeat (first | refine CW.reg (RL.run tysOk rfl (RL.nil ?_)))
      exact ⟨rfl, (by repeat (first | exact trivial | refine ⟨⟨_, rfl, AVle.refl _⟩, ?_⟩)), Store.sub_refl _⟩
    refine CW.seqCut [(2, .int .i64 (d : Int)), (3, .ptr lb 0), (4, .fptr (knownCells ps ss cs o1 o2 o3) 0), (5, .fptr f.cells 0), (9, .bool (atomF f)), (10, .int .i64 (kidsF f.op))] (s.set lb (leftO (k - 1))) ?_ ?_
    · have ho : f.op = 1 ∨ f.op = 2 ∨ f.op = 3 ∨ f.op = 4 ∨ f.op = 5 ∨ f.op = 6 ∨ f.op = 7 := by
        simp only [opF, Bool.and_eq_true, decide_eq_true_eq] at hop; omega
      generalize hat : atomF f = at_
      clear hat
      obtain ⟨o, x, p, c, n', ks⟩ := f
      simp only [FFact.op] at ho
      rcases ho with rfl | rfl | rfl | rfl | rfl | rfl | rfl
      all_goals repeat (first | with_reducible refine CW.seq ?_ | with_reducible refine andThen_normal ?_ | with_reducible refine inBlock_normal ?_ | with_reducible refine CW.skip ?_ | with_reducible refine CW.block ?_ | refine CW.reg (RL.run tysOk rfl (RL.nil ?_)) | refine CW.condT rfl ?_ | refine CW.condF rfl ?_)
      all_goals exact ⟨rfl, (by repeat (first | exact trivial | refine ⟨⟨_, rfl, AVle.refl _⟩, ?_⟩)), Store.sub_refl _⟩
    refine CW.seq ?_
    refine CW.seqCut [(2, .int .i64 (d : Int)), (3, .ptr lb 0), (4, .fptr (knownCells ps ss cs o1 o2 o3) 0), (5, .fptr f.cells 0), (9, .bool (atomF f)), (88, .bool (badK1 ps f))] (s.set lb (leftO (k - 1))) ?_ ?_
    · generalize hat : atomF f = at_
      repeat' (first | refine CW.reg ?_ | refine RL.nil ?_ | refine RL.step tysOk rfl rfl rfl rfl ?_ | refine RL.skip rfl rfl rfl ?_ | refine RL.gstepT tysOk rfl rfl rfl rfl rfl rfl rfl (fun _ => ?_) (fun _ => ?_) | refine RL.gstepF tysOk rfl rfl rfl rfl rfl rfl rfl (fun _ => ?_) (fun _ => ?_) | refine RL.callP rfl rfl rfl rfl rfl (refHas_spec ps o1 f.name _ hps) ?_)
      all_goals refine ⟨rfl, (by repeat (first | exact trivial | refine ⟨⟨_, rfl, AVle.refl _⟩, ?_⟩ | refine ⟨⟨_, rfl, AVle.of_eq (by (simp only [badK1, hat]; simp_all))⟩, ?_⟩)), Store.sub_refl _⟩
    cases h1 : badK1 ps f with
    | true =>
      rw [hbad (by unfold okK; rw [h1]; simp)]
      repeat (first | with_reducible refine CW.seq ?_ | with_reducible refine andThen_normal ?_ | with_reducible refine andThen_ret ?_ | with_reducible refine CW.ret ?_ | refine CW.reg (RL.run tysOk rfl (RL.nil ?_)) | refine CW.condT rfl ?_)
      exact ⟨_, _, _, rfl, AVle.refl _, Store.sub_refl _, rfl, rfl⟩
    | false =>
    refine CW.condF rfl (CW.skip (andThen_normal ?_))
    refine CW.seq ?_
    refine CW.seqCut [(2, .int .i64 (d : Int)), (3, .ptr lb 0), (4, .fptr (knownCells ps ss cs o1 o2 o3) 0), (5, .fptr f.cells 0), (108, .bool (badK2 cs f))] (s.set lb (leftO (k - 1))) ?_ ?_
    · repeat' (first | refine CW.reg ?_ | refine RL.nil ?_ | refine RL.step tysOk rfl rfl rfl rfl ?_ | refine RL.skip rfl rfl rfl ?_ | refine RL.gstepT tysOk rfl rfl rfl rfl rfl rfl rfl (fun _ => ?_) (fun _ => ?_) | refine RL.gstepF tysOk rfl rfl rfl rfl rfl rfl rfl (fun _ => ?_) (fun _ => ?_) | refine RL.callP rfl rfl rfl rfl rfl (refHas_spec cs o3 f.cls _ hcs) ?_)
      all_goals refine ⟨rfl, (by repeat (first | exact trivial | refine ⟨⟨_, rfl, AVle.refl _⟩, ?_⟩ | refine ⟨⟨_, rfl, AVle.of_eq (by (simp only [badK2]; simp_all))⟩, ?_⟩)), Store.sub_refl _⟩
    cases h2 : badK2 cs f with
    | true =>
      rw [hbad (by unfold okK; rw [h2]; simp)]
      repeat (first | with_reducible refine CW.seq ?_ | with_reducible refine andThen_normal ?_ | with_reducible refine andThen_ret ?_ | with_reducible refine CW.ret ?_ | refine CW.reg (RL.run tysOk rfl (RL.nil ?_)) | refine CW.condT rfl ?_)
      exact ⟨_, _, _, rfl, AVle.refl _, Store.sub_refl _, rfl, rfl⟩
    | false =>
    refine CW.condF rfl (CW.skip (andThen_normal ?_))
    refine CW.seq ?_
    refine CW.seqCut [(2, .int .i64 (d : Int)), (3, .ptr lb 0), (4, .fptr (knownCells ps ss cs o1 o2 o3) 0), (5, .fptr f.cells 0), (127, .bool (badK3 f))] (s.set lb (leftO (k - 1))) ?_ ?_
    · repeat' (first | refine CW.reg ?_ | refine RL.nil ?_ | refine RL.step tysOk rfl rfl rfl rfl ?_ | refine RL.skip rfl rfl rfl ?_ | refine RL.gstepT tysOk rfl rfl rfl rfl rfl rfl rfl (fun _ => ?_) (fun _ => ?_) | refine RL.gstepF tysOk rfl rfl rfl rfl rfl rfl rfl (fun _ => ?_) (fun _ => ?_) | refine RL.callP rfl rfl rfl rfl rfl (refIn_spec f.n _) ?_)
      all_goals refine ⟨rfl, (by repeat (first | exact trivial | refine ⟨⟨_, rfl, AVle.refl _⟩, ?_⟩ | refine ⟨⟨_, rfl, AVle.of_eq (by (simp only [badK3]; simp_all))⟩, ?_⟩)), Store.sub_refl _⟩
    cases h3 : badK3 f with
    | true =>
      rw [hbad (by unfold okK; rw [h3]; simp)]
      repeat (first | with_reducible refine CW.seq ?_ | with_reducible refine andThen_normal ?_ | with_reducible refine andThen_ret ?_ | with_reducible refine CW.ret ?_ | refine CW.reg (RL.run tysOk rfl (RL.nil ?_)) | refine CW.condT rfl ?_)
      exact ⟨_, _, _, rfl, AVle.refl _, Store.sub_refl _, rfl, rfl⟩
    | false =>
    have hokp : okK ps ss cs f = f.path.all ss.contains := by unfold okK; rw [hop, h1, h2, h3]; rfl
    refine CW.condF rfl (CW.skip (andThen_normal ?_))
    repeat (first | with_reducible refine CW.seq ?_ | with_reducible refine andThen_normal ?_ | with_reducible refine CW.block ?_ | refine CW.reg (RL.run tysOk rfl (RL.nil ?_)))
    refine CW.loop (σ := Nat) (fun j => [(2, .int .i64 (d : Int)), (3, .ptr lb 0), (4, .fptr (knownCells ps ss cs o1 o2 o3) 0), (5, .fptr f.cells 0), (11, .int .i64 (j : Int))]) (fun _ => s.set lb (leftO (k - 1)))
      (fun j => j ≤ f.path.length ∧ f.path.all ss.contains = (f.path.drop j).all ss.contains) (fun j => f.path.length - j) 0 ⟨by omega, rfl⟩ (by repeat (first | exact trivial | refine ⟨⟨_, rfl, AVle.refl _⟩, ?_⟩)) (Store.sub_refl _) ?_
    rintro j ⟨hj, hI⟩
    repeat (first | with_reducible refine CW.seq ?_ | with_reducible refine andThen_normal ?_ | refine CW.reg (RL.run tysOk rfl (RL.nil ?_)))
    refine CW.cond rfl (fun h => ?_) (fun h => ?_)
    · have hlt : j < f.path.length := by simpa using h
      obtain ⟨x, hx⟩ : ∃ x, f.path[j]? = some x := ⟨_, List.getElem?_eq_getElem hlt⟩
      have hx' : (strs f.path)[j]? = some (.str x) := by rw [strs_get, hx]; rfl
      repeat (first | with_reducible refine CW.seq ?_ | with_reducible refine andThen_normal ?_ | with_reducible refine CW.skip ?_ | with_reducible refine CW.block ?_ | refine CW.drw tysOk mixed rfl (RD.run rfl ?_))
      refine RD.idx 5 j rfl rfl rfl rfl rfl rfl rfl rfl rfl rfl rfl rfl rfl hx' rfl ?_
      refine RD.run rfl ?_
      refine RD.callP (i := 7) rfl rfl rfl rfl rfl rfl rfl (refHas_spec ss o2 x _ hss) ?_
      refine RD.run rfl (RD.done rfl ?_)
      cases hc : ss.contains x with
      | true =>
        repeat (first | with_reducible refine andThen_normal ?_ | with_reducible refine inBlock_normal ?_ | with_reducible refine CW.skip ?_ | refine CW.reg (RL.run tysOk rfl (RL.nil ?_)) | refine CW.condF rfl ?_)
        refine ⟨j + 1, ⟨hlt, all_take hx hI hc⟩, (by repeat (first | exact trivial | refine ⟨⟨_, rfl, AVle.refl _⟩, ?_⟩ | refine ⟨⟨_, rfl, AVle.of_eq (by (rw [i64_succ (by omega)]))⟩, ?_⟩)), Store.sub_refl _, by omega⟩
      | false =>
        rw [hbad (by rw [hokp]; exact all_miss hx hc)]
        repeat (first | with_reducible refine CW.seq ?_ | with_reducible refine andThen_normal ?_ | with_reducible refine andThen_ret ?_ | with_reducible refine inBlock_ret ?_ | with_reducible refine CW.ret ?_ | refine CW.reg (RL.run tysOk rfl (RL.nil ?_)) | refine CW.condT rfl ?_)
        exact ⟨_, _, _, rfl, AVle.refl _, Store.sub_refl _, rfl, rfl⟩
    have hge : f.path.length ≤ j := by simpa using h
    rw [List.drop_eq_nil_of_le hge] at hI
    rw [hokp, hI] at hcd
    replace hcd : FFact.cnt ps ss cs d k f = FFact.cnts ps ss cs (d + 1) (k - 1) f.kids := hcd
    rw [hcd]
    clear hbad hI hge h
    repeat (first | with_reducible refine CW.seq ?_ | with_reducible refine andThen_normal ?_ | with_reducible refine andThen_exit ?_ | with_reducible refine inBlock_here ?_ | with_reducible refine CW.exit ?_ | with_reducible refine CW.block ?_ | refine CW.reg (RL.run tysOk rfl (RL.nil ?_)))
    refine CW.loop (σ := Nat × Int) (fun q => [(2, .int .i64 (d : Int)), (3, .ptr lb 0), (4, .fptr (knownCells ps ss cs o1 o2 o3) 0), (5, .fptr f.cells 0), (12, .int .i64 (q.1 : Int))]) (fun q => s.set lb (leftO q.2))
      (fun q => q.1 ≤ f.kids.length ∧ 0 ≤ q.2 ∧ q.2 ≤ 120 ∧ FFact.cnts ps ss cs (d + 1) q.2 (f.kids.drop q.1) = FFact.cnts ps ss cs (d + 1) (k - 1) f.kids) (fun q => f.kids.length - q.1) (0, k - 1) ⟨by simp, by show 0 ≤ k - 1; omega, by show k - 1 ≤ 120; omega, rfl⟩ ?_ (Store.sub_refl _) ?_
    · exact (by repeat (first | exact trivial | refine ⟨⟨_, rfl, AVle.refl _⟩, ?_⟩))
    · rintro ⟨j, kq⟩ ⟨hj, h0, h120, hI⟩
      simp only at hj h0 h120 hI
      repeat (first | with_reducible refine CW.seq ?_ | with_reducible refine andThen_normal ?_ | refine CW.reg (RL.run tysOk rfl (RL.nil ?_)))
      refine CW.cond rfl (fun h => ?_) (fun h => ?_)
      · have hlt : j < f.kids.length := by rw [hkl] at h; simpa using h
        obtain ⟨c, hk1, hk', hks⟩ := FFact.kid_at hlt
        rw [drop_cons hk1, FFact.cnts] at hI
        have hshc : ∀ x ∈ (Part.fact c).nodes (dd + 1), x.2.texts := fun x hx => hsh x (by rw [fact_nodes]; exact List.mem_cons_of_mem _ (List.mem_flatMap.2 ⟨c, List.mem_of_getElem? hk1, hx⟩))
        have hcall := ih c (dd + 1) (d + 1) kq (s.set lb (leftO kq)) (by omega) (by omega) hshc h0 h120 (by omega) (Store.set_same _ _ _)
        rw [Store.set_set] at hcall
        have hle := FFact.cnt_le ps ss cs c (d + 1) kq
        generalize FFact.cnt ps ss cs (d + 1) kq c = pk at hcall hle hI
        obtain ⟨b, k'⟩ := pk
        have hd1 : IntKind.wrap .i64 ((d : Int) + 1) = ((d + 1 : Nat) : Int) := i64_succ (by omega)
        repeat (first | with_reducible refine CW.seq ?_ | with_reducible refine andThen_normal ?_ | with_reducible refine CW.skip ?_ | with_reducible refine CW.block ?_ | refine CW.drw tysOk mixed rfl (RD.run rfl ?_))
        refine RD.idx 4 j rfl rfl rfl rfl rfl rfl rfl rfl rfl rfl rfl rfl rfl hk' rfl ?_
        refine RD.run rfl ?_
        rw [hd1]
        refine RD.call (i := 9) rfl rfl rfl rfl rfl rfl rfl hcall ?_ (fun _ _ ⟨h, _⟩ => by cases h)
        rintro _ _ ⟨⟨⟩, rfl⟩
        refine RD.run rfl (RD.done rfl ?_)
        cases b with
        | true =>
          obtain ⟨g0, g1⟩ := hle rfl
          repeat (first | with_reducible refine andThen_normal ?_ | with_reducible refine inBlock_normal ?_ | with_reducible refine CW.skip ?_ | refine CW.reg (RL.run tysOk rfl (RL.nil ?_)) | refine CW.condF rfl ?_)
          refine ⟨(j + 1, k'), ⟨hlt, g0, by show k' ≤ 120; simp only at g1; omega, by simpa using hI⟩, (by repeat (first | exact trivial | refine ⟨⟨_, rfl, AVle.refl _⟩, ?_⟩ | refine ⟨⟨_, rfl, AVle.of_eq (by (show AV.int .i64 (IntKind.wrap .i64 ((j : Int) + 1)) = .int .i64 ((j + 1 : Nat) : Int); rw [i64_succ (by omega)]))⟩, ?_⟩)), Store.sub_refl _, by show f.kids.length - (j + 1) < f.kids.length - j; omega⟩
        | false =>
          rw [← hI]
          repeat (first | with_reducible refine CW.seq ?_ | with_reducible refine andThen_normal ?_ | with_reducible refine andThen_ret ?_ | with_reducible refine inBlock_ret ?_ | with_reducible refine CW.ret ?_ | refine CW.reg (RL.run tysOk rfl (RL.nil ?_)) | refine CW.condT rfl ?_)
          exact ⟨_, _, _, rfl, AVle.refl _, Store.sub_refl _, rfl, rfl⟩
      · have hge : f.kids.length ≤ j := by rw [hkl] at h; simpa using h
        rw [List.drop_eq_nil_of_le hge, FFact.cnts] at hI
        rw [← hI]
        repeat (first | with_reducible refine CW.seq ?_ | with_reducible refine andThen_normal ?_ | with_reducible refine andThen_exit ?_ | with_reducible refine inBlock_here ?_ | with_reducible refine CW.ret ?_ | with_reducible refine CW.exit ?_ | refine CW.reg (RL.run tysOk rfl (RL.nil ?_)))
        exact ⟨_, _, _, rfl, AVle.refl _, Store.sub_refl _, rfl, rfl⟩

mutual
/-- How many path slots a fact has, all together. -/
def FFact.pl : FFact → Nat
  | .mk _ _ p _ _ ks => p.length + FFact.pls ks
def FFact.pls : List FFact → Nat
  | [] => 0
  | k :: r => FFact.pl k + FFact.pls r
end
theorem FFact.pl_def (f : FFact) : f.pl = f.path.length + FFact.pls f.kids := by cases f; rw [FFact.pl]; rfl
theorem FFact.size_def (f : FFact) : f.size = 1 + FFact.sizes f.kids := by cases f; rw [FFact.size]; rfl

mutual
/-- All nodes of a fact, in order. -/
def FFact.allF : FFact → List FFact
  | .mk o x p c n ks => .mk o x p c n ks :: FFact.allFs ks
def FFact.allFs : List FFact → List FFact
  | [] => []
  | k :: r => FFact.allF k ++ FFact.allFs r
end

mutual
theorem mem_allF : ∀ (f : FFact) (d : Nat) (x : Nat × Part), x ∈ (Part.fact f).nodes d → ∃ g ∈ f.allF, x.2 = .fact g
  | .mk o n p c m ks, d, x, h => by
    rw [fact_nodes, List.mem_cons] at h
    rw [FFact.allF]
    rcases h with rfl | h
    · exact ⟨_, List.mem_cons_self .., rfl⟩
    · obtain ⟨g, hg, hx⟩ := mem_allFs ks (d + 1) x h
      exact ⟨g, List.mem_cons_of_mem _ hg, hx⟩
theorem mem_allFs : ∀ (l : List FFact) (d : Nat) (x : Nat × Part), x ∈ l.flatMap (fun k => (Part.fact k).nodes d) → ∃ g ∈ FFact.allFs l, x.2 = .fact g
  | [], _, _, h => by simp at h
  | k :: r, d, x, h => by
    rw [List.flatMap_cons, List.mem_append] at h
    rw [FFact.allFs]
    rcases h with h | h
    · obtain ⟨g, hg, hx⟩ := mem_allF k d x h
      exact ⟨g, List.mem_append_left _ hg, hx⟩
    · obtain ⟨g, hg, hx⟩ := mem_allFs r d x h
      exact ⟨g, List.mem_append_right _ hg, hx⟩
end

end Go.Proofs.Ytaafacnoddjhgaa

/- What weighs little is fair. -/
namespace Go.Proofs.Ytaafacnoddjhgaa
open Go.AE

theorem sum_mem {l : List Str} {y : Str} (h : y ∈ l) : y.length ≤ (l.map fun s => s.length + 1).sum := by
  induction l with
  | nil => cases h
  | cons a l ih =>
    simp only [List.map_cons, List.sum_cons]
    rcases List.mem_cons.1 h with rfl | h
    · omega
    · have := ih h; omega
theorem sum_len (l : List Str) : l.length ≤ (l.map fun s => s.length + 1).sum := by
  induction l with
  | nil => simp
  | cons a l ih => simp only [List.map_cons, List.sum_cons, List.length_cons]; omega

/-- A fact whose strings, and lists, are not longer than W. -/
def FFact.light (W : Nat) (f : FFact) : Prop := f.name.length ≤ W ∧ f.cls.length ≤ W ∧ f.path.length ≤ W ∧ ∀ y ∈ f.path, y.length ≤ W
mutual
theorem fact_light {W : Nat} : ∀ (f : FFact) (d : Nat), f.weight ≤ W → (f.size ≤ f.weight ∧ f.pl ≤ f.weight) ∧ ∀ d' g, (d', Part.fact g) ∈ (Part.fact f).nodes d → g.light W
  | .mk o x p c n ks, d, h => by
    rw [FFact.weight] at h ⊢
    rw [FFact.size, FFact.pl, fact_nodes]
    have h1 := facts_light ks (d + 1) (by omega : FFact.weights ks ≤ W)
    have h2 := sum_len p
    refine ⟨⟨by omega, by omega⟩, fun d' g hg => ?_⟩
    rcases List.mem_cons.1 hg with hg | hg
    · cases hg
      exact ⟨by show x.length ≤ _; omega, by show c.length ≤ _; omega, by show p.length ≤ _; omega, fun y hy => by have := sum_mem hy; simp only [FFact.path] at this; omega⟩
    · exact h1.2 d' g hg
theorem facts_light {W : Nat} : ∀ (l : List FFact) (d : Nat), FFact.weights l ≤ W → (FFact.sizes l ≤ FFact.weights l ∧ FFact.pls l ≤ FFact.weights l) ∧ ∀ d' g, (d', Part.fact g) ∈ l.flatMap (fun k => (Part.fact k).nodes d) → g.light W
  | [], _, _ => ⟨⟨Nat.le_refl _, Nat.le_refl _⟩, fun _ _ h => by simp at h⟩
  | k :: r, d, h => by
    rw [FFact.weights] at h ⊢
    rw [FFact.sizes, FFact.pls, List.flatMap_cons]
    have h1 := fact_light k d (by omega : k.weight ≤ W)
    have h2 := facts_light r d (by omega : FFact.weights r ≤ W)
    refine ⟨⟨by omega, by omega⟩, fun d' g hg => ?_⟩
    rcases List.mem_append.1 hg with hg | hg
    · exact h1.2 d' g hg
    · exact h2.2 d' g hg
end
theorem fact_fair {f : FFact} (h : f.weight ≤ 1048576) : f.Fair ∧ f.pl < big ∧ f.Slim 1 := by
  obtain ⟨⟨h1, h2⟩, h3⟩ := fact_light f 1 h
  have hb : big = 1099511627776 := rfl
  refine ⟨⟨by omega, fun x hx => ?_⟩, by omega, fun d' g hg => ?_⟩
  · obtain ⟨g, hg⟩ := nodes_fact hx
    obtain ⟨d, p⟩ := x
    simp only at hg
    subst hg
    obtain ⟨a, b, c, e⟩ := h3 d g hx
    exact ⟨by omega, by omega, by omega, fun y hy => by have := e y hy; omega⟩
  · obtain ⟨a, b, c, e⟩ := h3 d' g hg
    omega

theorem map_sum_mem {α : Type} {f : α → Nat} {l : List α} {x : α} (h : x ∈ l) : f x ≤ (l.map f).sum := by
  induction l with
  | nil => cases h
  | cons a l ih =>
    simp only [List.map_cons, List.sum_cons]
    rcases List.mem_cons.1 h with rfl | h
    · omega
    · have := ih h; omega
theorem map_sum_len {α : Type} {f : α → Nat} (hf : ∀ x, 1 ≤ f x) (l : List α) : l.length ≤ (l.map f).sum := by
  induction l with
  | nil => simp
  | cons a l ih => have := hf a; simp only [List.map_cons, List.sum_cons, List.length_cons]; omega
theorem flatMap_len {α β : Type} {f : α → List β} {w : α → Nat} (hf : ∀ x, (f x).length ≤ w x) (l : List α) : (l.flatMap f).length ≤ (l.map w).sum := by
  induction l with
  | nil => simp
  | cons a l ih => have := hf a; simp only [List.map_cons, List.sum_cons, List.flatMap_cons, List.length_append]; omega

theorem strs_fair {l : List Str} (h : sumS l ≤ 1048576) : Strs l := by
  have h1 := sum_len l
  have hb : big = 1099511627776 := rfl
  unfold sumS at h
  exact ⟨by omega, fun x hx => by have := sum_mem hx; show x.length < _; omega⟩

theorem prog_fair {P : FProg} (h : P.weight ≤ 1048576) : P.Fair ∧ P.Slim := by
  have hb : big = 1099511627776 := rfl
  unfold FProg.weight at h
  have hcl := map_sum_len (f := FClass.weight) (fun x => by unfold FClass.weight; omega) P.classes
  have hml := map_sum_len (f := FMethod.weight) (fun x => by unfold FMethod.weight; omega) P.methods
  have hme : ∀ m ∈ P.methods, m.weight ≤ 1048576 := fun m hm => by have := map_sum_mem (f := FMethod.weight) hm; omega
  have hmf : ∀ m ∈ P.methods, m.fact.weight ≤ 1048576 ∧ m.body.weight ≤ 1048576 ∧ m.name.length ≤ 1048576 ∧ sumS m.params ≤ 1048576 := fun m hm => by
    have := hme m hm
    unfold FMethod.weight at this
    exact ⟨by omega, by omega, by omega, by omega⟩
  have hsz : ∀ e : FExp, e.weight ≤ 1048576 → e.size ≤ e.weight := fun e he => (exp_light e he).1
  refine ⟨⟨by omega, fun c hc => ?_, by omega, fun m hm => ?_, exp_fair (by omega), ?_, ?_⟩, fun m hm => (fact_fair (hmf m hm).1).2.2⟩
  · have h1 := map_sum_mem (f := FClass.weight) hc
    replace h1 : c.weight ≤ 1048576 := by omega
    unfold FClass.weight at h1
    have h2 := map_sum_len (f := FInit.weight) (fun x => by unfold FInit.weight; omega) c.inits
    refine ⟨by show c.name.length < _; omega, strs_fair (by omega), strs_fair (by omega), by omega, fun x hx => ?_⟩
    have h3 := map_sum_mem (f := FInit.weight) hx
    replace h3 : x.weight ≤ 1048576 := by omega
    unfold FInit.weight at h3
    show x.slot.length < _; omega
  · obtain ⟨a, b, c, d⟩ := hmf m hm
    exact ⟨by show m.name.length < _; omega, strs_fair d, (fact_fair a).1, exp_fair b⟩
  · have hcalls : ∀ l : List FExp, (callsL l).length ≤ l.length := fun l => by unfold callsL; rw [List.length_map]; exact List.length_filter_le _ _
    have h1 := flatMap_len (f := fun e => callsL e.allE) (w := FExp.size) (fun e => by have := hcalls e.allE; rw [allE_length] at this; exact this) (P.methods.map FMethod.body ++ [P.main])
    have h2 : (((P.methods.map FMethod.body ++ [P.main]).map FExp.size).sum) ≤ (P.methods.map FMethod.weight).sum + P.main.weight := by
      rw [List.map_append, List.sum_append]
      have h3 := hsz P.main (by omega)
      have h4 : ∀ l : List FMethod, (∀ m ∈ l, m.weight ≤ 1048576) → ((l.map FMethod.body).map FExp.size).sum ≤ (l.map FMethod.weight).sum := by
        intro l hl
        induction l with
        | nil => simp
        | cons a l ih =>
          have := ih fun m hm => hl m (List.mem_cons_of_mem _ hm)
          have q := hl a (List.mem_cons_self ..)
          unfold FMethod.weight at q
          have q2 := hsz a.body (by omega)
          simp only [List.map_cons, List.sum_cons, FMethod.weight]
          omega
      have := h4 P.methods hme
      simp only [List.map_cons, List.map_nil, List.sum_cons, List.sum_nil]
      omega
    unfold progNotes
    rw [List.length_append]
    have : (methodNotes P.methods).length = P.methods.length := by unfold methodNotes; rw [List.length_map]
    omega
  · have := flatMap_len (f := FClass.slots) (w := FClass.weight) (fun c => by have := sum_len c.slots; unfold FClass.weight sumS; omega) P.classes
    omega
end Go.Proofs.Ytaafacnoddjhgaa

