import Derived.Test.YtaafacnoddjhgaaMl
/- Contracts of the reference: what a fact has to be. -/
namespace Go.Proofs.Ytaafacnoddjhgaa
open Go.AE

/-! ### Its nodes -/
set_option maxRecDepth 10000 in
theorem refFactNodes_spec : ∀ (n : Nat) (e : FFact) (s : Store), e.size ≤ n → e.size ≤ big → ACalls Try.prog 53 [e.av] s (fun o s' => o = .ret (.int .i64 (e.size : Int)) ∧ s' = s) := by
  intro n
  induction n with
  | zero => intro e s h; have := e.size_pos; omega
  | succ n ih =>
    intro e s hn hbig
    have hlen := e.kids_length
    have hkl := e.kav_length
    have hb : big = 1099511627776 := rfl
    have hsz : e.size = 1 + FFact.sizes e.kids := by cases e; rw [FFact.size]; rfl
    refine ACalls.of_CW tysOk call53 Try.func53 rfl rfl ?_
    repeat (first | with_reducible refine CW.seq ?_ | with_reducible refine andThen_normal ?_ | with_reducible refine CW.block ?_ | refine CW.reg (RL.run tysOk rfl (RL.nil ?_)))
    refine CW.loop (σ := Nat × Nat) (fun q => [(1, .fptr e.cells 0), (3, .int .i64 (q.2 : Int)), (4, .int .i64 (q.1 : Int))])
      (fun _ => s) (fun q => q.1 ≤ e.kids.length ∧ q.2 + FFact.sizes (e.kids.drop q.1) = e.size) (fun q => e.kids.length - q.1) (0, 1) ⟨by simp, by simp [hsz]⟩ ?_ (Store.sub_refl _) ?_
    · exact (by repeat (first | exact trivial | refine ⟨⟨_, rfl, AVle.refl _⟩, ?_⟩))
    · rintro ⟨j, m⟩ ⟨hj, hI⟩
      simp only at hj hI
      repeat (first | with_reducible refine CW.seq ?_ | with_reducible refine andThen_normal ?_ | refine CW.reg (RL.run tysOk rfl (RL.nil ?_)))
      refine CW.cond rfl (fun h => ?_) (fun h => ?_)
      · have hlt : j < e.kids.length := by rw [hkl] at h; simpa using h
        obtain ⟨k, hk, hk', hks⟩ := FFact.kid_at hlt
        rw [drop_cons hk, FFact.sizes] at hI
        repeat (first | with_reducible refine CW.seq ?_ | with_reducible refine andThen_normal ?_ | with_reducible refine CW.skip ?_ | with_reducible refine CW.block ?_ | refine CW.reg ?_ | refine RL.step tysOk rfl rfl rfl rfl ?_ | refine RL.idx tysOk _ rfl rfl rfl rfl rfl rfl rfl rfl rfl rfl rfl (by assumption) rfl ?_)
        refine RL.callP rfl rfl rfl rfl rfl (ih k _ (by omega) (by omega)) ?_
        repeat (first | with_reducible refine andThen_normal ?_ | with_reducible refine inBlock_normal ?_ | refine CW.reg (RL.run tysOk rfl (RL.nil ?_)) | refine RL.nil ?_ | refine RL.step tysOk rfl rfl rfl rfl ?_)
        refine ⟨(j + 1, m + k.size), ⟨hlt, by simp only; omega⟩, (by repeat (first | exact trivial | refine ⟨⟨_, rfl, AVle.refl _⟩, ?_⟩ | refine ⟨⟨_, rfl, AVle.of_eq (by (first | (show AV.int .i64 (IntKind.wrap .i64 ((j : Int) + 1)) = .int .i64 ((j + 1 : Nat) : Int); rw [i64_succ (by omega)]) | (rw [i64_wrap (by omega) (by omega)]; congr 1)))⟩, ?_⟩)), Store.sub_refl _, by show e.kids.length - (j + 1) < e.kids.length - j; omega⟩
      · have hge : e.kids.length ≤ j := by rw [hkl] at h; simpa using h
        rw [List.drop_eq_nil_of_le hge, FFact.sizes] at hI
        repeat (first | with_reducible refine CW.seq ?_ | with_reducible refine andThen_normal ?_ | with_reducible refine andThen_exit ?_ | with_reducible refine inBlock_here ?_ | with_reducible refine CW.ret ?_ | with_reducible refine CW.exit ?_ | refine CW.reg (RL.run tysOk rfl (RL.nil ?_)))
        refine ⟨_, _, s, rfl, AVle.refl _, Store.sub_refl _, ?_, rfl⟩
        rw [← hI]; rfl

/-! ### What is known, and a fact within it -/
def knownCells (ps ss cs : List Str) (o1 o2 o3 : Own) : List AV := [.slc 1 (strs ps) o1, .slc 1 (strs ss) o2, .slc 1 (strs cs) o3]

def opF (op : Int) : Bool := decide (1 ≤ op) && decide (op ≤ 7)
def badK1 (ps : List Str) (f : FFact) : Bool :=
  ((!((f.kids.length : Int) == kidsF f.op) || (!atomF f && (!(f.name == []) || decide ((f.path.length : Int) > 0)))) || (atomF f && !ps.contains f.name)) || decide ((f.path.length : Int) > 2)
def badK2 (cs : List Str) (f : FFact) : Bool := !((f.op == 2) == !(f.cls == [])) || (f.op == 2 && !cs.contains f.cls)
def badK3 (f : FFact) : Bool := ((!(f.op == 3) && !(f.op == 4)) && !(f.n == 0)) || !between f.n
def okK (ps ss cs : List Str) (f : FFact) : Bool := opF f.op && (!badK1 ps f && (!badK2 cs f && (!badK3 f && f.path.all ss.contains)))

mutual
/-- The nodes counted down from k: whether all are right, and what is left. -/
def FFact.cnt (ps ss cs : List Str) (d : Nat) (k : Int) : FFact → Bool × Int
  | .mk o x p c n ks => if (decide (k - 1 < 0) || decide (d > 12)) || !okK ps ss cs (.mk o x p c n ks) then (false, k - 1) else FFact.cnts ps ss cs (d + 1) (k - 1) ks
def FFact.cnts (ps ss cs : List Str) (d : Nat) (k : Int) : List FFact → Bool × Int
  | [] => (true, k)
  | e :: r => if (FFact.cnt ps ss cs d k e).1 then FFact.cnts ps ss cs d (FFact.cnt ps ss cs d k e).2 r else (false, (FFact.cnt ps ss cs d k e).2)
end

theorem FFact.cnt_def (ps ss cs : List Str) (d : Nat) (k : Int) (e : FFact) : FFact.cnt ps ss cs d k e = if (decide (k - 1 < 0) || decide (d > 12)) || !okK ps ss cs e then (false, k - 1) else FFact.cnts ps ss cs (d + 1) (k - 1) e.kids := by
  cases e; rw [FFact.cnt]; rfl

mutual
theorem FFact.cnt_le (ps ss cs : List Str) : ∀ (e : FFact) (d : Nat) (k : Int), (FFact.cnt ps ss cs d k e).1 = true → 0 ≤ (FFact.cnt ps ss cs d k e).2 ∧ (FFact.cnt ps ss cs d k e).2 ≤ k
  | .mk o x p c n ks, d, k, h => by
    rw [FFact.cnt] at h ⊢
    split at h
    · cases h
    · rename_i hc
      rw [if_neg hc]
      have := FFact.cnts_le ps ss cs ks (d + 1) (k - 1) (by simp only [Bool.or_eq_true, decide_eq_true_eq, not_or] at hc; omega) h
      omega
theorem FFact.cnts_le (ps ss cs : List Str) : ∀ (l : List FFact) (d : Nat) (k : Int), 0 ≤ k → (FFact.cnts ps ss cs d k l).1 = true → 0 ≤ (FFact.cnts ps ss cs d k l).2 ∧ (FFact.cnts ps ss cs d k l).2 ≤ k
  | [], d, k, hk, h => by rw [FFact.cnts]; exact ⟨hk, Int.le_refl _⟩
  | e :: r, d, k, hk, h => by
    rw [FFact.cnts] at h ⊢
    split at h
    · rename_i hc
      rw [if_pos hc]
      obtain ⟨h1, h2⟩ := FFact.cnt_le ps ss cs e d k hc
      obtain ⟨h3, h4⟩ := FFact.cnts_le ps ss cs r d _ h1 h
      exact ⟨h3, Int.le_trans h4 h2⟩
    · cases h
end

theorem fact_nodes (e : FFact) (d : Nat) : (Part.fact e).nodes d = (d, .fact e) :: e.kids.flatMap (fun k => (Part.fact k).nodes (d + 1)) := by
  rw [Part.nodes_eq]
  show _ :: (e.kids.map Part.fact).flatMap _ = _
  rw [List.flatMap_map]

def okKP (ps ss cs : List Str) (x : Nat × Part) : Bool := decide (x.1 ≤ 12) && match x.2 with | .fact f => okK ps ss cs f | .exp _ => true

mutual
theorem cntF_nodes (ps ss cs : List Str) : ∀ (e : FFact) (d : Nat) (k : Int), 0 ≤ k → (FFact.cnt ps ss cs d k e).1 = (decide ((e.size : Int) ≤ k) && ((Part.fact e).nodes d).all (okKP ps ss cs)) ∧ ((FFact.cnt ps ss cs d k e).1 = true → (FFact.cnt ps ss cs d k e).2 = k - e.size)
  | .mk o x p c n ks, d, k, hk => by
    have hsz : (FFact.mk o x p c n ks).size = 1 + FFact.sizes ks := by rw [FFact.size]
    rw [FFact.cnt, fact_nodes, List.all_cons]
    have hok : okKP ps ss cs (d, .fact (.mk o x p c n ks)) = (decide (d ≤ 12) && okK ps ss cs (.mk o x p c n ks)) := rfl
    rw [hok]
    split
    · rename_i h
      refine ⟨?_, fun h => by cases h⟩
      simp only [Bool.or_eq_true, decide_eq_true_eq, Bool.not_eq_true'] at h
      rcases h with (h | h) | h
      · rw [decide_eq_false (by rw [hsz]; omega)]; rfl
      · rw [decide_eq_false (by omega : ¬ d ≤ 12)]; simp
      · rw [h]; simp
    · rename_i h
      simp only [Bool.or_eq_true, decide_eq_true_eq, Bool.not_eq_true', not_or, Bool.not_eq_false] at h
      obtain ⟨⟨h1, h2⟩, h3⟩ := h
      obtain ⟨g1, g2⟩ := cntsF_nodes ps ss cs ks (d + 1) (k - 1) (by omega)
      refine ⟨?_, fun h => by rw [g2 h, hsz]; omega⟩
      rw [g1, h3, decide_eq_true (by omega : d ≤ 12), hsz]
      have : (decide (((1 + FFact.sizes ks : Nat) : Int) ≤ k)) = decide ((FFact.sizes ks : Int) ≤ k - 1) := by
        rw [Bool.eq_iff_iff]; simp; omega
      rw [this]; simp [FFact.kids]
theorem cntsF_nodes (ps ss cs : List Str) : ∀ (l : List FFact) (d : Nat) (k : Int), 0 ≤ k → (FFact.cnts ps ss cs d k l).1 = (decide ((FFact.sizes l : Int) ≤ k) && (l.flatMap fun e => (Part.fact e).nodes d).all (okKP ps ss cs)) ∧ ((FFact.cnts ps ss cs d k l).1 = true → (FFact.cnts ps ss cs d k l).2 = k - FFact.sizes l)
  | [], d, k, hk => by simp [FFact.cnts, FFact.sizes, hk]
  | e :: r, d, k, hk => by
    obtain ⟨g1, g2⟩ := cntF_nodes ps ss cs e d k hk
    rw [FFact.cnts, FFact.sizes, List.flatMap_cons, List.all_append]
    split
    · rename_i h
      rw [g2 h]
      rw [h] at g1
      have g1' := g1.symm
      simp only [Bool.and_eq_true, decide_eq_true_eq] at g1'
      obtain ⟨q1, q2⟩ := cntsF_nodes ps ss cs r d (k - e.size) (by omega)
      refine ⟨?_, fun h => by rw [q2 h]; omega⟩
      rw [q1, g1'.2]
      have : (decide (((e.size + FFact.sizes r : Nat) : Int) ≤ k)) = decide ((FFact.sizes r : Int) ≤ k - e.size) := by
        rw [Bool.eq_iff_iff]; simp; omega
      rw [this]; simp
    · rename_i h
      rw [Bool.not_eq_true] at h
      refine ⟨?_, fun h => by cases h⟩
      rw [h] at g1
      cases ha : ((Part.fact e).nodes d).all (okKP ps ss cs) with
      | false => simp
      | true =>
        rw [ha] at g1
        simp only [Bool.and_true] at g1
        have := of_decide_eq_false g1.symm
        rw [decide_eq_false (by omega)]; rfl
end

theorem all_take {α : Type} {f : α → Bool} {l : List α} {j : Nat} {x : α} (hx : l[j]? = some x) (h : l.all f = (l.drop j).all f) (hf : f x = true) : l.all f = (l.drop (j + 1)).all f := by
  rw [h, drop_cons hx, List.all_cons, hf]; rfl
theorem all_miss {α : Type} {f : α → Bool} {l : List α} {j : Nat} {x : α} (hx : l[j]? = some x) (hf : f x = false) : l.all f = false := by
  rw [Bool.eq_false_iff]; intro h
  have := List.all_eq_true.1 h x (List.mem_of_getElem? hx)
  rw [hf] at this; cases this

set_option maxRecDepth 10000 in
set_option maxHeartbeats 4000000 in
theorem refKFact_spec (lb : Nat) (ps ss cs : List Str) (o1 o2 o3 : Own) (hps : ps.length < 9223372036854775807) (hss : ss.length < 9223372036854775807) (hcs : cs.length < 9223372036854775807) :
    ∀ (n : Nat) (f : FFact) (dd d : Nat) (k : Int) (s : Store), f.size ≤ n → f.size ≤ big → (∀ x ∈ (Part.fact f).nodes dd, x.2.texts) → 0 ≤ k → k ≤ 120 → d ≤ 13 → s lb = some (leftO k) →
    ACalls Try.prog 111 [.agg (knownCells ps ss cs o1 o2 o3), f.av, .int .i64 (d : Int), .ptr lb 0] s (fun o s' => o = .ret (.bool (FFact.cnt ps ss cs d k f).1) ∧ s' = s.set lb (leftO (FFact.cnt ps ss cs d k f).2)) := by
  intro n
  induction n with
  | zero => intro f dd d k s h; have := f.size_pos; omega
  | succ n ih =>
    intro f dd d k s hn hbig hsh hk0 hk hd hs
    have hlen := f.kids_length
    have hkl := f.kav_length
    have hb : big = 1099511627776 := rfl
    have htx : f.Texts := hsh (dd, .fact f) (by rw [Part.nodes_eq]; exact List.mem_cons_self)
    obtain ⟨-, -, hpl, -⟩ := htx
    have hcd := FFact.cnt_def ps ss cs d k f
    refine ACalls.of_CW tysOk call111 Try.func111 rfl rfl ?_
    refine CW.seqCut [(2, .int .i64 (d : Int)), (3, .ptr lb 0), (4, .fptr (knownCells ps ss cs o1 o2 o3) 0), (5, .fptr f.cells 0)] s ?_ ?_
    · repeat (first | refine CW.reg (RL.run tysOk rfl (RL.nil ?_)))
      exact ⟨rfl, (by repeat (first | exact trivial | refine ⟨⟨_, rfl, AVle.refl _⟩, ?_⟩)), Store.sub_refl _⟩
    refine CW.seqCut [(2, .int .i64 (d : Int)), (3, .ptr lb 0), (4, .fptr (knownCells ps ss cs o1 o2 o3) 0), (5, .fptr f.cells 0)] (s.set lb (leftO (k - 1))) ?_ ?_
    · repeat (first | refine CW.reg ?_ | refine RL.step tysOk rfl rfl rfl rfl ?_ | refine RL.loadP tysOk rfl rfl rfl rfl rfl rfl (by assumption) rfl ?_)
      refine RL.storeP tysOk rfl rfl rfl rfl rfl rfl rfl rfl rfl hs rfl ?_
      repeat (first | refine RL.nil ?_)
      refine ⟨rfl, (by repeat (first | exact trivial | refine ⟨⟨_, rfl, AVle.refl _⟩, ?_⟩)), ?_⟩
      show Store.Sub (s.set lb (leftO (k - 1))) (s.set lb (leftO (IntKind.wrap .i64 (k - 1))))
      rw [i64_wrap (by omega) (by omega)]; exact Store.sub_refl _
    have hs1 : (s.set lb (leftO (k - 1))) lb = some (leftO (k - 1)) := Store.set_same _ _ _
    refine CW.seq ?_
    refine CW.seqCut [(2, .int .i64 (d : Int)), (3, .ptr lb 0), (4, .fptr (knownCells ps ss cs o1 o2 o3) 0), (5, .fptr f.cells 0), (26, .bool (decide (k - 1 < 0) || decide (d > 12)))] (s.set lb (leftO (k - 1))) ?_ ?_
    · repeat' (first | refine CW.reg ?_ | refine RL.nil ?_ | refine RL.step tysOk rfl rfl rfl rfl ?_ | refine RL.skip rfl rfl rfl ?_ | refine RL.gstepF tysOk rfl rfl rfl rfl rfl rfl rfl (fun _ => ?_) (fun _ => ?_) | refine RL.loadP tysOk rfl rfl rfl rfl rfl rfl hs1 rfl ?_)
      all_goals refine ⟨rfl, (by repeat (first | exact trivial | refine ⟨⟨_, rfl, AVle.refl _⟩, ?_⟩ | refine ⟨⟨_, rfl, AVle.of_eq (by (congr 1; rw [Bool.eq_iff_iff]; simp_all; (try omega)))⟩, ?_⟩)), Store.sub_refl _⟩
    cases hc : decide (k - 1 < 0) || decide (d > 12) with
    | true =>
      rw [hc, Bool.true_or, if_pos rfl] at hcd
      rw [hcd]
      repeat (first | with_reducible refine CW.seq ?_ | with_reducible refine andThen_normal ?_ | with_reducible refine andThen_ret ?_ | with_reducible refine CW.ret ?_ | refine CW.reg (RL.run tysOk rfl (RL.nil ?_)) | refine CW.condT rfl ?_)
      exact ⟨_, _, _, rfl, AVle.refl _, Store.sub_refl _, rfl, rfl⟩
    | false =>
    rw [hc, Bool.false_or] at hcd
    simp only [Bool.or_eq_false_iff, decide_eq_false_iff_not] at hc
    have hbad : okK ps ss cs f = false → FFact.cnt ps ss cs d k f = (false, k - 1) := fun h => by rw [hcd, h]; rfl
    refine CW.condF rfl (CW.skip (andThen_normal ?_))
    refine CW.seqCut [(2, .int .i64 (d : Int)), (3, .ptr lb 0), (4, .fptr (knownCells ps ss cs o1 o2 o3) 0), (5, .fptr f.cells 0), (9, .bool (atomF f))] (s.set lb (leftO (k - 1))) ?_ ?_
    · repeat' (first | refine CW.reg ?_ | refine RL.nil ?_ | refine RL.step tysOk rfl rfl rfl rfl ?_ | refine RL.skip rfl rfl rfl ?_ | refine RL.gstepF tysOk rfl rfl rfl rfl rfl rfl rfl (fun _ => ?_) (fun _ => ?_))
      all_goals refine ⟨rfl, (by repeat (first | exact trivial | refine ⟨⟨_, rfl, AVle.refl _⟩, ?_⟩ | refine ⟨⟨_, rfl, AVle.of_eq (by (simp only [atomF]; simp_all))⟩, ?_⟩)), Store.sub_refl _⟩
    by_cases hop : opF f.op = true
    case neg =>
      have hok : okK ps ss cs f = false := by unfold okK; rw [Bool.eq_false_iff.2 hop]; rfl
      have hall : f.op ≠ 1 ∧ f.op ≠ 2 ∧ f.op ≠ 3 ∧ f.op ≠ 4 ∧ f.op ≠ 5 ∧ f.op ≠ 6 ∧ f.op ≠ 7 := by
        refine ⟨?_, ?_, ?_, ?_, ?_, ?_, ?_⟩ <;> (intro h; rw [h] at hop; simp [opF] at hop)
      rw [hbad hok]
      repeat (first | with_reducible refine CW.seq ?_ | with_reducible refine andThen_normal ?_ | with_reducible refine CW.block ?_ | refine CW.reg (RL.run tysOk rfl (RL.nil ?_)))
      refine CW.cond rfl (fun h => absurd h (by simp; omega)) (fun _ => ?_)
      repeat (first | with_reducible refine CW.seq ?_ | with_reducible refine andThen_normal ?_ | refine CW.reg (RL.run tysOk rfl (RL.nil ?_)))
      refine CW.cond rfl (fun h => absurd h (by simp; omega)) (fun _ => ?_)
      repeat (first | with_reducible refine andThen_normal ?_ | refine CW.reg (RL.run tysOk rfl (RL.nil ?_)))
      refine CW.cond rfl (fun h => absurd h (by simp; omega)) (fun _ => ?_)
      repeat (first | with_reducible refine CW.seq ?_ | with_reducible refine andThen_normal ?_ | refine CW.reg (RL.run tysOk rfl (RL.nil ?_)))
      refine CW.cond rfl (fun h => absurd h (by simp; omega)) (fun _ => ?_)
      repeat (first | with_reducible refine CW.seq ?_ | with_reducible refine andThen_normal ?_ | refine CW.reg (RL.run tysOk rfl (RL.nil ?_)))
      refine CW.cond rfl (fun h => absurd h (by simp; omega)) (fun _ => ?_)
      repeat (first | with_reducible refine CW.seq ?_ | with_reducible refine andThen_normal ?_ | refine CW.reg (RL.run tysOk rfl (RL.nil ?_)))
      refine CW.cond rfl (fun h => absurd h (by simp; omega)) (fun _ => ?_)
      repeat (first | with_reducible refine andThen_normal ?_ | refine CW.reg (RL.run tysOk rfl (RL.nil ?_)))
      refine CW.cond rfl (fun h => absurd h (by simp; omega)) (fun _ => ?_)
      repeat (first | with_reducible refine CW.seq ?_ | with_reducible refine andThen_normal ?_ | with_reducible refine andThen_ret ?_ | with_reducible refine inBlock_ret ?_ | with_reducible refine CW.ret ?_ | refine CW.reg (RL.run tysOk rfl (RL.nil ?_)))
      exact ⟨_, _, _, rfl, AVle.refl _, Store.sub_refl _, rfl, rfl⟩
    refine CW.seqCut [(2, .int .i64 (d : Int)), (3, .ptr lb 0), (4, .fptr (knownCells ps ss cs o1 o2 o3) 0), (5, .fptr f.cells 0), (9, .bool (atomF f)), (10, .int .i64 0)] (s.set lb (leftO (k - 1))) ?_ ?_
    · repeat (first | refine CW.reg (RL.run tysOk rfl (RL.nil ?_)))
      exact ⟨rfl, (by repeat (first | exact trivial | refine ⟨⟨_, rfl, AVle.refl _⟩, ?_⟩)), Store.sub_refl _⟩
    refine CW.seqCut [(2, .int .i64 (d : Int)), (3, .ptr lb 0), (4, .fptr (knownCells ps ss cs o1 o2 o3) 0), (5, .fptr f.cells 0), (9, .bool (atomF f)), (10, .int .i64 (kidsF f.op))] (s.set lb (leftO (k - 1))) ?_ ?_
    · have ho : f.op = 1 ∨ f.op = 2 ∨ f.op = 3 ∨ f.op = 4 ∨ f.op = 5 ∨ f.op = 6 ∨ f.op = 7 := by
        simp only [opF, Bool.and_eq_true, decide_eq_true_eq] at hop; omega
      generalize hat : atomF f = at_
      clear hat
      obtain ⟨o, x, p, c, n', ks⟩ := f
      simp only [FFact.op] at ho
      rcases ho with rfl | rfl | rfl | rfl | rfl | rfl | rfl
      all_goals repeat (first | with_reducible refine CW.seq ?_ | with_reducible refine andThen_normal ?_ | with_reducible refine inBlock_normal ?_ | with_reducible refine CW.skip ?_ | with_reducible refine CW.block ?_ | refine CW.reg (RL.run tysOk rfl (RL.nil ?_)) | refine CW.condT rfl ?_ | refine CW.condF rfl ?_)
      all_goals exact ⟨rfl, (by repeat (first | exact trivial | refine ⟨⟨_, rfl, AVle.refl _⟩, ?_⟩)), Store.sub_refl _⟩
    refine CW.seq ?_
    refine CW.seqCut [(2, .int .i64 (d : Int)), (3, .ptr lb 0), (4, .fptr (knownCells ps ss cs o1 o2 o3) 0), (5, .fptr f.cells 0), (9, .bool (atomF f)), (88, .bool (badK1 ps f))] (s.set lb (leftO (k - 1))) ?_ ?_
    · generalize hat : atomF f = at_
      repeat' (first | refine CW.reg ?_ | refine RL.nil ?_ | refine RL.step tysOk rfl rfl rfl rfl ?_ | refine RL.skip rfl rfl rfl ?_ | refine RL.gstepT tysOk rfl rfl rfl rfl rfl rfl rfl (fun _ => ?_) (fun _ => ?_) | refine RL.gstepF tysOk rfl rfl rfl rfl rfl rfl rfl (fun _ => ?_) (fun _ => ?_) | refine RL.callP rfl rfl rfl rfl rfl (refHas_spec ps o1 f.name _ hps) ?_)
      all_goals refine ⟨rfl, (by repeat (first | exact trivial | refine ⟨⟨_, rfl, AVle.refl _⟩, ?_⟩ | refine ⟨⟨_, rfl, AVle.of_eq (by (simp only [badK1, hat]; simp_all))⟩, ?_⟩)), Store.sub_refl _⟩
    cases h1 : badK1 ps f with
    | true =>
      rw [hbad (by unfold okK; rw [h1]; simp)]
      repeat (first | with_reducible refine CW.seq ?_ | with_reducible refine andThen_normal ?_ | with_reducible refine andThen_ret ?_ | with_reducible refine CW.ret ?_ | refine CW.reg (RL.run tysOk rfl (RL.nil ?_)) | refine CW.condT rfl ?_)
      exact ⟨_, _, _, rfl, AVle.refl _, Store.sub_refl _, rfl, rfl⟩
    | false =>
    refine CW.condF rfl (CW.skip (andThen_normal ?_))
    refine CW.seq ?_
    refine CW.seqCut [(2, .int .i64 (d : Int)), (3, .ptr lb 0), (4, .fptr (knownCells ps ss cs o1 o2 o3) 0), (5, .fptr f.cells 0), (108, .bool (badK2 cs f))] (s.set lb (leftO (k - 1))) ?_ ?_
    · repeat' (first | refine CW.reg ?_ | refine RL.nil ?_ | refine RL.step tysOk rfl rfl rfl rfl ?_ | refine RL.skip rfl rfl rfl ?_ | refine RL.gstepT tysOk rfl rfl rfl rfl rfl rfl rfl (fun _ => ?_) (fun _ => ?_) | refine RL.gstepF tysOk rfl rfl rfl rfl rfl rfl rfl (fun _ => ?_) (fun _ => ?_) | refine RL.callP rfl rfl rfl rfl rfl (refHas_spec cs o3 f.cls _ hcs) ?_)
      all_goals refine ⟨rfl, (by repeat (first | exact trivial | refine ⟨⟨_, rfl, AVle.refl _⟩, ?_⟩ | refine ⟨⟨_, rfl, AVle.of_eq (by (simp only [badK2]; simp_all))⟩, ?_⟩)), Store.sub_refl _⟩
    cases h2 : badK2 cs f with
    | true =>
      rw [hbad (by unfold okK; rw [h2]; simp)]
      repeat (first | with_reducible refine CW.seq ?_ | with_reducible refine andThen_normal ?_ | with_reducible refine andThen_ret ?_ | with_reducible refine CW.ret ?_ | refine CW.reg (RL.run tysOk rfl (RL.nil ?_)) | refine CW.condT rfl ?_)
      exact ⟨_, _, _, rfl, AVle.refl _, Store.sub_refl _, rfl, rfl⟩
    | false =>
    refine CW.condF rfl (CW.skip (andThen_normal ?_))
    refine CW.seq ?_
    refine CW.seqCut [(2, .int .i64 (d : Int)), (3, .ptr lb 0), (4, .fptr (knownCells ps ss cs o1 o2 o3) 0), (5, .fptr f.cells 0), (127, .bool (badK3 f))] (s.set lb (leftO (k - 1))) ?_ ?_
    · repeat' (first | refine CW.reg ?_ | refine RL.nil ?_ | refine RL.step tysOk rfl rfl rfl rfl ?_ | refine RL.skip rfl rfl rfl ?_ | refine RL.gstepT tysOk rfl rfl rfl rfl rfl rfl rfl (fun _ => ?_) (fun _ => ?_) | refine RL.gstepF tysOk rfl rfl rfl rfl rfl rfl rfl (fun _ => ?_) (fun _ => ?_) | refine RL.callP rfl rfl rfl rfl rfl (refIn_spec f.n _) ?_)
      all_goals refine ⟨rfl, (by repeat (first | exact trivial | refine ⟨⟨_, rfl, AVle.refl _⟩, ?_⟩ | refine ⟨⟨_, rfl, AVle.of_eq (by (simp only [badK3]; simp_all))⟩, ?_⟩)), Store.sub_refl _⟩
    cases h3 : badK3 f with
    | true =>
      rw [hbad (by unfold okK; rw [h3]; simp)]
      repeat (first | with_reducible refine CW.seq ?_ | with_reducible refine andThen_normal ?_ | with_reducible refine andThen_ret ?_ | with_reducible refine CW.ret ?_ | refine CW.reg (RL.run tysOk rfl (RL.nil ?_)) | refine CW.condT rfl ?_)
      exact ⟨_, _, _, rfl, AVle.refl _, Store.sub_refl _, rfl, rfl⟩
    | false =>
    have hokp : okK ps ss cs f = f.path.all ss.contains := by unfold okK; rw [hop, h1, h2, h3]; rfl
    refine CW.condF rfl (CW.skip (andThen_normal ?_))
    repeat (first | with_reducible refine CW.seq ?_ | with_reducible refine andThen_normal ?_ | with_reducible refine CW.block ?_ | refine CW.reg (RL.run tysOk rfl (RL.nil ?_)))
    refine CW.loop (σ := Nat) (fun j => [(2, .int .i64 (d : Int)), (3, .ptr lb 0), (4, .fptr (knownCells ps ss cs o1 o2 o3) 0), (5, .fptr f.cells 0), (11, .int .i64 (j : Int))]) (fun _ => s.set lb (leftO (k - 1)))
      (fun j => j ≤ f.path.length ∧ f.path.all ss.contains = (f.path.drop j).all ss.contains) (fun j => f.path.length - j) 0 ⟨by omega, rfl⟩ (by repeat (first | exact trivial | refine ⟨⟨_, rfl, AVle.refl _⟩, ?_⟩)) (Store.sub_refl _) ?_
    rintro j ⟨hj, hI⟩
    repeat (first | with_reducible refine CW.seq ?_ | with_reducible refine andThen_normal ?_ | refine CW.reg (RL.run tysOk rfl (RL.nil ?_)))
    refine CW.cond rfl (fun h => ?_) (fun h => ?_)
    · have hlt : j < f.path.length := by simpa using h
      obtain ⟨x, hx⟩ : ∃ x, f.path[j]? = some x := ⟨_, List.getElem?_eq_getElem hlt⟩
      have hx' : (strs f.path)[j]? = some (.str x) := by rw [strs_get, hx]; rfl
      repeat (first | with_reducible refine CW.seq ?_ | with_reducible refine andThen_normal ?_ | with_reducible refine CW.skip ?_ | with_reducible refine CW.block ?_ | refine CW.drw tysOk mixed rfl (RD.run rfl ?_))
      refine RD.idx 5 j rfl rfl rfl rfl rfl rfl rfl rfl rfl rfl rfl rfl rfl hx' rfl ?_
      refine RD.run rfl ?_
      refine RD.callP (i := 7) rfl rfl rfl rfl rfl rfl rfl (refHas_spec ss o2 x _ hss) ?_
      refine RD.run rfl (RD.done rfl ?_)
      cases hc : ss.contains x with
      | true =>
        repeat (first | with_reducible refine andThen_normal ?_ | with_reducible refine inBlock_normal ?_ | with_reducible refine CW.skip ?_ | refine CW.reg (RL.run tysOk rfl (RL.nil ?_)) | refine CW.condF rfl ?_)
        refine ⟨j + 1, ⟨hlt, all_take hx hI hc⟩, (by repeat (first | exact trivial | refine ⟨⟨_, rfl, AVle.refl _⟩, ?_⟩ | refine ⟨⟨_, rfl, AVle.of_eq (by (rw [i64_succ (by omega)]))⟩, ?_⟩)), Store.sub_refl _, by omega⟩
      | false =>
        rw [hbad (by rw [hokp]; exact all_miss hx hc)]
        repeat (first | with_reducible refine CW.seq ?_ | with_reducible refine andThen_normal ?_ | with_reducible refine andThen_ret ?_ | with_reducible refine inBlock_ret ?_ | with_reducible refine CW.ret ?_ | refine CW.reg (RL.run tysOk rfl (RL.nil ?_)) | refine CW.condT rfl ?_)
        exact ⟨_, _, _, rfl, AVle.refl _, Store.sub_refl _, rfl, rfl⟩
    have hge : f.path.length ≤ j := by simpa using h
    rw [List.drop_eq_nil_of_le hge] at hI
    rw [hokp, hI] at hcd
    replace hcd : FFact.cnt ps ss cs d k f = FFact.cnts ps ss cs (d + 1) (k - 1) f.kids := hcd
    rw [hcd]
    clear hbad hI hge h
    repeat (first | with_reducible refine CW.seq ?_ | with_reducible refine andThen_normal ?_ | with_reducible refine andThen_exit ?_ | with_reducible refine inBlock_here ?_ | with_reducible refine CW.exit ?_ | with_reducible refine CW.block ?_ | refine CW.reg (RL.run tysOk rfl (RL.nil ?_)))
    refine CW.loop (σ := Nat × Int) (fun q => [(2, .int .i64 (d : Int)), (3, .ptr lb 0), (4, .fptr (knownCells ps ss cs o1 o2 o3) 0), (5, .fptr f.cells 0), (12, .int .i64 (q.1 : Int))]) (fun q => s.set lb (leftO q.2))
      (fun q => q.1 ≤ f.kids.length ∧ 0 ≤ q.2 ∧ q.2 ≤ 120 ∧ FFact.cnts ps ss cs (d + 1) q.2 (f.kids.drop q.1) = FFact.cnts ps ss cs (d + 1) (k - 1) f.kids) (fun q => f.kids.length - q.1) (0, k - 1) ⟨by simp, by show 0 ≤ k - 1; omega, by show k - 1 ≤ 120; omega, rfl⟩ ?_ (Store.sub_refl _) ?_
    · exact (by repeat (first | exact trivial | refine ⟨⟨_, rfl, AVle.refl _⟩, ?_⟩))
    · rintro ⟨j, kq⟩ ⟨hj, h0, h120, hI⟩
      simp only at hj h0 h120 hI
      repeat (first | with_reducible refine CW.seq ?_ | with_reducible refine andThen_normal ?_ | refine CW.reg (RL.run tysOk rfl (RL.nil ?_)))
      refine CW.cond rfl (fun h => ?_) (fun h => ?_)
      · have hlt : j < f.kids.length := by rw [hkl] at h; simpa using h
        obtain ⟨c, hk1, hk', hks⟩ := FFact.kid_at hlt
        rw [drop_cons hk1, FFact.cnts] at hI
        have hshc : ∀ x ∈ (Part.fact c).nodes (dd + 1), x.2.texts := fun x hx => hsh x (by rw [fact_nodes]; exact List.mem_cons_of_mem _ (List.mem_flatMap.2 ⟨c, List.mem_of_getElem? hk1, hx⟩))
        have hcall := ih c (dd + 1) (d + 1) kq (s.set lb (leftO kq)) (by omega) (by omega) hshc h0 h120 (by omega) (Store.set_same _ _ _)
        rw [Store.set_set] at hcall
        have hle := FFact.cnt_le ps ss cs c (d + 1) kq
        generalize FFact.cnt ps ss cs (d + 1) kq c = pk at hcall hle hI
        obtain ⟨b, k'⟩ := pk
        have hd1 : IntKind.wrap .i64 ((d : Int) + 1) = ((d + 1 : Nat) : Int) := i64_succ (by omega)
        repeat (first | with_reducible refine CW.seq ?_ | with_reducible refine andThen_normal ?_ | with_reducible refine CW.skip ?_ | with_reducible refine CW.block ?_ | refine CW.drw tysOk mixed rfl (RD.run rfl ?_))
        refine RD.idx 4 j rfl rfl rfl rfl rfl rfl rfl rfl rfl rfl rfl rfl rfl hk' rfl ?_
        refine RD.run rfl ?_
        rw [hd1]
        refine RD.call (i := 9) rfl rfl rfl rfl rfl rfl rfl hcall ?_ (fun _ _ ⟨h, _⟩ => by cases h)
        rintro _ _ ⟨⟨⟩, rfl⟩
        refine RD.run rfl (RD.done rfl ?_)
        cases b with
        | true =>
          obtain ⟨g0, g1⟩ := hle rfl
          repeat (first | with_reducible refine andThen_normal ?_ | with_reducible refine inBlock_normal ?_ | with_reducible refine CW.skip ?_ | refine CW.reg (RL.run tysOk rfl (RL.nil ?_)) | refine CW.condF rfl ?_)
          refine ⟨(j + 1, k'), ⟨hlt, g0, by show k' ≤ 120; simp only at g1; omega, by simpa using hI⟩, (by repeat (first | exact trivial | refine ⟨⟨_, rfl, AVle.refl _⟩, ?_⟩ | refine ⟨⟨_, rfl, AVle.of_eq (by (show AV.int .i64 (IntKind.wrap .i64 ((j : Int) + 1)) = .int .i64 ((j + 1 : Nat) : Int); rw [i64_succ (by omega)]))⟩, ?_⟩)), Store.sub_refl _, by show f.kids.length - (j + 1) < f.kids.length - j; omega⟩
        | false =>
          rw [← hI]
          repeat (first | with_reducible refine CW.seq ?_ | with_reducible refine andThen_normal ?_ | with_reducible refine andThen_ret ?_ | with_reducible refine inBlock_ret ?_ | with_reducible refine CW.ret ?_ | refine CW.reg (RL.run tysOk rfl (RL.nil ?_)) | refine CW.condT rfl ?_)
          exact ⟨_, _, _, rfl, AVle.refl _, Store.sub_refl _, rfl, rfl⟩
      · have hge : f.kids.length ≤ j := by rw [hkl] at h; simpa using h
        rw [List.drop_eq_nil_of_le hge, FFact.cnts] at hI
        rw [← hI]
        repeat (first | with_reducible refine CW.seq ?_ | with_reducible refine andThen_normal ?_ | with_reducible refine andThen_exit ?_ | with_reducible refine inBlock_here ?_ | with_reducible refine CW.ret ?_ | with_reducible refine CW.exit ?_ | refine CW.reg (RL.run tysOk rfl (RL.nil ?_)))
        exact ⟨_, _, _, rfl, AVle.refl _, Store.sub_refl _, rfl, rfl⟩
end Go.Proofs.Ytaafacnoddjhgaa

/- Contracts of the reference: what a fact speaks of; facts that are formed alone. -/
namespace Go.Proofs.Ytaafacnoddjhgaa
open Go.AE

set_option maxRecDepth 10000 in
theorem refAllNames_spec (l more : List Str) (own om : Own) (sz : Nat) (s : Store) (hl : l.length < big) (hm : more.length < big) (hsz : more = [] ∨ sz = 1) (ht : ∀ x ∈ l, Sh x) :
    ACalls Try.prog 110 [.slc 1 (strs l) own, .slc sz (strs more) om] s (fun o s' => o = .ret (.slc 1 (strs (l.filter nameS ++ more)) .fro) ∧ s' = s) := by
  have hb : big = 1099511627776 := rfl
  refine ACalls.of_CW tysOk call110 Try.func110 rfl rfl ?_
  repeat (first | with_reducible refine CW.seq ?_ | with_reducible refine andThen_normal ?_ | with_reducible refine CW.block ?_ | refine CW.reg (RL.run tysOk rfl (RL.nil ?_)))
  refine CW.loop (σ := Nat × Own) (fun q => [(0, .slc 1 (strs l) own), (1, .slc sz (strs more) om), (5, .slc 1 (strs ((l.take q.1).filter nameS)) q.2), (6, .int .i64 (q.1 : Int))])
    (fun q => rowOf s 9 1 ((l.take q.1).filter nameS).length q.2) (fun q => q.1 ≤ l.length ∧ OwnOk s 0 q.2) (fun q => l.length - q.1) (0, .nil) ⟨by simp, trivial⟩ ?_ (Store.sub_refl _) ?_
  · exact ⟨⟨_, rfl, AVle.refl _⟩, ⟨_, rfl, AVle.refl _⟩, ⟨_, rfl, AVle.nil (by simp)⟩, ⟨_, rfl, AVle.refl _⟩, trivial⟩
  rintro ⟨i, ow⟩ ⟨hi, hok⟩
  simp only at hi hok
  have hfl : ((l.take i).filter nameS).length ≤ i := Nat.le_trans (List.length_filter_le _ _) (by simp; omega)
  repeat (first | with_reducible refine CW.seq ?_ | with_reducible refine andThen_normal ?_ | refine CW.reg (RL.run tysOk rfl (RL.nil ?_)))
  refine CW.cond rfl (fun h => ?_) (fun h => ?_)
  · have hlt : i < l.length := by simpa using h
    obtain ⟨x, hx⟩ : ∃ x, l[i]? = some x := ⟨_, List.getElem?_eq_getElem hlt⟩
    have hx' : (strs l)[i]? = some (.str x) := by rw [strs_get, hx]; rfl
    have hcall := fun s => refName_spec x s (ht x (List.mem_of_getElem? hx))
    repeat (first | with_reducible refine CW.seq ?_ | with_reducible refine andThen_normal ?_ | with_reducible refine CW.skip ?_ | with_reducible refine CW.block ?_ | refine CW.reg ?_ | refine RL.step tysOk rfl rfl rfl rfl ?_ | refine RL.idx tysOk _ rfl rfl rfl rfl rfl rfl rfl rfl rfl rfl rfl (by assumption) rfl ?_)
    refine RL.callP rfl rfl rfl rfl rfl (hcall _) ?_
    have htk : (l.take (i + 1)).filter nameS = (l.take i).filter nameS ++ (if nameS x then [x] else []) := by
      rw [← take_snoc hx, List.filter_append]; simp [List.filter_cons]
    cases hc : nameS x with
    | true =>
      rw [hc, if_pos rfl] at htk
      repeat (first | with_reducible refine andThen_normal ?_ | refine CW.reg ?_ | refine RL.nil ?_ | refine CW.condT rfl ?_ | refine RL.step tysOk rfl rfl rfl rfl ?_ | refine RL.idx tysOk _ rfl rfl rfl rfl rfl rfl rfl rfl rfl rfl rfl (by assumption) rfl ?_)
      refine RL.append1 tysOk rfl rfl rfl rfl rfl rfl rfl (by intro k; simp) rfl rfl rfl rfl rfl rfl rfl (strs_length _).symm ?_ ?_ (s := s) rfl (OwnOk.sub' hok) (fun rb hrb => ?_)
      · show (((l.take i).filter nameS).length + 1) * 16 ≤ _; omega
      · show ((l.take i).filter nameS).length + 1 ≤ _; omega
      repeat (first | with_reducible refine andThen_normal ?_ | with_reducible refine inBlock_normal ?_ | refine CW.reg (RL.run tysOk rfl (RL.nil ?_)) | refine RL.nil ?_ | refine RL.step tysOk rfl rfl rfl rfl ?_)
      refine ⟨(i + 1, .own rb), ⟨hlt, hrb⟩, (by repeat (first | exact trivial | refine ⟨⟨_, rfl, AVle.refl _⟩, ?_⟩ | refine ⟨⟨_, rfl, AVle.of_eq (by (first | (show AV.int .i64 (IntKind.wrap .i64 ((i : Int) + 1)) = .int .i64 ((i + 1 : Nat) : Int); rw [i64_succ (by omega)]) | (simp only [htk]; simp [strs])))⟩, ?_⟩)), ?_, by show l.length - (i + 1) < l.length - i; omega⟩
      show Store.Sub (rowOf s _ 1 ((l.take (i + 1)).filter nameS).length _) _
      rw [htk, List.length_append]; exact Store.sub_refl _
    | false =>
      rw [hc, if_neg (by simp), List.append_nil] at htk
      repeat (first | with_reducible refine andThen_normal ?_ | with_reducible refine inBlock_normal ?_ | with_reducible refine CW.skip ?_ | refine CW.reg (RL.run tysOk rfl (RL.nil ?_)) | refine RL.nil ?_ | refine CW.condF rfl ?_)
      refine ⟨(i + 1, ow), ⟨hlt, hok⟩, (by repeat (first | exact trivial | refine ⟨⟨_, rfl, AVle.refl _⟩, ?_⟩ | refine ⟨⟨_, rfl, AVle.of_eq (by (first | (show AV.int .i64 (IntKind.wrap .i64 ((i : Int) + 1)) = .int .i64 ((i + 1 : Nat) : Int); rw [i64_succ (by omega)]) | (simp only [htk])))⟩, ?_⟩)), ?_, by show l.length - (i + 1) < l.length - i; omega⟩
      show Store.Sub (rowOf s _ 1 ((l.take (i + 1)).filter nameS).length _) _
      rw [htk]; exact Store.sub_refl _
  · have hge : l.length ≤ i := by simpa using h
    rw [List.take_of_length_le hge] at hfl ⊢
    repeat (first | with_reducible refine CW.seq ?_ | with_reducible refine andThen_normal ?_ | with_reducible refine andThen_exit ?_ | with_reducible refine inBlock_here ?_ | with_reducible refine CW.exit ?_ | refine CW.reg ?_ | refine RL.step tysOk rfl rfl rfl rfl ?_)
    refine RL.appendR tysOk rfl rfl rfl rfl rfl rfl rfl (by intro k; simp) rfl rfl rfl rfl ?_ rfl (strs_elem _) (n := (l.filter nameS).length) ?_ ?_ (strs_length _).symm rfl (OwnOk.sub' hok) ?_
    · rcases hsz with h | h
      · left; rw [h]; rfl
      · right; exact h
    · simp only [strs_length]; show _ * 16 ≤ _; omega
    · simp only [strs_length]; omega
    rintro own' h1
    repeat (first | with_reducible refine andThen_normal ?_ | with_reducible refine CW.ret ?_ | refine RL.nil ?_ | refine RL.step tysOk rfl rfl rfl rfl ?_)
    refine ⟨_, _, s, rfl, AVle.fro, rowOf_sub h1, ?_, rfl⟩
    simp [strs]

/-! ### A row that grows in a store that is known in part -/
section
variable {s t : Store} {e e2 : TypeId} {sz n m sz2 n2 x : Nat} {own own' own2 : Own} {o : AObj}

theorem row_ne (h : RowIs t e sz n own) (hx : t x = some o) (ho : notRow o = true) : ∀ b, own = .own b → x ≠ b := fun b hb he => by
  subst hb; subst he
  simp only [RowIs] at h; rw [h] at hx; cases hx; cases ho
theorem base_keep (hx : t x = some o) (hne : ∀ b, own = .own b → x ≠ b) : rowBase t own x = some o := by
  cases own with
  | own b => exact (Store.del_ne _ (hne b rfl)).trans hx
  | nil => exact hx
  | clip => exact hx
  | fro => exact hx
theorem grow_at (hok : OwnOk (rowBase t own) n own') (hx : rowBase t own x = some o) : rowOf (rowBase t own) e sz m own' x = some o := by
  cases own' with
  | own b => exact (Store.set_ne _ _ (fun he => by subst he; have : rowBase t own x = none := hok; rw [hx] at this; cases this)).trans hx
  | nil => exact hx
  | clip => exact hx
  | fro => exact hok.elim
theorem grow_keep (h : RowIs t e2 sz2 n2 own) (hok : OwnOk (rowBase t own) n own') (hx : t x = some o) (ho : notRow o = true) : rowOf (rowBase t own) e sz m own' x = some o := grow_at hok (base_keep hx (row_ne h hx ho))
theorem grow_row (h2 : RowIs t e2 sz2 n2 own2) (hd : ∀ b, own = .own b → own2 ≠ .own b) (hok : OwnOk (rowBase t own) n own') : RowIs (rowOf (rowBase t own) e sz m own') e2 sz2 n2 own2 := by
  cases own2 with
  | own b2 => exact grow_at hok (base_keep h2 (fun b hb he => hd b hb (by rw [he])))
  | nil => trivial
  | clip => trivial
  | fro => exact h2
theorem grow_dis (h2 : RowIs t e2 sz2 n2 own2) (hd : ∀ b, own = .own b → own2 ≠ .own b) (hok : OwnOk (rowBase t own) n own') : ∀ b, own' = .own b → own2 ≠ .own b := fun b hb hb2 => by
  subst hb; subst hb2
  have h1 : rowBase t own b = some _ := base_keep h2 (fun c hc he => hd c hc (by rw [he]))
  have h2 : rowBase t own b = none := hok
  rw [h1] at h2; cases h2
theorem grow_own (hok : OwnOk (rowBase t own) n own') : RowIs (rowOf (rowBase t own) e sz m own') e sz m own' := by
  cases own' with
  | own b => exact Store.set_same _ _ _
  | nil => trivial
  | clip => trivial
  | fro => exact hok
theorem grow_sub (hsub : Store.Sub s t) (hs : ∀ b, own = .own b → s b = none) (hok : OwnOk (rowBase t own) n own') : Store.Sub s (rowOf (rowBase t own) e sz m own') ∧ ∀ b, own' = .own b → s b = none := by
  have h1 : Store.Sub s (rowBase t own) := by
    cases own with
    | own b => exact Store.subDel hsub (hs b rfl)
    | nil => exact hsub
    | clip => exact hsub
    | fro => exact hsub
  have h2 : ∀ b, own' = .own b → s b = none := fun b hb => by
    subst hb
    have : rowBase t own b = none := hok
    rcases h1 b with q | q
    · rw [q]; exact this
    · exact q
  exact ⟨Store.subRow h1 (m := n) (by
    cases own' with
    | own b => exact h2 b rfl
    | nil => trivial
    | clip => trivial
    | fro => exact hok.elim), h2⟩
theorem set_row {b : Nat} {o' : AObj} (h : RowIs t e sz n own) (hx : t b = some o) (ho : notRow o = true) : RowIs (t.set b o') e sz n own := by
  cases own with
  | own c => exact (Store.set_ne _ _ (fun he => by subst he; simp only [RowIs] at h; rw [h] at hx; cases hx; cases ho)).trans h
  | nil => trivial
  | clip => trivial
  | fro => exact h
end

section
variable {P : Program} {Γ : Tys} {N : Nat} {Q : AEx → Env → Store → Prop} {env : Env} {s : Store} {l : List Oper} {m : Nat}
theorem RD.appendR (hΓ : TysOk P Γ) {i : Nat} {o : Oper} {d : Nat} {t t' e : TypeId} {x y : Operand} {it it' ie : TI} {sx sy n : Nat} {xs ys : List AV} {own oy : Own} (hr : readyL l.toArray m (idxs 0 l) = [i]) (ho : l.toArray[i]? = some o) (hd : o.dst = some d) (hN : Nat.blt d N = true)
    (hg : guardOf l.toArray (pickE env (looks l.toArray o)) o = some true) (hop : o.op = .call { callee := .builtin .append, args := #[x, y], argTypes := #[t, t'] }) (ht : Γ.get? t = some it) (htd : it.td = .slc e) (ht' : Γ.get? t' = some it') (htd' : ∀ k, it'.td ≠ .int k)
    (hie : Γ.get? e = some ie) (hx : ev (pickE env (looks l.toArray o)) x = some (.slc sx xs own)) (hy : ev (pickE env (looks l.toArray o)) y = some (.slc sy ys oy)) (hsx : sx = ie.size) (hsy : ys = [] ∨ sy = ie.size)
    (hzs' : Nat.beq ie.zero.cells.size ie.size = true) (hel : ∀ y ∈ ys, elemOk ie.size y = true) (hb : (xs.length + ys.length) * ie.bytes ≤ 140737488355328) (h63 : xs.length + ys.length ≤ 9223372036854775807) (hn : n = xs.length)
    {s₀ : Store} (hs : s₀ = rowOf s e ie.size n own) (hok : OwnOk s n own)
    (h : ∀ own', OwnOk s (xs.length + ys.length) own' → RD P Γ N l.toArray Q (dn (m ||| 2 ^ i)) ((d, .slc ie.size (xs ++ ys) own') :: env) (rowOf s e ie.size (xs.length + ys.length) own')) : RD P Γ N l.toArray Q (dn m) env s₀ := by
  subst hs
  subst hn
  refine RD.one hr ho hd hN hg (OW.appendR hΓ hop ht htd ht' htd' hie hx hy hsx hsy hzs' hel hb h63 rfl hok (X := fun _ _ => False)) ?_ (fun _ _ h => h.elim)
  rintro r s' ⟨own', h1, -, -, rfl, rfl⟩
  exact h own' h1
end

/-! ### What a fact speaks of -/
abbrev SpSt := Int × List Str × List Str × List Str
mutual
def FFact.spk : FFact → SpSt → SpSt
  | .mk _ x p c _ ks, st => if decide (st.1 - 1 < 0) then (st.1 - 1, st.2) else FFact.spks ks (st.1 - 1, st.2.1 ++ [x], st.2.2.1 ++ p, st.2.2.2 ++ [c])
def FFact.spks : List FFact → SpSt → SpSt
  | [], st => st
  | k :: r, st => FFact.spks r (FFact.spk k st)
end
theorem FFact.spk_def (f : FFact) (st : SpSt) : f.spk st = if decide (st.1 - 1 < 0) then (st.1 - 1, st.2) else FFact.spks f.kids (st.1 - 1, st.2.1 ++ [f.name], st.2.2.1 ++ f.path, st.2.2.2 ++ [f.cls]) := by cases f; rw [FFact.spk]; rfl

mutual
/-- How many path slots a fact has, all together. -/
def FFact.pl : FFact → Nat
  | .mk _ _ p _ _ ks => p.length + FFact.pls ks
def FFact.pls : List FFact → Nat
  | [] => 0
  | k :: r => FFact.pl k + FFact.pls r
end
theorem FFact.pl_def (f : FFact) : f.pl = f.path.length + FFact.pls f.kids := by cases f; rw [FFact.pl]; rfl
theorem FFact.size_def (f : FFact) : f.size = 1 + FFact.sizes f.kids := by cases f; rw [FFact.size]; rfl

mutual
theorem spk_le : ∀ (f : FFact) (st : SpSt), st.1 - f.size ≤ (f.spk st).1 ∧ (f.spk st).1 ≤ st.1 ∧ (f.spk st).2.1.length ≤ st.2.1.length + f.size ∧ (f.spk st).2.2.1.length ≤ st.2.2.1.length + f.pl ∧ (f.spk st).2.2.2.length ≤ st.2.2.2.length + f.size
  | .mk o x p c n ks, st => by
    rw [FFact.spk, FFact.size, FFact.pl]
    split
    · simp only; omega
    · have := spks_le ks (st.1 - 1, st.2.1 ++ [x], st.2.2.1 ++ p, st.2.2.2 ++ [c])
      simp only [List.length_append, List.length_cons, List.length_nil] at this
      omega
theorem spks_le : ∀ (l : List FFact) (st : SpSt), st.1 - FFact.sizes l ≤ (FFact.spks l st).1 ∧ (FFact.spks l st).1 ≤ st.1 ∧ (FFact.spks l st).2.1.length ≤ st.2.1.length + FFact.sizes l ∧ (FFact.spks l st).2.2.1.length ≤ st.2.2.1.length + FFact.pls l ∧ (FFact.spks l st).2.2.2.length ≤ st.2.2.2.length + FFact.sizes l
  | [], st => by simp [FFact.spks, FFact.sizes, FFact.pls]
  | k :: r, st => by
    have h1 := spk_le k st
    have h2 := spks_le r (k.spk st)
    rw [FFact.spks, FFact.sizes, FFact.pls]
    omega
end

structure SInv (s t : Store) (wb lb : Nat) (st : SpSt) (o1 o2 o3 : Own) : Prop where
  hw : t wb = some (.box 168 (knownCells st.2.1 st.2.2.1 st.2.2.2 o1 o2 o3))
  hl : t lb = some (leftO st.1)
  r1 : RowIs t 9 1 st.2.1.length o1
  r2 : RowIs t 9 1 st.2.2.1.length o2
  r3 : RowIs t 9 1 st.2.2.2.length o3
  sub : Store.Sub s t
  sn : s wb = none ∧ s lb = none
  srow : (∀ b, o1 = .own b → s b = none) ∧ (∀ b, o2 = .own b → s b = none) ∧ (∀ b, o3 = .own b → s b = none)
  d : wb ≠ lb
  d12 : ∀ b, o1 = .own b → o2 ≠ .own b
  d13 : ∀ b, o1 = .own b → o3 ≠ .own b
  d23 : ∀ b, o2 = .own b → o3 ≠ .own b

section
variable {s t : Store} {wb lb n m : Nat} {k : Int} {ps ss cs : List Str} {o1 o2 o3 own' : Own}
theorem SInv.left (h : SInv s t wb lb (k, ps, ss, cs) o1 o2 o3) (k' : Int) : SInv s (t.set lb (leftO k')) wb lb (k', ps, ss, cs) o1 o2 o3 :=
  ⟨(Store.set_ne _ _ h.d).trans h.hw, Store.set_same _ _ _, set_row h.r1 h.hl rfl, set_row h.r2 h.hl rfl, set_row h.r3 h.hl rfl, Store.subSet h.sub h.sn.2, h.sn, h.srow, h.d, h.d12, h.d13, h.d23⟩

theorem SInv.add1 (h : SInv s t wb lb (k, ps, ss, cs) o1 o2 o3) (x : List Str) (hok : OwnOk (rowBase t o1) n own') :
    SInv s ((rowOf (rowBase t o1) 9 1 (ps ++ x).length own').set wb (.box 168 (knownCells (ps ++ x) ss cs own' o2 o3))) wb lb (k, ps ++ x, ss, cs) own' o2 o3 := by
  have hw := grow_keep (e := 9) (sz := 1) (m := (ps ++ x).length) h.r1 hok h.hw rfl
  have hl := grow_keep (e := 9) (sz := 1) (m := (ps ++ x).length) h.r1 hok h.hl rfl
  have h2 := grow_row (e := 9) (sz := 1) (m := (ps ++ x).length) h.r2 h.d12 hok
  have h3 := grow_row (e := 9) (sz := 1) (m := (ps ++ x).length) h.r3 h.d13 hok
  have hs := grow_sub (e := 9) (sz := 1) (m := (ps ++ x).length) h.sub h.srow.1 hok
  exact ⟨Store.set_same _ _ _, (Store.set_ne _ _ h.d.symm).trans hl, set_row (grow_own hok) hw rfl, set_row h2 hw rfl, set_row h3 hw rfl, Store.subSet hs.1 h.sn.1, h.sn, ⟨hs.2, h.srow.2⟩, h.d,
    grow_dis h.r2 h.d12 hok, grow_dis h.r3 h.d13 hok, h.d23⟩

theorem SInv.add2 (h : SInv s t wb lb (k, ps, ss, cs) o1 o2 o3) (x : List Str) (hok : OwnOk (rowBase t o2) n own') :
    SInv s ((rowOf (rowBase t o2) 9 1 (ss ++ x).length own').set wb (.box 168 (knownCells ps (ss ++ x) cs o1 own' o3))) wb lb (k, ps, ss ++ x, cs) o1 own' o3 := by
  have d21 : ∀ b, o2 = .own b → o1 ≠ .own b := fun b h2 h1 => h.d12 b h1 h2
  have hw := grow_keep (e := 9) (sz := 1) (m := (ss ++ x).length) h.r2 hok h.hw rfl
  have hl := grow_keep (e := 9) (sz := 1) (m := (ss ++ x).length) h.r2 hok h.hl rfl
  have h2 := grow_row (e := 9) (sz := 1) (m := (ss ++ x).length) h.r1 d21 hok
  have h3 := grow_row (e := 9) (sz := 1) (m := (ss ++ x).length) h.r3 h.d23 hok
  have hs := grow_sub (e := 9) (sz := 1) (m := (ss ++ x).length) h.sub h.srow.2.1 hok
  exact ⟨Store.set_same _ _ _, (Store.set_ne _ _ h.d.symm).trans hl, set_row h2 hw rfl, set_row (grow_own hok) hw rfl, set_row h3 hw rfl, Store.subSet hs.1 h.sn.1, h.sn, ⟨h.srow.1, hs.2, h.srow.2.2⟩, h.d,
    fun b q1 q2 => grow_dis h.r1 d21 hok b q2 q1, h.d13, grow_dis h.r3 h.d23 hok⟩

theorem SInv.add3 (h : SInv s t wb lb (k, ps, ss, cs) o1 o2 o3) (x : List Str) (hok : OwnOk (rowBase t o3) n own') :
    SInv s ((rowOf (rowBase t o3) 9 1 (cs ++ x).length own').set wb (.box 168 (knownCells ps ss (cs ++ x) o1 o2 own'))) wb lb (k, ps, ss, cs ++ x) o1 o2 own' := by
  have d31 : ∀ b, o3 = .own b → o1 ≠ .own b := fun b h2 h1 => h.d13 b h1 h2
  have d32 : ∀ b, o3 = .own b → o2 ≠ .own b := fun b h2 h1 => h.d23 b h1 h2
  have hw := grow_keep (e := 9) (sz := 1) (m := (cs ++ x).length) h.r3 hok h.hw rfl
  have hl := grow_keep (e := 9) (sz := 1) (m := (cs ++ x).length) h.r3 hok h.hl rfl
  have h2 := grow_row (e := 9) (sz := 1) (m := (cs ++ x).length) h.r1 d31 hok
  have h3 := grow_row (e := 9) (sz := 1) (m := (cs ++ x).length) h.r2 d32 hok
  have hs := grow_sub (e := 9) (sz := 1) (m := (cs ++ x).length) h.sub h.srow.2.2 hok
  exact ⟨Store.set_same _ _ _, (Store.set_ne _ _ h.d.symm).trans hl, set_row h2 hw rfl, set_row h3 hw rfl, set_row (grow_own hok) hw rfl, Store.subSet hs.1 h.sn.1, h.sn, ⟨h.srow.1, h.srow.2.1, hs.2⟩, h.d,
    h.d12, fun b q1 q2 => grow_dis h.r1 d31 hok b q2 q1, fun b q1 q2 => grow_dis h.r2 d32 hok b q2 q1⟩
end

set_option maxRecDepth 10000 in
set_option maxHeartbeats 2000000 in
theorem refSpoken_spec (s : Store) (wb lb : Nat) : ∀ (n : Nat) (f : FFact) (st : SpSt) (o1 o2 o3 : Own) (t : Store), f.size ≤ n → f.size ≤ big → SInv s t wb lb st o1 o2 o3 → st.1 ≤ 120 → -1099511627776 ≤ st.1 - (f.size : Int) →
    st.2.1.length + f.size ≤ big → st.2.2.1.length + f.pl ≤ big → st.2.2.2.length + f.size ≤ big →
    ACalls Try.prog 109 [.ptr wb 0, f.av, .ptr lb 0] t (fun o t' => o = .ret (.tup []) ∧ ∃ o1' o2' o3', SInv s t' wb lb (f.spk st) o1' o2' o3') := by
  intro n
  induction n with
  | zero => intro f st o1 o2 o3 t h; have := f.size_pos; omega
  | succ n ih =>
    rintro f ⟨k, ps, ss, cs⟩ o1 o2 o3 t hn hbig hI hk hkl hps hss hcs
    simp only at hk hkl hps hss hcs
    have hb : big = 1099511627776 := rfl
    have hsz := f.size_def
    have hpl := f.pl_def
    have hfl := f.kids_length
    have hfk := f.kav_length
    have hsd := f.spk_def (k, ps, ss, cs)
    simp only at hsd
    refine ACalls.of_CW tysOk call109 Try.func109 rfl rfl ?_
    have hkw : IntKind.wrap .i64 (k - 1) = k - 1 := i64_wrap (by omega) (by omega)
    have hI1 := hI.left (k - 1)
    refine CW.seqCut [(0, .ptr wb 0), (2, .ptr lb 0), (4, .fptr f.cells 0)] t ?_ ?_
    · repeat (first | refine CW.reg (RL.run tysOk rfl (RL.nil ?_)))
      exact ⟨rfl, (by repeat (first | exact trivial | refine ⟨⟨_, rfl, AVle.refl _⟩, ?_⟩)), Store.sub_refl _⟩
    refine CW.seqCut [(0, .ptr wb 0), (2, .ptr lb 0), (4, .fptr f.cells 0)] (t.set lb (leftO (k - 1))) ?_ ?_
    · repeat (first | refine CW.reg ?_ | refine RL.step tysOk rfl rfl rfl rfl ?_ | refine RL.loadP tysOk rfl rfl rfl rfl rfl rfl hI.hl rfl ?_)
      refine RL.storeP tysOk rfl rfl rfl rfl rfl rfl rfl rfl rfl hI.hl rfl ?_
      repeat (first | refine RL.nil ?_)
      refine ⟨rfl, (by repeat (first | exact trivial | refine ⟨⟨_, rfl, AVle.refl _⟩, ?_⟩)), ?_⟩
      rw [hkw]; exact Store.sub_refl _
    generalize t.set lb (leftO (k - 1)) = t1 at hI1 ⊢
    refine CW.seq ?_
    refine CW.seqCut [(0, .ptr wb 0), (2, .ptr lb 0), (4, .fptr f.cells 0), (16, .bool (decide (k - 1 < 0)))] t1 ?_ ?_
    · repeat (first | refine CW.reg ?_ | refine RL.nil ?_ | refine RL.step tysOk rfl rfl rfl rfl ?_ | refine RL.loadP tysOk rfl rfl rfl rfl rfl rfl hI1.hl rfl ?_)
      exact ⟨rfl, (by repeat (first | exact trivial | refine ⟨⟨_, rfl, AVle.refl _⟩, ?_⟩)), Store.sub_refl _⟩
    cases hneg : decide (k - 1 < 0) with
    | true =>
      rw [hneg, if_pos rfl] at hsd
      rw [hsd]
      repeat (first | with_reducible refine andThen_ret ?_ | with_reducible refine CW.ret ?_ | refine CW.condT rfl ?_)
      exact ⟨_, _, _, rfl, AVle.refl _, Store.sub_refl _, rfl, o1, o2, o3, hI1⟩
    | false =>
    rw [hneg, if_neg (by simp)] at hsd
    rw [hsd]
    refine CW.condF rfl (CW.skip (andThen_normal ?_))
    refine CW.seqCutX (σ := Own × Store) (fun _ => [(0, .ptr wb 0), (2, .ptr lb 0), (4, .fptr f.cells 0)]) (fun z => z.2) (fun z => SInv s z.2 wb lb (k - 1, ps ++ [f.name], ss, cs) z.1 o2 o3) ?_ ?_
    · repeat (first | refine CW.drw tysOk mixed rfl (RD.run rfl ?_))
      refine RD.one (i := 4) rfl rfl rfl rfl rfl (OW.loadP tysOk rfl rfl rfl hI1.hw rfl (X := fun _ _ => False)) ?_ (fun _ _ h => False.elim h)
      rintro _ t2 ⟨rfl, rfl⟩
      refine RD.run rfl ?_
      refine RD.append1 (i := 8) tysOk rfl rfl rfl rfl rfl rfl rfl rfl rfl (by intro k h; cases h) rfl rfl rfl rfl rfl rfl rfl (n := ps.length) (by simp) (by show (ps.length + 1) * 16 ≤ _; omega) (by omega) (rowBase_eq hI1.r1) (rowBase_ok hI1.r1) (fun b' hb' => ?_)
      refine RD.run rfl ?_
      refine RD.oneN (i := 11) rfl rfl rfl rfl (OW.storeP tysOk rfl rfl rfl rfl rfl rfl rfl (grow_keep (n := 0) (own' := .own b') hI1.r1 hb' hI1.hw rfl) rfl (X := fun _ _ => False)) ?_ (fun _ _ h => False.elim h)
      rintro _ _ rfl
      refine RD.run rfl (RD.done rfl ?_)
      have hA := hI1.add1 (n := 0) (own' := .own b') [f.name] hb'
      have e : strs (ps ++ [f.name]) = strs ps ++ [.str f.name] := by simp [strs]
      rw [List.length_append] at hA
      refine ⟨rfl, (.own b', _), hA, (by repeat (first | exact trivial | refine ⟨⟨_, rfl, AVle.refl _⟩, ?_⟩)), ?_⟩
      show Store.Sub ((rowOf (rowBase t2 o1) _ 1 (ps.length + 1) (.own b')).set wb (.box _ (knownCells (ps ++ [f.name]) ss cs (.own b') o2 o3))) _
      rw [knownCells, e]
      exact Store.sub_refl _
    rintro ⟨o1', t2⟩ hI2
    simp only at hI2 ⊢
    refine CW.seqCutX (σ := Own × Store) (fun _ => [(0, .ptr wb 0), (2, .ptr lb 0), (4, .fptr f.cells 0)]) (fun z => z.2) (fun z => SInv s z.2 wb lb (k - 1, ps ++ [f.name], ss ++ f.path, cs) o1' z.1 o3) ?_ ?_
    · repeat (first | refine CW.drw tysOk mixed rfl (RD.run rfl ?_))
      refine RD.one (i := 4) rfl rfl rfl rfl rfl (OW.loadP tysOk rfl rfl rfl hI2.hw rfl (X := fun _ _ => False)) ?_ (fun _ _ h => False.elim h)
      rintro _ t3 ⟨rfl, rfl⟩
      refine RD.run rfl ?_
      refine RD.appendR (i := 7) tysOk rfl rfl rfl rfl rfl rfl rfl rfl rfl (by intro k h; cases h) rfl rfl rfl rfl (.inr rfl) rfl (strs_elem _) (n := ss.length) (by simp only [strs_length]; show _ * 16 ≤ _; omega) (by simp only [strs_length]; omega) (strs_length _).symm (rowBase_eq hI2.r2) (rowBase_ok hI2.r2) (fun own' hb' => ?_)
      refine RD.run rfl ?_
      refine RD.oneN (i := 10) rfl rfl rfl rfl (OW.storeP tysOk rfl rfl rfl rfl rfl rfl rfl (grow_keep hI2.r2 hb' hI2.hw rfl) rfl (X := fun _ _ => False)) ?_ (fun _ _ h => False.elim h)
      rintro _ _ rfl
      refine RD.run rfl (RD.done rfl ?_)
      have hA := hI2.add2 f.path hb'
      have e : strs (ss ++ f.path) = strs ss ++ strs f.path := by simp [strs]
      rw [List.length_append] at hA
      refine ⟨rfl, (own', _), hA, (by repeat (first | exact trivial | refine ⟨⟨_, rfl, AVle.refl _⟩, ?_⟩)), ?_⟩
      show Store.Sub ((rowOf (rowBase t3 o2) _ 1 (ss.length + f.path.length) own').set wb (.box _ (knownCells (ps ++ [f.name]) (ss ++ f.path) cs o1' own' o3))) _
      rw [knownCells, e, strs_length, strs_length]
      exact Store.sub_refl _
    rintro ⟨o2', t3⟩ hI3
    simp only at hI3 ⊢
    refine CW.seqCutX (σ := Own × Store) (fun _ => [(0, .ptr wb 0), (2, .ptr lb 0), (4, .fptr f.cells 0)]) (fun z => z.2) (fun z => SInv s z.2 wb lb (k - 1, ps ++ [f.name], ss ++ f.path, cs ++ [f.cls]) o1' o2' z.1) ?_ ?_
    · repeat (first | refine CW.drw tysOk mixed rfl (RD.run rfl ?_))
      refine RD.one (i := 4) rfl rfl rfl rfl rfl (OW.loadP tysOk rfl rfl rfl hI3.hw rfl (X := fun _ _ => False)) ?_ (fun _ _ h => False.elim h)
      rintro _ t4 ⟨rfl, rfl⟩
      refine RD.run rfl ?_
      refine RD.append1 (i := 8) tysOk rfl rfl rfl rfl rfl rfl rfl rfl rfl (by intro k h; cases h) rfl rfl rfl rfl rfl rfl rfl (n := cs.length) (by simp) (by show (cs.length + 1) * 16 ≤ _; omega) (by omega) (rowBase_eq hI3.r3) (rowBase_ok hI3.r3) (fun b' hb' => ?_)
      refine RD.run rfl ?_
      refine RD.oneN (i := 11) rfl rfl rfl rfl (OW.storeP tysOk rfl rfl rfl rfl rfl rfl rfl (grow_keep (n := 0) (own' := .own b') hI3.r3 hb' hI3.hw rfl) rfl (X := fun _ _ => False)) ?_ (fun _ _ h => False.elim h)
      rintro _ _ rfl
      refine RD.run rfl (RD.done rfl ?_)
      have hA := hI3.add3 (n := 0) (own' := .own b') [f.cls] hb'
      have e : strs (cs ++ [f.cls]) = strs cs ++ [.str f.cls] := by simp [strs]
      rw [List.length_append] at hA
      refine ⟨rfl, (.own b', _), hA, (by repeat (first | exact trivial | refine ⟨⟨_, rfl, AVle.refl _⟩, ?_⟩)), ?_⟩
      show Store.Sub ((rowOf (rowBase t4 o3) _ 1 (cs.length + 1) (.own b')).set wb (.box _ (knownCells (ps ++ [f.name]) (ss ++ f.path) (cs ++ [f.cls]) o1' o2' (.own b')))) _
      rw [knownCells, e]
      exact Store.sub_refl _
    rintro ⟨o3', t4⟩ hI4
    simp only at hI4 ⊢
    repeat (first | with_reducible refine CW.seq ?_ | with_reducible refine andThen_normal ?_ | with_reducible refine CW.block ?_ | refine CW.reg (RL.run tysOk rfl (RL.nil ?_)))
    refine CW.loop (σ := Nat × SpSt × Store × Own × Own × Own) (fun q => [(0, .ptr wb 0), (2, .ptr lb 0), (4, .fptr f.cells 0), (6, .int .i64 (q.1 : Int))]) (fun q => q.2.2.1)
      (fun q => q.1 ≤ f.kids.length ∧ SInv s q.2.2.1 wb lb q.2.1 q.2.2.2.1 q.2.2.2.2.1 q.2.2.2.2.2 ∧ FFact.spks (f.kids.drop q.1) q.2.1 = FFact.spks f.kids (k - 1, ps ++ [f.name], ss ++ f.path, cs ++ [f.cls]) ∧
        q.2.1.1 ≤ 120 ∧ -1099511627776 ≤ q.2.1.1 - (FFact.sizes (f.kids.drop q.1) : Int) ∧ q.2.1.2.1.length + FFact.sizes (f.kids.drop q.1) ≤ big ∧ q.2.1.2.2.1.length + FFact.pls (f.kids.drop q.1) ≤ big ∧ q.2.1.2.2.2.length + FFact.sizes (f.kids.drop q.1) ≤ big) (fun q => f.kids.length - q.1)
      (0, (k - 1, ps ++ [f.name], ss ++ f.path, cs ++ [f.cls]), t4, o1', o2', o3') ⟨by simp, hI4, rfl, by show k - 1 ≤ 120; omega, by simp only [List.drop_zero]; omega, by simp; omega, by simp; omega, by simp; omega⟩ ?_ (Store.sub_refl _) ?_
    · exact (by repeat (first | exact trivial | refine ⟨⟨_, rfl, AVle.refl _⟩, ?_⟩))
    · rintro ⟨j, st, t5, p1, p2, p3⟩ ⟨hj, hJ, hE, hq1, hq2, hq3, hq4, hq5⟩
      simp only at hj hJ hE hq1 hq2 hq3 hq4 hq5
      repeat (first | with_reducible refine CW.seq ?_ | with_reducible refine andThen_normal ?_ | refine CW.reg (RL.run tysOk rfl (RL.nil ?_)))
      refine CW.cond rfl (fun h => ?_) (fun h => ?_)
      · have hlt : j < f.kids.length := by rw [hfk] at h; simpa using h
        obtain ⟨c, hc, hc', hcs'⟩ := FFact.kid_at hlt
        rw [drop_cons hc] at hE hq2 hq3 hq4 hq5
        rw [FFact.spks] at hE
        rw [FFact.sizes] at hq2 hq3 hq5
        rw [FFact.pls] at hq4
        have hle := spk_le c st
        repeat (first | with_reducible refine CW.seq ?_ | with_reducible refine andThen_normal ?_ | with_reducible refine CW.skip ?_ | with_reducible refine CW.block ?_ | refine CW.reg ?_ | refine RL.step tysOk rfl rfl rfl rfl ?_ | refine RL.idx tysOk _ rfl rfl rfl rfl rfl rfl rfl rfl rfl rfl rfl (by assumption) rfl ?_)
        refine RL.call rfl rfl rfl rfl rfl (ih c st p1 p2 p3 t5 (by omega) (by omega) hJ (by omega) (by omega) (by omega) (by omega) (by omega)) ?_ (fun _ _ ⟨h, _⟩ => by cases h)
        rintro _ t6 ⟨⟨⟩, p1', p2', p3', hJ'⟩
        repeat (first | with_reducible refine andThen_normal ?_ | with_reducible refine inBlock_normal ?_ | refine CW.reg (RL.run tysOk rfl (RL.nil ?_)) | refine RL.nil ?_)
        refine ⟨(j + 1, c.spk st, t6, p1', p2', p3'), ⟨hlt, hJ', hE, by simp only; omega, by simp only; omega, by simp only; omega, by simp only; omega, by simp only; omega⟩, (by repeat (first | exact trivial | refine ⟨⟨_, rfl, AVle.refl _⟩, ?_⟩ | refine ⟨⟨_, rfl, AVle.of_eq (by (show AV.int .i64 (IntKind.wrap .i64 ((j : Int) + 1)) = .int .i64 ((j + 1 : Nat) : Int); rw [i64_succ (by omega)]))⟩, ?_⟩)), Store.sub_refl _, by show f.kids.length - (j + 1) < f.kids.length - j; omega⟩
      · have hge : f.kids.length ≤ j := by rw [hfk] at h; simpa using h
        rw [List.drop_eq_nil_of_le hge, FFact.spks] at hE
        rw [← hE]
        repeat (first | with_reducible refine andThen_exit ?_ | with_reducible refine inBlock_here ?_ | with_reducible refine CW.exit ?_)
        exact ⟨_, _, _, rfl, AVle.refl _, Store.sub_refl _, rfl, p1, p2, p3, hJ⟩
end Go.Proofs.Ytaafacnoddjhgaa

/- Contracts of the reference: facts that are formed alone. -/
namespace Go.Proofs.Ytaafacnoddjhgaa
open Go.AE

mutual
/-- All nodes of a fact, in order. -/
def FFact.allF : FFact → List FFact
  | .mk o x p c n ks => .mk o x p c n ks :: FFact.allFs ks
def FFact.allFs : List FFact → List FFact
  | [] => []
  | k :: r => FFact.allF k ++ FFact.allFs r
end

mutual
theorem spk_all : ∀ (f : FFact) (st : SpSt), (f.size : Int) ≤ st.1 → f.spk st = (st.1 - f.size, st.2.1 ++ f.allF.map FFact.name, st.2.2.1 ++ f.allF.flatMap FFact.path, st.2.2.2 ++ f.allF.map FFact.cls)
  | .mk o x p c n ks, st, h => by
    have hsz : (FFact.mk o x p c n ks).size = 1 + FFact.sizes ks := by rw [FFact.size]
    rw [FFact.spk, if_neg (by simp only [decide_eq_true_eq]; omega), FFact.allF, spks_all ks _ (by simp only; omega), hsz]
    simp only [List.map_cons, List.flatMap_cons, List.append_assoc, List.cons_append, List.nil_append]
    congr 1
    omega
theorem spks_all : ∀ (l : List FFact) (st : SpSt), (FFact.sizes l : Int) ≤ st.1 → FFact.spks l st = (st.1 - FFact.sizes l, st.2.1 ++ (FFact.allFs l).map FFact.name, st.2.2.1 ++ (FFact.allFs l).flatMap FFact.path, st.2.2.2 ++ (FFact.allFs l).map FFact.cls)
  | [], st, h => by simp [FFact.spks, FFact.sizes, FFact.allFs]
  | k :: r, st, h => by
    rw [FFact.sizes] at h ⊢
    rw [FFact.spks, spk_all k st (by omega), spks_all r _ (by simp only; omega), FFact.allFs]
    simp only [List.map_append, List.flatMap_append, List.append_assoc]
    congr 1
    omega
end

mutual
theorem mem_allF : ∀ (f : FFact) (d : Nat) (x : Nat × Part), x ∈ (Part.fact f).nodes d → ∃ g ∈ f.allF, x.2 = .fact g
  | .mk o n p c m ks, d, x, h => by
    rw [fact_nodes, List.mem_cons] at h
    rw [FFact.allF]
    rcases h with rfl | h
    · exact ⟨_, List.mem_cons_self .., rfl⟩
    · obtain ⟨g, hg, hx⟩ := mem_allFs ks (d + 1) x h
      exact ⟨g, List.mem_cons_of_mem _ hg, hx⟩
theorem mem_allFs : ∀ (l : List FFact) (d : Nat) (x : Nat × Part), x ∈ l.flatMap (fun k => (Part.fact k).nodes d) → ∃ g ∈ FFact.allFs l, x.2 = .fact g
  | [], _, _, h => by simp at h
  | k :: r, d, x, h => by
    rw [List.flatMap_cons, List.mem_append] at h
    rw [FFact.allFs]
    rcases h with h | h
    · obtain ⟨g, hg, hx⟩ := mem_allF k d x h
      exact ⟨g, List.mem_append_left _ hg, hx⟩
    · obtain ⟨g, hg, hx⟩ := mem_allFs r d x h
      exact ⟨g, List.mem_append_right _ hg, hx⟩
end

def others : List Str := [anyS, intS, noneS]

theorem ok_alone {ps ss cs : List Str} {g : FFact} (h1 : ps.contains g.name = nameS g.name) (h2 : ∀ y ∈ g.path, ss.contains y = nameS y) (h3 : cs.contains g.cls = (nameS g.cls || others.contains g.cls)) :
    okK ps ss cs g = (nodeF g && aloneP (.fact g)) := by
  have hpa : g.path.all ss.contains = g.path.all nameS := by
    rw [Bool.eq_iff_iff, List.all_eq_true, List.all_eq_true]
    exact ⟨fun h x hx => by rw [← h2 x hx]; exact h x hx, fun h x hx => by rw [h2 x hx]; exact h x hx⟩
  have hn : g.name = [] → nameS g.name = false := fun h => by rw [h]; decide
  have hc : nameS [] = false := by decide
  have hb0 : between 0 = true := by decide
  have ho : others.contains g.cls = ((g.cls == anyS || g.cls == intS) || g.cls == noneS) := by
    rw [Bool.eq_iff_iff]; simp [others, or_assoc]
  have hkl : g.kav.length = g.kids.length := FFact.kav_length g
  rw [okK, badK1, badK2, badK3, nodeF, nodeF1, nodeF2, aloneP, ownName, ownClass, h1, h3, ho, hpa, opF, hkl, strs_length]
  generalize g.path.all nameS = pa
  generalize hnm : nameS g.name = nm at hn
  generalize hnc : nameS g.cls = nc
  have hen : (g.name == []) = true → nm = false := fun h => hn (by simpa using h)
  have hec : (g.cls == []) = true → nc = false := fun h => by rw [← hnc, (by simpa using h : g.cls = [])]; exact hc
  generalize (g.name == []) = en at hen
  generalize hce : (g.cls == []) = ec at hec
  generalize ((g.kids.length : Int) == kidsF g.op) = kk
  have hat : atomF g = ((g.op == 2 || g.op == 3) || g.op == 4) := rfl
  rw [hat]
  by_cases hn0 : g.n = 0
  · rw [hn0, hb0]
    rw [Bool.eq_iff_iff]
    simp only [Bool.and_eq_true, Bool.or_eq_true, Bool.not_eq_true', Bool.or_eq_false_iff, Bool.and_eq_false_iff, beq_iff_eq, decide_eq_true_eq, decide_eq_false_iff_not, Bool.not_eq_false']
    cases en <;> cases ec <;> cases kk <;> cases pa <;> cases nm <;> cases nc <;> simp_all <;> first | omega | grind
  · rw [Bool.eq_iff_iff]
    have : (g.n == 0) = false := by simpa using hn0
    rw [this]
    generalize between g.n = bn
    cases en <;> cases ec <;> cases kk <;> cases pa <;> cases nm <;> cases nc <;> cases bn <;> simp_all <;> omega
end Go.Proofs.Ytaafacnoddjhgaa

/- Contracts of the reference: Fact, CheckFact; the law FormShapes. -/
namespace Go.Proofs.Ytaafacnoddjhgaa
open Go.AE

/-- What a fact speaks of, as far as it is looked at. -/
def FFact.spoke (f : FFact) : SpSt := f.spk (120, [], [], [])

theorem contains_filter_name (l : List Str) (x : Str) (h : x ∈ l) : (l.filter nameS).contains x = nameS x := by
  rw [Bool.eq_iff_iff, List.contains_iff_mem, List.mem_filter]
  exact ⟨fun h => h.2, fun h' => ⟨h, h'⟩⟩

theorem fact_alone (f : FFact) : (FFact.cnt (f.spoke.2.1.filter nameS) (f.spoke.2.2.1.filter nameS) (f.spoke.2.2.2.filter nameS ++ others) 1 120 f).1 = checkFactB f := by
  rw [(cntF_nodes _ _ _ f 1 120 (by omega)).1, checkFactB, lookB]
  have hsz : ((Part.fact f).nodes 1).length = f.size := Part.nodes_size _ _ _ (Nat.le_refl _)
  rw [hsz]
  by_cases h : f.size ≤ 120
  · have hsp : f.spoke = (120 - (f.size : Int), [] ++ f.allF.map FFact.name, [] ++ f.allF.flatMap FFact.path, [] ++ f.allF.map FFact.cls) := spk_all f _ (by simp only; omega)
    rw [decide_eq_true (by omega : (f.size : Int) ≤ 120), decide_eq_true h, hsp, Bool.true_and, Bool.true_and]
    simp only [List.nil_append]
    rw [Bool.eq_iff_iff, Bool.and_eq_true, List.all_eq_true, List.all_eq_true, List.all_eq_true]
    have key : ∀ x ∈ (Part.fact f).nodes 1, okKP ((f.allF.map FFact.name).filter nameS) ((f.allF.flatMap FFact.path).filter nameS) ((f.allF.map FFact.cls).filter nameS ++ others) x = (nodeOk x && aloneP x.2) := by
      intro x hx
      obtain ⟨g, hg, hxg⟩ := mem_allF f 1 x hx
      obtain ⟨d, p⟩ := x
      simp only at hxg
      subst hxg
      show (decide (d ≤ 12) && okK _ _ _ g) = ((decide (d ≤ 12) && nodeF g) && aloneP (.fact g))
      rw [ok_alone (contains_filter_name _ _ (List.mem_map_of_mem hg)) (fun y hy => contains_filter_name _ _ (List.mem_flatMap.2 ⟨g, hg, hy⟩)) ?_, Bool.and_assoc]
      rw [Bool.eq_iff_iff, List.contains_iff_mem, List.mem_append, List.mem_filter, Bool.or_eq_true, List.contains_iff_mem]
      constructor
      · rintro (⟨-, h⟩ | h)
        · exact .inl h
        · exact .inr h
      · rintro (h | h)
        · exact .inl ⟨List.mem_map_of_mem hg, h⟩
        · exact .inr h
    constructor
    · intro h
      refine ⟨fun x hx => ?_, fun x hx => ?_⟩
      · have := h x hx
        rw [key x hx, Bool.and_eq_true] at this; exact this.1
      · have := h x hx
        rw [key x hx, Bool.and_eq_true] at this; exact this.2
    · rintro ⟨h1, h2⟩ x hx
      rw [key x hx, h1 x hx, h2 x hx]; rfl
  · rw [decide_eq_false (by omega : ¬ (f.size : Int) ≤ 120), decide_eq_false h]; rfl

mutual
theorem pl_allF : ∀ f : FFact, f.pl = (f.allF.map fun g => g.path.length).sum
  | .mk o x p c n ks => by rw [FFact.pl, FFact.allF, List.map_cons, List.sum_cons, pls_allF ks]; rfl
theorem pls_allF : ∀ l : List FFact, FFact.pls l = ((FFact.allFs l).map fun g => g.path.length).sum
  | [] => rfl
  | k :: r => by rw [FFact.pls, FFact.allFs, List.map_append, List.sum_append, pl_allF k, pls_allF r]
end

theorem RD.knowT {P : Program} {Γ : Tys} {N : Nat} {ops : Array Oper} {Q : AEx → Env → Store → Prop} {D : Nat → Bool} {env : Env} {s : Store} (t : Nat) {b : Bool} (hv : env.get? t = some (.bool b)) (he : b = true)
    (h : RD P Γ N ops Q D ((t, .bool true) :: env) s) : RD P Γ N ops Q D env s := by
  subst he
  refine RD.congr _ (fun x => ?_) h
  show (if Nat.beq t x then _ else _) = _
  split
  · rename_i hx
    rw [← hv, Nat.eq_of_beq_eq_true hx]
  · rfl
theorem RD.knowF {P : Program} {Γ : Tys} {N : Nat} {ops : Array Oper} {Q : AEx → Env → Store → Prop} {D : Nat → Bool} {env : Env} {s : Store} (t : Nat) {b : Bool} (hv : env.get? t = some (.bool b)) (he : b = false)
    (h : RD P Γ N ops Q D ((t, .bool false) :: env) s) : RD P Γ N ops Q D env s := by
  subst he
  refine RD.congr _ (fun x => ?_) h
  show (if Nat.beq t x then _ else _) = _
  split
  · rename_i hx
    rw [← hv, Nat.eq_of_beq_eq_true hx]
  · rfl

theorem nil_known : AVleL [.slc 0 [] .nil, .slc 0 [] .nil, .slc 0 [] .nil] (knownCells [] [] [] .nil .nil .nil) :=
  .cons (AVle.nil (by simp)) (.cons (AVle.nil (by simp)) (.one (AVle.nil (by simp))))

theorem own_nil {X : Nat → Prop} : ∀ b, Own.nil = Own.own b → X b := fun _ h => by cases h
theorem spk_sh {T : Str → Prop} {f : FFact} (h : ∀ x ∈ (Part.fact f).nodes 1, x.2.texts) : True := trivial

mutual
/-- The texts that a fact has hold T. -/
def FFact.Holds (T : Str → Prop) : FFact → Prop
  | .mk _ x p c _ ks => (T x ∧ T c ∧ ∀ y ∈ p, T y) ∧ FFact.Holdss T ks
def FFact.Holdss (T : Str → Prop) : List FFact → Prop
  | [] => True
  | k :: r => FFact.Holds T k ∧ FFact.Holdss T r
end
mutual
theorem holds_nodes {T : Str → Prop} : ∀ (f : FFact) (d : Nat), (∀ d' g, (d', Part.fact g) ∈ (Part.fact f).nodes d → T g.name ∧ T g.cls ∧ ∀ y ∈ g.path, T y) → f.Holds T
  | .mk o x p c n ks, d, h => by
    rw [FFact.Holds]
    rw [fact_nodes] at h
    exact ⟨h d _ (List.mem_cons_self ..), holdss_nodes ks (d + 1) fun d' g hg => h d' g (List.mem_cons_of_mem _ hg)⟩
theorem holdss_nodes {T : Str → Prop} : ∀ (l : List FFact) (d : Nat), (∀ d' g, (d', Part.fact g) ∈ l.flatMap (fun k => (Part.fact k).nodes d) → T g.name ∧ T g.cls ∧ ∀ y ∈ g.path, T y) → FFact.Holdss T l
  | [], _, _ => trivial
  | k :: r, d, h => by
    rw [FFact.Holdss]
    rw [List.flatMap_cons] at h
    exact ⟨holds_nodes k d fun d' g hg => h d' g (List.mem_append_left _ hg), holdss_nodes r d fun d' g hg => h d' g (List.mem_append_right _ hg)⟩
end
mutual
theorem spk_holds {T : Str → Prop} : ∀ (f : FFact) (st : SpSt), f.Holds T → (∀ x ∈ st.2.1, T x) → (∀ x ∈ st.2.2.1, T x) → (∀ x ∈ st.2.2.2, T x) → (∀ x ∈ (f.spk st).2.1, T x) ∧ (∀ x ∈ (f.spk st).2.2.1, T x) ∧ (∀ x ∈ (f.spk st).2.2.2, T x)
  | .mk o x p c n ks, st, h, h1, h2, h3 => by
    rw [FFact.Holds] at h
    rw [FFact.spk]
    split
    · exact ⟨h1, h2, h3⟩
    · refine spks_holds ks _ h.2 ?_ ?_ ?_
      · intro y hy
        rcases List.mem_append.1 hy with hy | hy
        · exact h1 y hy
        · rw [List.mem_singleton.1 hy]; exact h.1.1
      · intro y hy
        rcases List.mem_append.1 hy with hy | hy
        · exact h2 y hy
        · exact h.1.2.2 y hy
      · intro y hy
        rcases List.mem_append.1 hy with hy | hy
        · exact h3 y hy
        · rw [List.mem_singleton.1 hy]; exact h.1.2.1
theorem spks_holds {T : Str → Prop} : ∀ (l : List FFact) (st : SpSt), FFact.Holdss T l → (∀ x ∈ st.2.1, T x) → (∀ x ∈ st.2.2.1, T x) → (∀ x ∈ st.2.2.2, T x) → (∀ x ∈ (FFact.spks l st).2.1, T x) ∧ (∀ x ∈ (FFact.spks l st).2.2.1, T x) ∧ (∀ x ∈ (FFact.spks l st).2.2.2, T x)
  | [], st, _, h1, h2, h3 => ⟨h1, h2, h3⟩
  | k :: r, st, h, h1, h2, h3 => by
    rw [FFact.Holdss] at h
    rw [FFact.spks]
    obtain ⟨g1, g2, g3⟩ := spk_holds k st h.1 h1 h2 h3
    exact spks_holds r _ h.2 g1 g2 g3
end

set_option maxRecDepth 10000 in
set_option maxHeartbeats 1000000 in
theorem refFact_spec (f : FFact) (s : Store) (h : f.Fair) (hw : f.pl < big) : ACalls Try.prog 79 [f.av] s (fun o s' => o = .ret (.bool (checkFactB f)) ∧ s' = s) := by
  have hb : big = 1099511627776 := rfl
  have hsz := h.size
  refine ACalls.of_CW tysOk call79 Try.func79 rfl rfl ?_
  repeat (first | with_reducible refine CW.seq ?_ | with_reducible refine andThen_normal ?_ | refine CW.reg (RL.run tysOk rfl (RL.nil ?_)) | refine CW.reg ?_ | refine RL.step tysOk rfl rfl rfl rfl ?_)
  refine RL.alloc tysOk rfl rfl rfl rfl rfl rfl rfl (fun wb hwb => ?_)
  repeat (first | with_reducible refine CW.seq ?_ | with_reducible refine andThen_normal ?_ | refine CW.reg ?_ | refine RL.nil ?_ | (refine RL.storeP tysOk rfl rfl rfl rfl rfl rfl rfl rfl rfl (Store.set_same _ _ _) rfl ?_; try with_reducible rw [Store.set_set]))
  refine RL.alloc tysOk rfl rfl rfl rfl rfl rfl rfl (fun lb hlb => ?_)
  repeat (first | with_reducible refine CW.seq ?_ | with_reducible refine andThen_normal ?_ | refine CW.reg ?_ | refine RL.nil ?_ | refine RL.step tysOk rfl rfl rfl rfl ?_ | (refine RL.storeP tysOk rfl rfl rfl rfl rfl rfl rfl rfl rfl (Store.set_same _ _ _) rfl ?_; try with_reducible rw [Store.set_set]))
  refine RL.boxWeak wb (knownCells [] [] [] .nil .nil .nil) ((Store.set_ne _ _ (Store.set_none hlb).1.symm).trans (Store.set_same _ _ _)) nil_known ?_
  have hne := (Store.set_none hlb).1
  have hI : SInv s ((((s.set wb (.box 168 [.slc 0 [] .nil, .slc 0 [] .nil, .slc 0 [] .nil])).set lb (leftO 120)).set wb (.box 168 (knownCells [] [] [] .nil .nil .nil)))) wb lb (120, [], [], []) .nil .nil .nil :=
    ⟨Store.set_same _ _ _, (Store.set_ne _ _ hne).trans (Store.set_same _ _ _), trivial, trivial, trivial, Store.subSet (Store.subSet (Store.subSet (Store.sub_refl _) hwb) (Store.set_none hlb).2) hwb, ⟨hwb, (Store.set_none hlb).2⟩,
      ⟨own_nil, own_nil, own_nil⟩, hne.symm, own_nil, own_nil, own_nil⟩
  refine RL.call rfl rfl rfl rfl rfl (refSpoken_spec s wb lb f.size f _ .nil .nil .nil _ (Nat.le_refl _) (Nat.le_of_lt hsz) hI (Int.le_refl _) (by simp only; omega) (by simp; omega) (by simp; omega) (by simp; omega)) ?_ (fun _ _ ⟨h, _⟩ => by cases h)
  rintro _ t ⟨⟨⟩, o1, o2, o3, hJ⟩
  have hle := spk_le f (120, [], [], [])
  simp only [List.length_nil, Nat.zero_add] at hle
  have hall := spk_holds (T := Sh) f (120, [], [], []) (holds_nodes f 1 fun d' g hg => by
    have := h.texts _ hg
    exact ⟨this.1, this.2.1, this.2.2.2⟩) (by simp) (by simp) (by simp)
  have hfa := fact_alone f
  rw [show f.spk (120, [], [], []) = f.spoke from rfl] at hJ hle hall
  generalize f.spoke = st at hJ hle hall hfa
  obtain ⟨k0, ps, ss, cs⟩ := st
  simp only at hle hall hfa
  repeat (first | with_reducible refine CW.seq ?_ | with_reducible refine andThen_normal ?_ | refine CW.reg ?_ | refine RL.nil ?_)
  refine RL.storeP tysOk rfl rfl rfl rfl rfl rfl rfl rfl rfl hJ.hl rfl ?_
  refine RL.nil ?_
  repeat (first | with_reducible refine CW.seq ?_ | with_reducible refine andThen_normal ?_)
  have hJ' := hJ.left 120
  generalize ht2 : t.set lb _ = t2
  replace hJ' : SInv s t2 wb lb (120, ps, ss, cs) o1 o2 o3 := by rw [← ht2]; exact hJ'
  refine CW.freeze 3 wb rfl hJ'.hw ?_
  have hsub : Store.Sub s (t2.del wb) := Store.subDel hJ'.sub hJ'.sn.1
  have hlb2 : (t2.del wb) lb = some (leftO 120) := (Store.del_ne _ hJ'.d.symm).trans hJ'.hl
  generalize t2.del wb = t3 at hsub hlb2 ⊢
  repeat (first | refine CW.drw tysOk mixed rfl (RD.run rfl ?_))
  refine RD.callP (i := 2) rfl rfl rfl rfl rfl rfl rfl (refAllNames_spec ps [] o1 .nil 0 _ (by omega) (by simp [hb]) (.inl rfl) hall.1) ?_
  refine RD.run rfl ?_
  refine RD.callP (i := 5) rfl rfl rfl rfl rfl rfl rfl (refAllNames_spec ss [] o2 .nil 0 _ (by omega) (by simp [hb]) (.inl rfl) hall.2.1) ?_
  refine RD.run rfl ?_
  refine RD.callP (i := 9) rfl rfl rfl rfl rfl rfl rfl (refAllNames_spec cs others o3 .clip 1 _ (by omega) (by simp [hb, others]) (.inr rfl) hall.2.2) ?_
  refine RD.run rfl ?_
  have f1 : (ps.filter nameS).length ≤ ps.length := List.length_filter_le _ _
  have f2 : (ss.filter nameS).length ≤ ss.length := List.length_filter_le _ _
  have f3 : (cs.filter nameS).length ≤ cs.length := List.length_filter_le _ _
  have hcall := refKFact_spec lb (ps.filter nameS) (ss.filter nameS) (cs.filter nameS ++ others) .fro .fro .fro (by omega) (by omega) (by rw [List.length_append]; simp [others]; omega) f.size f 1 1 120 t3 (Nat.le_refl _) (Nat.le_of_lt hsz) h.texts (by omega) (by omega) (by omega) hlb2
  rw [hfa] at hcall
  have e1 : ps.filter nameS ++ [] = ps.filter nameS := List.append_nil _
  have e2 : ss.filter nameS ++ [] = ss.filter nameS := List.append_nil _
  rw [e1, e2]
  refine RD.call (i := 12) rfl rfl rfl rfl rfl rfl rfl hcall ?_ (fun _ _ ⟨h, _⟩ => by cases h)
  rintro _ _ ⟨⟨⟩, rfl⟩
  refine RD.run rfl (RD.done rfl ?_)
  repeat (first | with_reducible refine andThen_normal ?_ | with_reducible refine CW.ret ?_)
  exact ⟨_, _, s, rfl, AVle.refl _, Store.subSet hsub hJ'.sn.2, rfl, rfl⟩

set_option maxRecDepth 10000 in
theorem refCheckFact_spec (f : FFact) (s : Store) (h : f.Fair) (hw : f.pl < big) : ACalls Try.prog 39 [f.av] s (fun o s' => o = .ret (err (checkFactB f)) ∧ s' = s) := by
  refine ACalls.of_CW tysOk call39 Try.func39 rfl rfl ?_
  repeat (first | with_reducible refine CW.seq ?_ | with_reducible refine andThen_normal ?_ | refine CW.reg (RL.run tysOk rfl (RL.nil ?_)) | refine CW.reg ?_ | refine RL.step tysOk rfl rfl rfl rfl ?_)
  refine RL.callP rfl rfl rfl rfl rfl (refFact_spec f s h hw) ?_
  cases hg : checkFactB f with
  | false =>
    repeat (first | with_reducible refine CW.seq ?_ | with_reducible refine andThen_normal ?_ | with_reducible refine andThen_ret ?_ | with_reducible refine CW.ret ?_ | refine CW.reg (RL.run tysOk rfl (RL.nil ?_)) | refine RL.nil ?_ | refine CW.condT rfl ?_ | refine RL.step tysOk rfl rfl rfl rfl ?_)
    exact ⟨_, _, _, rfl, AVle.refl _, Store.sub_refl _, rfl, rfl⟩
  | true =>
    repeat (first | with_reducible refine CW.seq ?_ | with_reducible refine andThen_normal ?_ | with_reducible refine CW.ret ?_ | with_reducible refine CW.skip ?_ | refine CW.reg (RL.run tysOk rfl (RL.nil ?_)) | refine RL.nil ?_ | refine CW.condF rfl ?_ | refine RL.step tysOk rfl rfl rfl rfl ?_)
    exact ⟨_, _, _, rfl, AVle.refl _, Store.sub_refl _, rfl, rfl⟩

set_option maxRecDepth 10000 in
theorem formShapes_spec (e : FExp) (f : FFact) (s : Store) (he : e.Fair) (hf : f.Fair) (hw : f.pl < big) :
    ACalls Try.prog 8 [e.av, f.av] s (fun o s' => o = .ret (.bool true) ∧ s' = s) := by
  refine ACalls.of_CW tysOk call8 Try.func8 rfl rfl ?_
  repeat (first | with_reducible refine CW.seq ?_ | with_reducible refine andThen_normal ?_ | refine CW.reg (RL.run tysOk rfl (RL.nil ?_)) | refine CW.reg ?_ | refine RL.step tysOk rfl rfl rfl rfl ?_)
  refine RL.callP rfl rfl rfl rfl rfl (depth_spec e s he) ?_
  repeat (first | with_reducible refine CW.seq ?_ | with_reducible refine andThen_normal ?_ | refine CW.reg ?_ | refine RL.nil ?_ | refine RL.step tysOk rfl rfl rfl rfl ?_)
  refine RL.callP rfl rfl rfl rfl rfl (refDepth_spec e s he) ?_
  generalize (if goodB e = true then (depthE e : Int) else 0) = dp
  cases hg : goodB e <;> cases hc : checkFactB f
  all_goals
    have h1 := checkExp_spec e s he
    have h2 := refCheckExp_spec e s he
    have h3 := checkFact_spec f s hf
    have h4 := refCheckFact_spec f s hf hw
    rw [hg] at h1 h2
    rw [hc] at h3 h4
  all_goals
    repeat (first | with_reducible refine CW.seq ?_ | with_reducible refine andThen_normal ?_ | refine RL.nil ?_ | refine RL.step tysOk rfl rfl rfl rfl ?_ | refine CW.drw tysOk mixed rfl (RD.run rfl ?_))
  all_goals
    refine RD.callP (i := 1) rfl rfl rfl rfl rfl rfl rfl h1 ?_
    refine RD.run rfl ?_
    refine RD.callP (i := 3) rfl rfl rfl rfl rfl rfl rfl h2 ?_
    refine RD.run rfl ?_
    refine RD.callP (i := 7) rfl rfl rfl rfl rfl rfl rfl h3 ?_
    refine RD.run rfl ?_
    refine RD.callP (i := 9) rfl rfl rfl rfl rfl rfl rfl h4 ?_
    refine RD.runs (is := [10, 11, 12, 13, 14, 15, 16, 17]) rfl ?_
    refine RD.knowT 36 (b := dp == dp) rfl (by simp) ?_
    refine RD.run rfl ?_
    refine RD.callP (i := 23) rfl rfl rfl rfl rfl rfl rfl (known_true _) ?_
    refine RD.run rfl (RD.done rfl ?_)
  all_goals
    repeat (first | with_reducible refine andThen_normal ?_ | with_reducible refine CW.ret ?_)
  all_goals exact ⟨_, _, _, rfl, AVle.refl _, Store.sub_refl _, rfl, rfl⟩
end Go.Proofs.Ytaafacnoddjhgaa

/- What weighs little is fair. -/
namespace Go.Proofs.Ytaafacnoddjhgaa
open Go.AE

mutual
theorem exp_light {W : Nat} : ∀ (e : FExp), e.weight ≤ W → e.size ≤ e.weight ∧ e.AllT (fun t => t.length ≤ W)
  | .mk o n t ks, h => by
    rw [FExp.weight] at h ⊢
    rw [FExp.size, FExp.AllT]
    have := exps_light ks (by omega : FExp.weights ks ≤ W)
    exact ⟨by omega, by omega, this.2⟩
theorem exps_light {W : Nat} : ∀ (l : List FExp), FExp.weights l ≤ W → FExp.sizes l ≤ FExp.weights l ∧ FExp.AllTs (fun t => t.length ≤ W) l
  | [], _ => ⟨Nat.le_refl _, trivial⟩
  | k :: r, h => by
    rw [FExp.weights] at h ⊢
    rw [FExp.sizes, FExp.AllTs]
    have h1 := exp_light k (by omega : k.weight ≤ W)
    have h2 := exps_light r (by omega : FExp.weights r ≤ W)
    exact ⟨by omega, h1.2, h2.2⟩
end
theorem exp_fair {e : FExp} (h : e.weight ≤ 1048576) : e.Fair := by
  obtain ⟨h1, h2⟩ := exp_light e h
  have hb : big = 1099511627776 := rfl
  refine ⟨by omega, fun x hx => ?_⟩
  obtain ⟨g, hg⟩ := nodes_exp hx
  have := AllT_iff.1 h2 x.2.expOf (mem_nodes_all hx)
  rw [hg] at this ⊢
  show g.text.length < _
  have h3 : g.text.length ≤ 1048576 := this
  omega

theorem sum_mem {l : List Str} {y : Str} (h : y ∈ l) : y.length ≤ (l.map fun s => s.length + 1).sum := by
  induction l with
  | nil => cases h
  | cons a l ih =>
    simp only [List.map_cons, List.sum_cons]
    rcases List.mem_cons.1 h with rfl | h
    · omega
    · have := ih h; omega
theorem sum_len (l : List Str) : l.length ≤ (l.map fun s => s.length + 1).sum := by
  induction l with
  | nil => simp
  | cons a l ih => simp only [List.map_cons, List.sum_cons, List.length_cons]; omega

/-- A fact whose strings, and lists, are not longer than W. -/
def FFact.light (W : Nat) (f : FFact) : Prop := f.name.length ≤ W ∧ f.cls.length ≤ W ∧ f.path.length ≤ W ∧ ∀ y ∈ f.path, y.length ≤ W
mutual
theorem fact_light {W : Nat} : ∀ (f : FFact) (d : Nat), f.weight ≤ W → (f.size ≤ f.weight ∧ f.pl ≤ f.weight) ∧ ∀ d' g, (d', Part.fact g) ∈ (Part.fact f).nodes d → g.light W
  | .mk o x p c n ks, d, h => by
    rw [FFact.weight] at h ⊢
    rw [FFact.size, FFact.pl, fact_nodes]
    have h1 := facts_light ks (d + 1) (by omega : FFact.weights ks ≤ W)
    have h2 := sum_len p
    refine ⟨⟨by omega, by omega⟩, fun d' g hg => ?_⟩
    rcases List.mem_cons.1 hg with hg | hg
    · cases hg
      exact ⟨by show x.length ≤ _; omega, by show c.length ≤ _; omega, by show p.length ≤ _; omega, fun y hy => by have := sum_mem hy; simp only [FFact.path] at this; omega⟩
    · exact h1.2 d' g hg
theorem facts_light {W : Nat} : ∀ (l : List FFact) (d : Nat), FFact.weights l ≤ W → (FFact.sizes l ≤ FFact.weights l ∧ FFact.pls l ≤ FFact.weights l) ∧ ∀ d' g, (d', Part.fact g) ∈ l.flatMap (fun k => (Part.fact k).nodes d) → g.light W
  | [], _, _ => ⟨⟨Nat.le_refl _, Nat.le_refl _⟩, fun _ _ h => by simp at h⟩
  | k :: r, d, h => by
    rw [FFact.weights] at h ⊢
    rw [FFact.sizes, FFact.pls, List.flatMap_cons]
    have h1 := fact_light k d (by omega : k.weight ≤ W)
    have h2 := facts_light r d (by omega : FFact.weights r ≤ W)
    refine ⟨⟨by omega, by omega⟩, fun d' g hg => ?_⟩
    rcases List.mem_append.1 hg with hg | hg
    · exact h1.2 d' g hg
    · exact h2.2 d' g hg
end
theorem fact_fair {f : FFact} (h : f.weight ≤ 1048576) : f.Fair ∧ f.pl < big ∧ f.Slim 1 := by
  obtain ⟨⟨h1, h2⟩, h3⟩ := fact_light f 1 h
  have hb : big = 1099511627776 := rfl
  refine ⟨⟨by omega, fun x hx => ?_⟩, by omega, fun d' g hg => ?_⟩
  · obtain ⟨g, hg⟩ := nodes_fact hx
    obtain ⟨d, p⟩ := x
    simp only at hg
    subst hg
    obtain ⟨a, b, c, e⟩ := h3 d g hx
    exact ⟨by omega, by omega, by omega, fun y hy => by have := e y hy; omega⟩
  · obtain ⟨a, b, c, e⟩ := h3 d' g hg
    omega

theorem map_sum_mem {α : Type} {f : α → Nat} {l : List α} {x : α} (h : x ∈ l) : f x ≤ (l.map f).sum := by
  induction l with
  | nil => cases h
  | cons a l ih =>
    simp only [List.map_cons, List.sum_cons]
    rcases List.mem_cons.1 h with rfl | h
    · omega
    · have := ih h; omega
theorem map_sum_len {α : Type} {f : α → Nat} (hf : ∀ x, 1 ≤ f x) (l : List α) : l.length ≤ (l.map f).sum := by
  induction l with
  | nil => simp
  | cons a l ih => have := hf a; simp only [List.map_cons, List.sum_cons, List.length_cons]; omega
theorem flatMap_len {α β : Type} {f : α → List β} {w : α → Nat} (hf : ∀ x, (f x).length ≤ w x) (l : List α) : (l.flatMap f).length ≤ (l.map w).sum := by
  induction l with
  | nil => simp
  | cons a l ih => have := hf a; simp only [List.map_cons, List.sum_cons, List.flatMap_cons, List.length_append]; omega

theorem strs_fair {l : List Str} (h : sumS l ≤ 1048576) : Strs l := by
  have h1 := sum_len l
  have hb : big = 1099511627776 := rfl
  unfold sumS at h
  exact ⟨by omega, fun x hx => by have := sum_mem hx; show x.length < _; omega⟩

theorem prog_fair {P : FProg} (h : P.weight ≤ 1048576) : P.Fair ∧ P.Slim := by
  have hb : big = 1099511627776 := rfl
  unfold FProg.weight at h
  have hcl := map_sum_len (f := FClass.weight) (fun x => by unfold FClass.weight; omega) P.classes
  have hml := map_sum_len (f := FMethod.weight) (fun x => by unfold FMethod.weight; omega) P.methods
  have hme : ∀ m ∈ P.methods, m.weight ≤ 1048576 := fun m hm => by have := map_sum_mem (f := FMethod.weight) hm; omega
  have hmf : ∀ m ∈ P.methods, m.fact.weight ≤ 1048576 ∧ m.body.weight ≤ 1048576 ∧ m.name.length ≤ 1048576 ∧ sumS m.params ≤ 1048576 := fun m hm => by
    have := hme m hm
    unfold FMethod.weight at this
    exact ⟨by omega, by omega, by omega, by omega⟩
  have hsz : ∀ e : FExp, e.weight ≤ 1048576 → e.size ≤ e.weight := fun e he => (exp_light e he).1
  refine ⟨⟨by omega, fun c hc => ?_, by omega, fun m hm => ?_, exp_fair (by omega), ?_, ?_⟩, fun m hm => (fact_fair (hmf m hm).1).2.2⟩
  · have h1 := map_sum_mem (f := FClass.weight) hc
    replace h1 : c.weight ≤ 1048576 := by omega
    unfold FClass.weight at h1
    have h2 := map_sum_len (f := FInit.weight) (fun x => by unfold FInit.weight; omega) c.inits
    refine ⟨by show c.name.length < _; omega, strs_fair (by omega), strs_fair (by omega), by omega, fun x hx => ?_⟩
    have h3 := map_sum_mem (f := FInit.weight) hx
    replace h3 : x.weight ≤ 1048576 := by omega
    unfold FInit.weight at h3
    show x.slot.length < _; omega
  · obtain ⟨a, b, c, d⟩ := hmf m hm
    exact ⟨by show m.name.length < _; omega, strs_fair d, (fact_fair a).1, exp_fair b⟩
  · have hcalls : ∀ l : List FExp, (callsL l).length ≤ l.length := fun l => by unfold callsL; rw [List.length_map]; exact List.length_filter_le _ _
    have h1 := flatMap_len (f := fun e => callsL e.allE) (w := FExp.size) (fun e => by have := hcalls e.allE; rw [allE_length] at this; exact this) (P.methods.map FMethod.body ++ [P.main])
    have h2 : (((P.methods.map FMethod.body ++ [P.main]).map FExp.size).sum) ≤ (P.methods.map FMethod.weight).sum + P.main.weight := by
      rw [List.map_append, List.sum_append]
      have h3 := hsz P.main (by omega)
      have h4 : ∀ l : List FMethod, (∀ m ∈ l, m.weight ≤ 1048576) → ((l.map FMethod.body).map FExp.size).sum ≤ (l.map FMethod.weight).sum := by
        intro l hl
        induction l with
        | nil => simp
        | cons a l ih =>
          have := ih fun m hm => hl m (List.mem_cons_of_mem _ hm)
          have q := hl a (List.mem_cons_self ..)
          unfold FMethod.weight at q
          have q2 := hsz a.body (by omega)
          simp only [List.map_cons, List.sum_cons, FMethod.weight]
          omega
      have := h4 P.methods hme
      simp only [List.map_cons, List.map_nil, List.sum_cons, List.sum_nil]
      omega
    unfold progNotes
    rw [List.length_append]
    have : (methodNotes P.methods).length = P.methods.length := by unfold methodNotes; rw [List.length_map]
    omega
  · have := flatMap_len (f := FClass.slots) (w := FClass.weight) (fun c => by have := sum_len c.slots; unfold FClass.weight sumS; omega) P.classes
    omega
end Go.Proofs.Ytaafacnoddjhgaa

