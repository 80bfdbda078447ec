import Derived.Test.YtaafacnoddjhgaaMn
/- Contracts of the reference: put, whole. -/
namespace Go.Proofs.Ytaafacnoddjhgaa
open Go.AE

section
variable {P : Program} {Γ : Tys} {N : Nat} {env : Env} {s : Store}
/-- What is appended to a row of one's own, of which nothing is known behind it but what stands in it. -/
theorem OW.append1F (hΓ : TysOk P Γ) {o : Oper} {t t' e : TypeId} {x y : Operand} {it it' ie : TI} {sx sy n : Nat} {xs : List AV} {v : AV} {own oy : Own} (S : Store) {S' : Store}
    (ho : o.op = .call { callee := .builtin .append, args := #[x, y], argTypes := #[t, t'] }) (ht : Γ.get? t = some it) (htd : it.td = .slc e) (ht' : Γ.get? t' = some it') (htd' : ∀ k, it'.td ≠ .int k)
    (hie : Γ.get? e = some ie) (hx : ev env x = some (.slc sx xs own)) (hy : ev env y = some (.slc sy [v] oy)) (hsx : sx = ie.size) (hsy : sy = ie.size)
    (hzs' : Nat.beq ie.zero.cells.size ie.size = true) (hel : elemOk ie.size v = true) (hn : n = xs.length) (hb : (n + 1) * ie.bytes ≤ 140737488355328) (h63 : n + 1 ≤ 9223372036854775807)
    (hs : s = rowOf S' e ie.size n own) (hok : OwnOk S' n own) (hsub : Store.Sub S S') {X : AV → Store → Prop} :
    OW P N o env s (fun r s' => r = .slc ie.size (xs ++ [v]) .fro ∧ s' = S) X := by
  subst hs
  subst hn
  have h := OW.appendR (N := N) (own := own) (s := S') hΓ ho ht htd ht' htd' hie hx hy hsx (.inr hsy) hzs' (by intro y hy; simp at hy; subst hy; exact hel) hb h63 rfl hok (X := X)
  refine ⟨h.1, fun ro B a w p hst => ?_⟩
  refine ResDoes.mono (h.2 ro B a w p hst) ?_
  rintro e' w' ⟨s', p', h1, h2, h3, h4⟩
  cases e' with
  | returned v =>
    obtain ⟨r, ⟨own', k1, -, -, rfl, rfl⟩, k3⟩ := h4
    have hs2 : Store.Sub S (rowOf S' e ie.size (xs.length + [v].length) own') := hsub.trans (rowOf_sub (m := xs.length + 1) k1)
    exact ⟨S, p', h1, h2.sub hs2, h3.sub hs2, _, ⟨rfl, rfl⟩, AVle.fro _ _ _ k3⟩
  | panicked ch =>
    obtain ⟨v, x, e1, hX, hr⟩ := h4
    exact ⟨s', p', h1, h2, h3, v, x, e1, hX, hr⟩
  | outgrown => exact h4.elim
end

section
variable {x : Str} {y : FExp} {fr : List Str} {of : Own} {wb b : Nat} {s s2 t : Store} {tk : List Str} {own : Own} {o o' : AObj}
theorem PtI.rowIs {B : Store} {e : TypeId} {sz n : Nat} {ow : Own} (h : PtI x y fr of wb (rowOf B e sz n ow) t tk own) (hB : OwnOk B n ow) : RowIs t e sz n ow := by
  cases ow with
  | own b => exact h.get (Store.set_same _ _ _)
  | nil => trivial
  | clip => trivial
  | fro => exact hB.elim
end

theorem OwnOk.add {s : Store} {n b : Nat} {own : Own} (h : OwnOk s n own) (hb : ∀ c, own = .own c → c ≠ b) (o : AObj) : OwnOk (s.set b o) n own := by
  cases own with
  | own c => exact (Store.set_ne _ _ (hb c rfl)).trans h
  | nil => trivial
  | clip => trivial
  | fro => exact h

def outB (s : Store) (b10 b12 : Nat) (e : FExp) (txt : Str) (rs : List FExp) (ow : Own) : Store := (s.set b10 box0).set b12 (.box 32 (part4 e.op e.n txt rs ow))
theorem outB12 (s : Store) (b10 b12 : Nat) (e : FExp) (txt : Str) (rs : List FExp) (ow : Own) : outB s b10 b12 e txt rs ow b12 = some (.box 32 (part4 e.op e.n txt rs ow)) := Store.set_same _ _ _
theorem outB10 {s : Store} {b10 b12 : Nat} (h : b10 ≠ b12) (e : FExp) (txt : Str) (rs : List FExp) (ow : Own) : outB s b10 b12 e txt rs ow b10 = some box0 := (Store.set_ne _ _ h).trans (Store.set_same _ _ _)

theorem letS_if (x : Str) (fr tk : List Str) (on : Bool) (t : Str) (ks : List FExp) {k : FExp} (hk : ks[1]? = some k) :
    letS x fr tk on t ks = if (on && !(t == x)) && (fr.contains t && k.frees.contains x) then (freshS tk, insS tk (freshS tk)) else (t, tk) := by
  have he : letS x fr tk on t ks = if !on || t == x || !fr.contains t || !k.frees.contains x then (t, tk) else (freshS tk, insS tk (freshS tk)) := by unfold letS; rw [hk]
  rw [he]
  generalize (freshS tk, insS tk (freshS tk)) = z
  cases on <;> cases t == x <;> cases fr.contains t <;> cases k.frees.contains x <;> rfl

theorem Alike.snoc {a b : List Str} (h : Alike a b) (z : Str) : Alike (a ++ [z]) (insS b z) := by
  intro w
  have := h w
  rw [Bool.eq_iff_iff, List.contains_iff_mem, List.contains_iff_mem] at this ⊢
  rw [List.mem_append, mem_insS, this, List.mem_singleton]

set_option maxRecDepth 10000 in
set_option maxHeartbeats 8000000 in
theorem refPut_spec (x : Str) (y : FExp) (fr0 fr : List Str) (of : Own) (wb : Nat) (hy : y.size ≤ big) (hfr : Alike fr fr0) (hfl : fr.length < big) : ∀ (n : Nat) (e : FExp) (sc : List (Str × Str)) (oo on' : Own) (on : Bool) (tk T : List Str) (own : Own) (s t : Store),
    e.size ≤ n → e.size ≤ big → e.neat = true → sc.length + e.size < big → T.length + e.size < 698 → Alike T tk → PtI x y fr of wb s t T own →
    ACalls Try.prog 99 [.ptr wb 0, e.av, .slc 1 (strs (olds sc)) oo, .slc 1 (strs (nows sc)) on', .bool on] t (PutPost x y fr of wb s T e (FExp.put x y fr0 sc on tk e)) := by
  intro n
  induction n with
  | zero => intro e sc oo on' on tk T own s t h; have := e.size_pos; omega
  | succ n ih =>
    intro e sc oo on' on tk T own s t hn hbig hne hsc hTl hT hI
    have hb : big = 1099511627776 := rfl
    cases h3 : e.op == 3 with
    | true => exact refPut_name x y fr0 fr of wb hy e sc oo on' on tk T own s t hne (by omega) hT hI h3
    | false =>
    have hlen := e.kids_length
    have hkl := e.kav_length
    have hsz := e.size_def
    have hput := put_other (x := x) (y := y) (fr := fr0) (sc := sc) (on := on) (tk := tk) h3
    refine ACalls.of_CW tysOk call99 Try.func99 rfl rfl ?_
    refine CW.seqCutX (σ := Nat) (fun b => [(0, .ptr wb 0), (2, .slc 1 (strs (olds sc)) oo), (3, .slc 1 (strs (nows sc)) on'), (4, .bool on), (6, .fptr e.cells 0), (10, .ptr b 0)]) (fun b => t.set b box0) (fun b => t b = none) ?_ ?_
    · repeat (first | refine CW.reg ?_ | refine RL.step tysOk rfl rfl rfl rfl ?_)
      refine RL.alloc tysOk rfl rfl rfl rfl rfl rfl rfl (fun b hb => ?_)
      repeat (first | refine RL.nil ?_)
      exact ⟨rfl, b, hb, (by repeat (first | exact trivial | refine ⟨⟨_, rfl, AVle.refl _⟩, ?_⟩)), Store.sub_refl _⟩
    intro b10 hb10
    have hs10 : s b10 = none := hI.snone hb10
    have hI1 := hI.add box0 hb10
    generalize t.set b10 box0 = t1 at hI1 ⊢
    refine CW.seq ?_
    refine CW.seqCut [(0, .ptr wb 0), (2, .slc 1 (strs (olds sc)) oo), (3, .slc 1 (strs (nows sc)) on'), (4, .bool on), (6, .fptr e.cells 0), (10, .ptr b10 0), (19, .bool (e.op == 3))] t1 ?_ ?_
    · repeat (first | refine CW.reg (RL.run tysOk rfl (RL.nil ?_)))
      exact ⟨rfl, (by repeat (first | exact trivial | refine ⟨⟨_, rfl, AVle.refl _⟩, ?_⟩)), Store.sub_refl _⟩
    rw [h3]
    refine CW.condF rfl (CW.skip (andThen_normal ?_))
    refine CW.seqCutX (σ := Nat) (fun b12 => [(0, .ptr wb 0), (2, .slc 1 (strs (olds sc)) oo), (3, .slc 1 (strs (nows sc)) on'), (4, .bool on), (6, .fptr e.cells 0), (10, .ptr b10 0), (12, .ptr b12 0)]) (fun b12 => t1.set b12 (.box 32 (part4 e.op e.n e.text [] .nil))) (fun b12 => t1 b12 = none) ?_ ?_
    · repeat (first | refine CW.reg ?_ | refine RL.step tysOk rfl rfl rfl rfl ?_)
      refine RL.alloc tysOk rfl rfl rfl rfl rfl rfl rfl (fun b12 hb12 => ?_)
      refine RL.storeP tysOk rfl rfl rfl rfl rfl rfl rfl rfl rfl (Store.set_same _ _ _) rfl ?_
      rw [Store.set_set]
      refine RL.boxWeak b12 (part4 e.op e.n e.text [] .nil) (Store.set_same _ _ _) (part4_nil _ _ _) ?_
      rw [Store.set_set]
      refine RL.nil ?_
      exact ⟨rfl, b12, hb12, (by repeat (first | exact trivial | refine ⟨⟨_, rfl, AVle.refl _⟩, ?_⟩)), Store.sub_refl _⟩
    intro b12 hb12
    have hI2 := hI1.add (.box 32 (part4 e.op e.n e.text [] .nil)) hb12
    have hn12 := hI1.snone hb12
    have hne12 : b10 ≠ b12 := (Store.set_none hn12).1.symm
    have hs12 : s b12 = none := (Store.set_none hn12).2
    generalize t1.set b12 _ = t2 at hI2 ⊢
    replace hI2 : PtI x y fr of wb (outB s b10 b12 e e.text [] .nil) t2 T own := hI2
    -- the way out
    have hout : ∀ (txt : Str) (rs : List FExp) (ow : Own) (m : Nat) (T' : List Str) (own' : Own) (t' : Store) (z : AObj), PtI x y fr of wb (rowOf (outB s b10 b12 e txt rs ow) 32 4 m ow) t' T' own' → OwnOk (outB s b10 b12 e txt rs ow) m ow → PtI x y fr of wb s (t'.set b10 z) T' own' := by
      intro txt rs ow m T' own' t' z h hok
      have h10 : rowOf (outB s b10 b12 e txt rs ow) 32 4 m ow b10 = some box0 := rowOf_get hok (outB10 hne12 _ _ _ _)
      refine (h.upd z h10).weak ?_
      refine Store.subSet (Store.subRow (m := m) (Store.subSet (Store.subSet (Store.sub_refl _) hs10) hs12) ?_) hs10
      refine OwnOk.congr (n := m) (fun z hz => ?_) hok
      unfold outB at hz
      exact (Store.set_none (Store.set_none hz).2).2
    refine CW.seq ?_
    refine CW.seqCut [(0, .ptr wb 0), (2, .slc 1 (strs (olds sc)) oo), (3, .slc 1 (strs (nows sc)) on'), (4, .bool on), (6, .fptr e.cells 0), (10, .ptr b10 0), (12, .ptr b12 0), (64, .bool (!(e.op == 9)))] t2 ?_ ?_
    · repeat (first | refine CW.reg (RL.run tysOk rfl (RL.nil ?_)))
      exact ⟨rfl, (by repeat (first | exact trivial | refine ⟨⟨_, rfl, AVle.refl _⟩, ?_⟩)), Store.sub_refl _⟩
    cases h9 : e.op == 9 with
    | false =>
      have hT9 : textS x fr0 tk on e = (e.text, tk) := by rw [textS, if_neg (by rw [h9]; simp)]
      rw [hT9, h9] at hput
      simp only at hput
      refine CW.condT rfl ?_
      repeat (first | with_reducible refine CW.seq ?_ | with_reducible refine andThen_normal ?_ | with_reducible refine CW.block ?_ | refine CW.reg (RL.run tysOk rfl (RL.nil ?_)))
      refine CW.loop (σ := Nat × Own × List FExp × List Str × List Str × Own × Store) (fun q => [(0, .ptr wb 0), (2, .slc 1 (strs (olds sc)) oo), (3, .slc 1 (strs (nows sc)) on'), (4, .bool on), (6, .fptr e.cells 0), (10, .ptr b10 0), (12, .ptr b12 0), (13, .int .i64 (q.1 : Int))]) (fun q => q.2.2.2.2.2.2)
        (fun q => q.1 ≤ e.kids.length ∧ q.2.2.1.length = q.1 ∧ PtI x y fr of wb (rowOf (outB s b10 b12 e e.text q.2.2.1 q.2.1) 32 4 q.1 q.2.1) q.2.2.2.2.2.2 q.2.2.2.1 q.2.2.2.2.2.1 ∧ OwnOk (outB s b10 b12 e e.text q.2.2.1 q.2.1) q.1 q.2.1 ∧
          Alike q.2.2.2.1 q.2.2.2.2.1 ∧ q.2.2.2.1.length + FExp.sizes (e.kids.drop q.1) ≤ T.length + FExp.sizes e.kids ∧
          FExp.put x y fr0 sc on tk e = (.mk e.op e.n e.text (q.2.2.1 ++ (FExp.puts x y fr0 false e.text e.text sc on q.1 q.2.2.2.2.1 (e.kids.drop q.1)).1), (FExp.puts x y fr0 false e.text e.text sc on q.1 q.2.2.2.2.1 (e.kids.drop q.1)).2))
        (fun q => e.kids.length - q.1) (0, .nil, [], T, tk, own, t2) ⟨by simp, rfl, hI2, trivial, hT, by simp, hput⟩ (by repeat (first | exact trivial | refine ⟨⟨_, rfl, AVle.refl _⟩, ?_⟩)) (Store.sub_refl _) ?_
      rintro ⟨j, ow, rs, T2, tk2, own2, t3⟩ ⟨hj, hrs, hJ, hok, hT2, hTs, hP⟩
      simp only at hj hrs hJ hok hT2 hTs hP
      have h12 : t3 b12 = some (.box 32 (part4 e.op e.n e.text rs ow)) := hJ.get (rowOf_get hok (outB12 _ _ _ _ _ _ _))
      repeat (first | with_reducible refine CW.seq ?_ | with_reducible refine andThen_normal ?_ | refine CW.reg (RL.run tysOk rfl (RL.nil ?_)))
      refine CW.cond rfl (fun h => ?_) (fun h => ?_)
      · have hlt : j < e.kids.length := by rw [hkl] at h; simpa using h
        obtain ⟨k, hk, hk', hks⟩ := FExp.kid_at hlt
        rw [drop_cons hk, FExp.puts] at hP
        simp only [Bool.false_and, Bool.false_eq_true, if_false] at hP
        rw [FExp.sizes_drop hk] at hTs
        have hcall := ih k sc oo on' on tk2 T2 own2 _ t3 (by omega) (by omega) (neat_kid hne (List.mem_of_getElem? hk)) (by omega) (by omega) hT2 hJ
        generalize FExp.put x y fr0 sc on tk2 k = pk at hcall hP
        obtain ⟨k', tk3⟩ := pk
        simp only at hP
        repeat (first | with_reducible refine CW.seq ?_ | with_reducible refine andThen_normal ?_ | with_reducible refine CW.skip ?_ | with_reducible refine CW.block ?_ | refine CW.drw tysOk mixed rfl (RD.run rfl ?_))
        refine RD.idx 6 j rfl rfl rfl rfl rfl rfl rfl rfl rfl rfl rfl rfl rfl hk' rfl ?_
        refine RD.run rfl ?_
        refine' RD.loadCall (i := 1) (j := 11) (σ := List Str × Own × Store) (P1 := _) (fun _ => k'.av) (fun z => z.2.2) (fun z => PtI x y fr of wb (rowOf (outB s b10 b12 e e.text rs ow) 32 4 j ow) z.2.2 z.1 z.2.1 ∧ Alike z.1 tk3 ∧ z.1.length ≤ T2.length + k.size) tysOk rfl rfl rfl rfl rfl rfl rfl rfl rfl rfl rfl rfl h12 rfl rfl rfl rfl
          (OW.call rfl (fv := .func 99 [] []) rfl rfl (ACallV.of_calls hcall)) (fun y s' ⟨g1, T', o', g2, g3, g4⟩ => ⟨(T', o', s'), ⟨g2, g3, g4⟩, by cases g1; rfl, rfl⟩) ?A ?B ?C (fun _ _ ⟨h, _⟩ => by cases h)
        case A => intro _ _ hP; refine RD.run rfl ?_; exact hP
        case B =>
          intro z hz hP
          refine RD.run rfl (RD.one (i := 1) rfl rfl rfl rfl rfl (OW.loadP tysOk rfl rfl rfl (hz.1.get (rowOf_get hok (outB12 _ _ _ _ _ _ _))) rfl (X := fun _ _ => False)) ?_ (fun _ _ h => False.elim h))
          rintro _ _ ⟨rfl, rfl⟩
          refine RD.congr _ (get_mv _ _ _ [_, _] ?_) hP
          rfl
        case C =>
          rintro ⟨T3, own3, t4⟩ ⟨hJ3, hT3, hl3⟩
          simp only at hJ3 hT3 hl3 ⊢
          have hrow := hJ3.rowIs hok
          refine RD.append1 (i := 13) tysOk rfl rfl rfl rfl rfl rfl rfl rfl rfl (by intro k h; cases h) rfl rfl rfl rfl rfl rfl rfl (n := j) (by simp [hrs]) (by show (j + 1) * 56 ≤ _; omega) (by omega) (rowBase_eq hrow) (rowBase_ok hrow) (fun b' hb' => ?_)
          obtain ⟨hG, hokG⟩ := hJ3.grow (m := j + 1) (k := j + 1) (ow' := .own b') hok hb' hrow
          have h12' : rowOf (outB s b10 b12 e e.text rs ow) 32 4 (j + 1) (.own b') b12 = some (.box 32 (part4 e.op e.n e.text rs ow)) := rowOf_get hokG (outB12 _ _ _ _ _ _ _)
          have hb12' : ∀ b'', Own.own b' = .own b'' → b'' ≠ b12 := OwnOk.ne (n := j + 1) (own := .own b') hokG (outB12 _ _ _ _ _ _ _)
          refine RD.run rfl ?_
          refine RD.oneN (i := 15) rfl rfl rfl rfl (OW.storeP tysOk rfl rfl rfl rfl rfl rfl rfl (hG.get h12') rfl (X := fun _ _ => False)) ?_ (fun _ _ h => False.elim h)
          rintro _ _ rfl
          refine RD.run rfl (RD.done rfl ?_)
          have hU := hG.upd (.box 32 (part4 e.op e.n e.text (rs ++ [k']) (.own b'))) h12'
          have hset : (rowOf (outB s b10 b12 e e.text rs ow) 32 4 (j + 1) (.own b')).set b12 (.box 32 (part4 e.op e.n e.text (rs ++ [k']) (.own b'))) = rowOf (outB s b10 b12 e e.text (rs ++ [k']) (.own b')) 32 4 (j + 1) (.own b') := by
            rw [rowOf_set hb12']; unfold outB; rw [Store.set_set]
          rw [hset] at hU
          have hokU : OwnOk (outB s b10 b12 e e.text (rs ++ [k']) (.own b')) (j + 1) (.own b') := by
            have := OwnOk.set (m := j + 1) (o' := .box 32 (part4 e.op e.n e.text (rs ++ [k']) (.own b'))) hokG (outB12 _ _ _ _ _ _ _)
            unfold outB at this ⊢
            rwa [Store.set_set] at this
          repeat (first | with_reducible refine andThen_normal ?_ | with_reducible refine inBlock_normal ?_ | refine CW.reg (RL.run tysOk rfl (RL.nil ?_)))
          refine ⟨(j + 1, .own b', rs ++ [k'], T3, tk3, own3, _), ⟨hlt, by simp [hrs], hU, hokU, hT3, by show T3.length + FExp.sizes (e.kids.drop (j + 1)) ≤ _; omega, by rw [hP]; simp⟩, (by repeat (first | exact trivial | refine ⟨⟨_, rfl, AVle.refl _⟩, ?_⟩ | refine ⟨⟨_, rfl, AVle.of_eq (by (show AV.int .i64 (IntKind.wrap .i64 ((j : Int) + 1)) = .int .i64 ((j + 1 : Nat) : Int); rw [i64_succ (by omega)]))⟩, ?_⟩)), ?_, by show e.kids.length - (j + 1) < e.kids.length - j; omega⟩
          simp only [part4, List.map_append, List.map_cons, List.map_nil]
          exact Store.sub_refl _
      · have hge : e.kids.length ≤ j := by rw [hkl] at h; simpa using h
        rw [List.drop_eq_nil_of_le hge, FExp.puts, List.append_nil] at hP
        rw [List.drop_eq_nil_of_le hge, FExp.sizes] at hTs
        have h10 : t3 b10 = some box0 := hJ.get (rowOf_get hok (outB10 hne12 _ _ _ _))
        repeat (first | with_reducible refine CW.seq ?_ | with_reducible refine andThen_normal ?_ | with_reducible refine andThen_exit ?_ | with_reducible refine inBlock_here ?_ | with_reducible refine CW.exit ?_ | refine CW.reg ?_ | refine RL.loadP tysOk rfl rfl rfl rfl rfl rfl (by assumption) rfl ?_)
        refine RL.storeP tysOk rfl rfl rfl rfl rfl rfl rfl rfl rfl h10 rfl ?_
        repeat (first | with_reducible refine andThen_normal ?_ | with_reducible refine andThen_ret ?_ | with_reducible refine CW.ret ?_ | refine RL.nil ?_)
        refine ⟨_, _, _, resA_cell rfl rfl (Store.set_same _ _ _) rfl, part4_le e.op e.n e.text rs ow, Store.sub_refl _, by rw [hP], T2, own2, hout _ _ _ _ _ _ _ _ hJ hok, by rw [hP]; exact hT2, by omega⟩
    | true =>
      have hk2 := neat_let hne h9
      obtain ⟨k0, hk0, hk0', hks0⟩ := FExp.kid_at (e := e) (j := 0) (by omega)
      obtain ⟨k1, hk1, hk1', hks1⟩ := FExp.kid_at (e := e) (j := 1) (by omega)
      have hn0 := neat_kid hne (List.mem_of_getElem? hk0)
      have hn1 := neat_kid hne (List.mem_of_getElem? hk1)
      have hkids : e.kids = [k0, k1] := by
        generalize e.kids = ks at hk2 hk0 hk1
        match ks, hk2 with
        | [_, _], _ => simp at hk0 hk1; rw [hk0, hk1]
      have hsz2 : FExp.sizes e.kids = k0.size + k1.size := by rw [hkids]; simp [FExp.sizes]
      have hT9 : textS x fr0 tk on e = letS x fr0 tk on e.text e.kids := by rw [textS, if_pos h9]
      have hlif := letS_if x fr0 tk on e.text e.kids hk1
      rw [hT9, h9] at hput
      refine CW.condF rfl (CW.skip (andThen_normal ?_))
      refine CW.seqCut [(0, .ptr wb 0), (2, .slc 1 (strs (olds sc)) oo), (3, .slc 1 (strs (nows sc)) on'), (4, .bool on), (6, .fptr e.cells 0), (10, .ptr b10 0), (12, .ptr b12 0), (14, .bool (on && !(e.text == x)))] t2 ?_ ?_
      · cases on with
        | false =>
          repeat (first | refine CW.drw tysOk mixed rfl (RD.run rfl (RD.done rfl ?_)))
          exact ⟨rfl, (by repeat (first | exact trivial | refine ⟨⟨_, rfl, AVle.refl _⟩, ?_⟩)), Store.sub_refl _⟩
        | true =>
          repeat (first | refine CW.drw tysOk mixed rfl (RD.run rfl ?_))
          refine RD.one (i := 7) rfl rfl rfl rfl rfl (OW.loadP tysOk rfl rfl rfl hI2.hw rfl (X := fun _ _ => False)) ?_ (fun _ _ h => False.elim h)
          rintro _ t3 ⟨rfl, rfl⟩
          refine RD.run rfl (RD.done rfl ?_)
          exact ⟨rfl, (by repeat (first | exact trivial | refine ⟨⟨_, rfl, AVle.refl _⟩, ?_⟩)), Store.sub_refl _⟩
      have hlsz := looseR_len k1 []
      refine CW.seqCutX (σ := List Str × Own × Store) (fun _ => [(0, .ptr wb 0), (2, .slc 1 (strs (olds sc)) oo), (3, .slc 1 (strs (nows sc)) on'), (4, .bool on), (6, .fptr e.cells 0), (10, .ptr b10 0), (12, .ptr b12 0), (14, .bool (on && !(e.text == x)))]) (fun z => z.2.2)
        (fun z => PtI x y fr of wb (outB s b10 b12 e (letS x fr0 tk on e.text e.kids).1 [] .nil) z.2.2 z.1 z.2.1 ∧ Alike z.1 (letS x fr0 tk on e.text e.kids).2 ∧ z.1.length ≤ T.length + 1) ?_ ?_
      · refine CW.seqCut [(0, .ptr wb 0), (2, .slc 1 (strs (olds sc)) oo), (3, .slc 1 (strs (nows sc)) on'), (4, .bool on), (6, .fptr e.cells 0), (10, .ptr b10 0), (12, .ptr b12 0), (14, .bool (on && !(e.text == x))), (119, .bool ((on && !(e.text == x)) && (fr0.contains e.text && k1.frees.contains x)))] t2 ?_ ?_
        · have hc1 := refHas_spec fr of e.text t2 (by omega)
          rw [hfr e.text] at hc1
          have hsl : (sortS (k1.looseR [])).length < 9223372036854775807 := by
            have : ∀ (l out : List Str), (l.foldl insSo out).length ≤ out.length + l.length := by
              intro l
              induction l with
              | nil => intro out; simp
              | cons z l ih => intro out; have h1 := ih (insSo out z); have h2 := insSo_len out z; simp only [List.foldl_cons, List.length_cons]; omega
            have := this (k1.looseR []) []
            unfold sortS
            simp only [List.length_nil] at this
            omega
          have hc3 := fun s => refHas_spec (sortS (k1.looseR [])) .fro x s hsl
          simp only [free_contains hn1 x] at hc3
          generalize (on && !(e.text == x)) = ins
          cases ins with
          | false =>
            repeat (first | refine CW.drw tysOk mixed rfl (RD.run rfl (RD.done rfl ?_)))
            exact ⟨rfl, (by repeat (first | exact trivial | refine ⟨⟨_, rfl, AVle.refl _⟩, ?_⟩)), Store.sub_refl _⟩
          | true =>
            repeat (first | refine CW.drw tysOk mixed rfl (RD.run rfl ?_))
            refine RD.one (i := 5) rfl rfl rfl rfl rfl (OW.loadP tysOk rfl rfl rfl hI2.hw rfl (X := fun _ _ => False)) ?_ (fun _ _ h => False.elim h)
            rintro _ t3 ⟨rfl, rfl⟩
            refine RD.run rfl ?_
            cases hf : fr0.contains e.text with
            | false =>
              rw [hf] at hc1
              refine RD.callP (i := 8) rfl rfl rfl rfl rfl rfl rfl hc1 ?_
              refine RD.run rfl (RD.done rfl ?_)
              exact ⟨rfl, (by repeat (first | exact trivial | refine ⟨⟨_, rfl, AVle.refl _⟩, ?_⟩)), Store.sub_refl _⟩
            | true =>
              rw [hf] at hc1
              refine RD.callP (i := 8) rfl rfl rfl rfl rfl rfl rfl hc1 ?_
              refine RD.run rfl ?_
              refine RD.idx 13 1 rfl rfl rfl rfl rfl rfl rfl rfl rfl rfl rfl rfl rfl hk1' rfl ?_
              refine RD.run rfl ?_
              refine RD.calmP (i := 15) rfl rfl rfl rfl rfl rfl rfl (fun s => refFreeOf_spec k1 s (by omega)) ?_
              refine RD.run rfl ?_
              refine RD.one (i := 19) rfl rfl rfl rfl rfl (OW.loadP tysOk rfl rfl rfl hI2.hw rfl (X := fun _ _ => False)) ?_ (fun _ _ h => False.elim h)
              rintro _ t4 ⟨rfl, rfl⟩
              refine RD.run rfl ?_
              refine RD.callP (i := 20) rfl rfl rfl rfl rfl rfl rfl (hc3 _) ?_
              refine RD.run rfl (RD.done rfl ?_)
              exact ⟨rfl, (by repeat (first | exact trivial | refine ⟨⟨_, rfl, AVle.refl _⟩, ?_⟩)), Store.sub_refl _⟩
        · cases hc : (on && !(e.text == x)) && (fr0.contains e.text && k1.frees.contains x) with
          | false =>
            rw [hc, if_neg (by simp)] at hlif
            rw [hlif]
            repeat (first | with_reducible refine CW.skip ?_ | refine CW.condF rfl ?_)
            exact ⟨rfl, (T, own, t2), ⟨hI2, hT, by show T.length ≤ T.length + 1; omega⟩, (by repeat (first | exact trivial | refine ⟨⟨_, rfl, AVle.refl _⟩, ?_⟩)), Store.sub_refl _⟩
          | true =>
            rw [hc, if_pos rfl] at hlif
            rw [hlif, ← freshS_congr hT]
            have hw2 := hI2.hw
            have h12 : t2 b12 = some (.box 32 (part4 e.op e.n e.text [] .nil)) := hI2.get (outB12 _ _ _ _ _ _ _)
            generalize (on && !(e.text == x)) = ins
            refine CW.condT rfl ?_
            refine CW.seqCut [(0, .ptr wb 0), (2, .slc 1 (strs (olds sc)) oo), (3, .slc 1 (strs (nows sc)) on'), (4, .bool on), (6, .fptr e.cells 0), (10, .ptr b10 0), (12, .ptr b12 0), (14, .bool ins)] (t2.set b12 (.box 32 (part4 e.op e.n (freshS T) [] .nil))) ?_ ?_
            · repeat (first | refine CW.reg ?_ | refine RL.step tysOk rfl rfl rfl rfl ?_ | refine RL.loadP tysOk rfl rfl rfl rfl rfl rfl (by assumption) rfl ?_)
              refine RL.callP rfl rfl rfl rfl rfl (refFresh_spec T own t2 (by omega) (hasFree_of (by omega))) ?_
              repeat (first | refine RL.step tysOk rfl rfl rfl rfl ?_)
              refine RL.storeP tysOk rfl rfl rfl rfl rfl rfl rfl rfl rfl h12 rfl ?_
              repeat (first | refine RL.nil ?_)
              exact ⟨rfl, (by repeat (first | exact trivial | refine ⟨⟨_, rfl, AVle.refl _⟩, ?_⟩)), Store.sub_refl _⟩
            have hU := hI2.upd (.box 32 (part4 e.op e.n (freshS T) [] .nil)) (outB12 _ _ _ _ _ _ _)
            have e1 : (outB s b10 b12 e e.text [] .nil).set b12 (.box 32 (part4 e.op e.n (freshS T) [] .nil)) = outB s b10 b12 e (freshS T) [] .nil := by unfold outB; rw [Store.set_set]
            rw [e1] at hU
            generalize t2.set b12 _ = t3 at hU ⊢
            have hw3 := hU.hw
            have h12' : t3 b12 = some (.box 32 (part4 e.op e.n (freshS T) [] .nil)) := hU.get (outB12 _ _ _ _ _ _ _)
            have hal : Alike (T ++ [freshS T]) (insS tk (freshS T)) := hT.snoc _
            generalize freshS T = f at hU h12' hal ⊢
            repeat (first | refine CW.drw tysOk mixed rfl (RD.run rfl ?_))
            refine RD.many rfl (RDAll.c (RDStep.mk (i := 4) rfl rfl rfl rfl (OW.loadP tysOk rfl rfl rfl hw3 rfl (X := fun _ _ => False)) ?_ (fun _ _ h => False.elim h)) (RDAll.c (RDStep.mk (i := 6) rfl rfl rfl rfl (OW.loadP tysOk rfl rfl rfl h12' rfl (X := fun _ _ => False)) ?_ (fun _ _ h => False.elim h)) RDAll.n))
            · rintro _ _ ⟨rfl, rfl⟩
              refine RD.run rfl ?_
              refine RD.many rfl (RDAll.c (RDStep.mk (i := 6) rfl rfl rfl rfl (OW.loadP tysOk rfl rfl rfl h12' rfl (X := fun _ _ => False)) ?_ (fun _ _ h => False.elim h)) RDAll.n)
              · rintro _ _ ⟨rfl, rfl⟩
                refine RD.run rfl ?_
                refine RD.append1 (i := 8) tysOk rfl rfl rfl rfl rfl rfl rfl rfl rfl (by intro k h; cases h) rfl rfl rfl rfl rfl rfl rfl (n := T.length) (strs_length _).symm (by show (T.length + 1) * 16 ≤ _; omega) (by omega) (rowBase_eq hU.r) (rowBase_ok hU.r) (fun b' hb' => ?_)
                refine RD.run rfl ?_
                refine RD.oneN (i := 11) rfl rfl rfl rfl (OW.storeP tysOk rfl rfl rfl rfl rfl rfl rfl (grow_keep (n := 0) (own' := .own b') hU.r hb' hU.hw rfl) rfl (X := fun _ _ => False)) ?_ (fun _ _ h => False.elim h)
                rintro _ _ rfl
                refine RD.run rfl (RD.done rfl ?_)
                have hA := hU.take (n := 0) (own' := .own b') [f] hb'
                have e2 : strs (T ++ [f]) = strs T ++ [.str f] := by simp [strs]
                rw [List.length_append, rpCells, e2] at hA
                exact ⟨rfl, (T ++ [f], .own b', _), ⟨hA, hal, by simp⟩, (by repeat (first | exact trivial | refine ⟨⟨_, rfl, AVle.refl _⟩, ?_⟩)), Store.sub_refl _⟩
            · rintro _ _ ⟨rfl, rfl⟩
              refine RD.run rfl ?_
              refine RD.many rfl (RDAll.c (RDStep.mk (i := 4) rfl rfl rfl rfl (OW.loadP tysOk rfl rfl rfl hw3 rfl (X := fun _ _ => False)) ?_ (fun _ _ h => False.elim h)) RDAll.n)
              · rintro _ _ ⟨rfl, rfl⟩
                refine RD.run rfl ?_
                refine RD.append1 (i := 8) tysOk rfl rfl rfl rfl rfl rfl rfl rfl rfl (by intro k h; cases h) rfl rfl rfl rfl rfl rfl rfl (n := T.length) (strs_length _).symm (by show (T.length + 1) * 16 ≤ _; omega) (by omega) (rowBase_eq hU.r) (rowBase_ok hU.r) (fun b' hb' => ?_)
                refine RD.run rfl ?_
                refine RD.oneN (i := 11) rfl rfl rfl rfl (OW.storeP tysOk rfl rfl rfl rfl rfl rfl rfl (grow_keep (n := 0) (own' := .own b') hU.r hb' hU.hw rfl) rfl (X := fun _ _ => False)) ?_ (fun _ _ h => False.elim h)
                rintro _ _ rfl
                refine RD.run rfl (RD.done rfl ?_)
                have hA := hU.take (n := 0) (own' := .own b') [f] hb'
                have e2 : strs (T ++ [f]) = strs T ++ [.str f] := by simp [strs]
                rw [List.length_append, rpCells, e2] at hA
                exact ⟨rfl, (T ++ [f], .own b', _), ⟨hA, hal, by simp⟩, (by repeat (first | exact trivial | refine ⟨⟨_, rfl, AVle.refl _⟩, ?_⟩)), Store.sub_refl _⟩
      rintro ⟨T2, own2, t3⟩ ⟨hJ, hT2, hl2⟩
      simp only at hJ hT2 hl2 ⊢
      generalize letS x fr0 tk on e.text e.kids = r at hput hJ hT2
      obtain ⟨txt, tk1⟩ := r
      simp only at hput hJ hT2
      rw [hkids] at hput
      have hp2 : FExp.puts x y fr0 true e.text txt sc on 0 tk1 [k0, k1] = ([(FExp.put x y fr0 sc on tk1 k0).1, (FExp.put x y fr0 ((e.text, txt) :: sc) (on && !(e.text == x)) (FExp.put x y fr0 sc on tk1 k0).2 k1).1], (FExp.put x y fr0 ((e.text, txt) :: sc) (on && !(e.text == x)) (FExp.put x y fr0 sc on tk1 k0).2 k1).2) := rfl
      rw [hp2] at hput
      have hcall0 := ih k0 sc oo on' on tk1 T2 own2 _ t3 (by omega) (by omega) hn0 (by omega) (by omega) hT2 hJ
      generalize FExp.put x y fr0 sc on tk1 k0 = pa at hcall0 hput
      obtain ⟨ka, tka⟩ := pa
      simp only at hput
      refine CW.seqCutX (σ := List Str × Own × Store) (fun _ => [(0, .ptr wb 0), (2, .slc 1 (strs (olds sc)) oo), (3, .slc 1 (strs (nows sc)) on'), (4, .bool on), (6, .fptr e.cells 0), (10, .ptr b10 0), (12, .ptr b12 0), (14, .bool (on && !(e.text == x))), (15, .fptr ka.cells 0)]) (fun z => z.2.2) (fun z => PtI x y fr of wb (outB s b10 b12 e txt [] .nil) z.2.2 z.1 z.2.1 ∧ Alike z.1 tka ∧ z.1.length ≤ T2.length + k0.size) ?_ ?_
      · repeat (first | refine CW.reg ?_ | refine RL.step tysOk rfl rfl rfl rfl ?_ | refine RL.idx tysOk _ rfl rfl rfl rfl rfl rfl rfl rfl rfl rfl rfl (by assumption) rfl ?_)
        refine RL.call rfl rfl rfl rfl rfl hcall0 ?_ (fun _ _ ⟨h, _⟩ => by cases h)
        rintro _ t4 ⟨⟨⟩, T3, own3, g1, g2, g3⟩
        refine RL.newBox tysOk rfl rfl rfl rfl rfl rfl rfl (fun _ => rfl) rfl rfl (fun _ => rfl) rfl rfl rfl rfl ?_
        repeat (first | refine RL.nil ?_)
        exact ⟨rfl, (T3, own3, t4), ⟨g1, g2, g3⟩, (by repeat (first | exact trivial | refine ⟨⟨_, rfl, AVle.refl _⟩, ?_⟩)), Store.sub_refl _⟩
      rintro ⟨T3, own3, t4⟩ ⟨hJ3, hT3, hl3⟩
      simp only at hJ3 hT3 hl3 ⊢
      have hol := olds_length sc
      have hnl := nows_length sc
      have ho1 : olds ((e.text, txt) :: sc) = olds sc ++ [e.text] := by simp [olds]
      have hw1 : nows ((e.text, txt) :: sc) = nows sc ++ [txt] := by simp [nows]
      have hcall1 : ∀ (B t : Store), PtI x y fr of wb B t T3 own3 → ACalls Try.prog 99 [.ptr wb 0, k1.av, .slc 1 (strs (olds sc) ++ [.str e.text]) .fro, .slc 1 (strs (nows sc) ++ [.str txt]) .fro, .bool (on && !(e.text == x))] t
          (PutPost x y fr of wb B T3 k1 (FExp.put x y fr0 ((e.text, txt) :: sc) (on && !(e.text == x)) tka k1)) := fun B t h => by
        have := ih k1 ((e.text, txt) :: sc) .fro .fro (on && !(e.text == x)) tka T3 own3 B t (by omega) (by omega) hn1 (by simp only [List.length_cons]; omega) (by omega) hT3 h
        rw [ho1, hw1] at this
        simpa [strs] using this
      generalize FExp.put x y fr0 ((e.text, txt) :: sc) (on && !(e.text == x)) tka k1 = pb at hcall1 hput
      obtain ⟨kb, tkb⟩ := pb
      simp only at hput
      generalize (on && !(e.text == x)) = ins at hcall1 ⊢
      refine CW.seqCutX (σ := List Str × Own × Store × Nat) (fun z => [(0, .ptr wb 0), (6, .fptr e.cells 0), (10, .ptr b10 0), (12, .ptr b12 0), (15, .fptr ka.cells 0), (16, .ptr z.2.2.2 0)]) (fun z => z.2.2.1)
        (fun z => PtI x y fr of wb ((outB s b10 b12 e txt [] .nil).set z.2.2.2 (.box 32 kb.cells)) z.2.2.1 z.1 z.2.1 ∧ outB s b10 b12 e txt [] .nil z.2.2.2 = none ∧ Alike z.1 tkb ∧ z.1.length ≤ T3.length + k1.size) ?_ ?_
      · have h12 : t4 b12 = some (.box 32 (part4 e.op e.n txt [] .nil)) := hJ3.get (outB12 _ _ _ _ _ _ _)
        have a1 : (strs (olds sc)).length = sc.length := by rw [strs_length, hol]
        have a2 : (strs (nows sc)).length = sc.length := by rw [strs_length, hnl]
        have a3 : ((strs (olds sc)).length + 1) * 16 ≤ 140737488355328 := by omega
        have a4 : ((strs (nows sc)).length + 1) * 16 ≤ 140737488355328 := by omega
        have a5 : (strs (olds sc)).length + 1 ≤ 9223372036854775807 := by omega
        have a6 : (strs (nows sc)).length + 1 ≤ 9223372036854775807 := by omega
        have a7 : (strs (olds sc)).length * 16 ≤ 140737488355328 := by omega
        have a8 : (strs (nows sc)).length * 16 ≤ 140737488355328 := by omega
        have a9 : (strs (olds sc)).length ≤ 9223372036854775807 := by omega
        have a10 : (strs (nows sc)).length ≤ 9223372036854775807 := by omega
        repeat (first | refine CW.drw tysOk mixed rfl (RD.run rfl ?_))
        refine RD.idx 3 1 rfl rfl rfl rfl rfl rfl rfl rfl rfl rfl rfl rfl rfl hk1' rfl ?_
        refine RD.run rfl ?_
        refine RD.many rfl (RDAll.c (RDStep.mk (i := 6) rfl rfl rfl rfl (OW.appendN tysOk rfl rfl rfl rfl (by intro k h; cases h) rfl rfl rfl (.inr rfl) rfl (strs_elem _) a7 a9 (X := fun _ _ => False)) ?_ (fun _ _ h => False.elim h)) (RDAll.c (RDStep.mk (i := 14) rfl rfl rfl rfl (OW.loadP tysOk rfl rfl rfl h12 rfl (X := fun _ _ => False)) ?_ (fun _ _ h => False.elim h)) (RDAll.c (RDStep.mk (i := 19) rfl rfl rfl rfl (OW.alloc tysOk rfl rfl rfl rfl (X := fun _ _ => False)) ?_ (fun _ _ h => False.elim h)) RDAll.n)))
        · rintro _ _ ⟨p1, hp1, rfl, rfl⟩
          refine RD.run rfl ?_
          refine RD.many rfl (RDAll.c (RDStep.mk (i := 10) rfl rfl rfl rfl (OW.append1F tysOk t4 rfl rfl rfl rfl (by intro k h; cases h) rfl rfl rfl rfl rfl rfl rfl rfl a3 a5 rfl hp1 (Store.sub_refl _) (X := fun _ _ => False)) ?_ (fun _ _ h => False.elim h)) (RDAll.c (RDStep.mk (i := 14) rfl rfl rfl rfl (OW.loadP tysOk rfl rfl rfl (rowOf_get hp1 h12) rfl (X := fun _ _ => False)) ?_ (fun _ _ h => False.elim h)) (RDAll.c (RDStep.mk (i := 19) rfl rfl rfl rfl (OW.alloc tysOk rfl rfl rfl rfl (X := fun _ _ => False)) ?_ (fun _ _ h => False.elim h)) RDAll.n)))
          · rintro _ _ ⟨rfl, hs2⟩
            rw [hs2]
            clear hs2
            refine RD.run rfl ?_
            refine RD.many rfl (RDAll.c (RDStep.mk (i := 12) rfl rfl rfl rfl (OW.appendN tysOk rfl rfl rfl rfl (by intro k h; cases h) rfl rfl rfl (.inr rfl) rfl (strs_elem _) a8 a10 (X := fun _ _ => False)) ?_ (fun _ _ h => False.elim h)) (RDAll.c (RDStep.mk (i := 14) rfl rfl rfl rfl (OW.loadP tysOk rfl rfl rfl h12 rfl (X := fun _ _ => False)) ?_ (fun _ _ h => False.elim h)) (RDAll.c (RDStep.mk (i := 19) rfl rfl rfl rfl (OW.alloc tysOk rfl rfl rfl rfl (X := fun _ _ => False)) ?_ (fun _ _ h => False.elim h)) RDAll.n)))
            · rintro _ _ ⟨p2, hp2, rfl, rfl⟩
              refine RD.run rfl ?_
              refine RD.many rfl (RDAll.c (RDStep.mk (i := 14) rfl rfl rfl rfl (OW.loadP tysOk rfl rfl rfl (rowOf_get hp2 h12) rfl (X := fun _ _ => False)) ?_ (fun _ _ h => False.elim h)) (RDAll.c (RDStep.mk (i := 19) rfl rfl rfl rfl (OW.alloc tysOk rfl rfl rfl rfl (X := fun _ _ => False)) ?_ (fun _ _ h => False.elim h)) RDAll.n))
              · rintro _ _ ⟨rfl, hs2⟩
                rw [hs2]
                clear hs2
                refine RD.run rfl ?_
                refine RD.many rfl (RDAll.c (RDStep.mk (i := 16) rfl rfl rfl rfl (OW.append1F tysOk t4 rfl rfl rfl rfl (by intro k h; cases h) rfl rfl rfl rfl rfl rfl rfl rfl a4 a6 rfl hp2 (Store.sub_refl _) (X := fun _ _ => False)) ?_ (fun _ _ h => False.elim h)) (RDAll.c (RDStep.mk (i := 19) rfl rfl rfl rfl (OW.alloc tysOk rfl rfl rfl rfl (X := fun _ _ => False)) ?_ (fun _ _ h => False.elim h)) RDAll.n))
                · rintro _ _ ⟨rfl, hs2⟩
                  rw [hs2]
                  clear hs2
                  refine RD.run rfl ?_
                  refine RD.many rfl (RDAll.c (RDStep.mk (i := 18) rfl rfl rfl rfl (OW.call rfl (fv := .func 99 [] []) rfl rfl (ACallV.of_calls (hcall1 _ _ hJ3))) ?_ (fun _ _ ⟨h, _⟩ => by cases h)) (RDAll.c (RDStep.mk (i := 19) rfl rfl rfl rfl (OW.alloc tysOk rfl rfl rfl rfl (X := fun _ _ => False)) ?_ (fun _ _ h => False.elim h)) RDAll.n))
                  · rintro _ _ ⟨⟨⟩, T4, own4, hQ, g2, g3⟩
                    refine RD.run rfl ?_
                    refine RD.many rfl (RDAll.c (RDStep.mk (i := 19) rfl rfl rfl rfl (OW.alloc tysOk rfl rfl rfl rfl (X := fun _ _ => False)) ?_ (fun _ _ h => False.elim h)) RDAll.n)
                    · rintro _ _ ⟨b16, hf16, rfl, hs2⟩
                      rw [hs2]
                      clear hs2
                      have hbn := hQ.snone hf16
                      have hQ := hQ.add box0 hf16
                      refine RD.run rfl ?_
                      refine RD.oneN (i := 20) rfl rfl rfl rfl (OW.storeP tysOk rfl rfl rfl rfl rfl rfl rfl (hQ.get (Store.set_same _ _ _)) rfl (X := fun _ _ => False)) ?_ (fun _ _ h => False.elim h)
                      rintro _ _ rfl
                      refine RD.run rfl (RD.done rfl ?_)
                      have hZ := hQ.upd (.box 32 kb.cells) (Store.set_same _ _ _)
                      rw [Store.set_set] at hZ
                      exact ⟨rfl, (T4, own4, _, b16), ⟨hZ, hbn, g2, g3⟩, (by repeat (first | exact trivial | refine ⟨⟨_, rfl, AVle.refl _⟩, ?_⟩)), Store.sub_refl _⟩
                  · rintro _ _ ⟨b16, hf16, rfl, hs2⟩
                    rw [hs2]
                    clear hs2
                    have hbn := hJ3.snone hf16
                    have hR := hJ3.add box0 hf16
                    have h12a := (Store.set_ne t4 box0 (ne_of_some h12 hf16)).trans h12
                    refine RD.run rfl ?_
                    refine RD.many rfl (RDAll.c (RDStep.mk (i := 18) rfl rfl rfl rfl (OW.call rfl (fv := .func 99 [] []) rfl rfl (ACallV.of_calls (hcall1 _ _ hR))) ?_ (fun _ _ ⟨h, _⟩ => by cases h)) RDAll.n)
                    · rintro _ _ ⟨⟨⟩, T4, own4, hQ, g2, g3⟩
                      refine RD.run rfl ?_
                      refine RD.oneN (i := 20) rfl rfl rfl rfl (OW.storeP tysOk rfl rfl rfl rfl rfl rfl rfl (hQ.get (Store.set_same _ _ _)) rfl (X := fun _ _ => False)) ?_ (fun _ _ h => False.elim h)
                      rintro _ _ rfl
                      refine RD.run rfl (RD.done rfl ?_)
                      have hZ := hQ.upd (.box 32 kb.cells) (Store.set_same _ _ _)
                      rw [Store.set_set] at hZ
                      exact ⟨rfl, (T4, own4, _, b16), ⟨hZ, hbn, g2, g3⟩, (by repeat (first | exact trivial | refine ⟨⟨_, rfl, AVle.refl _⟩, ?_⟩)), Store.sub_refl _⟩
                · rintro _ _ ⟨b16, hf16, rfl, hs2⟩
                  rw [hs2]
                  clear hs2
                  obtain ⟨hpn, hf16⟩ := rowOf_none hf16
                  have hbn := hJ3.snone hf16
                  have hR := hJ3.add box0 hf16
                  have h12a := (Store.set_ne t4 box0 (ne_of_some h12 hf16)).trans h12
                  rw [rowOf_set hpn]
                  have hp2 := OwnOk.add hp2 hpn box0
                  refine RD.run rfl ?_
                  refine RD.many rfl (RDAll.c (RDStep.mk (i := 16) rfl rfl rfl rfl (OW.append1F tysOk (t4.set b16 box0) rfl rfl rfl rfl (by intro k h; cases h) rfl rfl rfl rfl rfl rfl rfl rfl a4 a6 rfl hp2 (Store.sub_refl _) (X := fun _ _ => False)) ?_ (fun _ _ h => False.elim h)) RDAll.n)
                  · rintro _ _ ⟨rfl, hs2⟩
                    rw [hs2]
                    clear hs2
                    refine RD.run rfl ?_
                    refine RD.many rfl (RDAll.c (RDStep.mk (i := 18) rfl rfl rfl rfl (OW.call rfl (fv := .func 99 [] []) rfl rfl (ACallV.of_calls (hcall1 _ _ hR))) ?_ (fun _ _ ⟨h, _⟩ => by cases h)) RDAll.n)
                    · rintro _ _ ⟨⟨⟩, T4, own4, hQ, g2, g3⟩
                      refine RD.run rfl ?_
                      refine RD.oneN (i := 20) rfl rfl rfl rfl (OW.storeP tysOk rfl rfl rfl rfl rfl rfl rfl (hQ.get (Store.set_same _ _ _)) rfl (X := fun _ _ => False)) ?_ (fun _ _ h => False.elim h)
                      rintro _ _ rfl
                      refine RD.run rfl (RD.done rfl ?_)
                      have hZ := hQ.upd (.box 32 kb.cells) (Store.set_same _ _ _)
                      rw [Store.set_set] at hZ
                      exact ⟨rfl, (T4, own4, _, b16), ⟨hZ, hbn, g2, g3⟩, (by repeat (first | exact trivial | refine ⟨⟨_, rfl, AVle.refl _⟩, ?_⟩)), Store.sub_refl _⟩
              · rintro _ _ ⟨b16, hf16, rfl, hs2⟩
                rw [hs2]
                clear hs2
                obtain ⟨hpn, hf16⟩ := rowOf_none hf16
                have hbn := hJ3.snone hf16
                have hR := hJ3.add box0 hf16
                have h12a := (Store.set_ne t4 box0 (ne_of_some h12 hf16)).trans h12
                rw [rowOf_set hpn]
                have hp2 := OwnOk.add hp2 hpn box0
                refine RD.run rfl ?_
                refine RD.many rfl (RDAll.c (RDStep.mk (i := 14) rfl rfl rfl rfl (OW.loadP tysOk rfl rfl rfl (rowOf_get hp2 h12a) rfl (X := fun _ _ => False)) ?_ (fun _ _ h => False.elim h)) RDAll.n)
                · rintro _ _ ⟨rfl, hs2⟩
                  rw [hs2]
                  clear hs2
                  refine RD.run rfl ?_
                  refine RD.many rfl (RDAll.c (RDStep.mk (i := 16) rfl rfl rfl rfl (OW.append1F tysOk (t4.set b16 box0) rfl rfl rfl rfl (by intro k h; cases h) rfl rfl rfl rfl rfl rfl rfl rfl a4 a6 rfl hp2 (Store.sub_refl _) (X := fun _ _ => False)) ?_ (fun _ _ h => False.elim h)) RDAll.n)
                  · rintro _ _ ⟨rfl, hs2⟩
                    rw [hs2]
                    clear hs2
                    refine RD.run rfl ?_
                    refine RD.many rfl (RDAll.c (RDStep.mk (i := 18) rfl rfl rfl rfl (OW.call rfl (fv := .func 99 [] []) rfl rfl (ACallV.of_calls (hcall1 _ _ hR))) ?_ (fun _ _ ⟨h, _⟩ => by cases h)) RDAll.n)
                    · rintro _ _ ⟨⟨⟩, T4, own4, hQ, g2, g3⟩
                      refine RD.run rfl ?_
                      refine RD.oneN (i := 20) rfl rfl rfl rfl (OW.storeP tysOk rfl rfl rfl rfl rfl rfl rfl (hQ.get (Store.set_same _ _ _)) rfl (X := fun _ _ => False)) ?_ (fun _ _ h => False.elim h)
                      rintro _ _ rfl
                      refine RD.run rfl (RD.done rfl ?_)
                      have hZ := hQ.upd (.box 32 kb.cells) (Store.set_same _ _ _)
                      rw [Store.set_set] at hZ
                      exact ⟨rfl, (T4, own4, _, b16), ⟨hZ, hbn, g2, g3⟩, (by repeat (first | exact trivial | refine ⟨⟨_, rfl, AVle.refl _⟩, ?_⟩)), Store.sub_refl _⟩
            · rintro _ _ ⟨rfl, hs2⟩
              rw [hs2]
              clear hs2
              refine RD.run rfl ?_
              refine RD.many rfl (RDAll.c (RDStep.mk (i := 12) rfl rfl rfl rfl (OW.appendN tysOk rfl rfl rfl rfl (by intro k h; cases h) rfl rfl rfl (.inr rfl) rfl (strs_elem _) a8 a10 (X := fun _ _ => False)) ?_ (fun _ _ h => False.elim h)) (RDAll.c (RDStep.mk (i := 19) rfl rfl rfl rfl (OW.alloc tysOk rfl rfl rfl rfl (X := fun _ _ => False)) ?_ (fun _ _ h => False.elim h)) RDAll.n))
              · rintro _ _ ⟨p2, hp2, rfl, rfl⟩
                refine RD.run rfl ?_
                refine RD.many rfl (RDAll.c (RDStep.mk (i := 16) rfl rfl rfl rfl (OW.append1F tysOk t4 rfl rfl rfl rfl (by intro k h; cases h) rfl rfl rfl rfl rfl rfl rfl rfl a4 a6 rfl hp2 (Store.sub_refl _) (X := fun _ _ => False)) ?_ (fun _ _ h => False.elim h)) (RDAll.c (RDStep.mk (i := 19) rfl rfl rfl rfl (OW.alloc tysOk rfl rfl rfl rfl (X := fun _ _ => False)) ?_ (fun _ _ h => False.elim h)) RDAll.n))
                · rintro _ _ ⟨rfl, hs2⟩
                  rw [hs2]
                  clear hs2
                  refine RD.run rfl ?_
                  refine RD.many rfl (RDAll.c (RDStep.mk (i := 18) rfl rfl rfl rfl (OW.call rfl (fv := .func 99 [] []) rfl rfl (ACallV.of_calls (hcall1 _ _ hJ3))) ?_ (fun _ _ ⟨h, _⟩ => by cases h)) (RDAll.c (RDStep.mk (i := 19) rfl rfl rfl rfl (OW.alloc tysOk rfl rfl rfl rfl (X := fun _ _ => False)) ?_ (fun _ _ h => False.elim h)) RDAll.n))
                  · rintro _ _ ⟨⟨⟩, T4, own4, hQ, g2, g3⟩
                    refine RD.run rfl ?_
                    refine RD.many rfl (RDAll.c (RDStep.mk (i := 19) rfl rfl rfl rfl (OW.alloc tysOk rfl rfl rfl rfl (X := fun _ _ => False)) ?_ (fun _ _ h => False.elim h)) RDAll.n)
                    · rintro _ _ ⟨b16, hf16, rfl, hs2⟩
                      rw [hs2]
                      clear hs2
                      have hbn := hQ.snone hf16
                      have hQ := hQ.add box0 hf16
                      refine RD.run rfl ?_
                      refine RD.oneN (i := 20) rfl rfl rfl rfl (OW.storeP tysOk rfl rfl rfl rfl rfl rfl rfl (hQ.get (Store.set_same _ _ _)) rfl (X := fun _ _ => False)) ?_ (fun _ _ h => False.elim h)
                      rintro _ _ rfl
                      refine RD.run rfl (RD.done rfl ?_)
                      have hZ := hQ.upd (.box 32 kb.cells) (Store.set_same _ _ _)
                      rw [Store.set_set] at hZ
                      exact ⟨rfl, (T4, own4, _, b16), ⟨hZ, hbn, g2, g3⟩, (by repeat (first | exact trivial | refine ⟨⟨_, rfl, AVle.refl _⟩, ?_⟩)), Store.sub_refl _⟩
                  · rintro _ _ ⟨b16, hf16, rfl, hs2⟩
                    rw [hs2]
                    clear hs2
                    have hbn := hJ3.snone hf16
                    have hR := hJ3.add box0 hf16
                    have h12a := (Store.set_ne t4 box0 (ne_of_some h12 hf16)).trans h12
                    refine RD.run rfl ?_
                    refine RD.many rfl (RDAll.c (RDStep.mk (i := 18) rfl rfl rfl rfl (OW.call rfl (fv := .func 99 [] []) rfl rfl (ACallV.of_calls (hcall1 _ _ hR))) ?_ (fun _ _ ⟨h, _⟩ => by cases h)) RDAll.n)
                    · rintro _ _ ⟨⟨⟩, T4, own4, hQ, g2, g3⟩
                      refine RD.run rfl ?_
                      refine RD.oneN (i := 20) rfl rfl rfl rfl (OW.storeP tysOk rfl rfl rfl rfl rfl rfl rfl (hQ.get (Store.set_same _ _ _)) rfl (X := fun _ _ => False)) ?_ (fun _ _ h => False.elim h)
                      rintro _ _ rfl
                      refine RD.run rfl (RD.done rfl ?_)
                      have hZ := hQ.upd (.box 32 kb.cells) (Store.set_same _ _ _)
                      rw [Store.set_set] at hZ
                      exact ⟨rfl, (T4, own4, _, b16), ⟨hZ, hbn, g2, g3⟩, (by repeat (first | exact trivial | refine ⟨⟨_, rfl, AVle.refl _⟩, ?_⟩)), Store.sub_refl _⟩
                · rintro _ _ ⟨b16, hf16, rfl, hs2⟩
                  rw [hs2]
                  clear hs2
                  obtain ⟨hpn, hf16⟩ := rowOf_none hf16
                  have hbn := hJ3.snone hf16
                  have hR := hJ3.add box0 hf16
                  have h12a := (Store.set_ne t4 box0 (ne_of_some h12 hf16)).trans h12
                  rw [rowOf_set hpn]
                  have hp2 := OwnOk.add hp2 hpn box0
                  refine RD.run rfl ?_
                  refine RD.many rfl (RDAll.c (RDStep.mk (i := 16) rfl rfl rfl rfl (OW.append1F tysOk (t4.set b16 box0) rfl rfl rfl rfl (by intro k h; cases h) rfl rfl rfl rfl rfl rfl rfl rfl a4 a6 rfl hp2 (Store.sub_refl _) (X := fun _ _ => False)) ?_ (fun _ _ h => False.elim h)) RDAll.n)
                  · rintro _ _ ⟨rfl, hs2⟩
                    rw [hs2]
                    clear hs2
                    refine RD.run rfl ?_
                    refine RD.many rfl (RDAll.c (RDStep.mk (i := 18) rfl rfl rfl rfl (OW.call rfl (fv := .func 99 [] []) rfl rfl (ACallV.of_calls (hcall1 _ _ hR))) ?_ (fun _ _ ⟨h, _⟩ => by cases h)) RDAll.n)
                    · rintro _ _ ⟨⟨⟩, T4, own4, hQ, g2, g3⟩
                      refine RD.run rfl ?_
                      refine RD.oneN (i := 20) rfl rfl rfl rfl (OW.storeP tysOk rfl rfl rfl rfl rfl rfl rfl (hQ.get (Store.set_same _ _ _)) rfl (X := fun _ _ => False)) ?_ (fun _ _ h => False.elim h)
                      rintro _ _ rfl
                      refine RD.run rfl (RD.done rfl ?_)
                      have hZ := hQ.upd (.box 32 kb.cells) (Store.set_same _ _ _)
                      rw [Store.set_set] at hZ
                      exact ⟨rfl, (T4, own4, _, b16), ⟨hZ, hbn, g2, g3⟩, (by repeat (first | exact trivial | refine ⟨⟨_, rfl, AVle.refl _⟩, ?_⟩)), Store.sub_refl _⟩
              · rintro _ _ ⟨b16, hf16, rfl, hs2⟩
                rw [hs2]
                clear hs2
                have hbn := hJ3.snone hf16
                have hR := hJ3.add box0 hf16
                have h12a := (Store.set_ne t4 box0 (ne_of_some h12 hf16)).trans h12
                refine RD.run rfl ?_
                refine RD.many rfl (RDAll.c (RDStep.mk (i := 12) rfl rfl rfl rfl (OW.appendN tysOk rfl rfl rfl rfl (by intro k h; cases h) rfl rfl rfl (.inr rfl) rfl (strs_elem _) a8 a10 (X := fun _ _ => False)) ?_ (fun _ _ h => False.elim h)) RDAll.n)
                · rintro _ _ ⟨p2, hp2, rfl, rfl⟩
                  refine RD.run rfl ?_
                  refine RD.many rfl (RDAll.c (RDStep.mk (i := 16) rfl rfl rfl rfl (OW.append1F tysOk (t4.set b16 box0) rfl rfl rfl rfl (by intro k h; cases h) rfl rfl rfl rfl rfl rfl rfl rfl a4 a6 rfl hp2 (Store.sub_refl _) (X := fun _ _ => False)) ?_ (fun _ _ h => False.elim h)) RDAll.n)
                  · rintro _ _ ⟨rfl, hs2⟩
                    rw [hs2]
                    clear hs2
                    refine RD.run rfl ?_
                    refine RD.many rfl (RDAll.c (RDStep.mk (i := 18) rfl rfl rfl rfl (OW.call rfl (fv := .func 99 [] []) rfl rfl (ACallV.of_calls (hcall1 _ _ hR))) ?_ (fun _ _ ⟨h, _⟩ => by cases h)) RDAll.n)
                    · rintro _ _ ⟨⟨⟩, T4, own4, hQ, g2, g3⟩
                      refine RD.run rfl ?_
                      refine RD.oneN (i := 20) rfl rfl rfl rfl (OW.storeP tysOk rfl rfl rfl rfl rfl rfl rfl (hQ.get (Store.set_same _ _ _)) rfl (X := fun _ _ => False)) ?_ (fun _ _ h => False.elim h)
                      rintro _ _ rfl
                      refine RD.run rfl (RD.done rfl ?_)
                      have hZ := hQ.upd (.box 32 kb.cells) (Store.set_same _ _ _)
                      rw [Store.set_set] at hZ
                      exact ⟨rfl, (T4, own4, _, b16), ⟨hZ, hbn, g2, g3⟩, (by repeat (first | exact trivial | refine ⟨⟨_, rfl, AVle.refl _⟩, ?_⟩)), Store.sub_refl _⟩
            · rintro _ _ ⟨b16, hf16, rfl, hs2⟩
              rw [hs2]
              clear hs2
              have hbn := hJ3.snone hf16
              have hR := hJ3.add box0 hf16
              have h12a := (Store.set_ne t4 box0 (ne_of_some h12 hf16)).trans h12
              refine RD.run rfl ?_
              refine RD.many rfl (RDAll.c (RDStep.mk (i := 12) rfl rfl rfl rfl (OW.appendN tysOk rfl rfl rfl rfl (by intro k h; cases h) rfl rfl rfl (.inr rfl) rfl (strs_elem _) a8 a10 (X := fun _ _ => False)) ?_ (fun _ _ h => False.elim h)) (RDAll.c (RDStep.mk (i := 14) rfl rfl rfl rfl (OW.loadP tysOk rfl rfl rfl h12a rfl (X := fun _ _ => False)) ?_ (fun _ _ h => False.elim h)) RDAll.n))
              · rintro _ _ ⟨p2, hp2, rfl, rfl⟩
                refine RD.run rfl ?_
                refine RD.many rfl (RDAll.c (RDStep.mk (i := 14) rfl rfl rfl rfl (OW.loadP tysOk rfl rfl rfl (rowOf_get hp2 h12a) rfl (X := fun _ _ => False)) ?_ (fun _ _ h => False.elim h)) RDAll.n)
                · rintro _ _ ⟨rfl, hs2⟩
                  rw [hs2]
                  clear hs2
                  refine RD.run rfl ?_
                  refine RD.many rfl (RDAll.c (RDStep.mk (i := 16) rfl rfl rfl rfl (OW.append1F tysOk (t4.set b16 box0) rfl rfl rfl rfl (by intro k h; cases h) rfl rfl rfl rfl rfl rfl rfl rfl a4 a6 rfl hp2 (Store.sub_refl _) (X := fun _ _ => False)) ?_ (fun _ _ h => False.elim h)) RDAll.n)
                  · rintro _ _ ⟨rfl, hs2⟩
                    rw [hs2]
                    clear hs2
                    refine RD.run rfl ?_
                    refine RD.many rfl (RDAll.c (RDStep.mk (i := 18) rfl rfl rfl rfl (OW.call rfl (fv := .func 99 [] []) rfl rfl (ACallV.of_calls (hcall1 _ _ hR))) ?_ (fun _ _ ⟨h, _⟩ => by cases h)) RDAll.n)
                    · rintro _ _ ⟨⟨⟩, T4, own4, hQ, g2, g3⟩
                      refine RD.run rfl ?_
                      refine RD.oneN (i := 20) rfl rfl rfl rfl (OW.storeP tysOk rfl rfl rfl rfl rfl rfl rfl (hQ.get (Store.set_same _ _ _)) rfl (X := fun _ _ => False)) ?_ (fun _ _ h => False.elim h)
                      rintro _ _ rfl
                      refine RD.run rfl (RD.done rfl ?_)
                      have hZ := hQ.upd (.box 32 kb.cells) (Store.set_same _ _ _)
                      rw [Store.set_set] at hZ
                      exact ⟨rfl, (T4, own4, _, b16), ⟨hZ, hbn, g2, g3⟩, (by repeat (first | exact trivial | refine ⟨⟨_, rfl, AVle.refl _⟩, ?_⟩)), Store.sub_refl _⟩
              · rintro _ _ ⟨rfl, hs2⟩
                rw [hs2]
                clear hs2
                refine RD.run rfl ?_
                refine RD.many rfl (RDAll.c (RDStep.mk (i := 12) rfl rfl rfl rfl (OW.appendN tysOk rfl rfl rfl rfl (by intro k h; cases h) rfl rfl rfl (.inr rfl) rfl (strs_elem _) a8 a10 (X := fun _ _ => False)) ?_ (fun _ _ h => False.elim h)) RDAll.n)
                · rintro _ _ ⟨p2, hp2, rfl, rfl⟩
                  refine RD.run rfl ?_
                  refine RD.many rfl (RDAll.c (RDStep.mk (i := 16) rfl rfl rfl rfl (OW.append1F tysOk (t4.set b16 box0) rfl rfl rfl rfl (by intro k h; cases h) rfl rfl rfl rfl rfl rfl rfl rfl a4 a6 rfl hp2 (Store.sub_refl _) (X := fun _ _ => False)) ?_ (fun _ _ h => False.elim h)) RDAll.n)
                  · rintro _ _ ⟨rfl, hs2⟩
                    rw [hs2]
                    clear hs2
                    refine RD.run rfl ?_
                    refine RD.many rfl (RDAll.c (RDStep.mk (i := 18) rfl rfl rfl rfl (OW.call rfl (fv := .func 99 [] []) rfl rfl (ACallV.of_calls (hcall1 _ _ hR))) ?_ (fun _ _ ⟨h, _⟩ => by cases h)) RDAll.n)
                    · rintro _ _ ⟨⟨⟩, T4, own4, hQ, g2, g3⟩
                      refine RD.run rfl ?_
                      refine RD.oneN (i := 20) rfl rfl rfl rfl (OW.storeP tysOk rfl rfl rfl rfl rfl rfl rfl (hQ.get (Store.set_same _ _ _)) rfl (X := fun _ _ => False)) ?_ (fun _ _ h => False.elim h)
                      rintro _ _ rfl
                      refine RD.run rfl (RD.done rfl ?_)
                      have hZ := hQ.upd (.box 32 kb.cells) (Store.set_same _ _ _)
                      rw [Store.set_set] at hZ
                      exact ⟨rfl, (T4, own4, _, b16), ⟨hZ, hbn, g2, g3⟩, (by repeat (first | exact trivial | refine ⟨⟨_, rfl, AVle.refl _⟩, ?_⟩)), Store.sub_refl _⟩
          · rintro _ _ ⟨rfl, hs2⟩
            rw [hs2]
            clear hs2
            refine RD.run rfl ?_
            refine RD.many rfl (RDAll.c (RDStep.mk (i := 10) rfl rfl rfl rfl (OW.append1F tysOk t4 rfl rfl rfl rfl (by intro k h; cases h) rfl rfl rfl rfl rfl rfl rfl rfl a3 a5 rfl hp1 (Store.sub_refl _) (X := fun _ _ => False)) ?_ (fun _ _ h => False.elim h)) (RDAll.c (RDStep.mk (i := 19) rfl rfl rfl rfl (OW.alloc tysOk rfl rfl rfl rfl (X := fun _ _ => False)) ?_ (fun _ _ h => False.elim h)) RDAll.n))
            · rintro _ _ ⟨rfl, hs2⟩
              rw [hs2]
              clear hs2
              refine RD.run rfl ?_
              refine RD.many rfl (RDAll.c (RDStep.mk (i := 12) rfl rfl rfl rfl (OW.appendN tysOk rfl rfl rfl rfl (by intro k h; cases h) rfl rfl rfl (.inr rfl) rfl (strs_elem _) a8 a10 (X := fun _ _ => False)) ?_ (fun _ _ h => False.elim h)) (RDAll.c (RDStep.mk (i := 19) rfl rfl rfl rfl (OW.alloc tysOk rfl rfl rfl rfl (X := fun _ _ => False)) ?_ (fun _ _ h => False.elim h)) RDAll.n))
              · rintro _ _ ⟨p2, hp2, rfl, rfl⟩
                refine RD.run rfl ?_
                refine RD.many rfl (RDAll.c (RDStep.mk (i := 16) rfl rfl rfl rfl (OW.append1F tysOk t4 rfl rfl rfl rfl (by intro k h; cases h) rfl rfl rfl rfl rfl rfl rfl rfl a4 a6 rfl hp2 (Store.sub_refl _) (X := fun _ _ => False)) ?_ (fun _ _ h => False.elim h)) (RDAll.c (RDStep.mk (i := 19) rfl rfl rfl rfl (OW.alloc tysOk rfl rfl rfl rfl (X := fun _ _ => False)) ?_ (fun _ _ h => False.elim h)) RDAll.n))
                · rintro _ _ ⟨rfl, hs2⟩
                  rw [hs2]
                  clear hs2
                  refine RD.run rfl ?_
                  refine RD.many rfl (RDAll.c (RDStep.mk (i := 18) rfl rfl rfl rfl (OW.call rfl (fv := .func 99 [] []) rfl rfl (ACallV.of_calls (hcall1 _ _ hJ3))) ?_ (fun _ _ ⟨h, _⟩ => by cases h)) (RDAll.c (RDStep.mk (i := 19) rfl rfl rfl rfl (OW.alloc tysOk rfl rfl rfl rfl (X := fun _ _ => False)) ?_ (fun _ _ h => False.elim h)) RDAll.n))
                  · rintro _ _ ⟨⟨⟩, T4, own4, hQ, g2, g3⟩
                    refine RD.run rfl ?_
                    refine RD.many rfl (RDAll.c (RDStep.mk (i := 19) rfl rfl rfl rfl (OW.alloc tysOk rfl rfl rfl rfl (X := fun _ _ => False)) ?_ (fun _ _ h => False.elim h)) RDAll.n)
                    · rintro _ _ ⟨b16, hf16, rfl, hs2⟩
                      rw [hs2]
                      clear hs2
                      have hbn := hQ.snone hf16
                      have hQ := hQ.add box0 hf16
                      refine RD.run rfl ?_
                      refine RD.oneN (i := 20) rfl rfl rfl rfl (OW.storeP tysOk rfl rfl rfl rfl rfl rfl rfl (hQ.get (Store.set_same _ _ _)) rfl (X := fun _ _ => False)) ?_ (fun _ _ h => False.elim h)
                      rintro _ _ rfl
                      refine RD.run rfl (RD.done rfl ?_)
                      have hZ := hQ.upd (.box 32 kb.cells) (Store.set_same _ _ _)
                      rw [Store.set_set] at hZ
                      exact ⟨rfl, (T4, own4, _, b16), ⟨hZ, hbn, g2, g3⟩, (by repeat (first | exact trivial | refine ⟨⟨_, rfl, AVle.refl _⟩, ?_⟩)), Store.sub_refl _⟩
                  · rintro _ _ ⟨b16, hf16, rfl, hs2⟩
                    rw [hs2]
                    clear hs2
                    have hbn := hJ3.snone hf16
                    have hR := hJ3.add box0 hf16
                    have h12a := (Store.set_ne t4 box0 (ne_of_some h12 hf16)).trans h12
                    refine RD.run rfl ?_
                    refine RD.many rfl (RDAll.c (RDStep.mk (i := 18) rfl rfl rfl rfl (OW.call rfl (fv := .func 99 [] []) rfl rfl (ACallV.of_calls (hcall1 _ _ hR))) ?_ (fun _ _ ⟨h, _⟩ => by cases h)) RDAll.n)
                    · rintro _ _ ⟨⟨⟩, T4, own4, hQ, g2, g3⟩
                      refine RD.run rfl ?_
                      refine RD.oneN (i := 20) rfl rfl rfl rfl (OW.storeP tysOk rfl rfl rfl rfl rfl rfl rfl (hQ.get (Store.set_same _ _ _)) rfl (X := fun _ _ => False)) ?_ (fun _ _ h => False.elim h)
                      rintro _ _ rfl
                      refine RD.run rfl (RD.done rfl ?_)
                      have hZ := hQ.upd (.box 32 kb.cells) (Store.set_same _ _ _)
                      rw [Store.set_set] at hZ
                      exact ⟨rfl, (T4, own4, _, b16), ⟨hZ, hbn, g2, g3⟩, (by repeat (first | exact trivial | refine ⟨⟨_, rfl, AVle.refl _⟩, ?_⟩)), Store.sub_refl _⟩
                · rintro _ _ ⟨b16, hf16, rfl, hs2⟩
                  rw [hs2]
                  clear hs2
                  obtain ⟨hpn, hf16⟩ := rowOf_none hf16
                  have hbn := hJ3.snone hf16
                  have hR := hJ3.add box0 hf16
                  have h12a := (Store.set_ne t4 box0 (ne_of_some h12 hf16)).trans h12
                  rw [rowOf_set hpn]
                  have hp2 := OwnOk.add hp2 hpn box0
                  refine RD.run rfl ?_
                  refine RD.many rfl (RDAll.c (RDStep.mk (i := 16) rfl rfl rfl rfl (OW.append1F tysOk (t4.set b16 box0) rfl rfl rfl rfl (by intro k h; cases h) rfl rfl rfl rfl rfl rfl rfl rfl a4 a6 rfl hp2 (Store.sub_refl _) (X := fun _ _ => False)) ?_ (fun _ _ h => False.elim h)) RDAll.n)
                  · rintro _ _ ⟨rfl, hs2⟩
                    rw [hs2]
                    clear hs2
                    refine RD.run rfl ?_
                    refine RD.many rfl (RDAll.c (RDStep.mk (i := 18) rfl rfl rfl rfl (OW.call rfl (fv := .func 99 [] []) rfl rfl (ACallV.of_calls (hcall1 _ _ hR))) ?_ (fun _ _ ⟨h, _⟩ => by cases h)) RDAll.n)
                    · rintro _ _ ⟨⟨⟩, T4, own4, hQ, g2, g3⟩
                      refine RD.run rfl ?_
                      refine RD.oneN (i := 20) rfl rfl rfl rfl (OW.storeP tysOk rfl rfl rfl rfl rfl rfl rfl (hQ.get (Store.set_same _ _ _)) rfl (X := fun _ _ => False)) ?_ (fun _ _ h => False.elim h)
                      rintro _ _ rfl
                      refine RD.run rfl (RD.done rfl ?_)
                      have hZ := hQ.upd (.box 32 kb.cells) (Store.set_same _ _ _)
                      rw [Store.set_set] at hZ
                      exact ⟨rfl, (T4, own4, _, b16), ⟨hZ, hbn, g2, g3⟩, (by repeat (first | exact trivial | refine ⟨⟨_, rfl, AVle.refl _⟩, ?_⟩)), Store.sub_refl _⟩
              · rintro _ _ ⟨b16, hf16, rfl, hs2⟩
                rw [hs2]
                clear hs2
                have hbn := hJ3.snone hf16
                have hR := hJ3.add box0 hf16
                have h12a := (Store.set_ne t4 box0 (ne_of_some h12 hf16)).trans h12
                refine RD.run rfl ?_
                refine RD.many rfl (RDAll.c (RDStep.mk (i := 12) rfl rfl rfl rfl (OW.appendN tysOk rfl rfl rfl rfl (by intro k h; cases h) rfl rfl rfl (.inr rfl) rfl (strs_elem _) a8 a10 (X := fun _ _ => False)) ?_ (fun _ _ h => False.elim h)) RDAll.n)
                · rintro _ _ ⟨p2, hp2, rfl, rfl⟩
                  refine RD.run rfl ?_
                  refine RD.many rfl (RDAll.c (RDStep.mk (i := 16) rfl rfl rfl rfl (OW.append1F tysOk (t4.set b16 box0) rfl rfl rfl rfl (by intro k h; cases h) rfl rfl rfl rfl rfl rfl rfl rfl a4 a6 rfl hp2 (Store.sub_refl _) (X := fun _ _ => False)) ?_ (fun _ _ h => False.elim h)) RDAll.n)
                  · rintro _ _ ⟨rfl, hs2⟩
                    rw [hs2]
                    clear hs2
                    refine RD.run rfl ?_
                    refine RD.many rfl (RDAll.c (RDStep.mk (i := 18) rfl rfl rfl rfl (OW.call rfl (fv := .func 99 [] []) rfl rfl (ACallV.of_calls (hcall1 _ _ hR))) ?_ (fun _ _ ⟨h, _⟩ => by cases h)) RDAll.n)
                    · rintro _ _ ⟨⟨⟩, T4, own4, hQ, g2, g3⟩
                      refine RD.run rfl ?_
                      refine RD.oneN (i := 20) rfl rfl rfl rfl (OW.storeP tysOk rfl rfl rfl rfl rfl rfl rfl (hQ.get (Store.set_same _ _ _)) rfl (X := fun _ _ => False)) ?_ (fun _ _ h => False.elim h)
                      rintro _ _ rfl
                      refine RD.run rfl (RD.done rfl ?_)
                      have hZ := hQ.upd (.box 32 kb.cells) (Store.set_same _ _ _)
                      rw [Store.set_set] at hZ
                      exact ⟨rfl, (T4, own4, _, b16), ⟨hZ, hbn, g2, g3⟩, (by repeat (first | exact trivial | refine ⟨⟨_, rfl, AVle.refl _⟩, ?_⟩)), Store.sub_refl _⟩
            · rintro _ _ ⟨b16, hf16, rfl, hs2⟩
              rw [hs2]
              clear hs2
              obtain ⟨hpn, hf16⟩ := rowOf_none hf16
              have hbn := hJ3.snone hf16
              have hR := hJ3.add box0 hf16
              have h12a := (Store.set_ne t4 box0 (ne_of_some h12 hf16)).trans h12
              rw [rowOf_set hpn]
              have hp1 := OwnOk.add hp1 hpn box0
              refine RD.run rfl ?_
              refine RD.many rfl (RDAll.c (RDStep.mk (i := 10) rfl rfl rfl rfl (OW.append1F tysOk (t4.set b16 box0) rfl rfl rfl rfl (by intro k h; cases h) rfl rfl rfl rfl rfl rfl rfl rfl a3 a5 rfl hp1 (Store.sub_refl _) (X := fun _ _ => False)) ?_ (fun _ _ h => False.elim h)) RDAll.n)
              · rintro _ _ ⟨rfl, hs2⟩
                rw [hs2]
                clear hs2
                refine RD.run rfl ?_
                refine RD.many rfl (RDAll.c (RDStep.mk (i := 12) rfl rfl rfl rfl (OW.appendN tysOk rfl rfl rfl rfl (by intro k h; cases h) rfl rfl rfl (.inr rfl) rfl (strs_elem _) a8 a10 (X := fun _ _ => False)) ?_ (fun _ _ h => False.elim h)) RDAll.n)
                · rintro _ _ ⟨p2, hp2, rfl, rfl⟩
                  refine RD.run rfl ?_
                  refine RD.many rfl (RDAll.c (RDStep.mk (i := 16) rfl rfl rfl rfl (OW.append1F tysOk (t4.set b16 box0) rfl rfl rfl rfl (by intro k h; cases h) rfl rfl rfl rfl rfl rfl rfl rfl a4 a6 rfl hp2 (Store.sub_refl _) (X := fun _ _ => False)) ?_ (fun _ _ h => False.elim h)) RDAll.n)
                  · rintro _ _ ⟨rfl, hs2⟩
                    rw [hs2]
                    clear hs2
                    refine RD.run rfl ?_
                    refine RD.many rfl (RDAll.c (RDStep.mk (i := 18) rfl rfl rfl rfl (OW.call rfl (fv := .func 99 [] []) rfl rfl (ACallV.of_calls (hcall1 _ _ hR))) ?_ (fun _ _ ⟨h, _⟩ => by cases h)) RDAll.n)
                    · rintro _ _ ⟨⟨⟩, T4, own4, hQ, g2, g3⟩
                      refine RD.run rfl ?_
                      refine RD.oneN (i := 20) rfl rfl rfl rfl (OW.storeP tysOk rfl rfl rfl rfl rfl rfl rfl (hQ.get (Store.set_same _ _ _)) rfl (X := fun _ _ => False)) ?_ (fun _ _ h => False.elim h)
                      rintro _ _ rfl
                      refine RD.run rfl (RD.done rfl ?_)
                      have hZ := hQ.upd (.box 32 kb.cells) (Store.set_same _ _ _)
                      rw [Store.set_set] at hZ
                      exact ⟨rfl, (T4, own4, _, b16), ⟨hZ, hbn, g2, g3⟩, (by repeat (first | exact trivial | refine ⟨⟨_, rfl, AVle.refl _⟩, ?_⟩)), Store.sub_refl _⟩
          · rintro _ _ ⟨b16, hf16, rfl, hs2⟩
            rw [hs2]
            clear hs2
            obtain ⟨hpn, hf16⟩ := rowOf_none hf16
            have hbn := hJ3.snone hf16
            have hR := hJ3.add box0 hf16
            have h12a := (Store.set_ne t4 box0 (ne_of_some h12 hf16)).trans h12
            rw [rowOf_set hpn]
            have hp1 := OwnOk.add hp1 hpn box0
            refine RD.run rfl ?_
            refine RD.many rfl (RDAll.c (RDStep.mk (i := 10) rfl rfl rfl rfl (OW.append1F tysOk (t4.set b16 box0) rfl rfl rfl rfl (by intro k h; cases h) rfl rfl rfl rfl rfl rfl rfl rfl a3 a5 rfl hp1 (Store.sub_refl _) (X := fun _ _ => False)) ?_ (fun _ _ h => False.elim h)) (RDAll.c (RDStep.mk (i := 14) rfl rfl rfl rfl (OW.loadP tysOk rfl rfl rfl (rowOf_get hp1 h12a) rfl (X := fun _ _ => False)) ?_ (fun _ _ h => False.elim h)) RDAll.n))
            · rintro _ _ ⟨rfl, hs2⟩
              rw [hs2]
              clear hs2
              refine RD.run rfl ?_
              refine RD.many rfl (RDAll.c (RDStep.mk (i := 12) rfl rfl rfl rfl (OW.appendN tysOk rfl rfl rfl rfl (by intro k h; cases h) rfl rfl rfl (.inr rfl) rfl (strs_elem _) a8 a10 (X := fun _ _ => False)) ?_ (fun _ _ h => False.elim h)) (RDAll.c (RDStep.mk (i := 14) rfl rfl rfl rfl (OW.loadP tysOk rfl rfl rfl h12a rfl (X := fun _ _ => False)) ?_ (fun _ _ h => False.elim h)) RDAll.n))
              · rintro _ _ ⟨p2, hp2, rfl, rfl⟩
                refine RD.run rfl ?_
                refine RD.many rfl (RDAll.c (RDStep.mk (i := 14) rfl rfl rfl rfl (OW.loadP tysOk rfl rfl rfl (rowOf_get hp2 h12a) rfl (X := fun _ _ => False)) ?_ (fun _ _ h => False.elim h)) RDAll.n)
                · rintro _ _ ⟨rfl, hs2⟩
                  rw [hs2]
                  clear hs2
                  refine RD.run rfl ?_
                  refine RD.many rfl (RDAll.c (RDStep.mk (i := 16) rfl rfl rfl rfl (OW.append1F tysOk (t4.set b16 box0) rfl rfl rfl rfl (by intro k h; cases h) rfl rfl rfl rfl rfl rfl rfl rfl a4 a6 rfl hp2 (Store.sub_refl _) (X := fun _ _ => False)) ?_ (fun _ _ h => False.elim h)) RDAll.n)
                  · rintro _ _ ⟨rfl, hs2⟩
                    rw [hs2]
                    clear hs2
                    refine RD.run rfl ?_
                    refine RD.many rfl (RDAll.c (RDStep.mk (i := 18) rfl rfl rfl rfl (OW.call rfl (fv := .func 99 [] []) rfl rfl (ACallV.of_calls (hcall1 _ _ hR))) ?_ (fun _ _ ⟨h, _⟩ => by cases h)) RDAll.n)
                    · rintro _ _ ⟨⟨⟩, T4, own4, hQ, g2, g3⟩
                      refine RD.run rfl ?_
                      refine RD.oneN (i := 20) rfl rfl rfl rfl (OW.storeP tysOk rfl rfl rfl rfl rfl rfl rfl (hQ.get (Store.set_same _ _ _)) rfl (X := fun _ _ => False)) ?_ (fun _ _ h => False.elim h)
                      rintro _ _ rfl
                      refine RD.run rfl (RD.done rfl ?_)
                      have hZ := hQ.upd (.box 32 kb.cells) (Store.set_same _ _ _)
                      rw [Store.set_set] at hZ
                      exact ⟨rfl, (T4, own4, _, b16), ⟨hZ, hbn, g2, g3⟩, (by repeat (first | exact trivial | refine ⟨⟨_, rfl, AVle.refl _⟩, ?_⟩)), Store.sub_refl _⟩
              · rintro _ _ ⟨rfl, hs2⟩
                rw [hs2]
                clear hs2
                refine RD.run rfl ?_
                refine RD.many rfl (RDAll.c (RDStep.mk (i := 12) rfl rfl rfl rfl (OW.appendN tysOk rfl rfl rfl rfl (by intro k h; cases h) rfl rfl rfl (.inr rfl) rfl (strs_elem _) a8 a10 (X := fun _ _ => False)) ?_ (fun _ _ h => False.elim h)) RDAll.n)
                · rintro _ _ ⟨p2, hp2, rfl, rfl⟩
                  refine RD.run rfl ?_
                  refine RD.many rfl (RDAll.c (RDStep.mk (i := 16) rfl rfl rfl rfl (OW.append1F tysOk (t4.set b16 box0) rfl rfl rfl rfl (by intro k h; cases h) rfl rfl rfl rfl rfl rfl rfl rfl a4 a6 rfl hp2 (Store.sub_refl _) (X := fun _ _ => False)) ?_ (fun _ _ h => False.elim h)) RDAll.n)
                  · rintro _ _ ⟨rfl, hs2⟩
                    rw [hs2]
                    clear hs2
                    refine RD.run rfl ?_
                    refine RD.many rfl (RDAll.c (RDStep.mk (i := 18) rfl rfl rfl rfl (OW.call rfl (fv := .func 99 [] []) rfl rfl (ACallV.of_calls (hcall1 _ _ hR))) ?_ (fun _ _ ⟨h, _⟩ => by cases h)) RDAll.n)
                    · rintro _ _ ⟨⟨⟩, T4, own4, hQ, g2, g3⟩
                      refine RD.run rfl ?_
                      refine RD.oneN (i := 20) rfl rfl rfl rfl (OW.storeP tysOk rfl rfl rfl rfl rfl rfl rfl (hQ.get (Store.set_same _ _ _)) rfl (X := fun _ _ => False)) ?_ (fun _ _ h => False.elim h)
                      rintro _ _ rfl
                      refine RD.run rfl (RD.done rfl ?_)
                      have hZ := hQ.upd (.box 32 kb.cells) (Store.set_same _ _ _)
                      rw [Store.set_set] at hZ
                      exact ⟨rfl, (T4, own4, _, b16), ⟨hZ, hbn, g2, g3⟩, (by repeat (first | exact trivial | refine ⟨⟨_, rfl, AVle.refl _⟩, ?_⟩)), Store.sub_refl _⟩
            · rintro _ _ ⟨rfl, hs2⟩
              rw [hs2]
              clear hs2
              refine RD.run rfl ?_
              refine RD.many rfl (RDAll.c (RDStep.mk (i := 10) rfl rfl rfl rfl (OW.append1F tysOk (t4.set b16 box0) rfl rfl rfl rfl (by intro k h; cases h) rfl rfl rfl rfl rfl rfl rfl rfl a3 a5 rfl hp1 (Store.sub_refl _) (X := fun _ _ => False)) ?_ (fun _ _ h => False.elim h)) RDAll.n)
              · rintro _ _ ⟨rfl, hs2⟩
                rw [hs2]
                clear hs2
                refine RD.run rfl ?_
                refine RD.many rfl (RDAll.c (RDStep.mk (i := 12) rfl rfl rfl rfl (OW.appendN tysOk rfl rfl rfl rfl (by intro k h; cases h) rfl rfl rfl (.inr rfl) rfl (strs_elem _) a8 a10 (X := fun _ _ => False)) ?_ (fun _ _ h => False.elim h)) RDAll.n)
                · rintro _ _ ⟨p2, hp2, rfl, rfl⟩
                  refine RD.run rfl ?_
                  refine RD.many rfl (RDAll.c (RDStep.mk (i := 16) rfl rfl rfl rfl (OW.append1F tysOk (t4.set b16 box0) rfl rfl rfl rfl (by intro k h; cases h) rfl rfl rfl rfl rfl rfl rfl rfl a4 a6 rfl hp2 (Store.sub_refl _) (X := fun _ _ => False)) ?_ (fun _ _ h => False.elim h)) RDAll.n)
                  · rintro _ _ ⟨rfl, hs2⟩
                    rw [hs2]
                    clear hs2
                    refine RD.run rfl ?_
                    refine RD.many rfl (RDAll.c (RDStep.mk (i := 18) rfl rfl rfl rfl (OW.call rfl (fv := .func 99 [] []) rfl rfl (ACallV.of_calls (hcall1 _ _ hR))) ?_ (fun _ _ ⟨h, _⟩ => by cases h)) RDAll.n)
                    · rintro _ _ ⟨⟨⟩, T4, own4, hQ, g2, g3⟩
                      refine RD.run rfl ?_
                      refine RD.oneN (i := 20) rfl rfl rfl rfl (OW.storeP tysOk rfl rfl rfl rfl rfl rfl rfl (hQ.get (Store.set_same _ _ _)) rfl (X := fun _ _ => False)) ?_ (fun _ _ h => False.elim h)
                      rintro _ _ rfl
                      refine RD.run rfl (RD.done rfl ?_)
                      have hZ := hQ.upd (.box 32 kb.cells) (Store.set_same _ _ _)
                      rw [Store.set_set] at hZ
                      exact ⟨rfl, (T4, own4, _, b16), ⟨hZ, hbn, g2, g3⟩, (by repeat (first | exact trivial | refine ⟨⟨_, rfl, AVle.refl _⟩, ?_⟩)), Store.sub_refl _⟩
        · rintro _ _ ⟨rfl, hs2⟩
          rw [hs2]
          clear hs2
          refine RD.run rfl ?_
          refine RD.many rfl (RDAll.c (RDStep.mk (i := 6) rfl rfl rfl rfl (OW.appendN tysOk rfl rfl rfl rfl (by intro k h; cases h) rfl rfl rfl (.inr rfl) rfl (strs_elem _) a7 a9 (X := fun _ _ => False)) ?_ (fun _ _ h => False.elim h)) (RDAll.c (RDStep.mk (i := 19) rfl rfl rfl rfl (OW.alloc tysOk rfl rfl rfl rfl (X := fun _ _ => False)) ?_ (fun _ _ h => False.elim h)) RDAll.n))
          · rintro _ _ ⟨p1, hp1, rfl, rfl⟩
            refine RD.run rfl ?_
            refine RD.many rfl (RDAll.c (RDStep.mk (i := 10) rfl rfl rfl rfl (OW.append1F tysOk t4 rfl rfl rfl rfl (by intro k h; cases h) rfl rfl rfl rfl rfl rfl rfl rfl a3 a5 rfl hp1 (Store.sub_refl _) (X := fun _ _ => False)) ?_ (fun _ _ h => False.elim h)) (RDAll.c (RDStep.mk (i := 19) rfl rfl rfl rfl (OW.alloc tysOk rfl rfl rfl rfl (X := fun _ _ => False)) ?_ (fun _ _ h => False.elim h)) RDAll.n))
            · rintro _ _ ⟨rfl, hs2⟩
              rw [hs2]
              clear hs2
              refine RD.run rfl ?_
              refine RD.many rfl (RDAll.c (RDStep.mk (i := 12) rfl rfl rfl rfl (OW.appendN tysOk rfl rfl rfl rfl (by intro k h; cases h) rfl rfl rfl (.inr rfl) rfl (strs_elem _) a8 a10 (X := fun _ _ => False)) ?_ (fun _ _ h => False.elim h)) (RDAll.c (RDStep.mk (i := 19) rfl rfl rfl rfl (OW.alloc tysOk rfl rfl rfl rfl (X := fun _ _ => False)) ?_ (fun _ _ h => False.elim h)) RDAll.n))
              · rintro _ _ ⟨p2, hp2, rfl, rfl⟩
                refine RD.run rfl ?_
                refine RD.many rfl (RDAll.c (RDStep.mk (i := 16) rfl rfl rfl rfl (OW.append1F tysOk t4 rfl rfl rfl rfl (by intro k h; cases h) rfl rfl rfl rfl rfl rfl rfl rfl a4 a6 rfl hp2 (Store.sub_refl _) (X := fun _ _ => False)) ?_ (fun _ _ h => False.elim h)) (RDAll.c (RDStep.mk (i := 19) rfl rfl rfl rfl (OW.alloc tysOk rfl rfl rfl rfl (X := fun _ _ => False)) ?_ (fun _ _ h => False.elim h)) RDAll.n))
                · rintro _ _ ⟨rfl, hs2⟩
                  rw [hs2]
                  clear hs2
                  refine RD.run rfl ?_
                  refine RD.many rfl (RDAll.c (RDStep.mk (i := 18) rfl rfl rfl rfl (OW.call rfl (fv := .func 99 [] []) rfl rfl (ACallV.of_calls (hcall1 _ _ hJ3))) ?_ (fun _ _ ⟨h, _⟩ => by cases h)) (RDAll.c (RDStep.mk (i := 19) rfl rfl rfl rfl (OW.alloc tysOk rfl rfl rfl rfl (X := fun _ _ => False)) ?_ (fun _ _ h => False.elim h)) RDAll.n))
                  · rintro _ _ ⟨⟨⟩, T4, own4, hQ, g2, g3⟩
                    refine RD.run rfl ?_
                    refine RD.many rfl (RDAll.c (RDStep.mk (i := 19) rfl rfl rfl rfl (OW.alloc tysOk rfl rfl rfl rfl (X := fun _ _ => False)) ?_ (fun _ _ h => False.elim h)) RDAll.n)
                    · rintro _ _ ⟨b16, hf16, rfl, hs2⟩
                      rw [hs2]
                      clear hs2
                      have hbn := hQ.snone hf16
                      have hQ := hQ.add box0 hf16
                      refine RD.run rfl ?_
                      refine RD.oneN (i := 20) rfl rfl rfl rfl (OW.storeP tysOk rfl rfl rfl rfl rfl rfl rfl (hQ.get (Store.set_same _ _ _)) rfl (X := fun _ _ => False)) ?_ (fun _ _ h => False.elim h)
                      rintro _ _ rfl
                      refine RD.run rfl (RD.done rfl ?_)
                      have hZ := hQ.upd (.box 32 kb.cells) (Store.set_same _ _ _)
                      rw [Store.set_set] at hZ
                      exact ⟨rfl, (T4, own4, _, b16), ⟨hZ, hbn, g2, g3⟩, (by repeat (first | exact trivial | refine ⟨⟨_, rfl, AVle.refl _⟩, ?_⟩)), Store.sub_refl _⟩
                  · rintro _ _ ⟨b16, hf16, rfl, hs2⟩
                    rw [hs2]
                    clear hs2
                    have hbn := hJ3.snone hf16
                    have hR := hJ3.add box0 hf16
                    have h12a := (Store.set_ne t4 box0 (ne_of_some h12 hf16)).trans h12
                    refine RD.run rfl ?_
                    refine RD.many rfl (RDAll.c (RDStep.mk (i := 18) rfl rfl rfl rfl (OW.call rfl (fv := .func 99 [] []) rfl rfl (ACallV.of_calls (hcall1 _ _ hR))) ?_ (fun _ _ ⟨h, _⟩ => by cases h)) RDAll.n)
                    · rintro _ _ ⟨⟨⟩, T4, own4, hQ, g2, g3⟩
                      refine RD.run rfl ?_
                      refine RD.oneN (i := 20) rfl rfl rfl rfl (OW.storeP tysOk rfl rfl rfl rfl rfl rfl rfl (hQ.get (Store.set_same _ _ _)) rfl (X := fun _ _ => False)) ?_ (fun _ _ h => False.elim h)
                      rintro _ _ rfl
                      refine RD.run rfl (RD.done rfl ?_)
                      have hZ := hQ.upd (.box 32 kb.cells) (Store.set_same _ _ _)
                      rw [Store.set_set] at hZ
                      exact ⟨rfl, (T4, own4, _, b16), ⟨hZ, hbn, g2, g3⟩, (by repeat (first | exact trivial | refine ⟨⟨_, rfl, AVle.refl _⟩, ?_⟩)), Store.sub_refl _⟩
                · rintro _ _ ⟨b16, hf16, rfl, hs2⟩
                  rw [hs2]
                  clear hs2
                  obtain ⟨hpn, hf16⟩ := rowOf_none hf16
                  have hbn := hJ3.snone hf16
                  have hR := hJ3.add box0 hf16
                  have h12a := (Store.set_ne t4 box0 (ne_of_some h12 hf16)).trans h12
                  rw [rowOf_set hpn]
                  have hp2 := OwnOk.add hp2 hpn box0
                  refine RD.run rfl ?_
                  refine RD.many rfl (RDAll.c (RDStep.mk (i := 16) rfl rfl rfl rfl (OW.append1F tysOk (t4.set b16 box0) rfl rfl rfl rfl (by intro k h; cases h) rfl rfl rfl rfl rfl rfl rfl rfl a4 a6 rfl hp2 (Store.sub_refl _) (X := fun _ _ => False)) ?_ (fun _ _ h => False.elim h)) RDAll.n)
                  · rintro _ _ ⟨rfl, hs2⟩
                    rw [hs2]
                    clear hs2
                    refine RD.run rfl ?_
                    refine RD.many rfl (RDAll.c (RDStep.mk (i := 18) rfl rfl rfl rfl (OW.call rfl (fv := .func 99 [] []) rfl rfl (ACallV.of_calls (hcall1 _ _ hR))) ?_ (fun _ _ ⟨h, _⟩ => by cases h)) RDAll.n)
                    · rintro _ _ ⟨⟨⟩, T4, own4, hQ, g2, g3⟩
                      refine RD.run rfl ?_
                      refine RD.oneN (i := 20) rfl rfl rfl rfl (OW.storeP tysOk rfl rfl rfl rfl rfl rfl rfl (hQ.get (Store.set_same _ _ _)) rfl (X := fun _ _ => False)) ?_ (fun _ _ h => False.elim h)
                      rintro _ _ rfl
                      refine RD.run rfl (RD.done rfl ?_)
                      have hZ := hQ.upd (.box 32 kb.cells) (Store.set_same _ _ _)
                      rw [Store.set_set] at hZ
                      exact ⟨rfl, (T4, own4, _, b16), ⟨hZ, hbn, g2, g3⟩, (by repeat (first | exact trivial | refine ⟨⟨_, rfl, AVle.refl _⟩, ?_⟩)), Store.sub_refl _⟩
              · rintro _ _ ⟨b16, hf16, rfl, hs2⟩
                rw [hs2]
                clear hs2
                have hbn := hJ3.snone hf16
                have hR := hJ3.add box0 hf16
                have h12a := (Store.set_ne t4 box0 (ne_of_some h12 hf16)).trans h12
                refine RD.run rfl ?_
                refine RD.many rfl (RDAll.c (RDStep.mk (i := 12) rfl rfl rfl rfl (OW.appendN tysOk rfl rfl rfl rfl (by intro k h; cases h) rfl rfl rfl (.inr rfl) rfl (strs_elem _) a8 a10 (X := fun _ _ => False)) ?_ (fun _ _ h => False.elim h)) RDAll.n)
                · rintro _ _ ⟨p2, hp2, rfl, rfl⟩
                  refine RD.run rfl ?_
                  refine RD.many rfl (RDAll.c (RDStep.mk (i := 16) rfl rfl rfl rfl (OW.append1F tysOk (t4.set b16 box0) rfl rfl rfl rfl (by intro k h; cases h) rfl rfl rfl rfl rfl rfl rfl rfl a4 a6 rfl hp2 (Store.sub_refl _) (X := fun _ _ => False)) ?_ (fun _ _ h => False.elim h)) RDAll.n)
                  · rintro _ _ ⟨rfl, hs2⟩
                    rw [hs2]
                    clear hs2
                    refine RD.run rfl ?_
                    refine RD.many rfl (RDAll.c (RDStep.mk (i := 18) rfl rfl rfl rfl (OW.call rfl (fv := .func 99 [] []) rfl rfl (ACallV.of_calls (hcall1 _ _ hR))) ?_ (fun _ _ ⟨h, _⟩ => by cases h)) RDAll.n)
                    · rintro _ _ ⟨⟨⟩, T4, own4, hQ, g2, g3⟩
                      refine RD.run rfl ?_
                      refine RD.oneN (i := 20) rfl rfl rfl rfl (OW.storeP tysOk rfl rfl rfl rfl rfl rfl rfl (hQ.get (Store.set_same _ _ _)) rfl (X := fun _ _ => False)) ?_ (fun _ _ h => False.elim h)
                      rintro _ _ rfl
                      refine RD.run rfl (RD.done rfl ?_)
                      have hZ := hQ.upd (.box 32 kb.cells) (Store.set_same _ _ _)
                      rw [Store.set_set] at hZ
                      exact ⟨rfl, (T4, own4, _, b16), ⟨hZ, hbn, g2, g3⟩, (by repeat (first | exact trivial | refine ⟨⟨_, rfl, AVle.refl _⟩, ?_⟩)), Store.sub_refl _⟩
            · rintro _ _ ⟨b16, hf16, rfl, hs2⟩
              rw [hs2]
              clear hs2
              obtain ⟨hpn, hf16⟩ := rowOf_none hf16
              have hbn := hJ3.snone hf16
              have hR := hJ3.add box0 hf16
              have h12a := (Store.set_ne t4 box0 (ne_of_some h12 hf16)).trans h12
              rw [rowOf_set hpn]
              have hp1 := OwnOk.add hp1 hpn box0
              refine RD.run rfl ?_
              refine RD.many rfl (RDAll.c (RDStep.mk (i := 10) rfl rfl rfl rfl (OW.append1F tysOk (t4.set b16 box0) rfl rfl rfl rfl (by intro k h; cases h) rfl rfl rfl rfl rfl rfl rfl rfl a3 a5 rfl hp1 (Store.sub_refl _) (X := fun _ _ => False)) ?_ (fun _ _ h => False.elim h)) RDAll.n)
              · rintro _ _ ⟨rfl, hs2⟩
                rw [hs2]
                clear hs2
                refine RD.run rfl ?_
                refine RD.many rfl (RDAll.c (RDStep.mk (i := 12) rfl rfl rfl rfl (OW.appendN tysOk rfl rfl rfl rfl (by intro k h; cases h) rfl rfl rfl (.inr rfl) rfl (strs_elem _) a8 a10 (X := fun _ _ => False)) ?_ (fun _ _ h => False.elim h)) RDAll.n)
                · rintro _ _ ⟨p2, hp2, rfl, rfl⟩
                  refine RD.run rfl ?_
                  refine RD.many rfl (RDAll.c (RDStep.mk (i := 16) rfl rfl rfl rfl (OW.append1F tysOk (t4.set b16 box0) rfl rfl rfl rfl (by intro k h; cases h) rfl rfl rfl rfl rfl rfl rfl rfl a4 a6 rfl hp2 (Store.sub_refl _) (X := fun _ _ => False)) ?_ (fun _ _ h => False.elim h)) RDAll.n)
                  · rintro _ _ ⟨rfl, hs2⟩
                    rw [hs2]
                    clear hs2
                    refine RD.run rfl ?_
                    refine RD.many rfl (RDAll.c (RDStep.mk (i := 18) rfl rfl rfl rfl (OW.call rfl (fv := .func 99 [] []) rfl rfl (ACallV.of_calls (hcall1 _ _ hR))) ?_ (fun _ _ ⟨h, _⟩ => by cases h)) RDAll.n)
                    · rintro _ _ ⟨⟨⟩, T4, own4, hQ, g2, g3⟩
                      refine RD.run rfl ?_
                      refine RD.oneN (i := 20) rfl rfl rfl rfl (OW.storeP tysOk rfl rfl rfl rfl rfl rfl rfl (hQ.get (Store.set_same _ _ _)) rfl (X := fun _ _ => False)) ?_ (fun _ _ h => False.elim h)
                      rintro _ _ rfl
                      refine RD.run rfl (RD.done rfl ?_)
                      have hZ := hQ.upd (.box 32 kb.cells) (Store.set_same _ _ _)
                      rw [Store.set_set] at hZ
                      exact ⟨rfl, (T4, own4, _, b16), ⟨hZ, hbn, g2, g3⟩, (by repeat (first | exact trivial | refine ⟨⟨_, rfl, AVle.refl _⟩, ?_⟩)), Store.sub_refl _⟩
          · rintro _ _ ⟨b16, hf16, rfl, hs2⟩
            rw [hs2]
            clear hs2
            have hbn := hJ3.snone hf16
            have hR := hJ3.add box0 hf16
            have h12a := (Store.set_ne t4 box0 (ne_of_some h12 hf16)).trans h12
            refine RD.run rfl ?_
            refine RD.many rfl (RDAll.c (RDStep.mk (i := 6) rfl rfl rfl rfl (OW.appendN tysOk rfl rfl rfl rfl (by intro k h; cases h) rfl rfl rfl (.inr rfl) rfl (strs_elem _) a7 a9 (X := fun _ _ => False)) ?_ (fun _ _ h => False.elim h)) RDAll.n)
            · rintro _ _ ⟨p1, hp1, rfl, rfl⟩
              refine RD.run rfl ?_
              refine RD.many rfl (RDAll.c (RDStep.mk (i := 10) rfl rfl rfl rfl (OW.append1F tysOk (t4.set b16 box0) rfl rfl rfl rfl (by intro k h; cases h) rfl rfl rfl rfl rfl rfl rfl rfl a3 a5 rfl hp1 (Store.sub_refl _) (X := fun _ _ => False)) ?_ (fun _ _ h => False.elim h)) RDAll.n)
              · rintro _ _ ⟨rfl, hs2⟩
                rw [hs2]
                clear hs2
                refine RD.run rfl ?_
                refine RD.many rfl (RDAll.c (RDStep.mk (i := 12) rfl rfl rfl rfl (OW.appendN tysOk rfl rfl rfl rfl (by intro k h; cases h) rfl rfl rfl (.inr rfl) rfl (strs_elem _) a8 a10 (X := fun _ _ => False)) ?_ (fun _ _ h => False.elim h)) RDAll.n)
                · rintro _ _ ⟨p2, hp2, rfl, rfl⟩
                  refine RD.run rfl ?_
                  refine RD.many rfl (RDAll.c (RDStep.mk (i := 16) rfl rfl rfl rfl (OW.append1F tysOk (t4.set b16 box0) rfl rfl rfl rfl (by intro k h; cases h) rfl rfl rfl rfl rfl rfl rfl rfl a4 a6 rfl hp2 (Store.sub_refl _) (X := fun _ _ => False)) ?_ (fun _ _ h => False.elim h)) RDAll.n)
                  · rintro _ _ ⟨rfl, hs2⟩
                    rw [hs2]
                    clear hs2
                    refine RD.run rfl ?_
                    refine RD.many rfl (RDAll.c (RDStep.mk (i := 18) rfl rfl rfl rfl (OW.call rfl (fv := .func 99 [] []) rfl rfl (ACallV.of_calls (hcall1 _ _ hR))) ?_ (fun _ _ ⟨h, _⟩ => by cases h)) RDAll.n)
                    · rintro _ _ ⟨⟨⟩, T4, own4, hQ, g2, g3⟩
                      refine RD.run rfl ?_
                      refine RD.oneN (i := 20) rfl rfl rfl rfl (OW.storeP tysOk rfl rfl rfl rfl rfl rfl rfl (hQ.get (Store.set_same _ _ _)) rfl (X := fun _ _ => False)) ?_ (fun _ _ h => False.elim h)
                      rintro _ _ rfl
                      refine RD.run rfl (RD.done rfl ?_)
                      have hZ := hQ.upd (.box 32 kb.cells) (Store.set_same _ _ _)
                      rw [Store.set_set] at hZ
                      exact ⟨rfl, (T4, own4, _, b16), ⟨hZ, hbn, g2, g3⟩, (by repeat (first | exact trivial | refine ⟨⟨_, rfl, AVle.refl _⟩, ?_⟩)), Store.sub_refl _⟩
        · rintro _ _ ⟨b16, hf16, rfl, hs2⟩
          rw [hs2]
          clear hs2
          have hbn := hJ3.snone hf16
          have hR := hJ3.add box0 hf16
          have h12a := (Store.set_ne t4 box0 (ne_of_some h12 hf16)).trans h12
          refine RD.run rfl ?_
          refine RD.many rfl (RDAll.c (RDStep.mk (i := 6) rfl rfl rfl rfl (OW.appendN tysOk rfl rfl rfl rfl (by intro k h; cases h) rfl rfl rfl (.inr rfl) rfl (strs_elem _) a7 a9 (X := fun _ _ => False)) ?_ (fun _ _ h => False.elim h)) (RDAll.c (RDStep.mk (i := 14) rfl rfl rfl rfl (OW.loadP tysOk rfl rfl rfl h12a rfl (X := fun _ _ => False)) ?_ (fun _ _ h => False.elim h)) RDAll.n))
          · rintro _ _ ⟨p1, hp1, rfl, rfl⟩
            refine RD.run rfl ?_
            refine RD.many rfl (RDAll.c (RDStep.mk (i := 10) rfl rfl rfl rfl (OW.append1F tysOk (t4.set b16 box0) rfl rfl rfl rfl (by intro k h; cases h) rfl rfl rfl rfl rfl rfl rfl rfl a3 a5 rfl hp1 (Store.sub_refl _) (X := fun _ _ => False)) ?_ (fun _ _ h => False.elim h)) (RDAll.c (RDStep.mk (i := 14) rfl rfl rfl rfl (OW.loadP tysOk rfl rfl rfl (rowOf_get hp1 h12a) rfl (X := fun _ _ => False)) ?_ (fun _ _ h => False.elim h)) RDAll.n))
            · rintro _ _ ⟨rfl, hs2⟩
              rw [hs2]
              clear hs2
              refine RD.run rfl ?_
              refine RD.many rfl (RDAll.c (RDStep.mk (i := 12) rfl rfl rfl rfl (OW.appendN tysOk rfl rfl rfl rfl (by intro k h; cases h) rfl rfl rfl (.inr rfl) rfl (strs_elem _) a8 a10 (X := fun _ _ => False)) ?_ (fun _ _ h => False.elim h)) (RDAll.c (RDStep.mk (i := 14) rfl rfl rfl rfl (OW.loadP tysOk rfl rfl rfl h12a rfl (X := fun _ _ => False)) ?_ (fun _ _ h => False.elim h)) RDAll.n))
              · rintro _ _ ⟨p2, hp2, rfl, rfl⟩
                refine RD.run rfl ?_
                refine RD.many rfl (RDAll.c (RDStep.mk (i := 14) rfl rfl rfl rfl (OW.loadP tysOk rfl rfl rfl (rowOf_get hp2 h12a) rfl (X := fun _ _ => False)) ?_ (fun _ _ h => False.elim h)) RDAll.n)
                · rintro _ _ ⟨rfl, hs2⟩
                  rw [hs2]
                  clear hs2
                  refine RD.run rfl ?_
                  refine RD.many rfl (RDAll.c (RDStep.mk (i := 16) rfl rfl rfl rfl (OW.append1F tysOk (t4.set b16 box0) rfl rfl rfl rfl (by intro k h; cases h) rfl rfl rfl rfl rfl rfl rfl rfl a4 a6 rfl hp2 (Store.sub_refl _) (X := fun _ _ => False)) ?_ (fun _ _ h => False.elim h)) RDAll.n)
                  · rintro _ _ ⟨rfl, hs2⟩
                    rw [hs2]
                    clear hs2
                    refine RD.run rfl ?_
                    refine RD.many rfl (RDAll.c (RDStep.mk (i := 18) rfl rfl rfl rfl (OW.call rfl (fv := .func 99 [] []) rfl rfl (ACallV.of_calls (hcall1 _ _ hR))) ?_ (fun _ _ ⟨h, _⟩ => by cases h)) RDAll.n)
                    · rintro _ _ ⟨⟨⟩, T4, own4, hQ, g2, g3⟩
                      refine RD.run rfl ?_
                      refine RD.oneN (i := 20) rfl rfl rfl rfl (OW.storeP tysOk rfl rfl rfl rfl rfl rfl rfl (hQ.get (Store.set_same _ _ _)) rfl (X := fun _ _ => False)) ?_ (fun _ _ h => False.elim h)
                      rintro _ _ rfl
                      refine RD.run rfl (RD.done rfl ?_)
                      have hZ := hQ.upd (.box 32 kb.cells) (Store.set_same _ _ _)
                      rw [Store.set_set] at hZ
                      exact ⟨rfl, (T4, own4, _, b16), ⟨hZ, hbn, g2, g3⟩, (by repeat (first | exact trivial | refine ⟨⟨_, rfl, AVle.refl _⟩, ?_⟩)), Store.sub_refl _⟩
              · rintro _ _ ⟨rfl, hs2⟩
                rw [hs2]
                clear hs2
                refine RD.run rfl ?_
                refine RD.many rfl (RDAll.c (RDStep.mk (i := 12) rfl rfl rfl rfl (OW.appendN tysOk rfl rfl rfl rfl (by intro k h; cases h) rfl rfl rfl (.inr rfl) rfl (strs_elem _) a8 a10 (X := fun _ _ => False)) ?_ (fun _ _ h => False.elim h)) RDAll.n)
                · rintro _ _ ⟨p2, hp2, rfl, rfl⟩
                  refine RD.run rfl ?_
                  refine RD.many rfl (RDAll.c (RDStep.mk (i := 16) rfl rfl rfl rfl (OW.append1F tysOk (t4.set b16 box0) rfl rfl rfl rfl (by intro k h; cases h) rfl rfl rfl rfl rfl rfl rfl rfl a4 a6 rfl hp2 (Store.sub_refl _) (X := fun _ _ => False)) ?_ (fun _ _ h => False.elim h)) RDAll.n)
                  · rintro _ _ ⟨rfl, hs2⟩
                    rw [hs2]
                    clear hs2
                    refine RD.run rfl ?_
                    refine RD.many rfl (RDAll.c (RDStep.mk (i := 18) rfl rfl rfl rfl (OW.call rfl (fv := .func 99 [] []) rfl rfl (ACallV.of_calls (hcall1 _ _ hR))) ?_ (fun _ _ ⟨h, _⟩ => by cases h)) RDAll.n)
                    · rintro _ _ ⟨⟨⟩, T4, own4, hQ, g2, g3⟩
                      refine RD.run rfl ?_
                      refine RD.oneN (i := 20) rfl rfl rfl rfl (OW.storeP tysOk rfl rfl rfl rfl rfl rfl rfl (hQ.get (Store.set_same _ _ _)) rfl (X := fun _ _ => False)) ?_ (fun _ _ h => False.elim h)
                      rintro _ _ rfl
                      refine RD.run rfl (RD.done rfl ?_)
                      have hZ := hQ.upd (.box 32 kb.cells) (Store.set_same _ _ _)
                      rw [Store.set_set] at hZ
                      exact ⟨rfl, (T4, own4, _, b16), ⟨hZ, hbn, g2, g3⟩, (by repeat (first | exact trivial | refine ⟨⟨_, rfl, AVle.refl _⟩, ?_⟩)), Store.sub_refl _⟩
            · rintro _ _ ⟨rfl, hs2⟩
              rw [hs2]
              clear hs2
              refine RD.run rfl ?_
              refine RD.many rfl (RDAll.c (RDStep.mk (i := 10) rfl rfl rfl rfl (OW.append1F tysOk (t4.set b16 box0) rfl rfl rfl rfl (by intro k h; cases h) rfl rfl rfl rfl rfl rfl rfl rfl a3 a5 rfl hp1 (Store.sub_refl _) (X := fun _ _ => False)) ?_ (fun _ _ h => False.elim h)) RDAll.n)
              · rintro _ _ ⟨rfl, hs2⟩
                rw [hs2]
                clear hs2
                refine RD.run rfl ?_
                refine RD.many rfl (RDAll.c (RDStep.mk (i := 12) rfl rfl rfl rfl (OW.appendN tysOk rfl rfl rfl rfl (by intro k h; cases h) rfl rfl rfl (.inr rfl) rfl (strs_elem _) a8 a10 (X := fun _ _ => False)) ?_ (fun _ _ h => False.elim h)) RDAll.n)
                · rintro _ _ ⟨p2, hp2, rfl, rfl⟩
                  refine RD.run rfl ?_
                  refine RD.many rfl (RDAll.c (RDStep.mk (i := 16) rfl rfl rfl rfl (OW.append1F tysOk (t4.set b16 box0) rfl rfl rfl rfl (by intro k h; cases h) rfl rfl rfl rfl rfl rfl rfl rfl a4 a6 rfl hp2 (Store.sub_refl _) (X := fun _ _ => False)) ?_ (fun _ _ h => False.elim h)) RDAll.n)
                  · rintro _ _ ⟨rfl, hs2⟩
                    rw [hs2]
                    clear hs2
                    refine RD.run rfl ?_
                    refine RD.many rfl (RDAll.c (RDStep.mk (i := 18) rfl rfl rfl rfl (OW.call rfl (fv := .func 99 [] []) rfl rfl (ACallV.of_calls (hcall1 _ _ hR))) ?_ (fun _ _ ⟨h, _⟩ => by cases h)) RDAll.n)
                    · rintro _ _ ⟨⟨⟩, T4, own4, hQ, g2, g3⟩
                      refine RD.run rfl ?_
                      refine RD.oneN (i := 20) rfl rfl rfl rfl (OW.storeP tysOk rfl rfl rfl rfl rfl rfl rfl (hQ.get (Store.set_same _ _ _)) rfl (X := fun _ _ => False)) ?_ (fun _ _ h => False.elim h)
                      rintro _ _ rfl
                      refine RD.run rfl (RD.done rfl ?_)
                      have hZ := hQ.upd (.box 32 kb.cells) (Store.set_same _ _ _)
                      rw [Store.set_set] at hZ
                      exact ⟨rfl, (T4, own4, _, b16), ⟨hZ, hbn, g2, g3⟩, (by repeat (first | exact trivial | refine ⟨⟨_, rfl, AVle.refl _⟩, ?_⟩)), Store.sub_refl _⟩
          · rintro _ _ ⟨rfl, hs2⟩
            rw [hs2]
            clear hs2
            refine RD.run rfl ?_
            refine RD.many rfl (RDAll.c (RDStep.mk (i := 6) rfl rfl rfl rfl (OW.appendN tysOk rfl rfl rfl rfl (by intro k h; cases h) rfl rfl rfl (.inr rfl) rfl (strs_elem _) a7 a9 (X := fun _ _ => False)) ?_ (fun _ _ h => False.elim h)) RDAll.n)
            · rintro _ _ ⟨p1, hp1, rfl, rfl⟩
              refine RD.run rfl ?_
              refine RD.many rfl (RDAll.c (RDStep.mk (i := 10) rfl rfl rfl rfl (OW.append1F tysOk (t4.set b16 box0) rfl rfl rfl rfl (by intro k h; cases h) rfl rfl rfl rfl rfl rfl rfl rfl a3 a5 rfl hp1 (Store.sub_refl _) (X := fun _ _ => False)) ?_ (fun _ _ h => False.elim h)) RDAll.n)
              · rintro _ _ ⟨rfl, hs2⟩
                rw [hs2]
                clear hs2
                refine RD.run rfl ?_
                refine RD.many rfl (RDAll.c (RDStep.mk (i := 12) rfl rfl rfl rfl (OW.appendN tysOk rfl rfl rfl rfl (by intro k h; cases h) rfl rfl rfl (.inr rfl) rfl (strs_elem _) a8 a10 (X := fun _ _ => False)) ?_ (fun _ _ h => False.elim h)) RDAll.n)
                · rintro _ _ ⟨p2, hp2, rfl, rfl⟩
                  refine RD.run rfl ?_
                  refine RD.many rfl (RDAll.c (RDStep.mk (i := 16) rfl rfl rfl rfl (OW.append1F tysOk (t4.set b16 box0) rfl rfl rfl rfl (by intro k h; cases h) rfl rfl rfl rfl rfl rfl rfl rfl a4 a6 rfl hp2 (Store.sub_refl _) (X := fun _ _ => False)) ?_ (fun _ _ h => False.elim h)) RDAll.n)
                  · rintro _ _ ⟨rfl, hs2⟩
                    rw [hs2]
                    clear hs2
                    refine RD.run rfl ?_
                    refine RD.many rfl (RDAll.c (RDStep.mk (i := 18) rfl rfl rfl rfl (OW.call rfl (fv := .func 99 [] []) rfl rfl (ACallV.of_calls (hcall1 _ _ hR))) ?_ (fun _ _ ⟨h, _⟩ => by cases h)) RDAll.n)
                    · rintro _ _ ⟨⟨⟩, T4, own4, hQ, g2, g3⟩
                      refine RD.run rfl ?_
                      refine RD.oneN (i := 20) rfl rfl rfl rfl (OW.storeP tysOk rfl rfl rfl rfl rfl rfl rfl (hQ.get (Store.set_same _ _ _)) rfl (X := fun _ _ => False)) ?_ (fun _ _ h => False.elim h)
                      rintro _ _ rfl
                      refine RD.run rfl (RD.done rfl ?_)
                      have hZ := hQ.upd (.box 32 kb.cells) (Store.set_same _ _ _)
                      rw [Store.set_set] at hZ
                      exact ⟨rfl, (T4, own4, _, b16), ⟨hZ, hbn, g2, g3⟩, (by repeat (first | exact trivial | refine ⟨⟨_, rfl, AVle.refl _⟩, ?_⟩)), Store.sub_refl _⟩
      rintro ⟨T4, own4, t5, b16⟩ ⟨hQ, hbn, hT4, hl4⟩
      simp only at hQ hbn hT4 hl4 ⊢
      have hb1612 : b12 ≠ b16 := fun e' => by subst e'; rw [outB12] at hbn; cases hbn
      have hb1610 : b10 ≠ b16 := fun e' => by subst e'; rw [outB10 hne12] at hbn; cases hbn
      have h16 : t5 b16 = some (.box 32 kb.cells) := hQ.get (Store.set_same _ _ _)
      have hB12 : ((outB s b10 b12 e txt [] .nil).set b16 (.box 32 kb.cells)) b12 = some (.box 32 (part4 e.op e.n txt [] .nil)) := (Store.set_ne _ _ hb1612).trans (outB12 _ _ _ _ _ _ _)
      have hB10 : ((outB s b10 b12 e txt [] .nil).set b16 (.box 32 kb.cells)) b10 = some box0 := (Store.set_ne _ _ hb1610).trans (outB10 hne12 _ _ _ _)
      have hU := hQ.upd (.box 32 (part4 e.op e.n txt [ka, kb] .clip)) hB12
      have hU10 : ((((outB s b10 b12 e txt [] .nil).set b16 (.box 32 kb.cells)).set b12 (.box 32 (part4 e.op e.n txt [ka, kb] .clip)))) b10 = some box0 := (Store.set_ne _ _ hne12).trans hB10
      have hs16 : s b16 = none := by unfold outB at hbn; exact (Store.set_none (Store.set_none hbn).2).2
      have h12b := hQ.get hB12
      have h10b := hU.get hU10
      repeat (first | with_reducible refine CW.seq ?_ | refine CW.reg ?_ | refine RL.step tysOk rfl rfl rfl rfl ?_ | refine RL.loadP tysOk rfl rfl rfl rfl rfl rfl (by assumption) rfl ?_)
      refine RL.storeP tysOk rfl rfl rfl rfl rfl rfl rfl rfl rfl h12b rfl ?_
      repeat (first | with_reducible refine CW.seq ?_ | with_reducible refine andThen_normal ?_ | refine CW.reg ?_ | refine RL.nil ?_ | refine RL.loadP tysOk rfl rfl rfl rfl rfl rfl (Store.set_same _ _ _) rfl ?_)
      refine RL.storeP tysOk rfl rfl rfl rfl rfl rfl rfl rfl rfl h10b rfl ?_
      repeat (first | with_reducible refine andThen_normal ?_ | with_reducible refine CW.ret ?_ | refine RL.nil ?_)
      have hF := (hU.upd (.box 32 (part4 e.op e.n txt [ka, kb] .clip)) hU10).weak (s := s) (Store.subSet (Store.subSet (Store.subSet (Store.subSet (Store.subSet (Store.sub_refl _) hs10) hs12) hs16) hs12) hs10)
      refine ⟨_, _, _, resA_cell rfl rfl (Store.set_same _ _ _) rfl, part4_le e.op e.n txt [ka, kb] .clip, Store.sub_refl _, by rw [hput], T4, own4, hF, by rw [hput]; exact hT4, by omega⟩
end Go.Proofs.Ytaafacnoddjhgaa

/- Contracts of the reference: PutOf, Put; the law FormPuts. -/
namespace Go.Proofs.Ytaafacnoddjhgaa
open Go.AE

theorem sortS_len (l : List Str) : (sortS l).length ≤ l.length := by
  have : ∀ (l out : List Str), (l.foldl insSo out).length ≤ out.length + l.length := by
    intro l
    induction l with
    | nil => intro out; simp
    | cons z l ih => intro out; have h1 := ih (insSo out z); have h2 := insSo_len out z; simp only [List.foldl_cons, List.length_cons]; omega
  have := this l []
  unfold sortS
  simpa using this

theorem textsOf_len (e : FExp) : (textsOf e.allE).length ≤ e.size := by
  rw [← allE_length]; unfold textsOf; rw [List.length_map]; exact List.length_filter_le _ _

set_option maxRecDepth 10000 in
set_option maxHeartbeats 1000000 in
theorem refPutOf_spec (e : FExp) (x : Str) (y : FExp) (s : Store) (he : e.neat = true) (hy : y.neat = true) (hse : e.size ≤ 120) (hsy : y.size ≤ 120) :
    ACalls Try.prog 58 [e.av, .str x, y.av] s (fun o s' => o = .ret (FExp.put x y y.frees [] true (taken0 e x y) e).1.av ∧ s' = s) := by
  have hb : big = 1099511627776 := rfl
  have hfl := sortS_len (y.looseR [])
  have hll := looseR_len y []
  have htl := textsOf_len e
  refine ACalls.of_CW tysOk call58 Try.func58 rfl rfl ?_
  refine CW.seqCutX (σ := Nat) (fun b => [(1, .str x), (3, .fptr e.cells 0), (5, .fptr y.cells 0), (6, .ptr b 0)]) (fun b => s.set b box0) (fun b => s b = none) ?_ ?_
  · repeat (first | refine CW.reg ?_ | refine RL.step tysOk rfl rfl rfl rfl ?_)
    refine RL.alloc tysOk rfl rfl rfl rfl rfl rfl rfl (fun b hb => ?_)
    repeat (first | refine RL.nil ?_)
    exact ⟨rfl, b, hb, (by repeat (first | exact trivial | refine ⟨⟨_, rfl, AVle.refl _⟩, ?_⟩)), Store.sub_refl _⟩
  intro b6 hb6
  refine CW.seqCut [(1, .str x), (3, .fptr e.cells 0), (5, .fptr y.cells 0), (6, .ptr b6 0), (7, .slc 1 (strs (sortS (y.looseR []))) .fro)] (s.set b6 box0) ?_ ?_
  · repeat (first | refine CW.reg ?_ | refine RL.step tysOk rfl rfl rfl rfl ?_)
    refine RL.callP rfl rfl rfl rfl rfl (refFreeOf_spec y _ (by omega)) ?_
    repeat (first | refine RL.nil ?_ | refine RL.step tysOk rfl rfl rfl rfl ?_)
    exact ⟨rfl, (by repeat (first | exact trivial | refine ⟨⟨_, rfl, AVle.refl _⟩, ?_⟩)), Store.sub_refl _⟩
  generalize hT : textsOf e.allE ++ [x] ++ sortS (y.looseR []) = T
  refine CW.seqCutX (σ := Nat × Own × Store) (fun z => [(3, .fptr e.cells 0), (6, .ptr b6 0), (8, .ptr z.1 0)]) (fun z => z.2.2) (fun z => PtI x y (sortS (y.looseR [])) .fro z.1 (s.set b6 box0) z.2.2 T z.2.1) ?_ ?_
  · repeat (first | refine CW.drw tysOk mixed rfl (RD.run rfl ?_))
    refine RD.call (i := 4) rfl rfl rfl rfl rfl rfl rfl (refTexts_spec e _ (by omega)) ?_ (fun _ _ ⟨_, _, h, _⟩ => by cases h)
    rintro _ _ ⟨ow, how, ⟨⟩, rfl⟩
    refine RD.run rfl ?_
    refine RD.append1 (i := 7) tysOk rfl rfl rfl rfl rfl rfl rfl rfl rfl (by intro k h; cases h) rfl rfl rfl rfl rfl rfl rfl (n := (textsOf e.allE).length) (strs_length _).symm (by show ((textsOf e.allE).length + 1) * 16 ≤ _; omega) (by omega) rfl (OwnOk.sub' how) (fun b1 hb1 => ?_)
    refine RD.run rfl ?_
    refine RD.appendR (i := 9) tysOk rfl rfl rfl rfl rfl rfl rfl rfl rfl (by intro k h; cases h) rfl rfl rfl rfl (.inr rfl) rfl (strs_elem _) (n := (textsOf e.allE).length + 1) ?_ ?_ (by rw [List.length_append, strs_length]; rfl) rfl hb1 (fun o3 hq3 => ?_)
    · simp only [List.length_append, strs_length, List.length_cons, List.length_nil]; show _ * 16 ≤ _; omega
    · simp only [List.length_append, strs_length, List.length_cons, List.length_nil]; omega
    refine RD.runs (is := [10]) rfl ?_
    refine RD.one (i := 11) rfl rfl rfl rfl rfl (OW.boxM rfl rfl rfl (X := fun _ _ => False)) ?_ (fun _ _ h => False.elim h)
    rintro _ _ ⟨wb, hwb, rfl, rfl⟩
    refine RD.run rfl (RD.done rfl ?_)
    have hlT : (strs (textsOf e.allE) ++ [AV.str x]).length + (strs (sortS (y.looseR []))).length = T.length := by
      rw [← hT]; simp only [List.length_append, strs_length, List.length_cons, List.length_nil]
    have hsT : strs (textsOf e.allE) ++ [AV.str x] ++ strs (sortS (y.looseR [])) = strs T := by rw [← hT]; simp [strs]
    rw [hlT] at hq3 hwb
    have hgo : PtI x y (sortS (y.looseR [])) .fro wb (s.set b6 box0) ((rowOf (s.set b6 box0) 9 1 T.length o3).set wb (.box 155 (rpCells x y (sortS (y.looseR [])) .fro T o3))) T o3 := by
      obtain ⟨hn1, hn2⟩ := rowOf_none hwb
      refine ⟨Store.set_same _ _ _, ?_, Store.subSet (Store.subRow (Store.sub_refl _) hq3) hn2, hn2, fun c hc => ?_⟩
      · cases o3 with
        | own c => exact (Store.set_ne _ _ (hn1 c rfl)).trans (Store.set_same _ _ _)
        | nil => trivial
        | clip => trivial
        | fro => exact hq3.elim
      · subst hc; exact hq3
    refine ⟨rfl, (wb, o3, _), hgo, (by repeat (first | exact trivial | refine ⟨⟨_, rfl, AVle.refl _⟩, ?_⟩)), ?_⟩
    simp only [hlT, hsT]
    exact Store.sub_refl _
  rintro ⟨wb, o3, t⟩ hJ
  simp only at hJ ⊢
  have hTl : T.length ≤ 120 + 1 + 120 := by rw [← hT]; simp only [List.length_append, List.length_cons, List.length_nil]; omega
  have hal : Alike T (taken0 e x y) := by
    intro z
    rw [Bool.eq_iff_iff, List.contains_iff_mem, List.contains_iff_mem]
    simp only [← hT, taken0, List.mem_append, List.mem_cons, List.not_mem_nil, or_false, mem_sortS, mem_frees, looseR_eq y [] [] hy (fun _ => Iff.rfl)]
    constructor
    · rintro ((h | h) | h)
      · exact .inr (.inr h)
      · exact .inl h
      · exact .inr (.inl h)
    · rintro (h | h | h)
      · exact .inl (.inr h)
      · exact .inr h
      · exact .inl (.inl h)
  have h6 : t b6 = some box0 := hJ.get (Store.set_same _ _ _)
  have hcall := refPut_spec x y y.frees (sortS (y.looseR [])) .fro wb (by omega) (fun z => free_contains hy z) (by omega) e.size e [] .nil .nil true (taken0 e x y) T o3 _ t (Nat.le_refl _) (by omega) he (by simp; omega) (by omega) hal hJ
  repeat (first | with_reducible refine CW.seq ?_ | refine CW.reg ?_ | refine RL.step tysOk rfl rfl rfl rfl ?_)
  refine RL.call rfl rfl rfl rfl rfl (ACalls.weakArgs (.cons (AVle.refl _) (.cons (AVle.refl _) (.cons (AVle.nil (by simp)) (.cons (AVle.nil (by simp)) (.one (AVle.refl _)))))) hcall) ?_ (fun _ _ ⟨h, _⟩ => by cases h)
  rintro _ t2 ⟨⟨⟩, T2, o4, hJ2, -, -⟩
  have h62 : t2 b6 = some box0 := hJ2.get (Store.set_same _ _ _)
  refine RL.storeP tysOk rfl rfl rfl rfl rfl rfl rfl rfl rfl h62 rfl ?_
  repeat (first | with_reducible refine andThen_normal ?_ | with_reducible refine CW.ret ?_ | refine RL.nil ?_)
  refine ⟨_, _, s, resA_cell rfl rfl (Store.set_same _ _ _) rfl, AVle.refl _, ?_, rfl, rfl⟩
  exact Store.subSet ((Store.subSet (Store.sub_refl _) hb6).trans hJ2.sub) hb6

set_option maxRecDepth 10000 in
set_option maxHeartbeats 1000000 in
theorem refPutX_spec (e : FExp) (x : Str) (y : FExp) (s : Store) (he : e.Fair) (hy : y.Fair) (hx : x.length < 9223372036854775807) :
    ACalls Try.prog 19 [e.av, .str x, y.av] s (fun o s' => o = .ret (.tup [(putR e x y).1.av, .int .i64 (putR e x y).2]) ∧ s' = s) := by
  have hb : big = 1099511627776 := rfl
  refine ACalls.of_CW tysOk call19 Try.func19 rfl rfl ?_
  refine CW.seqCutX (σ := Nat) (fun b6 => [(1, .str x), (3, .fptr e.cells 0), (5, .fptr y.cells 0), (6, .ptr b6 0)]) (fun b6 => s.set b6 box0) (fun b6 => s b6 = none) ?_ ?_
  · repeat (first | refine CW.reg ?_ | refine RL.step tysOk rfl rfl rfl rfl ?_)
    refine RL.alloc tysOk rfl rfl rfl rfl rfl rfl rfl (fun b6 hb6 => ?_)
    repeat (first | refine RL.nil ?_ | refine RL.step tysOk rfl rfl rfl rfl ?_)
    exact ⟨rfl, b6, hb6, (by repeat (first | exact trivial | refine ⟨⟨_, rfl, AVle.refl _⟩, ?_⟩)), Store.sub_refl _⟩
  intro b6 hb6
  refine CW.seq ?_
  refine CW.seqCut [(1, .str x), (3, .fptr e.cells 0), (5, .fptr y.cells 0), (6, .ptr b6 0), (21, .bool (!(goodB e && nameS x && goodB y)))] (s.set b6 box0) ?_ ?_
  · repeat' (first | refine CW.reg ?_ | refine RL.nil ?_ | refine RL.step tysOk rfl rfl rfl rfl ?_ | refine RL.skip rfl rfl rfl ?_ | refine RL.gstepF tysOk rfl rfl rfl rfl rfl rfl rfl (fun _ => ?_) (fun _ => ?_) | refine RL.callP rfl rfl rfl rfl rfl (refFormed_spec e _ he) ?_ | refine RL.callP rfl rfl rfl rfl rfl (refName_spec x _ hx) ?_ | refine RL.callP rfl rfl rfl rfl rfl (refFormed_spec y _ hy) ?_)
    all_goals refine ⟨rfl, (by repeat (first | exact trivial | refine ⟨⟨_, rfl, AVle.refl _⟩, ?_⟩ | refine ⟨⟨_, rfl, AVle.of_eq (by (simp_all))⟩, ?_⟩)), Store.sub_refl _⟩
  cases hc : !(goodB e && nameS x && goodB y) with
  | true =>
    have hp : putR e x y = (zeroE, 2) := by unfold putR; rw [if_pos hc]
    rw [hp]
    repeat (first | with_reducible refine CW.seq ?_ | with_reducible refine andThen_normal ?_ | with_reducible refine andThen_ret ?_ | with_reducible refine CW.ret ?_ | refine CW.reg ?_ | refine RL.nil ?_ | refine CW.condT rfl ?_ | refine RL.step tysOk rfl rfl rfl rfl ?_ | (refine RL.storeP tysOk rfl rfl rfl rfl rfl rfl rfl rfl rfl (Store.set_same _ _ _) rfl ?_; try with_reducible rw [Store.set_set]))
    exact ⟨_, .tup [zeroE.av, .int .i64 2], s, resA_cellT rfl rfl (Store.set_same _ _ _) rfl rfl, AVle.tup (.cons zero_le (.one (AVle.refl _))), Store.sub_set _ _ _ hb6, rfl, rfl⟩
  | false =>
    have hp : putR e x y = if goodB (FExp.put x y y.frees [] true (taken0 e x y) e).1 then ((FExp.put x y y.frees [] true (taken0 e x y) e).1, 0) else (zeroE, 3) := by unfold putR; rw [if_neg (by rw [hc]; simp)]
    simp only [Bool.not_eq_false', Bool.and_eq_true] at hc
    obtain ⟨⟨h1, h2⟩, h3⟩ := hc
    have hse := goodB_size h1
    have hsy := goodB_size h3
    have hfair : (FExp.put x y y.frees [] true (taken0 e x y) e).1.Fair := by
      refine Fair.of ?_ (put_texts (fun t ht => by omega) (Fair.texts hy) e [] true _ (Fair.texts he) (by simp))
      have h4 := put_size x y y.frees e [] true (taken0 e x y)
      have : e.size * y.size ≤ 120 * 120 := Nat.mul_le_mul hse hsy
      omega
    refine CW.condF rfl (CW.skip (andThen_normal ?_))
    have hput := refPutOf_spec e x y (s.set b6 box0) (good_neat h1) (good_neat h3) hse hsy
    generalize (FExp.put x y y.frees [] true (taken0 e x y) e).1 = r at hp hfair hput
    repeat (first | with_reducible refine CW.seq ?_ | refine CW.reg ?_ | refine RL.step tysOk rfl rfl rfl rfl ?_)
    refine RL.callP rfl rfl rfl rfl rfl hput ?_
    refine RL.newBox tysOk rfl rfl rfl rfl rfl rfl rfl (fun _ => rfl) rfl rfl (fun _ => rfl) rfl rfl rfl rfl ?_
    repeat (first | with_reducible refine CW.seq ?_ | with_reducible refine andThen_normal ?_ | refine CW.reg ?_ | refine RL.nil ?_ | refine RL.step tysOk rfl rfl rfl rfl ?_)
    refine RL.callP rfl rfl rfl rfl rfl (refFormed_spec r _ hfair) ?_
    cases hg : goodB r with
    | true =>
      repeat (first | with_reducible refine CW.seq ?_ | with_reducible refine andThen_normal ?_ | with_reducible refine CW.ret ?_ | with_reducible refine CW.skip ?_ | refine CW.reg ?_ | refine RL.nil ?_ | refine CW.condF rfl ?_ | refine RL.step tysOk rfl rfl rfl rfl ?_ | (refine RL.storeP tysOk rfl rfl rfl rfl rfl rfl rfl rfl rfl (Store.set_same _ _ _) rfl ?_; try with_reducible rw [Store.set_set]))
      exact ⟨_, .tup [r.av, .int .i64 0], s, resA_cellT rfl rfl (Store.set_same _ _ _) rfl rfl, AVle.refl _, Store.sub_set _ _ _ hb6, by rw [hp, if_pos hg], rfl⟩
    | false =>
      repeat (first | with_reducible refine CW.seq ?_ | with_reducible refine andThen_normal ?_ | with_reducible refine andThen_ret ?_ | with_reducible refine CW.ret ?_ | refine CW.reg ?_ | refine RL.nil ?_ | refine CW.condT rfl ?_ | refine RL.step tysOk rfl rfl rfl rfl ?_ | (refine RL.storeP tysOk rfl rfl rfl rfl rfl rfl rfl rfl rfl (Store.set_same _ _ _) rfl ?_; try with_reducible rw [Store.set_set]))
      exact ⟨_, .tup [zeroE.av, .int .i64 3], s, resA_cellT rfl rfl (Store.set_same _ _ _) rfl rfl, AVle.tup (.cons zero_le (.one (AVle.refl _))), Store.sub_set _ _ _ hb6, by rw [hp, if_neg (by rw [hg]; simp)], rfl⟩

set_option maxRecDepth 10000 in
theorem formPuts_spec (e : FExp) (x : Str) (y : FExp) (s : Store) (he : e.Fair) (hy : y.Fair) (hx : x.length < 9223372036854775807) :
    ACalls Try.prog 5 [e.av, .str x, y.av] s (fun o s' => o = .ret (.bool true) ∧ s' = s) := by
  have hb : big = 1099511627776 := rfl
  have hz : (putR e x y).1.size ≤ big := by
    unfold putR
    split
    · simp [zeroE, FExp.size, FExp.sizes, hb]
    · simp only
      split
      · rename_i h; have := goodB_size h; simp only; omega
      · simp [zeroE, FExp.size, FExp.sizes, hb]
  refine ACalls.of_CW tysOk call5 Try.func5 rfl rfl ?_
  have h1 := shapePut_spec e x y s he hy hx
  have h2 := refPutX_spec e x y s he hy hx
  generalize putR e x y = r at hz h1 h2
  obtain ⟨a, k⟩ := r
  simp only at hz h1 h2
  have h3 := refSameExp_spec _ a a s (Nat.le_refl _) hz hz
  rw [FExp.beq_refl] at h3
  repeat (first | with_reducible refine CW.seq ?_ | with_reducible refine andThen_normal ?_ | refine CW.reg (RL.run tysOk rfl (RL.nil ?_)) | refine CW.reg ?_ | refine RL.step tysOk rfl rfl rfl rfl ?_)
  refine RL.callP rfl rfl rfl rfl rfl h1 ?_
  repeat (first | refine RL.step tysOk rfl rfl rfl rfl ?_)
  refine RL.newBox tysOk rfl rfl rfl rfl rfl rfl rfl (fun _ => rfl) rfl rfl (fun _ => rfl) rfl rfl rfl rfl ?_
  repeat (first | with_reducible refine CW.seq ?_ | with_reducible refine andThen_normal ?_ | refine CW.reg ?_ | refine RL.nil ?_ | refine RL.step tysOk rfl rfl rfl rfl ?_)
  refine RL.callP rfl rfl rfl rfl rfl h2 ?_
  repeat (first | refine RL.step tysOk rfl rfl rfl rfl ?_)
  refine RL.newBox tysOk rfl rfl rfl rfl rfl rfl rfl (fun _ => rfl) rfl rfl (fun _ => rfl) rfl rfl rfl rfl ?_
  repeat (first | with_reducible refine CW.seq ?_ | with_reducible refine andThen_normal ?_ | refine CW.reg ?_ | refine RL.nil ?_ | refine RL.step tysOk rfl rfl rfl rfl ?_)
  refine RL.callP rfl rfl rfl rfl rfl h3 ?_
  repeat (first | refine RL.step tysOk rfl rfl rfl rfl ?_)
  refine RL.knowT 33 rfl (by simp) ?_
  skip
  refine RL.callP rfl rfl rfl rfl rfl (known_true _) ?_
  repeat (first | with_reducible refine andThen_normal ?_ | with_reducible refine CW.ret ?_ | refine RL.nil ?_ | refine RL.step tysOk rfl rfl rfl rfl ?_)
  exact ⟨_, _, _, rfl, AVle.refl _, Store.sub_refl _, rfl, rfl⟩
end Go.Proofs.Ytaafacnoddjhgaa

