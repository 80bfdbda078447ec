import Derived.Test.YtaafacnoddjhgaaMh
/- Contracts of the layer 'shape': the functions of a program, in order. -/
namespace Go.Proofs.Ytaafacnoddjhgaa
open Go.AE

def gNotes (st : List (Str × Int) × Bool) (l : List (Str × Int)) : List (Str × Int) × Bool := l.foldl (fun st x => gNote st x.1 x.2) st
def callsL (l : List FExp) : List (Str × Int) := (l.filter fun g => g.op == 5).map fun g => (g.text, (g.kids.length : Int))
def methodNotes (l : List FMethod) : List (Str × Int) := l.map fun m => (m.name, (m.params.length : Int))
def progNotes (P : FProg) : List (Str × Int) := methodNotes P.methods ++ (P.methods.map FMethod.body ++ [P.main]).flatMap fun e => callsL e.allE
/-- The functions of a program, with how many arguments they have; has none several? -/
def progGens (P : FProg) : List (Str × Int) × Bool := gNotes ([], true) (progNotes P)

theorem gNote_length (st : List (Str × Int) × Bool) (s : Str) (n : Int) : (gNote st s n).1.length ≤ st.1.length + 1 := by
  unfold gNote; split <;> simp

theorem GInv.weaken {s s' t : Store} {mb ib ob gb : Nat} {G : List (Str × Int)} {is : Bool} {own : Own} (h : GInv s' t mb ib ob gb G is own) (hs : Store.Sub s s') : GInv s t mb ib ob gb G is own :=
  ⟨h.hm, h.hi, h.ho, h.hg, h.row, hs.trans h.sub, ⟨hs.none h.sn.1, hs.none h.sn.2.1, hs.none h.sn.2.2.1, hs.none h.sn.2.2.2⟩, fun b hb => hs.none (h.srow b hb), h.d⟩

theorem RowIs.of_sub {s t : Store} {e : TypeId} {sz n : Nat} {own : Own} (hok : own ≠ .fro) (h : Store.Sub (rowOf s e sz n own) t) : RowIs t e sz n own := by
  cases own with
  | own b =>
    rcases h b with q | q
    · have : rowOf s e sz n (.own b) b = some (.row e sz n) := Store.set_same _ _ _
      rw [this] at q; exact q.symm
    · have : rowOf s e sz n (.own b) b = some (.row e sz n) := Store.set_same _ _ _
      rw [this] at q; cases q
  | nil => trivial
  | clip => trivial
  | fro => exact hok rfl

theorem GInv.row2 {s t : Store} {mb ib ob gb : Nat} {G : List (Str × Int)} {is : Bool} {own own2 : Own} {e : TypeId} {sz n m b' : Nat} (h : GInv (rowOf s e sz n own2) t mb ib ob gb G is own) (hok : own2 ≠ .fro) (h2 : ∀ b, own2 = .own b → s b = none)
    (hb' : rowBase t own2 b' = none) : GInv (rowOf s e sz m (.own b')) (rowOf (rowBase t own2) e sz m (.own b')) mb ib ob gb G is own ∧ s b' = none := by
  have hr2 : RowIs t e sz n own2 := RowIs.of_sub hok h.sub
  have hss : Store.Sub s (rowOf s e sz n own2) := by
    cases own2 with
    | own b => exact Store.subSet (Store.sub_refl _) (h2 b rfl)
    | nil => exact Store.sub_refl _
    | clip => exact Store.sub_refl _
    | fro => exact Store.sub_refl _
  have hne : ∀ x o, t x = some o → (rowOf s e sz n own2) x = none → ∀ b, own2 = .own b → x ≠ b := by
    intro x o hx hn b hb e0; subst hb; subst e0
    have : rowOf s e sz n (.own x) x = some (.row e sz n) := Store.set_same _ _ _
    rw [this] at hn; cases hn
  have hk : ∀ x o, t x = some o → (rowOf s e sz n own2) x = none → rowOf (rowBase t own2) e sz m (.own b') x = some o := fun x o hx hn => rowNext_keep (n := 0) hb' hx (hne x o hx hn)
  have hnb : ∀ x o, t x = some o → (rowOf s e sz n own2) x = none → x ≠ b' := by
    intro x o hx hn e; subst e
    have q : rowBase t own2 x = some o := by
      cases own2 with
      | own b => exact (Store.del_ne _ (hne x o hx hn b rfl)).trans hx
      | nil => exact hx
      | clip => exact hx
      | fro => exact hx
    rw [hb'] at q; cases q
  have hsb : s b' = none := by
    cases hs : s b' with
    | none => rfl
    | some o =>
      have g2 : ∀ b, own2 = .own b → b' ≠ b := fun b hb e => by subst e; rw [h2 _ hb] at hs; cases hs
      have q1 : (rowOf s e sz n own2) b' = some o := by
        cases own2 with
        | own b => exact (Store.set_ne _ _ (g2 b rfl)).trans hs
        | nil => exact hs
        | clip => exact hs
        | fro => exact hs
      have q2 : t b' = some o := by
        rcases h.sub b' with q | q
        · rw [q1] at q; exact q.symm
        · rw [q1] at q; cases q
      have q3 : rowBase t own2 b' = some o := by
        cases own2 with
        | own b => exact (Store.del_ne _ (g2 b rfl)).trans q2
        | nil => exact q2
        | clip => exact q2
        | fro => exact q2
      rw [hb'] at q3; cases q3
  obtain ⟨n1, n2, n3, n4⟩ := h.sn
  have hsn : ∀ x o, t x = some o → (rowOf s e sz n own2) x = none → (rowOf s e sz m (.own b')) x = none := fun x o hx hn => (Store.set_ne _ _ (hnb x o hx hn)).trans (hss.none hn)
  refine ⟨⟨hk mb _ h.hm n1, hk ib _ h.hi n2, hk ob _ h.ho n3, hk gb _ h.hg n4, ?_, ?_, ⟨hsn mb _ h.hm n1, hsn ib _ h.hi n2, hsn ob _ h.ho n3, hsn gb _ h.hg n4⟩, ?_, h.d⟩, hsb⟩
  · have := h.row
    cases own with
    | own b => exact hk b _ this (h.srow b rfl)
    | nil => trivial
    | clip => trivial
    | fro => exact this
  · intro x
    by_cases e1 : x = b'
    · subst e1; left; exact (Store.set_same _ _ _).trans (Store.set_same _ _ _).symm
    · show (s.set b' _) x = _ ∨ (s.set b' _) x = none
      rw [Store.set_ne _ _ e1]
      cases hs : s x with
      | none => exact .inr rfl
      | some o =>
        left
        have g2 : ∀ b, own2 = .own b → x ≠ b := fun b hb e => by subst e; rw [h2 _ hb] at hs; cases hs
        have q1 : (rowOf s e sz n own2) x = some o := by
          cases own2 with
          | own b => exact (Store.set_ne _ _ (g2 b rfl)).trans hs
          | nil => exact hs
          | clip => exact hs
          | fro => exact hs
        have q2 : t x = some o := by
          rcases h.sub x with q | q
          · rw [q1] at q; exact q.symm
          · rw [q1] at q; cases q
        exact (rowNext_keep (n := 0) hb' q2 g2).symm
  · intro b hb
    have q := h.srow b hb
    have hrow := h.row
    subst hb
    exact hsn b _ hrow q

theorem resA_cell3 {Γ : Tys} {env : Env} {s : Store} {a b a' b' a'' b'' : Nat} {t T t' T' t'' T'' : TypeId} {i i' i'' : TI} {cs cs' cs'' : List AV} {v v' v'' : AV} (he : env.get? a = some (.ptr b 0)) (hi : Γ.get? t = some i) (hs : s b = some (.box T cs)) (hl : loadC i cs 0 = some v)
    (he' : env.get? a' = some (.ptr b' 0)) (hi' : Γ.get? t' = some i') (hs' : s b' = some (.box T' cs')) (hl' : loadC i' cs' 0 = some v') (he'' : env.get? a'' = some (.ptr b'' 0)) (hi'' : Γ.get? t'' = some i'') (hs'' : s b'' = some (.box T'' cs'')) (hl'' : loadC i'' cs'' 0 = some v'') :
    resA Γ env s [.cell a t, .cell a' t', .cell a'' t''] = some (.tup [v, v', v'']) := by simp [resA, resAll, resOne, he, hi, hs, hl, he', hi', hs', hl', he'', hi'', hs'', hl'']

theorem FMethod.cellsG (m : FMethod) : m.cells = [.int .i64 m.kind, .str m.name, .slc 1 (strs m.params) .fro, .int .i64 m.fact.op, .str m.fact.name, .slc 1 (strs m.fact.path) .fro, .str m.fact.cls, .int .i64 m.fact.n, .slc 6 m.fact.kav .fro,
    .int .i64 m.body.op, .int .i64 m.body.n, .str m.body.text, .slc 4 m.body.kav .fro] := rfl

/-- A program that can be looked at. -/
structure FMethod.Fair (m : FMethod) : Prop where
  name : Sh m.name
  params : Strs m.params
  fact : m.fact.Fair
  body : m.body.Fair
structure FProg.Fair (P : FProg) : Prop where
  clen : P.classes.length < big
  cls : ∀ c ∈ P.classes, c.Fair
  mlen : P.methods.length < big
  mth : ∀ m ∈ P.methods, m.Fair
  main : P.main.Fair
  notes : (progNotes P).length < big
  slen : (P.classes.flatMap FClass.slots).length < big

set_option maxRecDepth 10000 in
set_option maxHeartbeats 2000000 in
theorem gens_spec (P : FProg) (s : Store) (hP : P.Fair) :
    ACalls Try.prog 59 [P.av] s (fun o s' => (∃ gb, o = .ret (.tup [.slc 1 (strs ((progGens P).1.map (·.1))) .fro, .map gb, .bool (progGens P).2])) ∧ s' = s) := by
  have hb : big = 1099511627776 := rfl
  have hml := hP.mlen
  have hnl := hP.notes
  refine ACalls.of_CW tysOk call59 Try.func59 rfl rfl ?_
  repeat (first | with_reducible refine CW.seq ?_ | refine CW.reg ?_ | refine RL.step tysOk rfl rfl rfl rfl ?_)
  refine RL.alloc tysOk rfl rfl rfl rfl rfl rfl rfl (fun ob hob => ?_)
  refine RL.alloc tysOk rfl rfl rfl rfl rfl rfl rfl (fun mb hmb => ?_)
  refine RL.alloc tysOk rfl rfl rfl rfl rfl rfl rfl (fun ib hib => ?_)
  repeat (first | with_reducible refine CW.seq ?_ | with_reducible refine andThen_normal ?_ | refine CW.reg ?_ | refine RL.nil ?_)
  refine RL.makeMap rfl rfl rfl rfl (fun gb hgb => ?_)
  simp only [Store.set_eq_none] at hob hmb hib hgb
  obtain ⟨a1, a2⟩ := hmb
  obtain ⟨a3, a4, a5⟩ := hib
  obtain ⟨a6, a7, a8, a9⟩ := hgb
  refine RL.storeP tysOk rfl rfl rfl rfl rfl rfl rfl rfl rfl (by (repeat (first | exact Store.set_same _ _ _ | assumption | with_reducible rw [Store.set_ne _ _ (by omega)]))) rfl ?_
  repeat (first | with_reducible refine CW.seq ?_ | with_reducible refine andThen_normal ?_ | refine CW.reg ?_ | refine RL.nil ?_)
  refine RL.storeP tysOk rfl rfl rfl rfl rfl rfl rfl rfl rfl (by (repeat (first | exact Store.set_same _ _ _ | assumption | with_reducible rw [Store.set_ne _ _ (by omega)]))) rfl ?_
  repeat (first | with_reducible refine CW.seq ?_ | with_reducible refine andThen_normal ?_ | refine CW.reg ?_ | refine RL.nil ?_ | refine RL.step tysOk rfl rfl rfl rfl ?_)
  refine RL.newBox tysOk rfl rfl rfl rfl rfl rfl rfl (fun _ => rfl) rfl rfl (fun _ => rfl) rfl rfl rfl rfl ?_
  repeat (first | with_reducible refine CW.seq ?_ | with_reducible refine andThen_normal ?_ | with_reducible refine CW.block ?_ | refine CW.reg (RL.run tysOk rfl (RL.nil ?_)) | refine RL.nil ?_)
  have g0 : GInv s (((((s.set ob (.box 22 [.slc 1 [] .nil])).set mb (.box 91 [.map gb])).set ib (.box 4 [.bool true])).set gb (.map []))) mb ib ob gb [] true .nil := by
    refine ⟨(by (repeat (first | exact Store.set_same _ _ _ | assumption | with_reducible rw [Store.set_ne _ _ (by omega)]))), (by (repeat (first | exact Store.set_same _ _ _ | assumption | with_reducible rw [Store.set_ne _ _ (by omega)]))), (by (repeat (first | exact Store.set_same _ _ _ | assumption | with_reducible rw [Store.set_ne _ _ (by omega)]))), (by (repeat (first | exact Store.set_same _ _ _ | assumption | with_reducible rw [Store.set_ne _ _ (by omega)]))), trivial, Store.subSet (Store.subSet (Store.subSet (Store.subSet (Store.sub_refl _) hob) a2) a5) a9, ⟨a2, a5, hob, a9⟩, by simp, ⟨a3.symm, a1, a7.symm, a4, a6.symm, a8.symm⟩⟩
  refine CW.boxWeak ob [.slc 1 [] .nil] (cs := [.slc 0 [] .nil]) (by (repeat (first | exact Store.set_same _ _ _ | assumption | with_reducible rw [Store.set_ne _ _ (by omega)]))) (.one (AVle.nil (by simp))) ?_
  refine CW.loop (σ := Nat × Store × (List (Str × Int) × Bool) × Own × Own) (fun q => [(1, .fptr P.cells 0), (2, .ptr ob 0), (3, .ptr mb 0), (4, .ptr ib 0), (5, .fptr [.func 100 [] [.ptr mb 0, .ptr ib 0, .ptr ob 0]] 0), (6, .slc 4 ((P.methods.take q.1).map fun m => m.body.av) q.2.2.2.2), (16, .slc 13 (P.methods.map FMethod.av) .fro), (17, .int .i64 (P.methods.map FMethod.av).length), (18, .int .i64 (q.1 : Int))]) (fun q => q.2.1)
    (fun q => q.1 ≤ P.methods.length ∧ GInv (rowOf s 32 4 q.1 q.2.2.2.2) q.2.1 mb ib ob gb q.2.2.1.1 q.2.2.1.2 q.2.2.2.1 ∧ q.2.2.2.2 ≠ .fro ∧ (∀ b, q.2.2.2.2 = .own b → s b = none) ∧ gNotes q.2.2.1 (methodNotes (P.methods.drop q.1)) = gNotes ([], true) (methodNotes P.methods) ∧ q.2.2.1.1.length ≤ q.1)
    (fun q => P.methods.length - q.1) (0, (((((s.set ob (.box 22 [.slc 1 [] .nil])).set mb (.box 91 [.map gb])).set ib (.box 4 [.bool true])).set gb (.map []))), ([], true), .nil, .clip) ⟨by simp, g0, by simp, by simp, rfl, by simp⟩ ?_ (fun z => by simp only [Store.set, Store.del]; (repeat' split) <;> first | (exact .inl rfl) | (exfalso; omega) | (right; simp_all; done)) ?_
  · exact ⟨⟨_, rfl, AVle.refl _⟩, ⟨_, rfl, AVle.refl _⟩, ⟨_, rfl, AVle.refl _⟩, ⟨_, rfl, AVle.refl _⟩, ⟨_, rfl, AVle.refl _⟩, ⟨_, rfl, AVle.refl _⟩, ⟨_, rfl, AVle.refl _⟩, ⟨_, rfl, AVle.refl _⟩, ⟨_, rfl, AVle.refl _⟩, trivial⟩
  · rintro ⟨i, t, ⟨G, is⟩, own, own2⟩ ⟨hi, g, hok2, hs2, hN, hGl⟩
    simp only at hi g hok2 hs2 hN hGl ⊢
    repeat (first | with_reducible refine CW.seq ?_ | with_reducible refine andThen_normal ?_ | refine CW.reg (RL.run tysOk rfl (RL.nil ?_)))
    refine CW.cond rfl (fun h => ?_) (fun h => ?_)
    · have hlt : i < P.methods.length := by simpa using h
      obtain ⟨m, hm⟩ : ∃ m, P.methods[i]? = some m := ⟨_, List.getElem?_eq_getElem hlt⟩
      have hm' : (P.methods.map FMethod.av)[i]? = some (.agg m.cells) := by rw [List.getElem?_map, hm]; rfl
      rw [drop_cons hm] at hN
      repeat (first | with_reducible refine CW.seq ?_ | with_reducible refine andThen_normal ?_ | with_reducible refine CW.skip ?_ | with_reducible refine CW.block ?_ | refine CW.reg ?_ | refine RL.step tysOk rfl rfl rfl rfl ?_ | refine RL.idx tysOk _ rfl rfl rfl rfl rfl rfl rfl rfl rfl rfl rfl (by assumption) rfl ?_)
      refine RL.newBox tysOk rfl rfl rfl rfl rfl rfl rfl (fun _ => rfl) rfl rfl (fun _ => rfl) rfl rfl rfl rfl ?_
      repeat (first | with_reducible refine CW.seq ?_ | with_reducible refine andThen_normal ?_ | refine CW.reg ?_ | refine RL.nil ?_ | refine RL.step tysOk rfl rfl rfl rfl ?_)
      refine RL.callV rfl rfl rfl rfl rfl rfl (ACallV.of_calls (gensNote_spec _ t mb ib ob gb G is own m.name ((strs m.params).length : Int) g (by omega))) ?_ (fun _ _ ⟨h, _⟩ => by cases h)
      rintro _ t' ⟨⟨⟩, own', g'⟩
      have hr2 : RowIs t' 32 4 i own2 := RowIs.of_sub hok2 g'.sub
      repeat (first | with_reducible refine andThen_normal ?_ | refine CW.reg ?_ | refine RL.nil ?_ | refine RL.step tysOk rfl rfl rfl rfl ?_)
      refine RL.append1 tysOk rfl rfl rfl rfl rfl rfl rfl (by intro k h; cases h) rfl rfl rfl rfl rfl rfl rfl (n := i) (by simp; omega) (by show (i + 1) * 56 ≤ _; omega) (by omega) (rowBase_eq hr2) (rowBase_ok hr2) (fun b' hb' => ?_)
      obtain ⟨g2, hsb'⟩ := g'.row2 (m := i + 1) hok2 hs2 hb'
      repeat (first | with_reducible refine andThen_normal ?_ | with_reducible refine inBlock_normal ?_ | refine CW.reg (RL.run tysOk rfl (RL.nil ?_)) | refine RL.nil ?_ | refine RL.step tysOk rfl rfl rfl rfl ?_)
      refine ⟨(i + 1, _, gNote (G, is) m.name ((strs m.params).length : Int), own', .own b'), ⟨hlt, g2, by simp, fun b hb => by cases hb; exact hsb', ?_, ?_⟩, ⟨⟨_, rfl, AVle.refl _⟩, ⟨_, rfl, AVle.refl _⟩, ⟨_, rfl, AVle.refl _⟩, ⟨_, rfl, AVle.refl _⟩, ⟨_, rfl, AVle.refl _⟩, ⟨_, rfl, AVle.of_eq ?_⟩, ⟨_, rfl, AVle.refl _⟩, ⟨_, rfl, AVle.refl _⟩, ⟨_, rfl, AVle.of_eq ?_⟩, trivial⟩, Store.sub_refl _, by show P.methods.length - (i + 1) < P.methods.length - i; omega⟩
      · rw [← hN, strs_length]; rfl
      · have := gNote_length (G, is) m.name ((strs m.params).length : Int)
        show (gNote (G, is) m.name ((strs m.params).length : Int)).1.length ≤ i + 1
        simp only at this; omega
      · congr 1; exact map_take_succ (fun m : FMethod => m.body.av) hm
      · rw [i64_succ (by omega)]
    · have hge : P.methods.length ≤ i := by simpa using h
      have hie : i = P.methods.length := by omega
      have hr2 : RowIs t 32 4 i own2 := RowIs.of_sub hok2 g.sub
      repeat (first | with_reducible refine CW.seq ?_ | with_reducible refine andThen_normal ?_ | with_reducible refine andThen_exit ?_ | with_reducible refine inBlock_here ?_ | with_reducible refine CW.exit ?_ | refine CW.reg ?_ | refine RL.step tysOk rfl rfl rfl rfl ?_)
      refine RL.append1 tysOk rfl rfl rfl rfl rfl rfl rfl (by intro k h; cases h) rfl rfl rfl rfl rfl rfl rfl (n := i) (by simp; omega) (by show (i + 1) * 56 ≤ _; omega) (by omega) (rowBase_eq hr2) (rowBase_ok hr2) (fun b' hb' => ?_)
      obtain ⟨g2, hsb'⟩ := g.row2 (m := i + 1) hok2 hs2 hb'
      have g3 := g2.weaken (Store.subSet (Store.sub_refl s) hsb')
      generalize rowOf (rowBase t own2) 32 4 (i + 1) (.own b') = t3 at g3 ⊢
      generalize hbsd : P.methods.map FMethod.body ++ [P.main] = bs
      have hbs : ((P.methods.take i).map fun m => m.body.av) ++ [P.main.av] = bs.map FExp.av := by
        rw [← hbsd, List.take_of_length_le hge]; simp
      have hbf : ∀ e ∈ bs, e.Fair := by
        intro e he
        rw [← hbsd] at he
        rcases List.mem_append.1 he with he | he
        · obtain ⟨m, hm, rfl⟩ := List.mem_map.1 he; exact (hP.mth m hm).body
        · simp at he; subst he; exact hP.main
      have hbl : bs.length = P.methods.length + 1 := by rw [← hbsd]; simp
      rw [List.drop_eq_nil_of_le hge] at hN
      have hN' : (G, is) = gNotes ([], true) (methodNotes P.methods) := hN
      have hfin : gNotes (G, is) (bs.flatMap fun e => callsL e.allE) = progGens P := by
        rw [hN', progGens, progNotes, hbsd, gNotes, gNotes, gNotes, List.foldl_append]
      have hfl : G.length + (bs.flatMap fun e => callsL e.allE).length ≤ (progNotes P).length := by
        rw [progNotes, hbsd, List.length_append]
        have : (methodNotes P.methods).length = P.methods.length := by simp [methodNotes]
        omega
      repeat (first | with_reducible refine andThen_normal ?_ | with_reducible refine CW.block ?_ | refine RL.nil ?_ | refine RL.step tysOk rfl rfl rfl rfl ?_)
      refine CW.loop (σ := Nat × Store × (List (Str × Int) × Bool) × Own) (fun q => [(2, .ptr ob 0), (3, .ptr mb 0), (4, .ptr ib 0), (5, .fptr [.func 100 [] [.ptr mb 0, .ptr ib 0, .ptr ob 0]] 0), (39, .slc 4 (bs.map FExp.av) .fro), (40, .int .i64 (bs.map FExp.av).length), (41, .int .i64 (q.1 : Int))]) (fun q => q.2.1)
        (fun q => q.1 ≤ bs.length ∧ GInv s q.2.1 mb ib ob gb q.2.2.1.1 q.2.2.1.2 q.2.2.2 ∧ gNotes q.2.2.1 ((bs.drop q.1).flatMap fun e => callsL e.allE) = progGens P ∧ q.2.2.1.1.length + ((bs.drop q.1).flatMap fun e => callsL e.allE).length ≤ (progNotes P).length)
        (fun q => bs.length - q.1) (0, t3, (G, is), own) ⟨by simp, g3, hfin, hfl⟩ ?_ (Store.sub_refl _) ?_
      · exact ⟨⟨_, rfl, AVle.refl _⟩, ⟨_, rfl, AVle.refl _⟩, ⟨_, rfl, AVle.refl _⟩, ⟨_, rfl, AVle.refl _⟩, ⟨_, rfl, (AVle.of_eq (congrArg (fun l => AV.slc 4 l (.own b')) hbs)).trans AVle.fro⟩, ⟨_, rfl, AVle.of_eq (congrArg (fun l : List AV => AV.int .i64 l.length) hbs)⟩, ⟨_, rfl, AVle.refl _⟩, trivial⟩
      · clear hN hN' hfin hfl g g2 g3 hGl hok2 hs2 hr2
        rintro ⟨j, t, ⟨G, is⟩, own⟩ ⟨hj, g, hN, hl⟩
        simp only at hj g hN hl ⊢
        repeat (first | with_reducible refine CW.seq ?_ | with_reducible refine andThen_normal ?_ | refine CW.reg (RL.run tysOk rfl (RL.nil ?_)))
        refine CW.cond rfl (fun h => ?_) (fun h => ?_)
        · have hlt : j < bs.length := by simpa using h
          obtain ⟨e, he⟩ : ∃ e, bs[j]? = some e := ⟨_, List.getElem?_eq_getElem hlt⟩
          have he' : (bs.map FExp.av)[j]? = some (.agg e.cells) := by rw [List.getElem?_map, he]; rfl
          have hef := hbf e (List.mem_of_getElem? he)
          rw [drop_cons he, List.flatMap_cons] at hN hl
          generalize hrest : ((bs.drop (j + 1)).flatMap fun e => callsL e.allE) = rest at hN hl ⊢
          repeat (first | with_reducible refine CW.seq ?_ | with_reducible refine andThen_normal ?_ | with_reducible refine CW.skip ?_ | with_reducible refine CW.block ?_ | refine CW.reg ?_ | refine RL.step tysOk rfl rfl rfl rfl ?_ | refine RL.idx tysOk _ rfl rfl rfl rfl rfl rfl rfl rfl rfl rfl rfl (by assumption) rfl ?_)
          refine RL.newBox tysOk rfl rfl rfl rfl rfl rfl rfl (fun _ => rfl) rfl rfl (fun _ => rfl) rfl rfl rfl rfl ?_
          repeat (first | with_reducible refine CW.seq ?_ | with_reducible refine andThen_normal ?_ | refine CW.reg ?_ | refine RL.nil ?_ | refine RL.step tysOk rfl rfl rfl rfl ?_)
          refine RL.callP rfl rfl rfl rfl rfl (all_spec e _) ?_
          repeat (first | with_reducible refine andThen_normal ?_ | with_reducible refine CW.block ?_ | refine RL.nil ?_)
          refine CW.rangeAll e rfl rfl hef.size (fun rem s₁ => ∃ G' is' own', GInv s s₁ mb ib ob gb G' is' own' ∧ gNotes (G', is') (callsL rem ++ rest) = progGens P ∧ G'.length + (callsL rem ++ rest).length ≤ (progNotes P).length)
            (fun _ _ => False) (fun _ _ => False) ⟨G, is, own, g, hN, hl⟩ ?_ ?_ (fun _ _ h => h.elim) (fun _ _ h => h.elim)
          · rintro x rem s₁ hx ⟨G', is', own', g', hN', hl'⟩
            repeat (first | refine CW.reg ?_)
            refine RL.newBox tysOk rfl rfl rfl rfl rfl rfl rfl (fun _ => rfl) rfl rfl (fun _ => rfl) rfl rfl rfl rfl ?_
            repeat (first | with_reducible refine CW.seq ?_ | with_reducible refine andThen_normal ?_ | with_reducible refine CW.block ?_ | refine CW.reg (RL.run tysOk rfl (RL.nil ?_)) | refine RL.nil ?_)
            cases h5 : (x.op == 5) with
            | true =>
              have hc : callsL (x :: rem) = (x.text, (x.kids.length : Int)) :: callsL rem := by simp [callsL, List.filter_cons, h5]
              rw [hc] at hN' hl'
              simp only [List.cons_append, List.length_cons] at hl'
              repeat (first | refine CW.reg ?_ | refine CW.condT rfl ?_ | refine RL.step tysOk rfl rfl rfl rfl ?_)
              refine RL.callV rfl rfl rfl rfl rfl rfl (ACallV.of_calls (gensNote_spec s s₁ mb ib ob gb G' is' own' x.text (x.kav.length : Int) g' (by omega))) ?_ (fun _ _ ⟨h, _⟩ => by cases h)
              rintro _ t' ⟨⟨⟩, own'', g''⟩
              repeat (first | with_reducible refine inBlock_normal ?_ | refine RL.nil ?_)
              refine ⟨_, _, own'', g'', ?_, ?_⟩
              · rw [← hN', FExp.kav_length]; rfl
              · have := gNote_length (G', is') x.text (x.kav.length : Int)
                simp only at this; omega
            | false =>
              have hc : callsL (x :: rem) = callsL rem := by simp [callsL, List.filter_cons, h5]
              rw [hc] at hN' hl'
              repeat (first | with_reducible refine inBlock_normal ?_ | with_reducible refine CW.skip ?_ | refine CW.condF rfl ?_)
              exact ⟨G', is', own', g', hN', hl'⟩
          · rintro s₁ ⟨G', is', own', g', hN', hl'⟩
            repeat (first | with_reducible refine andThen_normal ?_ | with_reducible refine inBlock_normal ?_ | refine CW.reg (RL.run tysOk rfl (RL.nil ?_)))
            refine ⟨(j + 1, s₁, (G', is'), own'), ⟨hlt, g', hrest.symm ▸ hN', hrest.symm ▸ hl'⟩, ⟨⟨_, rfl, AVle.refl _⟩, ⟨_, rfl, AVle.refl _⟩, ⟨_, rfl, AVle.refl _⟩, ⟨_, rfl, AVle.refl _⟩, ⟨_, rfl, AVle.refl _⟩, ⟨_, rfl, AVle.refl _⟩, ⟨_, rfl, AVle.of_eq ?_⟩, trivial⟩, Store.sub_refl _, by show bs.length - (j + 1) < bs.length - j; omega⟩
            rw [i64_succ (by omega)]
        · have hge : bs.length ≤ j := by simpa using h
          rw [List.drop_eq_nil_of_le hge] at hN
          have hfin : (G, is) = progGens P := hN
          have hm := g.hm
          have hi := g.hi
          have ho := g.ho
          repeat (first | with_reducible refine CW.seq ?_ | with_reducible refine andThen_normal ?_ | with_reducible refine andThen_exit ?_ | with_reducible refine inBlock_here ?_ | with_reducible refine CW.exit ?_)
          refine CW.drw tysOk mixed rfl (RD.run rfl ?_)
          refine RD.many rfl (RDAll.c (RDStep.mk (i := 0) rfl rfl rfl rfl (OW.loadP tysOk rfl rfl rfl ho rfl (X := fun _ _ => False)) ?_ (fun _ _ h => False.elim h)) (RDAll.c (RDStep.mk (i := 1) rfl rfl rfl rfl (OW.loadP tysOk rfl rfl rfl hm rfl (X := fun _ _ => False)) ?_ (fun _ _ h => False.elim h)) (RDAll.c (RDStep.mk (i := 2) rfl rfl rfl rfl (OW.loadP tysOk rfl rfl rfl hi rfl (X := fun _ _ => False)) ?_ (fun _ _ h => False.elim h)) RDAll.n)))
          · rintro _ _ ⟨rfl, rfl⟩
            refine RD.run rfl ?_
            refine RD.many rfl (RDAll.c (RDStep.mk (i := 1) rfl rfl rfl rfl (OW.loadP tysOk rfl rfl rfl hm rfl (X := fun _ _ => False)) ?_ (fun _ _ h => False.elim h)) (RDAll.c (RDStep.mk (i := 2) rfl rfl rfl rfl (OW.loadP tysOk rfl rfl rfl hi rfl (X := fun _ _ => False)) ?_ (fun _ _ h => False.elim h)) (RDAll.c (RDStep.mkN (i := 3) rfl rfl rfl (OW.storeSame tysOk rfl rfl rfl rfl rfl rfl rfl ho rfl rfl (X := fun _ _ => False)) ?_ (fun _ _ h => False.elim h)) RDAll.n)))
            · rintro _ _ ⟨rfl, rfl⟩
              refine RD.run rfl ?_
              refine RD.many rfl (RDAll.c (RDStep.mk (i := 2) rfl rfl rfl rfl (OW.loadP tysOk rfl rfl rfl hi rfl (X := fun _ _ => False)) ?_ (fun _ _ h => False.elim h)) (RDAll.c (RDStep.mkN (i := 3) rfl rfl rfl (OW.storeSame tysOk rfl rfl rfl rfl rfl rfl rfl ho rfl rfl (X := fun _ _ => False)) ?_ (fun _ _ h => False.elim h)) RDAll.n))
              · rintro _ _ ⟨rfl, rfl⟩
                refine RD.run rfl ?_
                refine RD.many rfl (RDAll.c (RDStep.mkN (i := 3) rfl rfl rfl (OW.storeSame tysOk rfl rfl rfl rfl rfl rfl rfl ho rfl rfl (X := fun _ _ => False)) ?_ (fun _ _ h => False.elim h)) RDAll.n)
                · rintro _ _ rfl
                  refine RD.run rfl ?_
                  refine RD.many rfl (RDAll.c (RDStep.mkN (i := 4) rfl rfl rfl (OW.storeSame tysOk rfl rfl rfl rfl rfl rfl rfl hm rfl rfl (X := fun _ _ => False)) ?_ (fun _ _ h => False.elim h)) RDAll.n)
                  · rintro _ _ rfl
                    refine RD.run rfl ?_
                    refine RD.many rfl (RDAll.c (RDStep.mkN (i := 5) rfl rfl rfl (OW.storeSame tysOk rfl rfl rfl rfl rfl rfl rfl hi rfl rfl (X := fun _ _ => False)) ?_ (fun _ _ h => False.elim h)) RDAll.n)
                    · rintro _ _ rfl
                      refine RD.run rfl ?_
                      refine RD.done rfl ?_
                      repeat (first | with_reducible refine andThen_normal ?_ | with_reducible refine CW.ret ?_)
                      refine ⟨_, .tup [.slc 1 (strs (G.map (·.1))) .fro, .map gb, .bool is], s, resA_cell3 rfl rfl ho rfl rfl rfl hm rfl rfl rfl hi rfl, AVle.tup (.cons AVle.fro (AVleL.refl _)), g.sub, ⟨gb, ?_⟩, rfl⟩
                      rw [← hfin]
              · rintro _ _ rfl
                refine RD.run rfl ?_
                refine RD.many rfl (RDAll.c (RDStep.mk (i := 2) rfl rfl rfl rfl (OW.loadP tysOk rfl rfl rfl hi rfl (X := fun _ _ => False)) ?_ (fun _ _ h => False.elim h)) (RDAll.c (RDStep.mkN (i := 4) rfl rfl rfl (OW.storeSame tysOk rfl rfl rfl rfl rfl rfl rfl hm rfl rfl (X := fun _ _ => False)) ?_ (fun _ _ h => False.elim h)) RDAll.n))
                · rintro _ _ ⟨rfl, rfl⟩
                  refine RD.run rfl ?_
                  refine RD.many rfl (RDAll.c (RDStep.mkN (i := 4) rfl rfl rfl (OW.storeSame tysOk rfl rfl rfl rfl rfl rfl rfl hm rfl rfl (X := fun _ _ => False)) ?_ (fun _ _ h => False.elim h)) RDAll.n)
                  · rintro _ _ rfl
                    refine RD.run rfl ?_
                    refine RD.many rfl (RDAll.c (RDStep.mkN (i := 5) rfl rfl rfl (OW.storeSame tysOk rfl rfl rfl rfl rfl rfl rfl hi rfl rfl (X := fun _ _ => False)) ?_ (fun _ _ h => False.elim h)) RDAll.n)
                    · rintro _ _ rfl
                      refine RD.run rfl ?_
                      refine RD.done rfl ?_
                      repeat (first | with_reducible refine andThen_normal ?_ | with_reducible refine CW.ret ?_)
                      refine ⟨_, .tup [.slc 1 (strs (G.map (·.1))) .fro, .map gb, .bool is], s, resA_cell3 rfl rfl ho rfl rfl rfl hm rfl rfl rfl hi rfl, AVle.tup (.cons AVle.fro (AVleL.refl _)), g.sub, ⟨gb, ?_⟩, rfl⟩
                      rw [← hfin]
                · rintro _ _ rfl
                  refine RD.run rfl ?_
                  refine RD.many rfl (RDAll.c (RDStep.mk (i := 2) rfl rfl rfl rfl (OW.loadP tysOk rfl rfl rfl hi rfl (X := fun _ _ => False)) ?_ (fun _ _ h => False.elim h)) RDAll.n)
                  · rintro _ _ ⟨rfl, rfl⟩
                    refine RD.run rfl ?_
                    refine RD.many rfl (RDAll.c (RDStep.mkN (i := 5) rfl rfl rfl (OW.storeSame tysOk rfl rfl rfl rfl rfl rfl rfl hi rfl rfl (X := fun _ _ => False)) ?_ (fun _ _ h => False.elim h)) RDAll.n)
                    · rintro _ _ rfl
                      refine RD.run rfl ?_
                      refine RD.done rfl ?_
                      repeat (first | with_reducible refine andThen_normal ?_ | with_reducible refine CW.ret ?_)
                      refine ⟨_, .tup [.slc 1 (strs (G.map (·.1))) .fro, .map gb, .bool is], s, resA_cell3 rfl rfl ho rfl rfl rfl hm rfl rfl rfl hi rfl, AVle.tup (.cons AVle.fro (AVleL.refl _)), g.sub, ⟨gb, ?_⟩, rfl⟩
                      rw [← hfin]
            · rintro _ _ ⟨rfl, rfl⟩
              refine RD.run rfl ?_
              refine RD.many rfl (RDAll.c (RDStep.mk (i := 1) rfl rfl rfl rfl (OW.loadP tysOk rfl rfl rfl hm rfl (X := fun _ _ => False)) ?_ (fun _ _ h => False.elim h)) (RDAll.c (RDStep.mkN (i := 3) rfl rfl rfl (OW.storeSame tysOk rfl rfl rfl rfl rfl rfl rfl ho rfl rfl (X := fun _ _ => False)) ?_ (fun _ _ h => False.elim h)) RDAll.n))
              · rintro _ _ ⟨rfl, rfl⟩
                refine RD.run rfl ?_
                refine RD.many rfl (RDAll.c (RDStep.mkN (i := 3) rfl rfl rfl (OW.storeSame tysOk rfl rfl rfl rfl rfl rfl rfl ho rfl rfl (X := fun _ _ => False)) ?_ (fun _ _ h => False.elim h)) RDAll.n)
                · rintro _ _ rfl
                  refine RD.run rfl ?_
                  refine RD.many rfl (RDAll.c (RDStep.mkN (i := 4) rfl rfl rfl (OW.storeSame tysOk rfl rfl rfl rfl rfl rfl rfl hm rfl rfl (X := fun _ _ => False)) ?_ (fun _ _ h => False.elim h)) RDAll.n)
                  · rintro _ _ rfl
                    refine RD.run rfl ?_
                    refine RD.many rfl (RDAll.c (RDStep.mkN (i := 5) rfl rfl rfl (OW.storeSame tysOk rfl rfl rfl rfl rfl rfl rfl hi rfl rfl (X := fun _ _ => False)) ?_ (fun _ _ h => False.elim h)) RDAll.n)
                    · rintro _ _ rfl
                      refine RD.run rfl ?_
                      refine RD.done rfl ?_
                      repeat (first | with_reducible refine andThen_normal ?_ | with_reducible refine CW.ret ?_)
                      refine ⟨_, .tup [.slc 1 (strs (G.map (·.1))) .fro, .map gb, .bool is], s, resA_cell3 rfl rfl ho rfl rfl rfl hm rfl rfl rfl hi rfl, AVle.tup (.cons AVle.fro (AVleL.refl _)), g.sub, ⟨gb, ?_⟩, rfl⟩
                      rw [← hfin]
              · rintro _ _ rfl
                refine RD.run rfl ?_
                refine RD.many rfl (RDAll.c (RDStep.mk (i := 1) rfl rfl rfl rfl (OW.loadP tysOk rfl rfl rfl hm rfl (X := fun _ _ => False)) ?_ (fun _ _ h => False.elim h)) RDAll.n)
                · rintro _ _ ⟨rfl, rfl⟩
                  refine RD.run rfl ?_
                  refine RD.many rfl (RDAll.c (RDStep.mkN (i := 4) rfl rfl rfl (OW.storeSame tysOk rfl rfl rfl rfl rfl rfl rfl hm rfl rfl (X := fun _ _ => False)) ?_ (fun _ _ h => False.elim h)) RDAll.n)
                  · rintro _ _ rfl
                    refine RD.run rfl ?_
                    refine RD.many rfl (RDAll.c (RDStep.mkN (i := 5) rfl rfl rfl (OW.storeSame tysOk rfl rfl rfl rfl rfl rfl rfl hi rfl rfl (X := fun _ _ => False)) ?_ (fun _ _ h => False.elim h)) RDAll.n)
                    · rintro _ _ rfl
                      refine RD.run rfl ?_
                      refine RD.done rfl ?_
                      repeat (first | with_reducible refine andThen_normal ?_ | with_reducible refine CW.ret ?_)
                      refine ⟨_, .tup [.slc 1 (strs (G.map (·.1))) .fro, .map gb, .bool is], s, resA_cell3 rfl rfl ho rfl rfl rfl hm rfl rfl rfl hi rfl, AVle.tup (.cons AVle.fro (AVleL.refl _)), g.sub, ⟨gb, ?_⟩, rfl⟩
                      rw [← hfin]
            · rintro _ _ rfl
              refine RD.run rfl ?_
              refine RD.many rfl (RDAll.c (RDStep.mk (i := 1) rfl rfl rfl rfl (OW.loadP tysOk rfl rfl rfl hm rfl (X := fun _ _ => False)) ?_ (fun _ _ h => False.elim h)) (RDAll.c (RDStep.mk (i := 2) rfl rfl rfl rfl (OW.loadP tysOk rfl rfl rfl hi rfl (X := fun _ _ => False)) ?_ (fun _ _ h => False.elim h)) RDAll.n))
              · rintro _ _ ⟨rfl, rfl⟩
                refine RD.run rfl ?_
                refine RD.many rfl (RDAll.c (RDStep.mk (i := 2) rfl rfl rfl rfl (OW.loadP tysOk rfl rfl rfl hi rfl (X := fun _ _ => False)) ?_ (fun _ _ h => False.elim h)) (RDAll.c (RDStep.mkN (i := 4) rfl rfl rfl (OW.storeSame tysOk rfl rfl rfl rfl rfl rfl rfl hm rfl rfl (X := fun _ _ => False)) ?_ (fun _ _ h => False.elim h)) RDAll.n))
                · rintro _ _ ⟨rfl, rfl⟩
                  refine RD.run rfl ?_
                  refine RD.many rfl (RDAll.c (RDStep.mkN (i := 4) rfl rfl rfl (OW.storeSame tysOk rfl rfl rfl rfl rfl rfl rfl hm rfl rfl (X := fun _ _ => False)) ?_ (fun _ _ h => False.elim h)) RDAll.n)
                  · rintro _ _ rfl
                    refine RD.run rfl ?_
                    refine RD.many rfl (RDAll.c (RDStep.mkN (i := 5) rfl rfl rfl (OW.storeSame tysOk rfl rfl rfl rfl rfl rfl rfl hi rfl rfl (X := fun _ _ => False)) ?_ (fun _ _ h => False.elim h)) RDAll.n)
                    · rintro _ _ rfl
                      refine RD.run rfl ?_
                      refine RD.done rfl ?_
                      repeat (first | with_reducible refine andThen_normal ?_ | with_reducible refine CW.ret ?_)
                      refine ⟨_, .tup [.slc 1 (strs (G.map (·.1))) .fro, .map gb, .bool is], s, resA_cell3 rfl rfl ho rfl rfl rfl hm rfl rfl rfl hi rfl, AVle.tup (.cons AVle.fro (AVleL.refl _)), g.sub, ⟨gb, ?_⟩, rfl⟩
                      rw [← hfin]
                · rintro _ _ rfl
                  refine RD.run rfl ?_
                  refine RD.many rfl (RDAll.c (RDStep.mk (i := 2) rfl rfl rfl rfl (OW.loadP tysOk rfl rfl rfl hi rfl (X := fun _ _ => False)) ?_ (fun _ _ h => False.elim h)) RDAll.n)
                  · rintro _ _ ⟨rfl, rfl⟩
                    refine RD.run rfl ?_
                    refine RD.many rfl (RDAll.c (RDStep.mkN (i := 5) rfl rfl rfl (OW.storeSame tysOk rfl rfl rfl rfl rfl rfl rfl hi rfl rfl (X := fun _ _ => False)) ?_ (fun _ _ h => False.elim h)) RDAll.n)
                    · rintro _ _ rfl
                      refine RD.run rfl ?_
                      refine RD.done rfl ?_
                      repeat (first | with_reducible refine andThen_normal ?_ | with_reducible refine CW.ret ?_)
                      refine ⟨_, .tup [.slc 1 (strs (G.map (·.1))) .fro, .map gb, .bool is], s, resA_cell3 rfl rfl ho rfl rfl rfl hm rfl rfl rfl hi rfl, AVle.tup (.cons AVle.fro (AVleL.refl _)), g.sub, ⟨gb, ?_⟩, rfl⟩
                      rw [← hfin]
              · rintro _ _ ⟨rfl, rfl⟩
                refine RD.run rfl ?_
                refine RD.many rfl (RDAll.c (RDStep.mk (i := 1) rfl rfl rfl rfl (OW.loadP tysOk rfl rfl rfl hm rfl (X := fun _ _ => False)) ?_ (fun _ _ h => False.elim h)) RDAll.n)
                · rintro _ _ ⟨rfl, rfl⟩
                  refine RD.run rfl ?_
                  refine RD.many rfl (RDAll.c (RDStep.mkN (i := 4) rfl rfl rfl (OW.storeSame tysOk rfl rfl rfl rfl rfl rfl rfl hm rfl rfl (X := fun _ _ => False)) ?_ (fun _ _ h => False.elim h)) RDAll.n)
                  · rintro _ _ rfl
                    refine RD.run rfl ?_
                    refine RD.many rfl (RDAll.c (RDStep.mkN (i := 5) rfl rfl rfl (OW.storeSame tysOk rfl rfl rfl rfl rfl rfl rfl hi rfl rfl (X := fun _ _ => False)) ?_ (fun _ _ h => False.elim h)) RDAll.n)
                    · rintro _ _ rfl
                      refine RD.run rfl ?_
                      refine RD.done rfl ?_
                      repeat (first | with_reducible refine andThen_normal ?_ | with_reducible refine CW.ret ?_)
                      refine ⟨_, .tup [.slc 1 (strs (G.map (·.1))) .fro, .map gb, .bool is], s, resA_cell3 rfl rfl ho rfl rfl rfl hm rfl rfl rfl hi rfl, AVle.tup (.cons AVle.fro (AVleL.refl _)), g.sub, ⟨gb, ?_⟩, rfl⟩
                      rw [← hfin]
          · rintro _ _ ⟨rfl, rfl⟩
            refine RD.run rfl ?_
            refine RD.many rfl (RDAll.c (RDStep.mk (i := 0) rfl rfl rfl rfl (OW.loadP tysOk rfl rfl rfl ho rfl (X := fun _ _ => False)) ?_ (fun _ _ h => False.elim h)) (RDAll.c (RDStep.mk (i := 2) rfl rfl rfl rfl (OW.loadP tysOk rfl rfl rfl hi rfl (X := fun _ _ => False)) ?_ (fun _ _ h => False.elim h)) RDAll.n))
            · rintro _ _ ⟨rfl, rfl⟩
              refine RD.run rfl ?_
              refine RD.many rfl (RDAll.c (RDStep.mk (i := 2) rfl rfl rfl rfl (OW.loadP tysOk rfl rfl rfl hi rfl (X := fun _ _ => False)) ?_ (fun _ _ h => False.elim h)) (RDAll.c (RDStep.mkN (i := 3) rfl rfl rfl (OW.storeSame tysOk rfl rfl rfl rfl rfl rfl rfl ho rfl rfl (X := fun _ _ => False)) ?_ (fun _ _ h => False.elim h)) RDAll.n))
              · rintro _ _ ⟨rfl, rfl⟩
                refine RD.run rfl ?_
                refine RD.many rfl (RDAll.c (RDStep.mkN (i := 3) rfl rfl rfl (OW.storeSame tysOk rfl rfl rfl rfl rfl rfl rfl ho rfl rfl (X := fun _ _ => False)) ?_ (fun _ _ h => False.elim h)) RDAll.n)
                · rintro _ _ rfl
                  refine RD.run rfl ?_
                  refine RD.many rfl (RDAll.c (RDStep.mkN (i := 4) rfl rfl rfl (OW.storeSame tysOk rfl rfl rfl rfl rfl rfl rfl hm rfl rfl (X := fun _ _ => False)) ?_ (fun _ _ h => False.elim h)) RDAll.n)
                  · rintro _ _ rfl
                    refine RD.run rfl ?_
                    refine RD.many rfl (RDAll.c (RDStep.mkN (i := 5) rfl rfl rfl (OW.storeSame tysOk rfl rfl rfl rfl rfl rfl rfl hi rfl rfl (X := fun _ _ => False)) ?_ (fun _ _ h => False.elim h)) RDAll.n)
                    · rintro _ _ rfl
                      refine RD.run rfl ?_
                      refine RD.done rfl ?_
                      repeat (first | with_reducible refine andThen_normal ?_ | with_reducible refine CW.ret ?_)
                      refine ⟨_, .tup [.slc 1 (strs (G.map (·.1))) .fro, .map gb, .bool is], s, resA_cell3 rfl rfl ho rfl rfl rfl hm rfl rfl rfl hi rfl, AVle.tup (.cons AVle.fro (AVleL.refl _)), g.sub, ⟨gb, ?_⟩, rfl⟩
                      rw [← hfin]
              · rintro _ _ rfl
                refine RD.run rfl ?_
                refine RD.many rfl (RDAll.c (RDStep.mk (i := 2) rfl rfl rfl rfl (OW.loadP tysOk rfl rfl rfl hi rfl (X := fun _ _ => False)) ?_ (fun _ _ h => False.elim h)) (RDAll.c (RDStep.mkN (i := 4) rfl rfl rfl (OW.storeSame tysOk rfl rfl rfl rfl rfl rfl rfl hm rfl rfl (X := fun _ _ => False)) ?_ (fun _ _ h => False.elim h)) RDAll.n))
                · rintro _ _ ⟨rfl, rfl⟩
                  refine RD.run rfl ?_
                  refine RD.many rfl (RDAll.c (RDStep.mkN (i := 4) rfl rfl rfl (OW.storeSame tysOk rfl rfl rfl rfl rfl rfl rfl hm rfl rfl (X := fun _ _ => False)) ?_ (fun _ _ h => False.elim h)) RDAll.n)
                  · rintro _ _ rfl
                    refine RD.run rfl ?_
                    refine RD.many rfl (RDAll.c (RDStep.mkN (i := 5) rfl rfl rfl (OW.storeSame tysOk rfl rfl rfl rfl rfl rfl rfl hi rfl rfl (X := fun _ _ => False)) ?_ (fun _ _ h => False.elim h)) RDAll.n)
                    · rintro _ _ rfl
                      refine RD.run rfl ?_
                      refine RD.done rfl ?_
                      repeat (first | with_reducible refine andThen_normal ?_ | with_reducible refine CW.ret ?_)
                      refine ⟨_, .tup [.slc 1 (strs (G.map (·.1))) .fro, .map gb, .bool is], s, resA_cell3 rfl rfl ho rfl rfl rfl hm rfl rfl rfl hi rfl, AVle.tup (.cons AVle.fro (AVleL.refl _)), g.sub, ⟨gb, ?_⟩, rfl⟩
                      rw [← hfin]
                · rintro _ _ rfl
                  refine RD.run rfl ?_
                  refine RD.many rfl (RDAll.c (RDStep.mk (i := 2) rfl rfl rfl rfl (OW.loadP tysOk rfl rfl rfl hi rfl (X := fun _ _ => False)) ?_ (fun _ _ h => False.elim h)) RDAll.n)
                  · rintro _ _ ⟨rfl, rfl⟩
                    refine RD.run rfl ?_
                    refine RD.many rfl (RDAll.c (RDStep.mkN (i := 5) rfl rfl rfl (OW.storeSame tysOk rfl rfl rfl rfl rfl rfl rfl hi rfl rfl (X := fun _ _ => False)) ?_ (fun _ _ h => False.elim h)) RDAll.n)
                    · rintro _ _ rfl
                      refine RD.run rfl ?_
                      refine RD.done rfl ?_
                      repeat (first | with_reducible refine andThen_normal ?_ | with_reducible refine CW.ret ?_)
                      refine ⟨_, .tup [.slc 1 (strs (G.map (·.1))) .fro, .map gb, .bool is], s, resA_cell3 rfl rfl ho rfl rfl rfl hm rfl rfl rfl hi rfl, AVle.tup (.cons AVle.fro (AVleL.refl _)), g.sub, ⟨gb, ?_⟩, rfl⟩
                      rw [← hfin]
            · rintro _ _ ⟨rfl, rfl⟩
              refine RD.run rfl ?_
              refine RD.many rfl (RDAll.c (RDStep.mk (i := 0) rfl rfl rfl rfl (OW.loadP tysOk rfl rfl rfl ho rfl (X := fun _ _ => False)) ?_ (fun _ _ h => False.elim h)) RDAll.n)
              · rintro _ _ ⟨rfl, rfl⟩
                refine RD.run rfl ?_
                refine RD.many rfl (RDAll.c (RDStep.mkN (i := 3) rfl rfl rfl (OW.storeSame tysOk rfl rfl rfl rfl rfl rfl rfl ho rfl rfl (X := fun _ _ => False)) ?_ (fun _ _ h => False.elim h)) RDAll.n)
                · rintro _ _ rfl
                  refine RD.run rfl ?_
                  refine RD.many rfl (RDAll.c (RDStep.mkN (i := 4) rfl rfl rfl (OW.storeSame tysOk rfl rfl rfl rfl rfl rfl rfl hm rfl rfl (X := fun _ _ => False)) ?_ (fun _ _ h => False.elim h)) RDAll.n)
                  · rintro _ _ rfl
                    refine RD.run rfl ?_
                    refine RD.many rfl (RDAll.c (RDStep.mkN (i := 5) rfl rfl rfl (OW.storeSame tysOk rfl rfl rfl rfl rfl rfl rfl hi rfl rfl (X := fun _ _ => False)) ?_ (fun _ _ h => False.elim h)) RDAll.n)
                    · rintro _ _ rfl
                      refine RD.run rfl ?_
                      refine RD.done rfl ?_
                      repeat (first | with_reducible refine andThen_normal ?_ | with_reducible refine CW.ret ?_)
                      refine ⟨_, .tup [.slc 1 (strs (G.map (·.1))) .fro, .map gb, .bool is], s, resA_cell3 rfl rfl ho rfl rfl rfl hm rfl rfl rfl hi rfl, AVle.tup (.cons AVle.fro (AVleL.refl _)), g.sub, ⟨gb, ?_⟩, rfl⟩
                      rw [← hfin]
          · rintro _ _ ⟨rfl, rfl⟩
            refine RD.run rfl ?_
            refine RD.many rfl (RDAll.c (RDStep.mk (i := 0) rfl rfl rfl rfl (OW.loadP tysOk rfl rfl rfl ho rfl (X := fun _ _ => False)) ?_ (fun _ _ h => False.elim h)) (RDAll.c (RDStep.mk (i := 1) rfl rfl rfl rfl (OW.loadP tysOk rfl rfl rfl hm rfl (X := fun _ _ => False)) ?_ (fun _ _ h => False.elim h)) RDAll.n))
            · rintro _ _ ⟨rfl, rfl⟩
              refine RD.run rfl ?_
              refine RD.many rfl (RDAll.c (RDStep.mk (i := 1) rfl rfl rfl rfl (OW.loadP tysOk rfl rfl rfl hm rfl (X := fun _ _ => False)) ?_ (fun _ _ h => False.elim h)) (RDAll.c (RDStep.mkN (i := 3) rfl rfl rfl (OW.storeSame tysOk rfl rfl rfl rfl rfl rfl rfl ho rfl rfl (X := fun _ _ => False)) ?_ (fun _ _ h => False.elim h)) RDAll.n))
              · rintro _ _ ⟨rfl, rfl⟩
                refine RD.run rfl ?_
                refine RD.many rfl (RDAll.c (RDStep.mkN (i := 3) rfl rfl rfl (OW.storeSame tysOk rfl rfl rfl rfl rfl rfl rfl ho rfl rfl (X := fun _ _ => False)) ?_ (fun _ _ h => False.elim h)) RDAll.n)
                · rintro _ _ rfl
                  refine RD.run rfl ?_
                  refine RD.many rfl (RDAll.c (RDStep.mkN (i := 4) rfl rfl rfl (OW.storeSame tysOk rfl rfl rfl rfl rfl rfl rfl hm rfl rfl (X := fun _ _ => False)) ?_ (fun _ _ h => False.elim h)) RDAll.n)
                  · rintro _ _ rfl
                    refine RD.run rfl ?_
                    refine RD.many rfl (RDAll.c (RDStep.mkN (i := 5) rfl rfl rfl (OW.storeSame tysOk rfl rfl rfl rfl rfl rfl rfl hi rfl rfl (X := fun _ _ => False)) ?_ (fun _ _ h => False.elim h)) RDAll.n)
                    · rintro _ _ rfl
                      refine RD.run rfl ?_
                      refine RD.done rfl ?_
                      repeat (first | with_reducible refine andThen_normal ?_ | with_reducible refine CW.ret ?_)
                      refine ⟨_, .tup [.slc 1 (strs (G.map (·.1))) .fro, .map gb, .bool is], s, resA_cell3 rfl rfl ho rfl rfl rfl hm rfl rfl rfl hi rfl, AVle.tup (.cons AVle.fro (AVleL.refl _)), g.sub, ⟨gb, ?_⟩, rfl⟩
                      rw [← hfin]
              · rintro _ _ rfl
                refine RD.run rfl ?_
                refine RD.many rfl (RDAll.c (RDStep.mk (i := 1) rfl rfl rfl rfl (OW.loadP tysOk rfl rfl rfl hm rfl (X := fun _ _ => False)) ?_ (fun _ _ h => False.elim h)) RDAll.n)
                · rintro _ _ ⟨rfl, rfl⟩
                  refine RD.run rfl ?_
                  refine RD.many rfl (RDAll.c (RDStep.mkN (i := 4) rfl rfl rfl (OW.storeSame tysOk rfl rfl rfl rfl rfl rfl rfl hm rfl rfl (X := fun _ _ => False)) ?_ (fun _ _ h => False.elim h)) RDAll.n)
                  · rintro _ _ rfl
                    refine RD.run rfl ?_
                    refine RD.many rfl (RDAll.c (RDStep.mkN (i := 5) rfl rfl rfl (OW.storeSame tysOk rfl rfl rfl rfl rfl rfl rfl hi rfl rfl (X := fun _ _ => False)) ?_ (fun _ _ h => False.elim h)) RDAll.n)
                    · rintro _ _ rfl
                      refine RD.run rfl ?_
                      refine RD.done rfl ?_
                      repeat (first | with_reducible refine andThen_normal ?_ | with_reducible refine CW.ret ?_)
                      refine ⟨_, .tup [.slc 1 (strs (G.map (·.1))) .fro, .map gb, .bool is], s, resA_cell3 rfl rfl ho rfl rfl rfl hm rfl rfl rfl hi rfl, AVle.tup (.cons AVle.fro (AVleL.refl _)), g.sub, ⟨gb, ?_⟩, rfl⟩
                      rw [← hfin]
            · rintro _ _ ⟨rfl, rfl⟩
              refine RD.run rfl ?_
              refine RD.many rfl (RDAll.c (RDStep.mk (i := 0) rfl rfl rfl rfl (OW.loadP tysOk rfl rfl rfl ho rfl (X := fun _ _ => False)) ?_ (fun _ _ h => False.elim h)) RDAll.n)
              · rintro _ _ ⟨rfl, rfl⟩
                refine RD.run rfl ?_
                refine RD.many rfl (RDAll.c (RDStep.mkN (i := 3) rfl rfl rfl (OW.storeSame tysOk rfl rfl rfl rfl rfl rfl rfl ho rfl rfl (X := fun _ _ => False)) ?_ (fun _ _ h => False.elim h)) RDAll.n)
                · rintro _ _ rfl
                  refine RD.run rfl ?_
                  refine RD.many rfl (RDAll.c (RDStep.mkN (i := 4) rfl rfl rfl (OW.storeSame tysOk rfl rfl rfl rfl rfl rfl rfl hm rfl rfl (X := fun _ _ => False)) ?_ (fun _ _ h => False.elim h)) RDAll.n)
                  · rintro _ _ rfl
                    refine RD.run rfl ?_
                    refine RD.many rfl (RDAll.c (RDStep.mkN (i := 5) rfl rfl rfl (OW.storeSame tysOk rfl rfl rfl rfl rfl rfl rfl hi rfl rfl (X := fun _ _ => False)) ?_ (fun _ _ h => False.elim h)) RDAll.n)
                    · rintro _ _ rfl
                      refine RD.run rfl ?_
                      refine RD.done rfl ?_
                      repeat (first | with_reducible refine andThen_normal ?_ | with_reducible refine CW.ret ?_)
                      refine ⟨_, .tup [.slc 1 (strs (G.map (·.1))) .fro, .map gb, .bool is], s, resA_cell3 rfl rfl ho rfl rfl rfl hm rfl rfl rfl hi rfl, AVle.tup (.cons AVle.fro (AVleL.refl _)), g.sub, ⟨gb, ?_⟩, rfl⟩
                      rw [← hfin]
end Go.Proofs.Ytaafacnoddjhgaa

/- Contracts of the layer 'shape': which programs are formed, and how many classes and nodes they have. -/
namespace Go.Proofs.Ytaafacnoddjhgaa
open Go.AE

theorem ACalls.weakArgs {P : Program} {f : FuncId} {xs ys : List AV} {s : Store} {R : AOut → Store → Prop} (hl : AVleL xs ys) (h : ACalls P f ys s R) : ACalls P f xs s R :=
  ⟨h.1, fun w p vs hwf hr => h.2 w p vs hwf (hl.rel hr)⟩

def mB1 (m : FMethod) : Bool := (((decide (m.kind ≥ 1) && decide (m.kind ≤ 4)) && nameS m.name) && decide ((m.params.length : Int) ≥ 1)) && decide ((m.params.length : Int) ≤ 3)
def okParam (pre : List Str) (s : Str) : Bool := nameS s && !pre.contains s
def methodOk (names slots : List Str) (cnt : Nat) (m : FMethod) : Bool :=
  mB1 m && (allPre okParam [] m.params && (factB names slots cnt m.fact m.params && knownB names slots (cnt + m.fact.size) m.body m.params (m.kind == 1 || m.kind == 4)))
def methodsOk (names slots : List Str) : Nat → List FMethod → Bool
  | _, [] => true
  | cnt, m :: r => methodOk names slots cnt m && methodsOk names slots (cnt + m.fact.size + m.body.size) r
def methodsCount : List FMethod → Nat
  | [] => 0
  | m :: r => m.fact.size + m.body.size + methodsCount r

/-- Is a program formed? -/
def progOk (P : FProg) : Bool := match clsAll P.classes with
  | none => false
  | some st => decide (P.methods.length ≤ 16) && (knownB st.names st.slots P.classes.length P.main [] false && (methodsOk st.names st.slots (P.classes.length + P.main.size) P.methods && ((progGens P).2 && decide ((progGens P).1.length ≤ 8))))
/-- How many classes and nodes it has. -/
def progCount (P : FProg) : Nat := P.classes.length + P.main.size + methodsCount P.methods

/-- What is known while a program is looked at. -/
structure KInv (P : FProg) (pb cb sb : Nat) (s t : Store) (st : CSt) (has : AV) (cnt : Int) : Prop where
  hp : t pb = some (.box 136 (progCells P cb has sb cnt))
  hc : t cb = some (.map (classA st.names))
  hs : t sb = some (.map (setA st.slots))
  d : pb ≠ cb ∧ pb ≠ sb
  rest : ∀ x, x ≠ pb → x ≠ cb → x ≠ sb → s x ≠ none → t x = s x

section
variable {P : FProg} {pb cb sb : Nat} {s t : Store} {st : CSt} {has : AV} {cnt : Int}
theorem KInv.new (h : KInv P pb cb sb s t st has cnt) {b : Nat} (hb : t b = none) : b ≠ pb ∧ b ≠ cb ∧ b ≠ sb ∧ s b = none := by
  refine ⟨ne_none hb h.hp, ne_none hb h.hc, ne_none hb h.hs, ?_⟩
  refine Classical.byContradiction fun hn => ?_
  have := h.rest b (ne_none hb h.hp) (ne_none hb h.hc) (ne_none hb h.hs) hn
  rw [hb] at this; exact hn this.symm
theorem KInv.set (h : KInv P pb cb sb s t st has cnt) {b : Nat} (hb : b ≠ pb ∧ b ≠ cb ∧ b ≠ sb ∧ s b = none) (o : AObj) : KInv P pb cb sb s (t.set b o) st has cnt :=
  ⟨(Store.set_ne _ _ hb.1.symm).trans h.hp, (Store.set_ne _ _ hb.2.1.symm).trans h.hc, (Store.set_ne _ _ hb.2.2.1.symm).trans h.hs, h.d,
    fun x h1 h2 h3 h4 => (Store.set_ne _ _ (fun e => by subst e; exact h4 hb.2.2.2)).trans (h.rest x h1 h2 h3 h4)⟩
theorem KInv.count (h : KInv P pb cb sb s t st has cnt) (n : Int) : KInv P pb cb sb s (t.set pb (.box 136 (progCells P cb has sb n))) st has n :=
  ⟨Store.set_same _ _ _, (Store.set_ne _ _ h.d.1.symm).trans h.hc, (Store.set_ne _ _ h.d.2.symm).trans h.hs, h.d, fun x h1 h2 h3 h4 => (Store.set_ne _ _ h1).trans (h.rest x h1 h2 h3 h4)⟩
end

def CountOk (P : FProg) (pb cb sb : Nat) (s s' : Store) : Prop := progOk P = true ∧ (∃ has, s' pb = some (.box 136 (progCells P cb has sb (progCount P)))) ∧ ∀ x, x ≠ pb → x ≠ cb → x ≠ sb → s x ≠ none → s' x = s x
def CountBad (P : FProg) (pb cb sb : Nat) (s s' : Store) : Prop := progOk P = false ∧ (∃ has k, s' pb = some (.box 136 (progCells P cb has sb k))) ∧ ∀ x, x ≠ pb → x ≠ cb → x ≠ sb → s x ≠ none → s' x = s x

theorem KInv.bad {P : FProg} {pb cb sb : Nat} {s t : Store} {st : CSt} {has : AV} {cnt : Int} (h : KInv P pb cb sb s t st has cnt) (hb : progOk P = false) : CountBad P pb cb sb s t := ⟨hb, ⟨has, cnt, h.hp⟩, h.rest⟩

set_option maxRecDepth 10000 in
set_option maxHeartbeats 4000000 in
theorem count1_spec (P : FProg) (pb cb sb : Nat) (s : Store) (hp : s pb = some (.box 136 (progCells P cb (.slc 0 [] .nil) sb 0))) (hc : s cb = some (.map [])) (hsb : s sb = some (.map [])) (hcs : cb ≠ sb) (hP : P.Fair) :
    ACalls Try.prog 82 [.fptr [.ptr pb 0] 0, .fptr P.cells 0] s (Tries (CountOk P pb cb sb s) (CountBad P pb cb sb s)) := by
  have hb : big = 1099511627776 := rfl
  have hml := hP.mlen
  have hpc : pb ≠ cb := fun e => by subst e; rw [hp] at hc; cases hc
  have hps : pb ≠ sb := fun e => by subst e; rw [hp] at hsb; cases hsb
  refine ACalls.of_CW tysOk call82 Try.func82 rfl rfl ?_
  have hcl := classes_spec P pb cb sb s hp hc hsb hcs hP.cls hP.clen
  unfold ClsPost at hcl
  cases hall : clsAll P.classes with
  | none =>
    have hbad : progOk P = false := by rw [progOk, hall]
    rw [hall] at hcl
    repeat (first | with_reducible refine CW.seq ?_ | refine CW.reg ?_ | refine RL.step tysOk rfl rfl rfl rfl ?_)
    refine RL.call rfl rfl rfl rfl rfl hcl (fun _ _ ⟨⟨h, _⟩, _⟩ => by cases h) ?_
    rintro _ t ⟨⟨⟨⟩, has, hp2⟩, hrest⟩
    repeat (first | with_reducible refine andThen_panic ?_)
    exact ⟨_, _, AVle.refl _, Store.sub_refl _, .inr ⟨rfl, hbad, ⟨has, 0, hp2⟩, hrest⟩⟩
  | some st =>
    have hok : progOk P = (decide (P.methods.length ≤ 16) && (knownB st.names st.slots P.classes.length P.main [] false && (methodsOk st.names st.slots (P.classes.length + P.main.size) P.methods && ((progGens P).2 && decide ((progGens P).1.length ≤ 8))))) := by rw [progOk, hall]
    have hcl10 : P.classes.length ≤ 10 := by
      unfold clsAll at hall; split at hall
      · assumption
      · cases hall
    rw [hall] at hcl
    repeat (first | with_reducible refine CW.seq ?_ | refine CW.reg ?_ | refine RL.step tysOk rfl rfl rfl rfl ?_)
    refine RL.call rfl rfl rfl rfl rfl hcl ?_ (fun _ _ ⟨⟨h, _⟩, _⟩ => by cases h)
    rintro _ t ⟨⟨⟨⟩, hc2, hs2, has, hp2⟩, hrest⟩
    have kv : KInv P pb cb sb s t st has P.classes.length := ⟨hp2, hc2, hs2, ⟨hpc, hps⟩, hrest⟩
    clear hp hc hsb hcl hrest
    repeat (first | with_reducible refine CW.seq ?_ | with_reducible refine andThen_normal ?_ | refine CW.reg ?_ | refine RL.nil ?_ | refine RL.step tysOk rfl rfl rfl rfl ?_ | refine RL.loadP tysOk rfl rfl rfl rfl rfl rfl (by assumption) rfl ?_)
    refine needR rfl rfl rfl rfl rfl (fun h16 => ?_) (fun h16 => ?_)
    · have h16' : decide (P.methods.length ≤ 16) = true := by simp at h16 ⊢; omega
      repeat (first | with_reducible refine CW.seq ?_ | with_reducible refine andThen_normal ?_ | refine RL.nil ?_)
      refine CW.drw tysOk mixed rfl (RD.run rfl ?_)
      refine RD.one (i := 5) rfl rfl rfl rfl rfl (OW.loadP tysOk rfl rfl rfl hp2 rfl (X := fun _ _ => False)) ?_ (fun _ _ h => False.elim h)
      rintro _ _ ⟨rfl, rfl⟩
      refine RD.call (i := 6) rfl rfl rfl rfl rfl rfl rfl (ACalls.weakArgs (ys := [.ptr pb 0, P.main.av, .slc 1 (strs []) .nil, .bool false]) (.cons (AVle.refl _) (.cons (AVle.refl _) (.cons (AVle.nil (by simp)) (.one (AVle.refl _))))) (known_spec P pb cb sb has P.classes.length st.names st.slots P.main [] .nil false _ hp2 hc2 hs2 hP.main (by omega) (by simp))) ?_ ?_
      · rintro _ t2 (⟨hk, ⟨⟩, rfl⟩ | ⟨_, h, _⟩)
        · refine RD.run rfl (RD.done rfl ?_)
          have kv2 := kv.count ((P.classes.length + P.main.size : Nat) : Int)
          have hp := kv2.hp
          repeat (first | with_reducible refine CW.seq ?_ | with_reducible refine andThen_normal ?_ | with_reducible refine CW.block ?_ | refine CW.reg ?_ | refine RL.nil ?_ | refine RL.step tysOk rfl rfl rfl rfl ?_ | refine RL.loadP tysOk rfl rfl rfl rfl rfl rfl (Store.set_same _ _ _) rfl ?_)
          have hk120 : P.classes.length + P.main.size ≤ 120 := by
            simp only [knownB, Bool.and_eq_true, decide_eq_true_eq] at hk; exact hk.1.2
          refine CW.loop (σ := Nat × Store × Nat) (fun q => [(0, .fptr [.ptr pb 0] 0), (1, .fptr P.cells 0), (31, .slc 13 (P.methods.map FMethod.av) .fro), (32, .int .i64 (P.methods.map FMethod.av).length), (33, .int .i64 (q.1 : Int))]) (fun q => q.2.1)
            (fun q => q.1 ≤ P.methods.length ∧ KInv P pb cb sb s q.2.1 st has ((q.2.2 : Nat) : Int) ∧ q.2.2 ≤ 120 ∧ methodsOk st.names st.slots (P.classes.length + P.main.size) P.methods = methodsOk st.names st.slots q.2.2 (P.methods.drop q.1) ∧ q.2.2 + methodsCount (P.methods.drop q.1) = progCount P)
            (fun q => P.methods.length - q.1) (0, _, P.classes.length + P.main.size) ⟨by simp, kv2, hk120, rfl, rfl⟩ ?_ (Store.sub_refl _) ?_
          · exact ⟨⟨_, rfl, AVle.refl _⟩, ⟨_, rfl, AVle.refl _⟩, ⟨_, rfl, AVle.refl _⟩, ⟨_, rfl, AVle.refl _⟩, ⟨_, rfl, AVle.refl _⟩, trivial⟩
          · clear hp kv2 kv hp2 hc2 hs2
            rintro ⟨i, t, cnt⟩ ⟨hi, kv, hc120, hM, hC⟩
            simp only at hi kv hc120 hM hC ⊢
            have hp := kv.hp
            repeat (first | with_reducible refine CW.seq ?_ | with_reducible refine andThen_normal ?_ | refine CW.reg (RL.run tysOk rfl (RL.nil ?_)))
            refine CW.cond rfl (fun h => ?_) (fun h => ?_)
            · have hlt : i < P.methods.length := by simpa using h
              obtain ⟨m, hm⟩ : ∃ m, P.methods[i]? = some m := ⟨_, List.getElem?_eq_getElem hlt⟩
              have hm' : (P.methods.map FMethod.av)[i]? = some (.agg m.cells) := by rw [List.getElem?_map, hm]; rfl
              have hmf := hP.mth m (List.mem_of_getElem? hm)
              have hpl := hmf.params.len
              have hnm := hmf.name
              rw [drop_cons hm] at hM hC
              rw [methodsOk] at hM
              rw [methodsCount] at hC
              have hbad : methodOk st.names st.slots cnt m = false → progOk P = false := fun h => by rw [hok, hM, h]; simp
              repeat (first | with_reducible refine CW.seq ?_ | with_reducible refine andThen_normal ?_ | with_reducible refine CW.skip ?_ | with_reducible refine CW.block ?_ | refine CW.reg ?_ | refine RL.step tysOk rfl rfl rfl rfl ?_ | refine RL.idx tysOk _ rfl rfl rfl rfl rfl rfl rfl rfl rfl rfl rfl (by assumption) rfl ?_)
              refine RL.newBox tysOk rfl rfl rfl rfl rfl rfl rfl (fun _ => rfl) rfl rfl (fun _ => rfl) rfl rfl rfl rfl ?_
              repeat (first | with_reducible refine CW.seq ?_ | with_reducible refine andThen_normal ?_ | refine CW.reg ?_ | refine RL.nil ?_ | refine RL.step tysOk rfl rfl rfl rfl ?_)
              refine RL.cut 21 [(0, .fptr [.ptr pb 0] 0), (1, .fptr P.cells 0), (31, .slc 13 (P.methods.map FMethod.av) .fro), (32, .int .i64 (P.methods.map FMethod.av).length), (33, .int .i64 (i : Int)), (3, .fptr m.cells 0), (61, .bool (mB1 m))] ?_ ?_
              · repeat' (first | refine RL.nil ?_ | refine RL.step tysOk rfl rfl rfl rfl ?_ | refine RL.skip rfl rfl rfl ?_ | refine RL.gstepT tysOk rfl rfl rfl rfl rfl rfl rfl (fun _ => ?_) (fun _ => ?_) | refine RL.callP rfl rfl rfl rfl rfl (shapeName_spec m.name _ hnm) ?_)
                all_goals refine ⟨rfl, ⟨⟨_, rfl, AVle.refl _⟩, ⟨_, rfl, AVle.refl _⟩, ⟨_, rfl, AVle.refl _⟩, ⟨_, rfl, AVle.refl _⟩, ⟨_, rfl, AVle.refl _⟩, ⟨_, rfl, AVle.refl _⟩, ⟨_, rfl, AVle.of_eq ?_⟩, trivial⟩, rfl⟩
                all_goals simp_all [mB1]
                all_goals omega
              refine needR rfl rfl rfl rfl rfl (fun h1 => ?_) (fun h1 => ?_)
              · repeat (first | with_reducible refine CW.seq ?_ | with_reducible refine andThen_normal ?_ | refine CW.reg ?_ | refine RL.nil ?_)
                refine RL.makeMap rfl rfl rfl rfl (fun qb hqb => ?_)
                have aq := kv.new hqb
                repeat (first | with_reducible refine CW.seq ?_ | with_reducible refine andThen_normal ?_ | with_reducible refine CW.block ?_ | refine CW.reg (RL.run tysOk rfl (RL.nil ?_)) | refine RL.nil ?_ | refine RL.step tysOk rfl rfl rfl rfl ?_)
                refine CW.loop (σ := Nat × Store) (fun q => [(0, .fptr [.ptr pb 0] 0), (1, .fptr P.cells 0), (31, .slc 13 (P.methods.map FMethod.av) .fro), (32, .int .i64 (P.methods.map FMethod.av).length), (33, .int .i64 (i : Int)), (3, .fptr m.cells 0), (4, .map qb), (65, .slc 1 (strs m.params) .fro), (66, .int .i64 (strs m.params).length), (67, .int .i64 (q.1 : Int))]) (fun q => q.2)
                  (fun q => q.1 ≤ m.params.length ∧ KInv P pb cb sb s q.2 st has (cnt : Int) ∧ q.2 qb = some (.map (setA (m.params.take q.1))) ∧ allPre okParam [] m.params = allPre okParam (m.params.take q.1) (m.params.drop q.1)) (fun q => m.params.length - q.1)
                  (0, t.set qb (.map [])) ⟨by simp, kv.set aq _, Store.set_same _ _ _, rfl⟩ ?_ (Store.sub_refl _) ?_
                · exact ⟨⟨_, rfl, AVle.refl _⟩, ⟨_, rfl, AVle.refl _⟩, ⟨_, rfl, AVle.refl _⟩, ⟨_, rfl, AVle.refl _⟩, ⟨_, rfl, AVle.refl _⟩, ⟨_, rfl, AVle.refl _⟩, ⟨_, rfl, AVle.refl _⟩, ⟨_, rfl, AVle.refl _⟩, ⟨_, rfl, AVle.refl _⟩, ⟨_, rfl, AVle.refl _⟩, trivial⟩
                · clear kv hp
                  rintro ⟨j, t⟩ ⟨hj, kv, hq, hA⟩
                  simp only at hj kv hq hA ⊢
                  have hp := kv.hp
                  repeat (first | with_reducible refine CW.seq ?_ | with_reducible refine andThen_normal ?_ | refine CW.reg (RL.run tysOk rfl (RL.nil ?_)))
                  refine CW.cond rfl (fun h => ?_) (fun h => ?_)
                  · have hlt : j < m.params.length := by simpa using h
                    obtain ⟨y, hy⟩ : ∃ y, m.params[j]? = some y := ⟨_, List.getElem?_eq_getElem hlt⟩
                    have hy' : (strs m.params)[j]? = some (.str y) := by rw [strs_get, hy]; rfl
                    have hys := hmf.params.sh y (List.mem_of_getElem? hy)
                    rw [drop_cons hy, allPre_cons] at hA
                    repeat (first | with_reducible refine CW.seq ?_ | with_reducible refine andThen_normal ?_ | with_reducible refine CW.skip ?_ | with_reducible refine CW.block ?_ | refine CW.reg ?_ | refine RL.nil ?_ | refine RL.step tysOk rfl rfl rfl rfl ?_ | refine RL.idx tysOk _ rfl rfl rfl rfl rfl rfl rfl rfl rfl rfl rfl (by assumption) rfl ?_)
                    refine RL.call rfl rfl rfl rfl rfl (one_spec y (m.params.take j) qb t hq hys) ?_ ?_
                    · rintro _ _ (⟨hn, ⟨⟩, rfl⟩ | ⟨_, h, _⟩)
                      · have hins : insS (m.params.take j) y = m.params.take (j + 1) := by
                          have : (m.params.take j).contains y = false := by simp only [Bool.and_eq_true, Bool.not_eq_true'] at hn; exact hn.2
                          rw [insS, this, ← take_snoc hy]; rfl
                        rw [hins]
                        repeat (first | with_reducible refine andThen_normal ?_ | with_reducible refine inBlock_normal ?_ | refine CW.reg (RL.run tysOk rfl (RL.nil ?_)) | refine RL.nil ?_)
                        refine ⟨(j + 1, t.set qb (.map (setA (m.params.take (j + 1))))), ⟨hlt, kv.set aq _, Store.set_same _ _ _, ?_⟩, ⟨⟨_, rfl, AVle.refl _⟩, ⟨_, rfl, AVle.refl _⟩, ⟨_, rfl, AVle.refl _⟩, ⟨_, rfl, AVle.refl _⟩, ⟨_, rfl, AVle.refl _⟩, ⟨_, rfl, AVle.refl _⟩, ⟨_, rfl, AVle.refl _⟩, ⟨_, rfl, AVle.refl _⟩, ⟨_, rfl, AVle.refl _⟩, ⟨_, rfl, AVle.of_eq ?_⟩, trivial⟩, Store.sub_refl _, by show m.params.length - (j + 1) < m.params.length - j; omega⟩
                        · rw [hA, okParam, hn, take_snoc hy]; rfl
                        · rw [i64_succ (by omega)]
                      · cases h
                    · rintro _ _ (⟨_, h, _⟩ | ⟨hn, ⟨⟩, rfl⟩)
                      · cases h
                      · repeat (first | with_reducible refine andThen_panic ?_ | with_reducible refine inBlock_panic ?_)
                        exact ⟨_, _, AVle.refl _, Store.sub_refl _, .inr ⟨rfl, kv.bad (hbad (by rw [methodOk, hA, okParam, hn]; simp))⟩⟩
                  · have hge : m.params.length ≤ j := by simpa using h
                    rw [List.drop_eq_nil_of_le hge] at hA
                    have hAP : allPre okParam [] m.params = true := hA
                    repeat (first | with_reducible refine CW.seq ?_ | with_reducible refine andThen_normal ?_ | with_reducible refine andThen_exit ?_ | with_reducible refine inBlock_here ?_ | with_reducible refine CW.exit ?_ | refine CW.reg ?_ | refine RL.step tysOk rfl rfl rfl rfl ?_)
                    refine RL.call rfl rfl rfl rfl rfl (fact_spec P pb cb sb has cnt st.names st.slots m.fact m.params .fro t kv.hp kv.hc kv.hs hmf.fact (by omega) (by omega)) ?_ ?_
                    · rintro _ t2 (⟨hf, ⟨⟩, rfl⟩ | ⟨_, h, _⟩)
                      · have kv2 := kv.count ((cnt + m.fact.size : Nat) : Int)
                        have hf120 : cnt + m.fact.size ≤ 120 := by
                          simp only [factB, Bool.and_eq_true, decide_eq_true_eq] at hf; exact hf.1.2
                        repeat (first | with_reducible refine andThen_normal ?_ | refine CW.reg ?_ | refine RL.nil ?_ | refine RL.step tysOk rfl rfl rfl rfl ?_)
                        cases hk1 : (m.kind == 1) with
                        | true =>
                          have hnx : (m.kind == 1 || m.kind == 4) = true := by rw [hk1]; rfl
                          repeat (first | refine RL.step tysOk rfl rfl rfl rfl ?_ | refine RL.skip rfl rfl rfl ?_)
                          refine RL.call rfl rfl rfl rfl rfl (known_spec P pb cb sb has (cnt + m.fact.size) st.names st.slots m.body m.params .fro true _ kv2.hp kv2.hc kv2.hs hmf.body (by omega) (by omega)) ?_ ?_
                          · rintro _ t3 (⟨hkn, ⟨⟩, rfl⟩ | ⟨_, h, _⟩)
                            · have kv3 := kv2.count ((cnt + m.fact.size + m.body.size : Nat) : Int)
                              have hk120 : cnt + m.fact.size + m.body.size ≤ 120 := by
                                simp only [knownB, Bool.and_eq_true, decide_eq_true_eq] at hkn; exact hkn.1.2
                              repeat (first | with_reducible refine andThen_normal ?_ | with_reducible refine inBlock_normal ?_ | refine CW.reg (RL.run tysOk rfl (RL.nil ?_)) | refine RL.nil ?_)
                              refine ⟨(i + 1, _, cnt + m.fact.size + m.body.size), ⟨hlt, kv3, hk120, ?_, by show cnt + m.fact.size + m.body.size + methodsCount (P.methods.drop (i + 1)) = progCount P; omega⟩, ⟨⟨_, rfl, AVle.refl _⟩, ⟨_, rfl, AVle.refl _⟩, ⟨_, rfl, AVle.refl _⟩, ⟨_, rfl, AVle.refl _⟩, ⟨_, rfl, AVle.of_eq ?_⟩, trivial⟩, Store.sub_refl _, by show P.methods.length - (i + 1) < P.methods.length - i; omega⟩
                              · rw [hM, methodOk, h1, hAP, hf, hnx, hkn]; rfl
                              · rw [i64_succ (by omega)]
                            · cases h
                          · rintro _ t3 (⟨_, h, _⟩ | ⟨hkn, ⟨⟩, k, rfl⟩)
                            · cases h
                            · repeat (first | with_reducible refine andThen_panic ?_ | with_reducible refine inBlock_panic ?_)
                              exact ⟨_, _, AVle.refl _, Store.sub_refl _, .inr ⟨rfl, (kv2.count k).bad (hbad (by rw [methodOk, hnx, hkn]; simp))⟩⟩
                        | false =>
                          have hnx : (m.kind == 1 || m.kind == 4) = (m.kind == 4) := by rw [hk1]; rfl
                          repeat (first | refine RL.step tysOk rfl rfl rfl rfl ?_)
                          refine RL.call rfl rfl rfl rfl rfl (known_spec P pb cb sb has (cnt + m.fact.size) st.names st.slots m.body m.params .fro (m.kind==4) _ kv2.hp kv2.hc kv2.hs hmf.body (by omega) (by omega)) ?_ ?_
                          · rintro _ t3 (⟨hkn, ⟨⟩, rfl⟩ | ⟨_, h, _⟩)
                            · have kv3 := kv2.count ((cnt + m.fact.size + m.body.size : Nat) : Int)
                              have hk120 : cnt + m.fact.size + m.body.size ≤ 120 := by
                                simp only [knownB, Bool.and_eq_true, decide_eq_true_eq] at hkn; exact hkn.1.2
                              repeat (first | with_reducible refine andThen_normal ?_ | with_reducible refine inBlock_normal ?_ | refine CW.reg (RL.run tysOk rfl (RL.nil ?_)) | refine RL.nil ?_)
                              refine ⟨(i + 1, _, cnt + m.fact.size + m.body.size), ⟨hlt, kv3, hk120, ?_, by show cnt + m.fact.size + m.body.size + methodsCount (P.methods.drop (i + 1)) = progCount P; omega⟩, ⟨⟨_, rfl, AVle.refl _⟩, ⟨_, rfl, AVle.refl _⟩, ⟨_, rfl, AVle.refl _⟩, ⟨_, rfl, AVle.refl _⟩, ⟨_, rfl, AVle.of_eq ?_⟩, trivial⟩, Store.sub_refl _, by show P.methods.length - (i + 1) < P.methods.length - i; omega⟩
                              · rw [hM, methodOk, h1, hAP, hf, hnx, hkn]; rfl
                              · rw [i64_succ (by omega)]
                            · cases h
                          · rintro _ t3 (⟨_, h, _⟩ | ⟨hkn, ⟨⟩, k, rfl⟩)
                            · cases h
                            · repeat (first | with_reducible refine andThen_panic ?_ | with_reducible refine inBlock_panic ?_)
                              exact ⟨_, _, AVle.refl _, Store.sub_refl _, .inr ⟨rfl, (kv2.count k).bad (hbad (by rw [methodOk, hnx, hkn]; simp))⟩⟩
                      · cases h
                    · rintro _ t2 (⟨_, h, _⟩ | ⟨hf, ⟨⟩, k, rfl⟩)
                      · cases h
                      · repeat (first | with_reducible refine andThen_panic ?_ | with_reducible refine inBlock_panic ?_)
                        exact ⟨_, _, AVle.refl _, Store.sub_refl _, .inr ⟨rfl, (kv.count k).bad (hbad (by rw [methodOk, hf]; simp))⟩⟩
              · repeat (first | with_reducible refine andThen_panic ?_ | with_reducible refine inBlock_panic ?_)
                exact ⟨_, _, AVle.refl _, Store.sub_refl _, .inr ⟨rfl, kv.bad (hbad (by rw [methodOk, h1]; rfl))⟩⟩
            · have hge : P.methods.length ≤ i := by simpa using h
              rw [List.drop_eq_nil_of_le hge] at hM hC
              have hMt : methodsOk st.names st.slots (P.classes.length + P.main.size) P.methods = true := hM
              have hCt : cnt = progCount P := by simpa [methodsCount] using hC
              repeat (first | with_reducible refine CW.seq ?_ | with_reducible refine andThen_normal ?_ | with_reducible refine andThen_exit ?_ | with_reducible refine inBlock_here ?_ | with_reducible refine CW.exit ?_ | refine CW.reg ?_ | refine RL.step tysOk rfl rfl rfl rfl ?_)
              refine RL.call rfl rfl rfl rfl rfl (gens_spec P t hP) ?_ (fun _ _ ⟨⟨_, h⟩, _⟩ => by cases h)
              rintro _ _ ⟨⟨gb, ⟨⟩⟩, rfl⟩
              repeat (first | with_reducible refine andThen_normal ?_ | refine CW.reg ?_ | refine RL.nil ?_ | refine RL.step tysOk rfl rfl rfl rfl ?_)
              cases hg : (progGens P).2 with
              | true =>
                repeat (first | refine RL.step tysOk rfl rfl rfl rfl ?_)
                refine needR rfl rfl rfl rfl rfl (fun h8 => ?_) (fun h8 => ?_)
                · have h8' : decide ((progGens P).1.length ≤ 8) = true := by simp at h8 ⊢; omega
                  repeat (first | refine RL.nil ?_)
                  exact ⟨_, _, _, rfl, AVle.refl _, Store.sub_refl _, .inl ⟨rfl, by rw [hok, h16', hk, hMt, hg, h8']; rfl, ⟨has, by rw [← hCt]; exact kv.hp⟩, kv.rest⟩⟩
                · have h8' : decide ((progGens P).1.length ≤ 8) = false := by simp at h8 ⊢; omega
                  skip
                  exact ⟨_, _, AVle.refl _, Store.sub_refl _, .inr ⟨rfl, kv.bad (by rw [hok, h8']; simp)⟩⟩
              | false =>
                repeat (first | refine RL.step tysOk rfl rfl rfl rfl ?_ | refine RL.skip rfl rfl rfl ?_)
                refine needR rfl rfl rfl rfl rfl (fun h8 => by cases h8) (fun h8 => ?_)
                skip
                exact ⟨_, _, AVle.refl _, Store.sub_refl _, .inr ⟨rfl, kv.bad (by rw [hok, hg]; simp)⟩⟩
        · cases h
      · rintro _ t2 (⟨_, h, _⟩ | ⟨hk, ⟨⟩, k, rfl⟩)
        · cases h
        · repeat (first | with_reducible refine andThen_panic ?_)
          exact ⟨_, _, AVle.refl _, Store.sub_refl _, .inr ⟨rfl, (kv.count k).bad (by rw [hok, hk]; simp)⟩⟩
    · have h16' : decide (P.methods.length ≤ 16) = false := by simp at h16 ⊢; omega
      repeat (first | with_reducible refine andThen_panic ?_)
      exact ⟨_, _, AVle.refl _, Store.sub_refl _, .inr ⟨rfl, kv.bad (by rw [hok, h16']; rfl)⟩⟩

set_option maxRecDepth 10000 in
theorem count_spec (P : FProg) (s : Store) (hP : P.Fair) :
    ACalls Try.prog 50 [P.av] s (fun o s' => (∃ n : Int, o = .ret (.tup [.int .i64 n, .bool (progOk P)]) ∧ (progOk P = true → n = progCount P)) ∧ s' = s) := by
  refine ACalls.of_CW tysOk call50 Try.func50 rfl rfl ?_
  refine CW.seq ?_
  refine CW.reg ?_
  refine RL.step tysOk rfl rfl rfl rfl ?_
  refine RL.step tysOk rfl rfl rfl rfl ?_
  refine RL.step tysOk rfl rfl rfl rfl ?_
  refine RL.nil (andThen_normal ?_)
  refine CW.seq ?_
  refine CW.reg ?_
  refine RL.step tysOk rfl rfl rfl rfl ?_
  refine RL.makeMap rfl rfl rfl rfl (fun cb hcb => ?_)
  refine RL.makeMap rfl rfl rfl rfl (fun sb hsb => ?_)
  refine RL.step tysOk rfl rfl rfl rfl ?_
  refine RL.boxM rfl rfl rfl rfl rfl rfl (fun pb hpb => ?_)
  refine RL.newBox tysOk rfl rfl rfl rfl rfl rfl rfl (fun _ => rfl) rfl rfl (fun _ => rfl) rfl rfl rfl rfl ?_
  simp only [Store.set_eq_none] at hcb hsb hpb
  obtain ⟨a1, a2⟩ := hsb
  obtain ⟨a3, a4, a5⟩ := hpb
  repeat (first | with_reducible refine CW.seq ?_ | with_reducible refine andThen_normal ?_ | refine CW.reg ?_ | refine RL.nil ?_ | refine RL.step tysOk rfl rfl rfl rfl ?_)
  refine RL.call rfl rfl rfl rfl rfl (formed_spec _ [.fptr [.ptr pb 0] 0, .fptr P.cells 0] _ _ _ (count1_spec P pb cb sb _ (Store.set_same _ _ _) (by (repeat (first | exact Store.set_same _ _ _ | assumption | with_reducible rw [Store.set_ne _ _ (by omega)]))) (by (repeat (first | exact Store.set_same _ _ _ | assumption | with_reducible rw [Store.set_ne _ _ (by omega)]))) a1.symm hP)) ?_ ?_
  · rintro _ t (⟨⟨⟩, hok, ⟨has, hp⟩, hrest⟩ | ⟨⟨⟩, hok, ⟨has, k, hp⟩, hrest⟩)
    · repeat (first | with_reducible refine CW.seq ?_ | with_reducible refine andThen_normal ?_ | with_reducible refine CW.ret ?_ | refine CW.reg ?_ | refine RL.nil ?_ | refine RL.step tysOk rfl rfl rfl rfl ?_ | refine RL.loadP tysOk rfl rfl rfl rfl rfl rfl (by assumption) rfl ?_)
      refine ⟨_, _, s, rfl, AVle.refl _, fun x => ?_, ⟨_, by rw [hok], fun _ => rfl⟩, rfl⟩
      by_cases e1 : x = pb
      · subst e1; exact .inr a5
      by_cases e2 : x = cb
      · subst e2; exact .inr hcb
      by_cases e3 : x = sb
      · subst e3; exact .inr a2
      cases hs : s x with
      | none => exact .inr rfl
      | some o =>
        left
        have q : (((s.set cb (.map [])).set sb (.map [])).set pb (.box 136 (progCells P cb (.slc 0 [] .nil) sb 0))) x = some o := by rw [Store.set_ne _ _ e1, Store.set_ne _ _ e3, Store.set_ne _ _ e2]; exact hs
        have := hrest x e1 e2 e3 (by intro hn; have := q.symm.trans hn; cases this)
        exact (this.trans q).symm
    · repeat (first | with_reducible refine CW.seq ?_ | with_reducible refine andThen_normal ?_ | with_reducible refine CW.ret ?_ | refine CW.reg ?_ | refine RL.nil ?_ | refine RL.step tysOk rfl rfl rfl rfl ?_ | refine RL.loadP tysOk rfl rfl rfl rfl rfl rfl (by assumption) rfl ?_)
      refine ⟨_, _, s, rfl, AVle.refl _, fun x => ?_, ⟨_, by rw [hok], fun h => by rw [hok] at h; cases h⟩, rfl⟩
      by_cases e1 : x = pb
      · subst e1; exact .inr a5
      by_cases e2 : x = cb
      · subst e2; exact .inr hcb
      by_cases e3 : x = sb
      · subst e3; exact .inr a2
      cases hs : s x with
      | none => exact .inr rfl
      | some o =>
        left
        have q : (((s.set cb (.map [])).set sb (.map [])).set pb (.box 136 (progCells P cb (.slc 0 [] .nil) sb 0))) x = some o := by rw [Store.set_ne _ _ e1, Store.set_ne _ _ e3, Store.set_ne _ _ e2]; exact hs
        have := hrest x e1 e2 e3 (by intro hn; have := q.symm.trans hn; cases this)
        exact (this.trans q).symm
  · rintro _ t (⟨h, _⟩ | ⟨h, _⟩) <;> cases h

set_option maxRecDepth 10000 in
theorem shapeNodes_spec (P : FProg) (s : Store) (hP : P.Fair) :
    ACalls Try.prog 14 [P.av] s (fun o s' => o = .ret (.tup [.int .i64 (if progOk P then (progCount P : Int) else 0), err (progOk P)]) ∧ s' = s) := by
  refine ACalls.of_CW tysOk call14 Try.func14 rfl rfl ?_
  repeat (first | with_reducible refine CW.seq ?_ | with_reducible refine andThen_normal ?_ | refine CW.reg (RL.run tysOk rfl (RL.nil ?_)) | refine CW.reg ?_ | refine RL.step tysOk rfl rfl rfl rfl ?_)
  refine RL.call rfl rfl rfl rfl rfl (count_spec P s hP) ?_ (fun _ _ ⟨⟨_, h, _⟩, _⟩ => by cases h)
  rintro _ _ ⟨⟨n, ⟨⟩, hn⟩, rfl⟩
  cases hok : progOk P with
  | true =>
    rw [hn hok]
    repeat (first | with_reducible refine CW.seq ?_ | with_reducible refine andThen_normal ?_ | with_reducible refine CW.ret ?_ | with_reducible refine CW.skip ?_ | refine CW.reg (RL.run tysOk rfl (RL.nil ?_)) | refine RL.nil ?_ | refine CW.condF rfl ?_ | refine RL.step tysOk rfl rfl rfl rfl ?_)
    exact ⟨_, _, _, rfl, AVle.refl _, Store.sub_refl _, rfl, rfl⟩
  | false =>
    repeat (first | with_reducible refine CW.seq ?_ | with_reducible refine andThen_normal ?_ | with_reducible refine andThen_ret ?_ | with_reducible refine CW.ret ?_ | refine CW.reg (RL.run tysOk rfl (RL.nil ?_)) | refine RL.nil ?_ | refine CW.condT rfl ?_ | refine RL.step tysOk rfl rfl rfl rfl ?_)
    exact ⟨_, _, _, rfl, AVle.refl _, Store.sub_refl _, rfl, rfl⟩

set_option maxRecDepth 10000 in
theorem shapeCheck_spec (P : FProg) (s : Store) (hP : P.Fair) :
    ACalls Try.prog 16 [P.av] s (fun o s' => o = .ret (err (progOk P)) ∧ s' = s) := by
  refine ACalls.of_CW tysOk call16 Try.func16 rfl rfl ?_
  repeat (first | with_reducible refine CW.seq ?_ | with_reducible refine andThen_normal ?_ | refine CW.reg (RL.run tysOk rfl (RL.nil ?_)) | refine CW.reg ?_ | refine RL.step tysOk rfl rfl rfl rfl ?_)
  refine RL.call rfl rfl rfl rfl rfl (count_spec P s hP) ?_ (fun _ _ ⟨⟨_, h, _⟩, _⟩ => by cases h)
  rintro _ _ ⟨⟨n, ⟨⟩, hn⟩, rfl⟩
  cases hok : progOk P with
  | true =>
    repeat (first | with_reducible refine CW.seq ?_ | with_reducible refine andThen_normal ?_ | with_reducible refine CW.ret ?_ | with_reducible refine CW.skip ?_ | refine CW.reg (RL.run tysOk rfl (RL.nil ?_)) | refine RL.nil ?_ | refine CW.condF rfl ?_ | refine RL.step tysOk rfl rfl rfl rfl ?_)
    exact ⟨_, _, _, rfl, AVle.refl _, Store.sub_refl _, rfl, rfl⟩
  | false =>
    repeat (first | with_reducible refine CW.seq ?_ | with_reducible refine andThen_normal ?_ | with_reducible refine andThen_ret ?_ | with_reducible refine CW.ret ?_ | refine CW.reg (RL.run tysOk rfl (RL.nil ?_)) | refine RL.nil ?_ | refine CW.condT rfl ?_ | refine RL.step tysOk rfl rfl rfl rfl ?_)
    exact ⟨_, _, _, rfl, AVle.refl _, Store.sub_refl _, rfl, rfl⟩
end Go.Proofs.Ytaafacnoddjhgaa

/- Contracts of the layer 'shape': functions, slots, and the classes above one. -/
namespace Go.Proofs.Ytaafacnoddjhgaa
open Go.AE

set_option maxRecDepth 10000 in
theorem clipStr_spec (l : List Str) (own : Own) (s : Store) :
    ACalls Try.prog 60 [.slc 1 (strs l) own] s (fun o s' => o = .ret (.slc 1 (strs l) .clip) ∧ s' = s) := by
  refine ACalls.of_CW tysOk call60 Try.func60 rfl rfl ?_
  repeat (first | with_reducible refine CW.seq ?_ | with_reducible refine andThen_normal ?_ | refine CW.reg (RL.run tysOk rfl (RL.nil ?_)) | refine CW.reg ?_ | refine RL.step tysOk rfl rfl rfl rfl ?_)
  refine RL.slice tysOk 0 (strs l).length rfl rfl rfl rfl rfl rfl rfl rfl (.inr rfl) (.inl ⟨rfl, rfl⟩) (.inr ⟨_, _, rfl, rfl⟩) (.inr ⟨_, _, rfl, rfl, rfl⟩) (by omega) (Nat.le_refl _) ?_
  rw [List.take_length, List.drop_zero]
  repeat (first | with_reducible refine andThen_normal ?_ | with_reducible refine CW.ret ?_ | refine RL.nil ?_ | refine RL.step tysOk rfl rfl rfl rfl ?_)
  exact ⟨_, _, _, rfl, AVle.refl _, Store.sub_refl _, rfl, rfl⟩

theorem strs_nil_le : AVle (.slc 0 [] .nil) (.slc 1 (strs []) .fro) := AVle.empty

set_option maxRecDepth 10000 in
theorem shapeGens_spec (P : FProg) (s : Store) (hP : P.Fair) :
    ACalls Try.prog 21 [P.av] s (fun o s' => o = .ret (.tup [.slc 1 (strs (if progOk P then (progGens P).1.map (·.1) else [])) .fro, err (progOk P)]) ∧ s' = s) := by
  have hchk := shapeCheck_spec P s hP
  refine ACalls.of_CW tysOk call21 Try.func21 rfl rfl ?_
  cases hok : progOk P with
  | true =>
    rw [hok] at hchk
    repeat (first | with_reducible refine CW.seq ?_ | with_reducible refine andThen_normal ?_ | refine CW.reg (RL.run tysOk rfl (RL.nil ?_)) | refine CW.reg ?_ | refine RL.step tysOk rfl rfl rfl rfl ?_)
    refine RL.callP rfl rfl rfl rfl rfl hchk ?_
    repeat (first | with_reducible refine CW.seq ?_ | with_reducible refine andThen_normal ?_ | with_reducible refine CW.skip ?_ | refine CW.reg ?_ | refine RL.nil ?_ | refine CW.condF rfl ?_ | refine RL.step tysOk rfl rfl rfl rfl ?_)
    refine RL.call rfl rfl rfl rfl rfl (gens_spec P s hP) ?_ (fun _ _ ⟨⟨_, h⟩, _⟩ => by cases h)
    rintro _ _ ⟨⟨gb, ⟨⟩⟩, rfl⟩
    repeat (first | with_reducible refine CW.seq ?_ | with_reducible refine andThen_normal ?_ | refine CW.reg ?_ | refine RL.nil ?_ | refine RL.step tysOk rfl rfl rfl rfl ?_)
    refine RL.callP rfl rfl rfl rfl rfl (clipStr_spec _ _ _) ?_
    repeat (first | with_reducible refine andThen_normal ?_ | with_reducible refine CW.ret ?_ | refine RL.nil ?_ | refine RL.step tysOk rfl rfl rfl rfl ?_)
    exact ⟨_, _, _, rfl, AVle.tup (.cons AVle.fro (AVleL.refl _)), Store.sub_refl _, rfl, rfl⟩
  | false =>
    rw [hok] at hchk
    repeat (first | with_reducible refine CW.seq ?_ | with_reducible refine andThen_normal ?_ | refine CW.reg (RL.run tysOk rfl (RL.nil ?_)) | refine CW.reg ?_ | refine RL.step tysOk rfl rfl rfl rfl ?_)
    refine RL.callP rfl rfl rfl rfl rfl hchk ?_
    repeat (first | with_reducible refine CW.seq ?_ | with_reducible refine andThen_normal ?_ | with_reducible refine andThen_ret ?_ | with_reducible refine CW.ret ?_ | refine CW.reg (RL.run tysOk rfl (RL.nil ?_)) | refine RL.nil ?_ | refine CW.condT rfl ?_ | refine RL.step tysOk rfl rfl rfl rfl ?_)
    exact ⟨_, _, _, rfl, AVle.tup (.cons strs_nil_le (AVleL.refl _)), Store.sub_refl _, rfl, rfl⟩

theorem flatMap_take_succ {α β : Type} (f : α → List β) {l : List α} {j : Nat} {x : α} (h : l[j]? = some x) : (l.take (j + 1)).flatMap f = (l.take j).flatMap f ++ f x := by
  rw [List.take_add_one, h]; simp

theorem flatMap_take_le {α β : Type} (f : α → List β) (l : List α) (j : Nat) : ((l.take j).flatMap f).length ≤ (l.flatMap f).length := by
  have : l.flatMap f = (l.take j).flatMap f ++ (l.drop j).flatMap f := by rw [← List.flatMap_append, List.take_append_drop]
  rw [this, List.length_append]; omega

theorem strs_elem (l : List Str) : ∀ y ∈ strs l, elemOk 1 y = true := by
  intro y hy; simp only [strs, List.mem_map] at hy; obtain ⟨z, -, rfl⟩ := hy; rfl

theorem RL.appendR {P : Program} {Γ : Tys} {N : Nat} {ops : Array Oper} {Q : AEx → Env → Store → Prop} {env : Env} {s : Store} {l : List Oper} {o : Oper} {d : Nat} (hΓ : TysOk P Γ) {t t' e : TypeId} {x y : Operand} {it it' ie : TI} {sx sy n : Nat} {xs ys : List AV} {own oy : Own} (hg : guardOf ops env o = some true) (hd : o.dst = some d) (hN : Nat.blt d N = true)
    (ho : o.op = .call { callee := .builtin .append, args := #[x, y], argTypes := #[t, t'] }) (ht : Γ.get? t = some it) (htd : it.td = .slc e) (ht' : Γ.get? t' = some it') (htd' : ∀ k, it'.td ≠ .int k)
    (hie : Γ.get? e = some ie) (hx : ev env x = some (.slc sx xs own)) (hy : ev env y = some (.slc sy ys oy)) (hsx : sx = ie.size) (hsy : ys = [] ∨ sy = ie.size)
    (hzs' : Nat.beq ie.zero.cells.size ie.size = true) (hel : ∀ y ∈ ys, elemOk ie.size y = true) (hb : (xs.length + ys.length) * ie.bytes ≤ 140737488355328) (h63 : xs.length + ys.length ≤ 9223372036854775807) (hn : n = xs.length)
    {s₀ : Store} (hs : s₀ = rowOf s e ie.size n own) (hok : OwnOk s n own)
    (h : ∀ own', OwnOk s (xs.length + ys.length) own' → RL P N ops l Q ((d, .slc ie.size (xs ++ ys) own') :: env) (rowOf s e ie.size (xs.length + ys.length) own')) : RL P N ops (o :: l) Q env s₀ := by
  subst hs
  subst hn
  refine RL.op hg hd hN (OW.appendR hΓ ho ht htd ht' htd' hie hx hy hsx hsy hzs' hel hb h63 rfl hok (X := fun _ _ => False)) ?_ (fun _ _ h => h.elim)
  rintro r s' ⟨own', h1, -, -, rfl, rfl⟩
  exact h own' h1

set_option maxRecDepth 10000 in
theorem shapeSlots_spec (P : FProg) (s : Store) (hP : P.Fair) :
    ACalls Try.prog 24 [P.av] s (fun o s' => o = .ret (.tup [.slc 1 (strs (if progOk P then P.classes.flatMap FClass.slots else [])) .fro, err (progOk P)]) ∧ s' = s) := by
  have hb : big = 1099511627776 := rfl
  have hchk := shapeCheck_spec P s hP
  have hcl := hP.clen
  have hsl := hP.slen
  refine ACalls.of_CW tysOk call24 Try.func24 rfl rfl ?_
  cases hok : progOk P with
  | true =>
    rw [hok] at hchk
    repeat (first | with_reducible refine CW.seq ?_ | with_reducible refine andThen_normal ?_ | refine CW.reg (RL.run tysOk rfl (RL.nil ?_)) | refine CW.reg ?_ | refine RL.step tysOk rfl rfl rfl rfl ?_)
    refine RL.callP rfl rfl rfl rfl rfl hchk ?_
    repeat (first | with_reducible refine CW.seq ?_ | with_reducible refine andThen_normal ?_ | with_reducible refine CW.skip ?_ | with_reducible refine CW.block ?_ | refine CW.reg (RL.run tysOk rfl (RL.nil ?_)) | refine RL.nil ?_ | refine CW.condF rfl ?_ | refine RL.step tysOk rfl rfl rfl rfl ?_)
    refine CW.loop (σ := Nat × Own) (fun q => [(4, .slc 1 (strs ((P.classes.take q.1).flatMap FClass.slots)) q.2), (11, .slc 4 (P.classes.map FClass.av) .fro), (12, .int .i64 (P.classes.map FClass.av).length), (13, .int .i64 (q.1 : Int))])
      (fun q => rowOf s 9 1 ((P.classes.take q.1).flatMap FClass.slots).length q.2) (fun q => q.1 ≤ P.classes.length ∧ OwnOk s 0 q.2) (fun q => P.classes.length - q.1) (0, .nil) ⟨by simp, trivial⟩ ?_ (Store.sub_refl _) ?_
    · exact ⟨⟨_, rfl, AVle.nil (by simp)⟩, ⟨_, rfl, AVle.refl _⟩, ⟨_, rfl, AVle.refl _⟩, ⟨_, rfl, AVle.refl _⟩, trivial⟩
    · rintro ⟨i, own⟩ ⟨hi, hown⟩
      simp only at hi hown
      repeat (first | with_reducible refine CW.seq ?_ | with_reducible refine andThen_normal ?_ | refine CW.reg (RL.run tysOk rfl (RL.nil ?_)))
      refine CW.cond rfl (fun h => ?_) (fun h => ?_)
      · have hlt : i < P.classes.length := by simpa using h
        obtain ⟨c, hci⟩ : ∃ c, P.classes[i]? = some c := ⟨_, List.getElem?_eq_getElem hlt⟩
        have hci' : (P.classes.map FClass.av)[i]? = some (.agg c.cells) := by rw [List.getElem?_map, hci]; rfl
        have hle := flatMap_take_le FClass.slots P.classes (i + 1)
        rw [flatMap_take_succ _ hci, List.length_append] at hle
        repeat (first | with_reducible refine CW.seq ?_ | with_reducible refine andThen_normal ?_ | with_reducible refine CW.skip ?_ | with_reducible refine CW.block ?_ | refine CW.reg ?_ | refine RL.step tysOk rfl rfl rfl rfl ?_ | refine RL.idx tysOk _ rfl rfl rfl rfl rfl rfl rfl rfl rfl rfl rfl (by assumption) rfl ?_)
        refine RL.newBox tysOk rfl rfl rfl rfl rfl rfl rfl (fun _ => rfl) rfl rfl (fun _ => rfl) rfl rfl rfl rfl ?_
        repeat (first | with_reducible refine andThen_normal ?_ | refine CW.reg ?_ | refine RL.nil ?_ | refine RL.step tysOk rfl rfl rfl rfl ?_)
        refine RL.appendR tysOk rfl rfl rfl rfl rfl rfl rfl (by intro k; simp) rfl rfl rfl rfl (.inr rfl) rfl (strs_elem _) (n := ((P.classes.take i).flatMap FClass.slots).length) ?_ ?_ (strs_length _).symm rfl (OwnOk.sub' hown) ?_
        · simp only [strs_length]; show _ * 16 ≤ _; omega
        · simp only [strs_length]; omega
        rintro own' h1
        repeat (first | with_reducible refine andThen_normal ?_ | with_reducible refine inBlock_normal ?_ | refine CW.reg (RL.run tysOk rfl (RL.nil ?_)) | refine RL.nil ?_ | refine RL.step tysOk rfl rfl rfl rfl ?_)
        refine ⟨(i + 1, own'), ⟨hlt, OwnOk.sub' h1⟩, ⟨⟨_, rfl, AVle.of_eq ?_⟩, ⟨_, rfl, AVle.refl _⟩, ⟨_, rfl, AVle.refl _⟩, ⟨_, rfl, AVle.of_eq ?_⟩, trivial⟩, ?_, by show P.classes.length - (i + 1) < P.classes.length - i; omega⟩
        · rw [flatMap_take_succ _ hci]; simp [strs]
        · rw [i64_succ (by omega)]
        · have e : (strs ((P.classes.take i).flatMap FClass.slots)).length + (strs c.slots).length = ((P.classes.take (i + 1)).flatMap FClass.slots).length := by
            rw [flatMap_take_succ _ hci]; simp
          show Store.Sub (rowOf s _ 1 _ own') _
          rw [← e]; exact Store.sub_refl _
      · have hge : P.classes.length ≤ i := by simpa using h
        repeat (first | with_reducible refine CW.seq ?_ | with_reducible refine andThen_normal ?_ | with_reducible refine andThen_exit ?_ | with_reducible refine inBlock_here ?_ | with_reducible refine CW.exit ?_ | refine CW.reg ?_ | refine RL.step tysOk rfl rfl rfl rfl ?_)
        refine RL.callP rfl rfl rfl rfl rfl (clipStr_spec _ _ _) ?_
        repeat (first | with_reducible refine andThen_normal ?_ | with_reducible refine CW.ret ?_ | refine RL.nil ?_ | refine RL.step tysOk rfl rfl rfl rfl ?_)
        refine ⟨_, _, s, rfl, AVle.tup (.cons AVle.fro (AVleL.refl _)), rowOf_sub hown, ?_, rfl⟩
        rw [List.take_of_length_le hge]; rfl
  | false =>
    rw [hok] at hchk
    repeat (first | with_reducible refine CW.seq ?_ | with_reducible refine andThen_normal ?_ | refine CW.reg (RL.run tysOk rfl (RL.nil ?_)) | refine CW.reg ?_ | refine RL.step tysOk rfl rfl rfl rfl ?_)
    refine RL.callP rfl rfl rfl rfl rfl hchk ?_
    repeat (first | with_reducible refine CW.seq ?_ | with_reducible refine andThen_normal ?_ | with_reducible refine andThen_ret ?_ | with_reducible refine CW.ret ?_ | refine CW.reg (RL.run tysOk rfl (RL.nil ?_)) | refine RL.nil ?_ | refine CW.condT rfl ?_ | refine RL.step tysOk rfl rfl rfl rfl ?_)
    exact ⟨_, _, _, rfl, AVle.tup (.cons strs_nil_le (AVleL.refl _)), Store.sub_refl _, rfl, rfl⟩

/-! ### Classes above one -/

/-- Where a class stands. -/
def placeOf (l : List FClass) (name : Str) : Nat → Int := fun j => match (l.drop j).findIdx? (fun c => c.name == name) with
  | some k => ((j + k : Nat) : Int)
  | none => -1
theorem placeOf_hit {l : List FClass} {name : Str} {j : Nat} {c : FClass} (hc : l[j]? = some c) (h : (c.name == name) = true) : placeOf l name j = (j : Int) := by
  simp [placeOf, drop_cons hc, List.findIdx?_cons, h]
theorem placeOf_miss {l : List FClass} {name : Str} {j : Nat} {c : FClass} (hc : l[j]? = some c) (h : (c.name == name) = false) : placeOf l name j = placeOf l name (j + 1) := by
  simp only [placeOf, drop_cons hc, List.findIdx?_cons, h]
  cases (l.drop (j + 1)).findIdx? (fun c => c.name == name) <;> simp [Nat.add_assoc, Nat.add_comm 1]
theorem placeOf_end {l : List FClass} {name : Str} {j : Nat} (h : l.length ≤ j) : placeOf l name j = -1 := by simp [placeOf, List.drop_eq_nil_of_le h]

set_option maxRecDepth 10000 in
theorem indexClass_spec (l : List FClass) (name : Str) (s : Store) (hl : l.length < big) :
    ACalls Try.prog 63 [.slc 4 (l.map FClass.av) .fro, .func 64 [] [.fptr [.str name] 0]] s (fun o s' => o = .ret (.int .i64 (placeOf l name 0)) ∧ s' = s) := by
  have hb : big = 1099511627776 := rfl
  have hA : ∀ c : FClass, ACalls Try.prog 64 [c.av, .fptr [.str name] 0] s (fun o s' => o = .ret (.bool (c.name == name)) ∧ s' = s) := by
    intro c
    refine ACalls.of_CW tysOk call64 Try.func64 rfl rfl ?_
    repeat (first | with_reducible refine CW.seq ?_ | with_reducible refine andThen_normal ?_ | with_reducible refine CW.ret ?_ | refine CW.reg (RL.run tysOk rfl (RL.nil ?_)))
    exact ⟨_, _, _, rfl, AVle.refl _, Store.sub_refl _, rfl, rfl⟩
  refine ACalls.of_CW tysOk call63 Try.func63 rfl rfl ?_
  repeat (first | with_reducible refine CW.seq ?_ | with_reducible refine andThen_normal ?_ | with_reducible refine CW.block ?_ | refine CW.reg (RL.run tysOk rfl (RL.nil ?_)))
  refine CW.loop (σ := Nat) (fun j => [(0, .slc 4 (l.map FClass.av) .fro), (1, .func 64 [] [.fptr [.str name] 0]), (7, .int .i64 (l.map FClass.av).length), (8, .int .i64 (j : Int))]) (fun _ => s) (fun j => j ≤ l.length ∧ placeOf l name 0 = placeOf l name j) (fun j => l.length - j) 0 ⟨by omega, rfl⟩ ?_ (Store.sub_refl _) ?_
  · exact ⟨⟨_, rfl, AVle.refl _⟩, ⟨_, rfl, AVle.refl _⟩, ⟨_, rfl, AVle.refl _⟩, ⟨_, rfl, AVle.refl _⟩, trivial⟩
  · rintro j ⟨hj, hI⟩
    repeat (first | with_reducible refine CW.seq ?_ | with_reducible refine andThen_normal ?_ | refine CW.reg (RL.run tysOk rfl (RL.nil ?_)))
    refine CW.cond rfl (fun h => ?_) (fun h => ?_)
    · have hlt : j < l.length := by simpa using h
      obtain ⟨c, hy⟩ : ∃ y, l[j]? = some y := ⟨_, List.getElem?_eq_getElem hlt⟩
      have hy' : (l.map FClass.av)[j]? = some (.agg c.cells) := by rw [List.getElem?_map, hy]; rfl
      repeat (first | with_reducible refine CW.seq ?_ | with_reducible refine andThen_normal ?_ | with_reducible refine CW.skip ?_ | with_reducible refine CW.block ?_ | refine CW.reg (RL.run tysOk rfl (RL.nil ?_)) | refine CW.reg ?_ | refine RL.step tysOk rfl rfl rfl rfl ?_ | refine RL.idx tysOk _ rfl rfl rfl rfl rfl rfl rfl rfl rfl rfl rfl (by assumption) rfl ?_)
      refine RL.callV rfl rfl rfl rfl rfl rfl (ACallV.of_calls (hA c)) ?_ (fun _ _ ⟨h, _⟩ => by cases h)
      rintro x s' ⟨⟨⟩, rfl⟩
      cases hfy : c.name == name with
      | true =>
        repeat (first | with_reducible refine CW.seq ?_ | with_reducible refine andThen_normal ?_ | with_reducible refine andThen_ret ?_ | with_reducible refine inBlock_ret ?_ | with_reducible refine CW.ret ?_ | refine CW.reg (RL.run tysOk rfl (RL.nil ?_)) | refine RL.nil ?_ | refine CW.condT rfl ?_)
        exact ⟨_, _, _, rfl, AVle.refl _, Store.sub_refl _, by rw [hI, placeOf_hit hy hfy], rfl⟩
      | false =>
        repeat (first | with_reducible refine andThen_normal ?_ | with_reducible refine inBlock_normal ?_ | with_reducible refine CW.skip ?_ | refine CW.reg (RL.run tysOk rfl (RL.nil ?_)) | refine RL.nil ?_ | refine CW.condF rfl ?_)
        refine ⟨j + 1, ⟨hlt, ?_⟩, ⟨⟨_, rfl, AVle.refl _⟩, ⟨_, rfl, AVle.refl _⟩, ⟨_, rfl, AVle.refl _⟩, ⟨_, rfl, AVle.of_eq ?_⟩, trivial⟩, Store.sub_refl _, by omega⟩
        · rw [hI, placeOf_miss hy hfy]
        · rw [i64_succ (by omega)]
    · repeat (first | with_reducible refine CW.seq ?_ | with_reducible refine andThen_normal ?_ | with_reducible refine andThen_exit ?_ | with_reducible refine inBlock_here ?_ | with_reducible refine CW.ret ?_ | with_reducible refine CW.exit ?_ | refine CW.reg (RL.run tysOk rfl (RL.nil ?_)))
      refine ⟨_, _, _, rfl, AVle.refl _, Store.sub_refl _, ?_, rfl⟩
      have : l.length ≤ j := by simpa using h
      rw [hI, placeOf_end this]

/-- The names above, from some classes (the last one first). -/
def upsS : List FClass → List Str → List Str
  | [], acc => acc
  | c :: r, acc => upsS r (if acc.contains c.name then addAll acc c.parents else acc)
def upOf (l : List FClass) (at_ : Nat) (name : Str) : List Str := upsS (l.take (at_ + 1)).reverse [name]
/-- The classes above one. -/
def aboveS (l : List FClass) (name : Str) : Option (List Str) := match l.findIdx? (fun c => c.name == name) with
  | none => none
  | some k => some (((l.take k).filter fun c => (upOf l k name).contains c.name).map FClass.name)

theorem placeOf_zero (l : List FClass) (name : Str) : placeOf l name 0 = match l.findIdx? (fun c => c.name == name) with | some k => (k : Int) | none => -1 := by
  simp only [placeOf, List.drop_zero]
  cases l.findIdx? (fun c => c.name == name) <;> simp

theorem take_rev {α : Type} {l : List α} {k : Nat} {x : α} (h : l[k]? = some x) : (l.take (k + 1)).reverse = x :: (l.take k).reverse := by
  rw [List.take_add_one, h]; simp

set_option maxRecDepth 10000 in
set_option maxHeartbeats 1000000 in
theorem shapeAbove_spec (P : FProg) (name : Str) (s : Store) (hP : P.Fair) :
    ACalls Try.prog 26 [P.av, .str name] s (fun o s' => o = .ret (.tup [.slc 1 (strs (if progOk P then (aboveS P.classes name).getD [] else [])) .fro, err (progOk P && (aboveS P.classes name).isSome)]) ∧ s' = s) := by
  have hb : big = 1099511627776 := rfl
  have hchk := shapeCheck_spec P s hP
  have hcl := hP.clen
  have hidx := indexClass_spec P.classes name s hP.clen
  rw [placeOf_zero] at hidx
  refine ACalls.of_CW tysOk call26 Try.func26 rfl rfl ?_
  cases hok : progOk P with
  | false =>
    rw [hok] at hchk
    repeat (first | with_reducible refine CW.seq ?_ | with_reducible refine andThen_normal ?_ | refine CW.reg (RL.run tysOk rfl (RL.nil ?_)) | refine CW.reg ?_ | refine RL.step tysOk rfl rfl rfl rfl ?_)
    refine RL.callP rfl rfl rfl rfl rfl hchk ?_
    repeat (first | with_reducible refine CW.seq ?_ | with_reducible refine andThen_normal ?_ | with_reducible refine andThen_ret ?_ | with_reducible refine CW.ret ?_ | refine CW.reg (RL.run tysOk rfl (RL.nil ?_)) | refine RL.nil ?_ | refine CW.condT rfl ?_ | refine RL.step tysOk rfl rfl rfl rfl ?_)
    exact ⟨_, _, _, rfl, AVle.tup (.cons strs_nil_le (AVleL.refl _)), Store.sub_refl _, rfl, rfl⟩
  | true =>
    rw [hok] at hchk
    cases hfi : P.classes.findIdx? (fun c => c.name == name) with
    | none =>
      rw [hfi] at hidx
      repeat (first | with_reducible refine CW.seq ?_ | with_reducible refine andThen_normal ?_ | refine CW.reg (RL.run tysOk rfl (RL.nil ?_)) | refine CW.reg ?_ | refine RL.step tysOk rfl rfl rfl rfl ?_)
      refine RL.callP rfl rfl rfl rfl rfl hchk ?_
      repeat (first | with_reducible refine CW.seq ?_ | with_reducible refine andThen_normal ?_ | with_reducible refine CW.skip ?_ | refine CW.reg ?_ | refine RL.nil ?_ | refine CW.condF rfl ?_ | refine RL.step tysOk rfl rfl rfl rfl ?_)
      refine RL.callP rfl rfl rfl rfl rfl hidx ?_
      repeat (first | with_reducible refine CW.seq ?_ | with_reducible refine andThen_normal ?_ | with_reducible refine andThen_ret ?_ | with_reducible refine CW.ret ?_ | refine CW.reg (RL.run tysOk rfl (RL.nil ?_)) | refine RL.nil ?_ | refine CW.condT rfl ?_ | refine RL.step tysOk rfl rfl rfl rfl ?_)
      refine ⟨_, _, _, rfl, AVle.tup (.cons strs_nil_le (AVleL.refl _)), Store.sub_refl _, ?_, rfl⟩
      rw [aboveS, hfi]; rfl
    | some k =>
      rw [hfi] at hidx
      simp only at hidx
      have hk : k < P.classes.length := (List.findIdx?_eq_some_iff_getElem.1 hfi).1
      repeat (first | with_reducible refine CW.seq ?_ | with_reducible refine andThen_normal ?_ | refine CW.reg (RL.run tysOk rfl (RL.nil ?_)) | refine CW.reg ?_ | refine RL.step tysOk rfl rfl rfl rfl ?_)
      refine RL.callP rfl rfl rfl rfl rfl hchk ?_
      repeat (first | with_reducible refine CW.seq ?_ | with_reducible refine andThen_normal ?_ | with_reducible refine CW.skip ?_ | refine CW.reg ?_ | refine RL.nil ?_ | refine CW.condF rfl ?_ | refine RL.step tysOk rfl rfl rfl rfl ?_)
      refine RL.callP rfl rfl rfl rfl rfl hidx ?_
      repeat (first | with_reducible refine CW.seq ?_ | with_reducible refine andThen_normal ?_ | with_reducible refine CW.skip ?_ | refine CW.reg (RL.run tysOk rfl (RL.nil ?_)) | refine CW.reg ?_ | refine RL.nil ?_ | refine CW.condF rfl ?_ | refine RL.step tysOk rfl rfl rfl rfl ?_)
      refine RL.makeMap rfl rfl rfl rfl (fun ub hub => ?_)
      repeat (first | refine RL.step tysOk rfl rfl rfl rfl ?_)
      refine RL.mapUpdate tysOk rfl rfl (.inr rfl) rfl rfl rfl rfl rfl rfl (Store.set_same _ _ _) rfl (putA_set [] name) ?_
      rw [Store.set_set]
      repeat (first | with_reducible refine CW.seq ?_ | with_reducible refine andThen_normal ?_ | with_reducible refine CW.block ?_ | refine CW.reg (RL.run tysOk rfl (RL.nil ?_)) | refine RL.nil ?_ | refine RL.step tysOk rfl rfl rfl rfl ?_)
      refine CW.loop (σ := Nat × List Str) (fun q => [(2, .fptr P.cells 0), (3, .fptr [.str name] 0), (5, .int .i64 0), (6, .int .i64 k), (7, .map ub), (8, .int .i64 ((q.1 : Int) - 1))])
        (fun q => s.set ub (.map (setA q.2))) (fun q => q.1 ≤ k + 1 ∧ upsS (P.classes.take q.1).reverse q.2 = upOf P.classes k name) (fun q => q.1) (k + 1, [name]) ⟨Nat.le_refl _, rfl⟩ ?_ (Store.sub_refl _) ?_
      · exact ⟨⟨_, rfl, AVle.refl _⟩, ⟨_, rfl, AVle.refl _⟩, ⟨_, rfl, AVle.refl _⟩, ⟨_, rfl, AVle.refl _⟩, ⟨_, rfl, AVle.refl _⟩, ⟨_, rfl, AVle.of_eq (by simp)⟩, trivial⟩
      · rintro ⟨m, acc⟩ ⟨hm, hI⟩
        simp only at hm hI
        repeat (first | with_reducible refine CW.seq ?_ | with_reducible refine andThen_normal ?_ | refine CW.reg (RL.run tysOk rfl (RL.nil ?_)))
        refine CW.cond rfl (fun h => ?_) (fun h => ?_)
        · have hm0 : 0 < m := by simp at h; omega
          obtain ⟨m, rfl⟩ : ∃ j, m = j + 1 := ⟨m - 1, by omega⟩
          have em : ((m + 1 : Nat) : Int) - 1 = (m : Int) := by omega
          rw [em] at *
          have hlt : m < P.classes.length := by omega
          obtain ⟨c, hci⟩ : ∃ c, P.classes[m]? = some c := ⟨_, List.getElem?_eq_getElem hlt⟩
          have hci' : (P.classes.map FClass.av)[m]? = some (.agg c.cells) := by rw [List.getElem?_map, hci]; rfl
          rw [take_rev hci] at hI
          repeat (first | with_reducible refine CW.seq ?_ | with_reducible refine andThen_normal ?_ | with_reducible refine CW.skip ?_ | with_reducible refine CW.block ?_ | refine CW.reg ?_ | refine RL.step tysOk rfl rfl rfl rfl ?_ | refine RL.idx tysOk _ rfl rfl rfl rfl rfl rfl rfl rfl rfl rfl rfl (by assumption) rfl ?_)
          refine RL.newBox tysOk rfl rfl rfl rfl rfl rfl rfl (fun _ => rfl) rfl rfl (fun _ => rfl) rfl rfl rfl rfl ?_
          repeat (first | with_reducible refine CW.seq ?_ | with_reducible refine andThen_normal ?_ | refine CW.reg ?_ | refine RL.nil ?_ | refine RL.step tysOk rfl rfl rfl rfl ?_)
          refine RL.lookup tysOk rfl rfl rfl rfl rfl rfl rfl rfl rfl rfl (Store.set_same _ _ _) rfl (getA_set _ _) rfl ?_
          cases hcn : acc.contains c.name with
          | true =>
            rw [upsS, if_pos hcn] at hI
            repeat (first | with_reducible refine CW.seq ?_ | with_reducible refine andThen_normal ?_ | with_reducible refine CW.block ?_ | refine CW.reg (RL.run tysOk rfl (RL.nil ?_)) | refine RL.nil ?_ | refine CW.condT rfl ?_)
            refine CW.loop (σ := Nat × List Str) (fun q => [(2, .fptr P.cells 0), (3, .fptr [.str name] 0), (5, .int .i64 0), (6, .int .i64 k), (7, .map ub), (8, .int .i64 m), (42, .slc 1 (strs c.parents) .fro), (43, .int .i64 (strs c.parents).length), (44, .int .i64 (q.1 : Int))])
              (fun q => s.set ub (.map (setA q.2))) (fun q => q.1 ≤ c.parents.length ∧ addAll q.2 (c.parents.drop q.1) = addAll acc c.parents) (fun q => c.parents.length - q.1) (0, acc) ⟨by simp, rfl⟩ ?_ (Store.sub_refl _) ?_
            · exact ⟨⟨_, rfl, AVle.refl _⟩, ⟨_, rfl, AVle.refl _⟩, ⟨_, rfl, AVle.refl _⟩, ⟨_, rfl, AVle.refl _⟩, ⟨_, rfl, AVle.refl _⟩, ⟨_, rfl, AVle.refl _⟩, ⟨_, rfl, AVle.refl _⟩, ⟨_, rfl, AVle.refl _⟩, ⟨_, rfl, AVle.refl _⟩, trivial⟩
            · rintro ⟨j, ac⟩ ⟨hj, hJ⟩
              simp only at hj hJ
              repeat (first | with_reducible refine CW.seq ?_ | with_reducible refine andThen_normal ?_ | refine CW.reg (RL.run tysOk rfl (RL.nil ?_)))
              refine CW.cond rfl (fun h => ?_) (fun h => ?_)
              · have hlt : j < c.parents.length := by simpa using h
                obtain ⟨p, hpj⟩ : ∃ p, c.parents[j]? = some p := ⟨_, List.getElem?_eq_getElem hlt⟩
                have hpj' : (strs c.parents)[j]? = some (.str p) := by rw [strs, List.getElem?_map, hpj]; rfl
                rw [drop_cons hpj] at hJ
                have hpl : c.parents.length < big := (hP.cls c (List.mem_of_getElem? hci)).parents.1
                repeat (first | with_reducible refine CW.seq ?_ | with_reducible refine andThen_normal ?_ | with_reducible refine CW.skip ?_ | with_reducible refine CW.block ?_ | refine CW.reg ?_ | refine RL.nil ?_ | refine RL.step tysOk rfl rfl rfl rfl ?_ | refine RL.idx tysOk _ rfl rfl rfl rfl rfl rfl rfl rfl rfl rfl rfl (by assumption) rfl ?_)
                refine RL.mapUpdate tysOk rfl rfl (.inl rfl) rfl rfl rfl rfl rfl rfl (Store.set_same _ _ _) rfl (putA_set _ _) ?_
                rw [Store.set_set]
                repeat (first | with_reducible refine andThen_normal ?_ | with_reducible refine inBlock_normal ?_ | refine CW.reg (RL.run tysOk rfl (RL.nil ?_)) | refine RL.nil ?_)
                refine ⟨(j + 1, insS ac p), ⟨hlt, hJ⟩, ⟨⟨_, rfl, AVle.refl _⟩, ⟨_, rfl, AVle.refl _⟩, ⟨_, rfl, AVle.refl _⟩, ⟨_, rfl, AVle.refl _⟩, ⟨_, rfl, AVle.refl _⟩, ⟨_, rfl, AVle.refl _⟩, ⟨_, rfl, AVle.refl _⟩, ⟨_, rfl, AVle.refl _⟩, ⟨_, rfl, AVle.of_eq ?_⟩, trivial⟩, Store.sub_refl _, by show c.parents.length - (j + 1) < c.parents.length - j; omega⟩
                rw [i64_succ (by omega)]
              · have hge : c.parents.length ≤ j := by simpa using h
                rw [List.drop_eq_nil_of_le hge] at hJ
                repeat (first | with_reducible refine andThen_normal ?_ | with_reducible refine andThen_exit ?_ | with_reducible refine inBlock_normal ?_ | with_reducible refine inBlock_here ?_ | with_reducible refine CW.exit ?_ | refine CW.reg (RL.run tysOk rfl (RL.nil ?_)))
                refine ⟨(m, ac), ⟨by omega, ?_⟩, ⟨⟨_, rfl, AVle.refl _⟩, ⟨_, rfl, AVle.refl _⟩, ⟨_, rfl, AVle.refl _⟩, ⟨_, rfl, AVle.refl _⟩, ⟨_, rfl, AVle.refl _⟩, ⟨_, rfl, AVle.of_eq ?_⟩, trivial⟩, Store.sub_refl _, by show m < m + 1; omega⟩
                · rw [← hI, ← hJ]; rfl
                · show AV.int .i64 (IntKind.wrap .i64 ((m : Int) - 1)) = .int .i64 ((m : Int) - 1); rw [i64_wrap (n := (m : Int) - 1) (by omega) (by omega)]
          | false =>
            rw [upsS, if_neg (by rw [hcn]; exact Bool.false_ne_true)] at hI
            repeat (first | with_reducible refine andThen_normal ?_ | with_reducible refine inBlock_normal ?_ | with_reducible refine CW.skip ?_ | refine CW.reg (RL.run tysOk rfl (RL.nil ?_)) | refine RL.nil ?_ | refine CW.condF rfl ?_)
            refine ⟨(m, acc), ⟨by omega, hI⟩, ⟨⟨_, rfl, AVle.refl _⟩, ⟨_, rfl, AVle.refl _⟩, ⟨_, rfl, AVle.refl _⟩, ⟨_, rfl, AVle.refl _⟩, ⟨_, rfl, AVle.refl _⟩, ⟨_, rfl, AVle.of_eq ?_⟩, trivial⟩, Store.sub_refl _, by show m < m + 1; omega⟩
            show AV.int .i64 (IntKind.wrap .i64 ((m : Int) - 1)) = .int .i64 ((m : Int) - 1); rw [i64_wrap (n := (m : Int) - 1) (by omega) (by omega)]
        · have hm0 : m = 0 := by simp at h; omega
          subst hm0
          simp only [List.take_zero, List.reverse_nil, upsS] at hI
          subst hI
          repeat (first | with_reducible refine CW.seq ?_ | with_reducible refine andThen_normal ?_ | with_reducible refine andThen_exit ?_ | with_reducible refine inBlock_here ?_ | with_reducible refine CW.exit ?_ | refine CW.reg (RL.run tysOk rfl (RL.nil ?_)) | refine CW.reg ?_ | refine RL.step tysOk rfl rfl rfl rfl ?_)
          refine RL.slice tysOk 0 k rfl rfl rfl rfl rfl rfl rfl rfl (.inr rfl) (.inl ⟨rfl, rfl⟩) (.inr ⟨_, _, rfl, rfl⟩) (.inl ⟨rfl, rfl⟩) (by omega) (by rw [List.length_map]; omega) ?_
          rw [List.drop_zero, ← List.map_take]
          have htl : (P.classes.take k).length = k := by rw [List.length_take]; omega
          repeat (first | with_reducible refine andThen_normal ?_ | with_reducible refine CW.block ?_ | refine RL.nil ?_ | refine RL.step tysOk rfl rfl rfl rfl ?_)
          refine CW.loop (σ := Nat × Own) (fun q => [(5, .int .i64 0), (7, .map ub), (12, .slc 1 (strs (((P.classes.take q.1).filter fun c => (upOf P.classes k name).contains c.name).map FClass.name)) q.2), (54, .slc 4 ((P.classes.take k).map FClass.av) .fro), (55, .int .i64 ((P.classes.take k).map FClass.av).length), (56, .int .i64 (q.1 : Int))])
            (fun q => rowOf (s.set ub (.map (setA (upOf P.classes k name)))) 9 1 (((P.classes.take q.1).filter fun c => (upOf P.classes k name).contains c.name).map FClass.name).length q.2)
            (fun q => q.1 ≤ k ∧ OwnOk (s.set ub (.map (setA (upOf P.classes k name)))) 0 q.2) (fun q => k - q.1) (0, .nil) ⟨by simp, trivial⟩ ?_ (Store.sub_refl _) ?_
          · exact ⟨⟨_, rfl, AVle.refl _⟩, ⟨_, rfl, AVle.refl _⟩, ⟨_, rfl, AVle.nil (by simp)⟩, ⟨_, rfl, AVle.refl _⟩, ⟨_, rfl, AVle.refl _⟩, ⟨_, rfl, AVle.refl _⟩, trivial⟩
          · rintro ⟨j, own⟩ ⟨hj, hown⟩
            simp only at hj hown
            repeat (first | with_reducible refine CW.seq ?_ | with_reducible refine andThen_normal ?_ | refine CW.reg (RL.run tysOk rfl (RL.nil ?_)))
            refine CW.cond rfl (fun h => ?_) (fun h => ?_)
            · have hlt : j < k := by rw [List.length_map, htl] at h; simpa using h
              obtain ⟨c, hcj⟩ : ∃ c, P.classes[j]? = some c := ⟨_, List.getElem?_eq_getElem (by omega)⟩
              have hcj' : ((P.classes.take k).map FClass.av)[j]? = some (.agg c.cells) := by rw [List.getElem?_map, List.getElem?_take_of_lt hlt, hcj]; rfl
              have hnb : ∀ b, own = .own b → b ≠ ub := fun b h e => by subst h; subst e; have := hown; simp [OwnOk, Store.set_same] at this
              repeat (first | with_reducible refine CW.seq ?_ | with_reducible refine andThen_normal ?_ | with_reducible refine CW.skip ?_ | with_reducible refine CW.block ?_ | refine CW.reg ?_ | refine RL.step tysOk rfl rfl rfl rfl ?_ | refine RL.idx tysOk _ rfl rfl rfl rfl rfl rfl rfl rfl rfl rfl rfl (by assumption) rfl ?_)
              refine RL.newBox tysOk rfl rfl rfl rfl rfl rfl rfl (fun _ => rfl) rfl rfl (fun _ => rfl) rfl rfl rfl rfl ?_
              repeat (first | with_reducible refine CW.seq ?_ | with_reducible refine andThen_normal ?_ | refine CW.reg ?_ | refine RL.nil ?_ | refine RL.step tysOk rfl rfl rfl rfl ?_)
              refine RL.lookup tysOk rfl rfl rfl rfl rfl rfl rfl rfl rfl rfl (rowOf_get hown (Store.set_same _ _ _)) rfl (getA_set _ _) rfl ?_
              have hts : P.classes.take (j + 1) = P.classes.take j ++ [c] := by rw [List.take_add_one, hcj]; rfl
              have hfl : (((P.classes.take j).filter fun c => (upOf P.classes k name).contains c.name).map FClass.name).length ≤ k := by
                rw [List.length_map]; exact Nat.le_trans (List.length_filter_le _ _) (by rw [List.length_take]; omega)
              cases hcn : (upOf P.classes k name).contains c.name with
              | true =>
                have hfs : ((P.classes.take (j + 1)).filter fun c => (upOf P.classes k name).contains c.name).map FClass.name = ((P.classes.take j).filter fun c => (upOf P.classes k name).contains c.name).map FClass.name ++ [c.name] := by
                  rw [hts, List.filter_append, List.map_append, List.filter_cons_of_pos (by exact hcn)]; rfl
                repeat (first | with_reducible refine andThen_normal ?_ | refine CW.reg ?_ | refine RL.nil ?_ | refine CW.condT rfl ?_ | refine RL.step tysOk rfl rfl rfl rfl ?_)
                refine RL.append1 tysOk rfl rfl rfl rfl rfl rfl rfl (by intro k; simp) rfl rfl rfl rfl rfl rfl rfl (strs_length _).symm ?_ ?_ (s := s.set ub (.map (setA (upOf P.classes k name)))) rfl (OwnOk.sub' hown) (fun rb hrb => ?_)
                · show ((((P.classes.take j).filter fun c => (upOf P.classes k name).contains c.name).map FClass.name).length + 1) * 16 ≤ _; omega
                · show (((P.classes.take j).filter fun c => (upOf P.classes k name).contains c.name).map FClass.name).length + 1 ≤ _; omega
                repeat (first | with_reducible refine andThen_normal ?_ | with_reducible refine inBlock_normal ?_ | refine CW.reg (RL.run tysOk rfl (RL.nil ?_)) | refine RL.nil ?_ | refine RL.step tysOk rfl rfl rfl rfl ?_)
                refine ⟨(j + 1, .own rb), ⟨hlt, hrb⟩, ⟨⟨_, rfl, AVle.refl _⟩, ⟨_, rfl, AVle.refl _⟩, ⟨_, rfl, AVle.of_eq ?_⟩, ⟨_, rfl, AVle.refl _⟩, ⟨_, rfl, AVle.refl _⟩, ⟨_, rfl, AVle.of_eq ?_⟩, trivial⟩, ?_, by show k - (j + 1) < k - j; omega⟩
                · simp only [hfs]; simp [strs]
                · show AV.int .i64 (IntKind.wrap .i64 ((j : Int) + 1)) = .int .i64 ((j + 1 : Nat) : Int); rw [i64_succ (by omega)]
                · simp only [hfs, List.length_append, strs_length]; exact Store.sub_refl _
              | false =>
                have hfs : ((P.classes.take (j + 1)).filter fun c => (upOf P.classes k name).contains c.name).map FClass.name = ((P.classes.take j).filter fun c => (upOf P.classes k name).contains c.name).map FClass.name := by
                  rw [hts, List.filter_append, List.map_append, List.filter_cons_of_neg (by rw [hcn]; exact Bool.false_ne_true)]; simp
                repeat (first | with_reducible refine andThen_normal ?_ | with_reducible refine inBlock_normal ?_ | with_reducible refine CW.skip ?_ | refine CW.reg (RL.run tysOk rfl (RL.nil ?_)) | refine RL.nil ?_ | refine CW.condF rfl ?_)
                refine ⟨(j + 1, own), ⟨hlt, hown⟩, ⟨⟨_, rfl, AVle.refl _⟩, ⟨_, rfl, AVle.refl _⟩, ⟨_, rfl, AVle.of_eq ?_⟩, ⟨_, rfl, AVle.refl _⟩, ⟨_, rfl, AVle.refl _⟩, ⟨_, rfl, AVle.of_eq ?_⟩, trivial⟩, ?_, by show k - (j + 1) < k - j; omega⟩
                · simp only [hfs]
                · show AV.int .i64 (IntKind.wrap .i64 ((j : Int) + 1)) = .int .i64 ((j + 1 : Nat) : Int); rw [i64_succ (by omega)]
                · simp only [hfs]; exact Store.sub_refl _
            · have hjk : j = k := by rw [List.length_map, htl] at h; simp at h; omega
              subst hjk
              repeat (first | with_reducible refine CW.seq ?_ | with_reducible refine andThen_normal ?_ | with_reducible refine andThen_exit ?_ | with_reducible refine inBlock_here ?_ | with_reducible refine CW.exit ?_ | refine CW.reg ?_ | refine RL.step tysOk rfl rfl rfl rfl ?_)
              refine RL.callP rfl rfl rfl rfl rfl (clipStr_spec _ _ _) ?_
              repeat (first | with_reducible refine andThen_normal ?_ | with_reducible refine CW.ret ?_ | refine RL.nil ?_ | refine RL.step tysOk rfl rfl rfl rfl ?_)
              refine ⟨_, _, s, rfl, AVle.tup (.cons AVle.fro (AVleL.refl _)), ?_, ?_, rfl⟩
              · exact Store.Sub.trans (Store.sub_set _ _ _ hub) (rowOf_sub hown)
              · rw [aboveS, hfi]; rfl
end Go.Proofs.Ytaafacnoddjhgaa

