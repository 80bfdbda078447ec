import Derived.Test.YtaafacnoddjhgaaMg
/- Contracts of the layer 'shape': the classes of a program are looked at. -/
namespace Go.Proofs.Ytaafacnoddjhgaa
open Go.AE

def ClsPost (P : FProg) (pb cb sb : Nat) (s : Store) (o : AOut) (s' : Store) : Prop :=
  (match clsAll P.classes with
    | some st => o = .ret (.tup []) ∧ s' cb = some (.map (classA st.names)) ∧ s' sb = some (.map (setA st.slots)) ∧ ∃ has, s' pb = some (.box 136 (progCells P cb has sb P.classes.length))
    | none => o = .panic unf ∧ ∃ has, s' pb = some (.box 136 (progCells P cb has sb 0))) ∧
  ∀ x, x ≠ pb → x ≠ cb → x ≠ sb → s x ≠ none → s' x = s x

theorem CInv.rowNext {P : FProg} {pb cb sb nb : Nat} {s t : Store} {i : Nat} {st : CSt} {own : Own} {hs : List Nat} {ms : List (List Str)} (h : CInv P pb cb sb nb s t i st own hs ms) (o o' : AObj) :
    RowIs ((t.set nb o).set cb o') 72 1 i own := by
  have := h.row
  cases own with
  | own b =>
    simp only [RowIs] at this ⊢
    have h1 : b ≠ nb := by intro e; subst e; have q := h.hn; rw [this] at q; cases q
    have h2 : b ≠ cb := by intro e; subst e; have q := h.hc; rw [this] at q; cases q
    rw [Store.set_ne _ _ h2, Store.set_ne _ _ h1]
    exact this
  | nil => trivial
  | clip => exact this
  | fro => exact this

theorem CInv.fail {P : FProg} {pb cb sb nb : Nat} {s t : Store} {i : Nat} {st : CSt} {own : Own} {hs : List Nat} {ms : List (List Str)} (h : CInv P pb cb sb nb s t i st own hs ms) (hf : clsAll P.classes = none) :
    ClsPost P pb cb sb s (.panic unf) t := by
  unfold ClsPost
  rw [hf]
  exact ⟨⟨rfl, _, h.hp⟩, h.rest⟩

/-- What is known while the parents of a class are looked at. -/
structure PInv (P : FProg) (pb cb sb nb : Nat) (s t : Store) (i : Nat) (st : CSt) (own : Own) (hs : List Nat) (ms : List (List Str)) (mb qb ib : Nat) : Prop where
  inv : CInv P pb cb sb nb s t i st own hs ms
  am : Ap pb cb sb nb s own hs mb
  aq : Ap pb cb sb nb s own hs qb
  ai : Ap pb cb sb nb s own hs ib
  d : mb ≠ qb ∧ mb ≠ ib ∧ qb ≠ ib

section
variable {P : FProg} {pb cb sb nb : Nat} {s t : Store} {i : Nat} {st : CSt} {own : Own} {hs : List Nat} {ms : List (List Str)} {mb qb ib : Nat}
theorem PInv.setM (h : PInv P pb cb sb nb s t i st own hs ms mb qb ib) (o : AObj) : PInv P pb cb sb nb s (t.set mb o) i st own hs ms mb qb ib := ⟨h.inv.set h.am o, h.am, h.aq, h.ai, h.d⟩
theorem PInv.setQ (h : PInv P pb cb sb nb s t i st own hs ms mb qb ib) (o : AObj) : PInv P pb cb sb nb s (t.set qb o) i st own hs ms mb qb ib := ⟨h.inv.set h.aq o, h.am, h.aq, h.ai, h.d⟩
theorem PInv.setI (h : PInv P pb cb sb nb s t i st own hs ms mb qb ib) (o : AObj) : PInv P pb cb sb nb s (t.set ib o) i st own hs ms mb qb ib := ⟨h.inv.set h.ai o, h.am, h.aq, h.ai, h.d⟩
end

section
variable {P : FProg} {pb cb sb nb : Nat} {s t : Store} {i : Nat} {st : CSt} {own : Own} {hs : List Nat} {ms : List (List Str)} {mb qb ib : Nat}
theorem PInv.slot (h : PInv P pb cb sb nb s t i st own hs ms mb qb ib) (l : List Str) : PInv P pb cb sb nb s (t.set sb (.map (setA l))) i { st with slots := l } own hs ms mb qb ib := ⟨h.inv.slot l, h.am, h.aq, h.ai, h.d⟩
end

theorem progCells_nil (P : FProg) (cb sb : Nat) : AVleL (progCells P cb (.slc 0 [] .nil) sb 0) (progCells P cb (.slc 1 [] .nil) sb 0) :=
  (AVleL.refl _).append (.cons (AVle.refl _) (.cons (AVle.nil (by simp)) (AVleL.refl _)))

theorem classOk_false_of {st : CSt} {c : FClass} {l r : List FClass} {cls : List FClass} (hI : clsAll cls = clsRest st (c :: r)) (h : classOk st c = false) : clsAll cls = none := by
  rw [hI, clsRest, h]; rfl


set_option maxRecDepth 10000 in
set_option maxHeartbeats 4000000 in
theorem classes_spec (P : FProg) (pb cb sb : Nat) (s : Store) (hp : s pb = some (.box 136 (progCells P cb (.slc 0 [] .nil) sb 0))) (hc : s cb = some (.map [])) (hsb : s sb = some (.map [])) (hcs : cb ≠ sb)
    (hf : ∀ c ∈ P.classes, c.Fair) (hlen : P.classes.length < big) :
    ACalls Try.prog 83 [.ptr pb 0] s (ClsPost P pb cb sb s) := by
  have hb : big = 1099511627776 := rfl
  have hpc : pb ≠ cb := fun e => by subst e; rw [hp] at hc; cases hc
  have hps : pb ≠ sb := fun e => by subst e; rw [hp] at hsb; cases hsb
  refine ACalls.of_CW tysOk call83 Try.func83 rfl rfl ?_
  repeat (first | with_reducible refine CW.seq ?_ | refine CW.reg ?_ | refine RL.step tysOk rfl rfl rfl rfl ?_ | refine RL.loadP tysOk rfl rfl rfl rfl rfl rfl (by assumption) rfl ?_)
  refine needR rfl rfl rfl rfl rfl (fun h10 => ?_) (fun h10 => ?_)
  · have h10' : P.classes.length ≤ 10 := by simp at h10; omega
    have hall : clsAll P.classes = clsRest .zero P.classes := by rw [clsAll, if_pos h10']
    repeat (first | with_reducible refine CW.seq ?_ | with_reducible refine andThen_normal ?_ | refine CW.reg ?_ | refine RL.nil ?_)
    refine RL.makeMap rfl rfl rfl rfl (fun nb hnb => ?_)
    have hpn : pb ≠ nb := ne_of_some hp hnb
    have hcn : cb ≠ nb := ne_of_some hc hnb
    have hsn : sb ≠ nb := ne_of_some hsb hnb
    have hp1 : (s.set nb (.map [])) pb = some (.box 136 (progCells P cb (.slc 0 [] .nil) sb 0)) := by rw [Store.set_ne _ _ hpn]; exact hp
    repeat (first | with_reducible refine CW.seq ?_ | with_reducible refine andThen_normal ?_ | with_reducible refine CW.block ?_ | refine CW.reg ?_ | refine RL.nil ?_ | refine RL.step tysOk rfl rfl rfl rfl ?_ | refine RL.loadP tysOk rfl rfl rfl rfl rfl rfl (by assumption) rfl ?_)
    refine CW.boxWeak pb _ hp1 (progCells_nil P cb sb) ?_
    have inv0 : CInv P pb cb sb nb s ((s.set nb (.map [])).set pb (.box 136 (progCells P cb (.slc 1 [] .nil) sb 0))) 0 .zero .nil [] [] := by
      refine ⟨Store.set_same _ _ _, ?_, ?_, ?_, trivial, rfl, rfl, rfl, rfl, by simp, by simp, by simp, ⟨hcs, hcn, hsn, hpc, hps, hpn⟩, hnb, by simp, ?_⟩
      · rw [Store.set_ne _ _ hpc.symm, Store.set_ne _ _ hcn]; exact hc
      · rw [Store.set_ne _ _ hps.symm, Store.set_ne _ _ hsn]; exact hsb
      · rw [Store.set_ne _ _ hpn.symm, Store.set_same]; rfl
      · intro x h1 h2 h3 h4
        rw [Store.set_ne _ _ h1, Store.set_ne _ _ (fun e => by subst e; exact h4 hnb)]
    refine CW.loop (σ := Nat × Store × CSt × Own × List Nat × List (List Str)) (fun q => [(0, .ptr pb 0), (2, .map nb), (30, .slc 4 (P.classes.map FClass.av) .fro), (31, .int .i64 (P.classes.map FClass.av).length), (32, .int .i64 (q.1 : Int))]) (fun q => q.2.1)
      (fun q => q.1 ≤ P.classes.length ∧ CInv P pb cb sb nb s q.2.1 q.1 q.2.2.1 q.2.2.2.1 q.2.2.2.2.1 q.2.2.2.2.2 ∧ clsAll P.classes = clsRest q.2.2.1 (P.classes.drop q.1)) (fun q => P.classes.length - q.1)
      (0, _, .zero, .nil, [], []) ⟨by simp, inv0, hall⟩ ?_ (Store.sub_refl _) ?_
    · exact ⟨⟨_, rfl, AVle.refl _⟩, ⟨_, rfl, AVle.refl _⟩, ⟨_, rfl, AVle.refl _⟩, ⟨_, rfl, AVle.refl _⟩, ⟨_, rfl, AVle.refl _⟩, trivial⟩
    · rintro ⟨i, t, st, own, hs, ms⟩ ⟨hi, inv, hI⟩
      simp only at hi inv hI ⊢
      have hp := inv.hp
      repeat (first | with_reducible refine CW.seq ?_ | with_reducible refine andThen_normal ?_ | refine CW.reg (RL.run tysOk rfl (RL.nil ?_)))
      refine CW.cond rfl (fun h => ?_) (fun h => ?_)
      · have hlt : i < P.classes.length := by simpa using h
        obtain ⟨c, hci⟩ : ∃ c, P.classes[i]? = some c := ⟨_, List.getElem?_eq_getElem hlt⟩
        have hci' : (P.classes.map FClass.av)[i]? = some (.agg c.cells) := by rw [List.getElem?_map, hci]; rfl
        have hcf := hf c (List.mem_of_getElem? hci)
        rw [drop_cons hci] at hI
        repeat (first | with_reducible refine CW.seq ?_ | with_reducible refine andThen_normal ?_ | with_reducible refine CW.skip ?_ | with_reducible refine CW.block ?_ | refine CW.reg ?_ | refine RL.step tysOk rfl rfl rfl rfl ?_ | refine RL.idx tysOk _ rfl rfl rfl rfl rfl rfl rfl rfl rfl rfl rfl (by assumption) rfl ?_)
        refine RL.alloc tysOk rfl rfl rfl rfl rfl rfl rfl (fun b4 hb4 => ?_)
        refine RL.step tysOk rfl rfl rfl rfl ?_
        refine RL.storeP tysOk rfl rfl rfl rfl rfl rfl rfl rfl rfl (Store.set_same _ _ _) rfl ?_
        rw [Store.set_set]
        refine RL.freeze 4 b4 rfl (Store.set_same _ _ _) ?_
        rw [Store.del_set _ _ _ hb4]
        repeat (first | with_reducible refine CW.seq ?_ | with_reducible refine andThen_normal ?_ | refine CW.reg ?_ | refine RL.nil ?_ | refine RL.step tysOk rfl rfl rfl rfl ?_)
        refine RL.cut 5 [(0, .ptr pb 0), (2, .map nb), (30, .slc 4 (P.classes.map FClass.av) .fro), (31, .int .i64 (P.classes.map FClass.av).length), (32, .int .i64 (i : Int)), (3, .int .i64 (i : Int)), (4, .fptr c.cells 0), (46, .bool (decide (c.parents.length ≤ 3) && decide (c.slots.length ≤ 4)))] ?_ ?_
        · repeat' (first | refine RL.nil ?_ | refine RL.step tysOk rfl rfl rfl rfl ?_ | refine RL.skip rfl rfl rfl ?_ | refine RL.gstepT tysOk rfl rfl rfl rfl rfl rfl rfl (fun _ => ?_) (fun _ => ?_))
          all_goals refine ⟨rfl, ⟨⟨_, rfl, AVle.refl _⟩, ⟨_, rfl, AVle.refl _⟩, ⟨_, rfl, AVle.refl _⟩, ⟨_, rfl, AVle.refl _⟩, ⟨_, rfl, AVle.refl _⟩, ⟨_, rfl, AVle.refl _⟩, ⟨_, rfl, AVle.refl _⟩, ⟨_, rfl, AVle.of_eq ?_⟩, trivial⟩, rfl⟩
          all_goals simp_all
          all_goals first | (congr 1; rw [Bool.eq_iff_iff]; simp; omega) | (intros; omega)
        refine needR rfl rfl rfl rfl rfl (fun h5 => ?_) (fun h5 => ?_)
        · repeat (first | with_reducible refine CW.seq ?_ | with_reducible refine andThen_normal ?_ | refine CW.reg ?_ | refine RL.nil ?_)
          refine RL.makeMap rfl rfl rfl rfl (fun mb hmb => ?_)
          refine RL.makeMap rfl rfl rfl rfl (fun qb hqb => ?_)
          refine RL.makeMap rfl rfl rfl rfl (fun ib hib => ?_)
          have am := inv.ap hmb
          have inv1 := inv.set am (.map [])
          have aq := inv1.ap hqb
          have inv2 := inv1.set aq (.map [])
          have ai := inv2.ap hib
          have inv3 := inv2.set ai (.map [])
          have hmq : mb ≠ qb := ne_of_some (Store.set_same t mb (.map [])) hqb
          have hqi : qb ≠ ib := ne_of_some (Store.set_same _ qb (.map [])) hib
          have hmi : mb ≠ ib := ne_of_some (by rw [Store.set_ne _ _ hmq]; exact Store.set_same t mb (.map [])) hib
          have pinv : PInv P pb cb sb nb s (((t.set mb (.map [])).set qb (.map [])).set ib (.map [])) i st own hs ms mb qb ib := ⟨inv3, am, aq, ai, ⟨hmq, hmi, hqi⟩⟩
          repeat (first | with_reducible refine CW.seq ?_ | with_reducible refine andThen_normal ?_ | with_reducible refine CW.block ?_ | refine CW.reg (RL.run tysOk rfl (RL.nil ?_)) | refine RL.nil ?_ | refine RL.step tysOk rfl rfl rfl rfl ?_)
          refine CW.loop (σ := Nat × Store × List Str) (fun q => [(0, .ptr pb 0), (2, .map nb), (3, .int .i64 (i : Int)), (4, .fptr c.cells 0), (5, .map mb), (6, .map qb), (7, .map ib), (30, .slc 4 (P.classes.map FClass.av) .fro), (31, .int .i64 (P.classes.map FClass.av).length), (32, .int .i64 (i : Int)), (52, .slc 1 (strs c.parents) .fro), (53, .int .i64 (strs c.parents).length), (54, .int .i64 (q.1 : Int))]) (fun q => q.2.1)
            (fun q => q.1 ≤ c.parents.length ∧ PInv P pb cb sb nb s q.2.1 i st own hs ms mb qb ib ∧ q.2.1 mb = some (.map (setA q.2.2)) ∧ q.2.1 qb = some (.map (setA (c.parents.take q.1))) ∧ q.2.1 ib = some (.map []) ∧
              (∀ z, z ∈ q.2.2 ↔ z ∈ (c.parents.take q.1).flatMap st.slotsOf) ∧ allPre (okParent st.names) [] c.parents = allPre (okParent st.names) (c.parents.take q.1) (c.parents.drop q.1)) (fun q => c.parents.length - q.1)
            (0, _, []) ⟨by simp, pinv, ?_, ?_, Store.set_same _ _ _, by simp, rfl⟩ ?_ (Store.sub_refl _) ?_
          · show (((t.set mb (.map [])).set qb (.map [])).set ib (.map [])) mb = _
            rw [Store.set_ne _ _ hmi, Store.set_ne _ _ hmq, Store.set_same]; rfl
          · show (((t.set mb (.map [])).set qb (.map [])).set ib (.map [])) qb = _
            rw [Store.set_ne _ _ hqi, Store.set_same]; rfl
          · exact ⟨⟨_, rfl, AVle.refl _⟩, ⟨_, rfl, AVle.refl _⟩, ⟨_, rfl, AVle.refl _⟩, ⟨_, rfl, AVle.refl _⟩, ⟨_, rfl, AVle.refl _⟩, ⟨_, rfl, AVle.refl _⟩, ⟨_, rfl, AVle.refl _⟩, ⟨_, rfl, AVle.refl _⟩, ⟨_, rfl, AVle.refl _⟩, ⟨_, rfl, AVle.refl _⟩, ⟨_, rfl, AVle.refl _⟩, ⟨_, rfl, AVle.refl _⟩, ⟨_, rfl, AVle.refl _⟩, trivial⟩
          · rintro ⟨j, t1, m⟩ ⟨hj, pv, hm1, hq1, hi1, hmem, hA⟩
            simp only at hj pv hm1 hq1 hi1 hmem hA ⊢
            have hp := pv.inv.hp
            have hcb := pv.inv.hc
            repeat (first | with_reducible refine CW.seq ?_ | with_reducible refine andThen_normal ?_ | refine CW.reg (RL.run tysOk rfl (RL.nil ?_)))
            refine CW.cond rfl (fun h => ?_) (fun h => ?_)
            · have hlt : j < c.parents.length := by simpa using h
              obtain ⟨y, hy⟩ : ∃ y, c.parents[j]? = some y := ⟨_, List.getElem?_eq_getElem hlt⟩
              have hy' : (strs c.parents)[j]? = some (.str y) := by rw [strs_get, hy]; rfl
              have hys := hcf.parents.sh y (List.mem_of_getElem? hy)
              rw [drop_cons hy, allPre_cons] at hA
              have hbad : okParent st.names (c.parents.take j) y = false → clsAll P.classes = none := fun h => classOk_false_of (l := []) hI (by rw [classOk, hA, h]; simp)
              cases hfi : st.names.findIdx? (· == y) with
              | none =>
                have hcn : st.names.contains y = false := by rw [← findIdx_contains, hfi]; rfl
                repeat (first | with_reducible refine CW.seq ?_ | with_reducible refine andThen_normal ?_ | with_reducible refine CW.skip ?_ | with_reducible refine CW.block ?_ | refine CW.reg ?_ | refine RL.nil ?_ | refine RL.step tysOk rfl rfl rfl rfl ?_ | refine RL.loadP tysOk rfl rfl rfl rfl rfl rfl (by assumption) rfl ?_ | refine RL.idx tysOk _ rfl rfl rfl rfl rfl rfl rfl rfl rfl rfl rfl (by assumption) rfl ?_)
                refine RL.lookup tysOk rfl rfl rfl rfl rfl rfl rfl rfl rfl rfl hcb rfl (getA_class _ _) rfl ?_
                rw [gotA_class, hfi, hcn]
                repeat (first | with_reducible refine CW.seq ?_ | with_reducible refine andThen_normal ?_ | refine CW.reg ?_ | refine RL.nil ?_ | refine RL.step tysOk rfl rfl rfl rfl ?_)
                refine needR rfl rfl rfl rfl rfl (fun h => by cases h) (fun _ => ?_)
                repeat (first | with_reducible refine andThen_panic ?_ | with_reducible refine inBlock_panic ?_)
                exact ⟨_, _, AVle.refl _, Store.sub_refl _, pv.inv.fail (hbad (by rw [okParent, hcn]; rfl))⟩
              | some k =>
                have hcn : st.names.contains y = true := by rw [← findIdx_contains, hfi]; rfl
                have hklt : k < st.names.length := (List.findIdx?_eq_some_iff_getElem.1 hfi).1
                have hki : k < i := by rw [← pv.inv.nlen]; exact hklt
                obtain ⟨hk, hhk⟩ : ∃ x, hs[k]? = some x := ⟨_, List.getElem?_eq_getElem (by rw [pv.inv.hlen]; exact hki)⟩
                obtain ⟨mk, hmk⟩ : ∃ x, ms[k]? = some x := ⟨_, List.getElem?_eq_getElem (by rw [pv.inv.mlen]; exact hki)⟩
                obtain ⟨lk, hlk⟩ : ∃ x, st.has[k]? = some x := ⟨_, List.getElem?_eq_getElem (by rw [pv.inv.stlen]; exact hki)⟩
                have hsl : st.slotsOf y = lk := by
                  rw [CSt.slotsOf, hfi]; simp [hlk]
                repeat (first | with_reducible refine CW.seq ?_ | with_reducible refine andThen_normal ?_ | with_reducible refine CW.skip ?_ | with_reducible refine CW.block ?_ | refine CW.reg ?_ | refine RL.nil ?_ | refine RL.step tysOk rfl rfl rfl rfl ?_ | refine RL.loadP tysOk rfl rfl rfl rfl rfl rfl (by assumption) rfl ?_ | refine RL.idx tysOk _ rfl rfl rfl rfl rfl rfl rfl rfl rfl rfl rfl (by assumption) rfl ?_)
                refine RL.lookup tysOk rfl rfl rfl rfl rfl rfl rfl rfl rfl rfl hcb rfl (getA_class _ _) rfl ?_
                rw [gotA_class, hfi, hcn]
                repeat (first | with_reducible refine CW.seq ?_ | with_reducible refine andThen_normal ?_ | refine CW.reg ?_ | refine RL.nil ?_ | refine RL.step tysOk rfl rfl rfl rfl ?_)
                refine needR rfl rfl rfl rfl rfl (fun _ => ?_) (fun h => by cases h)
                repeat (first | with_reducible refine CW.seq ?_ | with_reducible refine andThen_normal ?_ | refine CW.reg ?_ | refine RL.nil ?_ | refine RL.step tysOk rfl rfl rfl rfl ?_)
                refine RL.call rfl rfl rfl rfl rfl (one_spec y (c.parents.take j) qb t1 hq1 hys) ?_ ?_
                · rintro _ _ (⟨hn, ⟨⟩, rfl⟩ | ⟨_, h, _⟩)
                  · have pv2 := pv.setQ (.map (setA (insS (c.parents.take j) y)))
                    generalize hT : t1.set qb (.map (setA (insS (c.parents.take j) y))) = t2 at pv2 ⊢
                    have hm2 : t2 mb = some (.map (setA m)) := by rw [← hT, Store.set_ne _ _ pv.d.1]; exact hm1
                    have hq2 : t2 qb = some (.map (setA (c.parents.take (j + 1)))) := by
                      rw [← hT, Store.set_same, ← take_snoc hy]
                      have : (c.parents.take j).contains y = false := by simp only [Bool.and_eq_true, Bool.not_eq_true'] at hn; exact hn.2
                      rw [insS, this]; rfl
                    have hi2 : t2 ib = some (.map []) := by rw [← hT, Store.set_ne _ _ (Ne.symm pv.d.2.2)]; exact hi1
                    have hp := pv2.inv.hp
                    have hmapk := pv2.inv.has k hk mk hhk hmk
                    have hkm : hk ≠ mb := fun e => pv2.am.has (e ▸ List.mem_of_getElem? hhk)
                    have hkel : (hs.map AV.map)[k]? = some (.map hk) := by rw [List.getElem?_map, hhk]; rfl
                    repeat (first | with_reducible refine CW.seq ?_ | with_reducible refine andThen_normal ?_ | refine CW.reg ?_ | refine RL.nil ?_ | refine RL.step tysOk rfl rfl rfl rfl ?_ | refine RL.loadP tysOk rfl rfl rfl rfl rfl rfl (by assumption) rfl ?_ | refine RL.idx tysOk _ rfl rfl rfl rfl rfl rfl rfl rfl rfl rfl rfl (by assumption) rfl ?_)
                    refine RL.op rfl rfl rfl (OW.rangeM tysOk rfl rfl rfl rfl hmapk (X := fun _ _ => False)) ?_ (fun _ _ h => False.elim h)
                    rintro _ _ ⟨it, hit, hine, rfl, rfl⟩
                    have hmset : t2.set mb (.map (setA m)) = t2 := Store.set_eq _ _ _ hm2
                    have him : it ≠ mb := (ne_of_some hm2 hit).symm
                    repeat (first | with_reducible refine andThen_normal ?_ | with_reducible refine CW.block ?_ | refine RL.nil ?_)
                    refine CW.loop (σ := List Str × Option (AV × AV) × List Str) (fun _ => [(0, .ptr pb 0), (2, .map nb), (3, .int .i64 (i : Int)), (4, .fptr c.cells 0), (5, .map mb), (6, .map qb), (7, .map ib), (30, .slc 4 (P.classes.map FClass.av) .fro), (31, .int .i64 (P.classes.map FClass.av).length), (32, .int .i64 (i : Int)), (52, .slc 1 (strs c.parents) .fro), (53, .int .i64 (strs c.parents).length), (54, .int .i64 (j : Int)), (79, .ptr it 0)])
                      (fun q => ((t2.set mb (.map (setA q.2.2))).set hk (.ranged (setA mk) it (setA q.1) q.2.1)).set it (.tick hk)) (fun q => ∀ z, (z ∈ q.2.2 ∨ z ∈ q.1) ↔ z ∈ m ∨ z ∈ mk) (fun q => q.1.length) (mk, none, m) (fun z => Iff.rfl) ?_ ?_ ?_
                    · exact ⟨⟨_, rfl, AVle.refl _⟩, ⟨_, rfl, AVle.refl _⟩, ⟨_, rfl, AVle.refl _⟩, ⟨_, rfl, AVle.refl _⟩, ⟨_, rfl, AVle.refl _⟩, ⟨_, rfl, AVle.refl _⟩, ⟨_, rfl, AVle.refl _⟩, ⟨_, rfl, AVle.refl _⟩, ⟨_, rfl, AVle.refl _⟩, ⟨_, rfl, AVle.refl _⟩, ⟨_, rfl, AVle.refl _⟩, ⟨_, rfl, AVle.refl _⟩, ⟨_, rfl, AVle.refl _⟩, ⟨_, rfl, AVle.refl _⟩, trivial⟩
                    · show Store.Sub (((t2.set mb (.map (setA m))).set hk _).set it _) _
                      rw [hmset]; exact Store.sub_refl _
                    · rintro ⟨lf, cur, mi⟩ hz
                      simp only at hz
                      repeat (first | with_reducible refine CW.seq ?_ | refine CW.reg ?_)
                      refine RL.op rfl rfl rfl (OW.nextM (m := hk) (i := it) rfl rfl (by rw [Store.set_ne _ _ (Ne.symm hine)]; exact Store.set_same _ _ _) (Store.set_same _ _ _) (X := fun _ _ => False)) ?_ (fun _ _ h => False.elim h)
                      rintro _ _ (⟨hlf, rfl, rfl⟩ | ⟨l₁, kk, v, l₂, hlf, rfl, rfl⟩)
                      · obtain rfl : lf = [] := by cases lf <;> simp_all [setA]
                        refine RL.step tysOk rfl rfl rfl rfl (RL.nil ?_)
                        repeat (first | with_reducible refine CW.seq ?_ | with_reducible refine andThen_normal ?_ | with_reducible refine andThen_exit ?_ | with_reducible refine inBlock_normal ?_ | with_reducible refine inBlock_here ?_ | with_reducible refine CW.exit ?_ | refine CW.condF rfl ?_)
                        refine CW.unrange hk (i := it) (by rw [Store.set_ne _ _ (Ne.symm hine)]; exact Store.set_same _ _ _) ?_
                        refine CW.drop (t2.set mb (.map (setA mi))) (fun z => ?_) ?_
                        · by_cases e1 : z = hk
                          · subst e1; left; rw [Store.set_same, Store.set_ne _ _ hkm]; exact hmapk
                          · rw [Store.set_ne _ _ e1]
                            by_cases e2 : z = it
                            · subst e2; right; rw [Store.set_ne _ _ him]; exact hit
                            · left; rw [Store.set_ne _ _ e2, Store.set_ne _ _ e1]
                        repeat (first | with_reducible refine andThen_normal ?_ | refine CW.reg (RL.run tysOk rfl (RL.nil ?_)))
                        refine ⟨(j + 1, t2.set mb (.map (setA mi)), mi), ⟨hlt, pv2.setM _, Store.set_same _ _ _, (Store.set_ne t2 _ (Ne.symm pv.d.1)).trans hq2, (Store.set_ne t2 _ (Ne.symm pv.d.2.1)).trans hi2, fun z => ?_, ?_⟩, ⟨⟨_, rfl, AVle.refl _⟩, ⟨_, rfl, AVle.refl _⟩, ⟨_, rfl, AVle.refl _⟩, ⟨_, rfl, AVle.refl _⟩, ⟨_, rfl, AVle.refl _⟩, ⟨_, rfl, AVle.refl _⟩, ⟨_, rfl, AVle.refl _⟩, ⟨_, rfl, AVle.refl _⟩, ⟨_, rfl, AVle.refl _⟩, ⟨_, rfl, AVle.refl _⟩, ⟨_, rfl, AVle.refl _⟩, ⟨_, rfl, AVle.refl _⟩, ⟨_, rfl, AVle.of_eq ?_⟩, trivial⟩, Store.sub_refl _, by show c.parents.length - (j + 1) < c.parents.length - j; omega⟩
                        · have h1 := hz z
                          simp only [List.not_mem_nil, or_false] at h1
                          rw [h1, hmem z, ← take_snoc hy]
                          simp only [List.flatMap_append, List.mem_append, List.flatMap_cons, List.flatMap_nil, List.append_nil, hsl]
                          rw [pv.inv.mem k mk lk hmk hlk z]
                        · rw [hA, okParent, hcn, hn, take_snoc hy]; rfl
                        · rw [i64_succ (by have := hcf.parents.len; omega)]
                      · obtain ⟨a, w, b, rfl, rfl, rfl, rfl, rfl⟩ := setA_split hlf
                        repeat (first | with_reducible refine CW.seq ?_ | with_reducible refine andThen_normal ?_ | with_reducible refine CW.skip ?_ | with_reducible refine CW.block ?_ | refine CW.reg ?_ | refine RL.nil ?_ | refine CW.condT rfl ?_ | refine RL.step tysOk rfl rfl rfl rfl ?_)
                        refine RL.op rfl rfl rfl (OW.entryM (m := hk) (i := it) rfl rfl (Store.set_same _ _ _) (X := fun _ _ => False)) ?_ (fun _ _ h => False.elim h)
                        rintro _ _ ⟨rfl, rfl⟩
                        repeat (first | with_reducible refine andThen_normal ?_ | refine CW.reg ?_ | refine RL.nil ?_ | refine RL.step tysOk rfl rfl rfl rfl ?_)
                        refine RL.mapUpdate tysOk rfl rfl (.inl rfl) rfl rfl rfl rfl rfl rfl (by rw [Store.set_ne _ _ (Ne.symm hkm), Store.set_ne _ _ (Ne.symm him), Store.set_ne _ _ (Ne.symm hkm)]; exact Store.set_same _ _ _) rfl (putA_set mi w) ?_
                        repeat (first | with_reducible refine andThen_normal ?_ | with_reducible refine inBlock_normal ?_ | refine RL.nil ?_)
                        refine ⟨(a ++ b, some (.str w, .bool true), insS mi w), fun z => ?_, ⟨⟨_, rfl, AVle.refl _⟩, ⟨_, rfl, AVle.refl _⟩, ⟨_, rfl, AVle.refl _⟩, ⟨_, rfl, AVle.refl _⟩, ⟨_, rfl, AVle.refl _⟩, ⟨_, rfl, AVle.refl _⟩, ⟨_, rfl, AVle.refl _⟩, ⟨_, rfl, AVle.refl _⟩, ⟨_, rfl, AVle.refl _⟩, ⟨_, rfl, AVle.refl _⟩, ⟨_, rfl, AVle.refl _⟩, ⟨_, rfl, AVle.refl _⟩, ⟨_, rfl, AVle.refl _⟩, ⟨_, rfl, AVle.refl _⟩, trivial⟩, ?_, by simp <;> omega⟩
                        · rw [← hz z]; simp only [mem_insS, List.mem_append, List.mem_cons]
                          constructor
                          · rintro ((h | h) | (h | h)) <;> simp [h]
                          · rintro (h | (h | (h | h))) <;> simp [h]
                        · rw [setA_append]
                          intro z
                          left
                          by_cases e1 : z = mb
                          · subst e1; rw [Store.set_same, Store.set_ne _ _ (Ne.symm him), Store.set_ne _ _ (Ne.symm hkm), Store.set_same]
                          · by_cases e2 : z = it
                            · subst e2; rw [Store.set_same, Store.set_ne _ _ e1, Store.set_ne _ _ hine, Store.set_same]
                            · by_cases e3 : z = hk
                              · subst e3; rw [Store.set_ne _ _ e2, Store.set_same, Store.set_ne _ _ e1, Store.set_same]
                              · rw [Store.set_ne _ _ e2, Store.set_ne _ _ e3, Store.set_ne _ _ e1, Store.set_ne _ _ e1, Store.set_ne _ _ e3, Store.set_ne _ _ e2, Store.set_ne _ _ e3, Store.set_ne _ _ e1]
                  · cases h
                · rintro _ _ (⟨_, h, _⟩ | ⟨hn, ⟨⟩, rfl⟩)
                  · cases h
                  · repeat (first | with_reducible refine andThen_panic ?_ | with_reducible refine inBlock_panic ?_)
                    exact ⟨_, _, AVle.refl _, Store.sub_refl _, pv.inv.fail (hbad (by rw [okParent, hcn, hn]; rfl))⟩
            · have hge : c.parents.length ≤ j := by simpa using h
              rw [List.take_of_length_le hge] at hmem
              rw [List.drop_eq_nil_of_le hge] at hA
              have hAP : allPre (okParent st.names) [] c.parents = true := hA
              have pv0 : PInv P pb cb sb nb s t1 i { st with slots := st.slots ++ c.slots.take 0 } own hs ms mb qb ib := by
                rw [List.take_zero, List.append_nil]; exact pv
              clear hq1 hA
              repeat (first | with_reducible refine CW.seq ?_ | with_reducible refine andThen_normal ?_ | with_reducible refine andThen_exit ?_ | with_reducible refine inBlock_here ?_ | with_reducible refine CW.exit ?_ | with_reducible refine CW.block ?_ | refine CW.reg (RL.run tysOk rfl (RL.nil ?_)))
              refine CW.loop (σ := Nat × Store × List Str) (fun q => [(0, .ptr pb 0), (2, .map nb), (3, .int .i64 (i : Int)), (4, .fptr c.cells 0), (5, .map mb), (6, .map qb), (7, .map ib), (30, .slc 4 (P.classes.map FClass.av) .fro), (31, .int .i64 (P.classes.map FClass.av).length), (32, .int .i64 (i : Int)), (88, .slc 1 (strs c.slots) .fro), (89, .int .i64 (strs c.slots).length), (90, .int .i64 (q.1 : Int))]) (fun q => q.2.1)
                (fun q => q.1 ≤ c.slots.length ∧ PInv P pb cb sb nb s q.2.1 i { st with slots := st.slots ++ c.slots.take q.1 } own hs ms mb qb ib ∧ q.2.1 mb = some (.map (setA q.2.2)) ∧ q.2.1 ib = some (.map []) ∧
                  (∀ z, z ∈ q.2.2 ↔ z ∈ c.parents.flatMap st.slotsOf ∨ z ∈ c.slots.take q.1) ∧ allPre (okSlot st.slots) [] c.slots = allPre (okSlot st.slots) (c.slots.take q.1) (c.slots.drop q.1)) (fun q => c.slots.length - q.1)
                (0, t1, m) ⟨by simp, pv0, hm1, hi1, fun z => by rw [hmem z]; simp, rfl⟩ ?_ (Store.sub_refl _) ?_
              · exact ⟨⟨_, rfl, AVle.refl _⟩, ⟨_, rfl, AVle.refl _⟩, ⟨_, rfl, AVle.refl _⟩, ⟨_, rfl, AVle.refl _⟩, ⟨_, rfl, AVle.refl _⟩, ⟨_, rfl, AVle.refl _⟩, ⟨_, rfl, AVle.refl _⟩, ⟨_, rfl, AVle.refl _⟩, ⟨_, rfl, AVle.refl _⟩, ⟨_, rfl, AVle.refl _⟩, ⟨_, rfl, AVle.refl _⟩, ⟨_, rfl, AVle.refl _⟩, ⟨_, rfl, AVle.refl _⟩, trivial⟩
              clear pv0 hmem hm1 hi1 pv hp hcb
              rintro ⟨j, t1, m⟩ ⟨hj, pv, hm1, hi1, hmem, hA⟩
              simp only at hj pv hm1 hi1 hmem hA ⊢
              have hp := pv.inv.hp
              repeat (first | with_reducible refine CW.seq ?_ | with_reducible refine andThen_normal ?_ | refine CW.reg (RL.run tysOk rfl (RL.nil ?_)))
              refine CW.cond rfl (fun h => ?_) (fun h => ?_)
              · have hlt : j < c.slots.length := by simpa using h
                obtain ⟨y, hy⟩ : ∃ y, c.slots[j]? = some y := ⟨_, List.getElem?_eq_getElem hlt⟩
                have hy' : (strs c.slots)[j]? = some (.str y) := by rw [strs_get, hy]; rfl
                have hys := hcf.slots.sh y (List.mem_of_getElem? hy)
                rw [drop_cons hy, allPre_cons] at hA
                have hbad : okSlot st.slots (c.slots.take j) y = false → clsAll P.classes = none := fun h => classOk_false_of (l := []) hI (by rw [classOk, hA, h]; simp)
                repeat (first | with_reducible refine CW.seq ?_ | with_reducible refine andThen_normal ?_ | with_reducible refine CW.skip ?_ | with_reducible refine CW.block ?_ | refine CW.reg ?_ | refine RL.nil ?_ | refine RL.step tysOk rfl rfl rfl rfl ?_ | refine RL.loadP tysOk rfl rfl rfl rfl rfl rfl (by assumption) rfl ?_ | refine RL.idx tysOk _ rfl rfl rfl rfl rfl rfl rfl rfl rfl rfl rfl (by assumption) rfl ?_)
                refine RL.call rfl rfl rfl rfl rfl (one_spec y (st.slots ++ c.slots.take j) sb t1 pv.inv.hsl hys) ?_ ?_
                · rintro _ _ (⟨hn, ⟨⟩, rfl⟩ | ⟨_, h, _⟩)
                  · have hins : insS (st.slots ++ c.slots.take j) y = st.slots ++ c.slots.take (j + 1) := by
                      have : (st.slots ++ c.slots.take j).contains y = false := by simp only [Bool.and_eq_true, Bool.not_eq_true'] at hn; exact hn.2
                      rw [insS, this, ← take_snoc hy]; simp
                    rw [hins]
                    have pv2 := pv.slot (st.slots ++ c.slots.take (j + 1))
                    have hm2 : (t1.set sb (.map (setA (st.slots ++ c.slots.take (j + 1))))) mb = some (.map (setA m)) := (Store.set_ne _ _ pv.am.hsl).trans hm1
                    have hi2 : (t1.set sb (.map (setA (st.slots ++ c.slots.take (j + 1))))) ib = some (.map []) := (Store.set_ne _ _ pv.ai.hsl).trans hi1
                    generalize t1.set sb (.map (setA (st.slots ++ c.slots.take (j + 1)))) = t2 at pv2 hm2 hi2 ⊢
                    repeat (first | with_reducible refine andThen_normal ?_ | refine CW.reg ?_ | refine RL.nil ?_ | refine RL.step tysOk rfl rfl rfl rfl ?_)
                    refine RL.mapUpdate tysOk rfl rfl (.inl rfl) rfl rfl rfl rfl rfl rfl hm2 rfl (putA_set m y) ?_
                    repeat (first | with_reducible refine andThen_normal ?_ | with_reducible refine inBlock_normal ?_ | refine CW.reg (RL.run tysOk rfl (RL.nil ?_)) | refine RL.nil ?_)
                    refine ⟨(j + 1, t2.set mb (.map (setA (insS m y))), insS m y), ⟨hlt, pv2.setM _, Store.set_same _ _ _, (Store.set_ne t2 _ (Ne.symm pv.d.2.1)).trans hi2, fun z => ?_, ?_⟩, ⟨⟨_, rfl, AVle.refl _⟩, ⟨_, rfl, AVle.refl _⟩, ⟨_, rfl, AVle.refl _⟩, ⟨_, rfl, AVle.refl _⟩, ⟨_, rfl, AVle.refl _⟩, ⟨_, rfl, AVle.refl _⟩, ⟨_, rfl, AVle.refl _⟩, ⟨_, rfl, AVle.refl _⟩, ⟨_, rfl, AVle.refl _⟩, ⟨_, rfl, AVle.refl _⟩, ⟨_, rfl, AVle.refl _⟩, ⟨_, rfl, AVle.refl _⟩, ⟨_, rfl, AVle.of_eq ?_⟩, trivial⟩, Store.sub_refl _, by show c.slots.length - (j + 1) < c.slots.length - j; omega⟩
                    · rw [mem_insS, hmem z, ← take_snoc hy]; simp [or_assoc]
                    · rw [hA, okSlot, hn, take_snoc hy]; rfl
                    · rw [i64_succ (by have := hcf.slots.len; omega)]
                  · cases h
                · rintro _ _ (⟨_, h, _⟩ | ⟨hn, ⟨⟩, rfl⟩)
                  · cases h
                  · repeat (first | with_reducible refine andThen_panic ?_ | with_reducible refine inBlock_panic ?_)
                    exact ⟨_, _, AVle.refl _, Store.sub_refl _, pv.inv.fail (hbad (by rw [okSlot, hn]))⟩
              · have hge : c.slots.length ≤ j := by simpa using h
                rw [List.take_of_length_le hge] at hmem pv
                rw [List.drop_eq_nil_of_le hge] at hA
                have hAS : allPre (okSlot st.slots) [] c.slots = true := hA
                have hmine : ∀ z, z ∈ m ↔ z ∈ st.mine c := fun z => by rw [hmem z, CSt.mine]; simp
                have hmineB : ∀ z, m.contains z = (st.mine c).contains z := fun z => by rw [Bool.eq_iff_iff]; simpa using hmine z
                repeat (first | with_reducible refine CW.seq ?_ | with_reducible refine andThen_normal ?_ | with_reducible refine andThen_exit ?_ | with_reducible refine inBlock_here ?_ | with_reducible refine CW.exit ?_ | with_reducible refine CW.block ?_ | refine CW.reg (RL.run tysOk rfl (RL.nil ?_)))
                refine CW.loop (σ := Nat × Store) (fun q => [(0, .ptr pb 0), (2, .map nb), (3, .int .i64 (i : Int)), (4, .fptr c.cells 0), (5, .map mb), (6, .map qb), (7, .map ib), (30, .slc 4 (P.classes.map FClass.av) .fro), (31, .int .i64 (P.classes.map FClass.av).length), (32, .int .i64 (i : Int)), (104, .slc 2 (c.inits.map FInit.av) .fro), (105, .int .i64 (c.inits.map FInit.av).length), (106, .int .i64 (q.1 : Int))]) (fun q => q.2)
                  (fun q => q.1 ≤ c.inits.length ∧ PInv P pb cb sb nb s q.2 i { st with slots := st.slots ++ c.slots } own hs ms mb qb ib ∧ q.2 mb = some (.map (setA m)) ∧ q.2 ib = some (.map (setA ((c.inits.take q.1).map FInit.slot))) ∧
                    allPre (okInit (st.mine c)) [] c.inits = allPre (okInit (st.mine c)) (c.inits.take q.1) (c.inits.drop q.1)) (fun q => c.inits.length - q.1)
                  (0, t1) ⟨by simp, pv, hm1, hi1, rfl⟩ ?_ (Store.sub_refl _) ?_
                · exact ⟨⟨_, rfl, AVle.refl _⟩, ⟨_, rfl, AVle.refl _⟩, ⟨_, rfl, AVle.refl _⟩, ⟨_, rfl, AVle.refl _⟩, ⟨_, rfl, AVle.refl _⟩, ⟨_, rfl, AVle.refl _⟩, ⟨_, rfl, AVle.refl _⟩, ⟨_, rfl, AVle.refl _⟩, ⟨_, rfl, AVle.refl _⟩, ⟨_, rfl, AVle.refl _⟩, ⟨_, rfl, AVle.refl _⟩, ⟨_, rfl, AVle.refl _⟩, ⟨_, rfl, AVle.refl _⟩, trivial⟩
                clear hm1 hi1 pv hp hA hmem
                rintro ⟨j, t1⟩ ⟨hj, pv, hm1, hi1, hA⟩
                simp only at hj pv hm1 hi1 hA ⊢
                have hp := pv.inv.hp
                repeat (first | with_reducible refine CW.seq ?_ | with_reducible refine andThen_normal ?_ | refine CW.reg (RL.run tysOk rfl (RL.nil ?_)))
                refine CW.cond rfl (fun h => ?_) (fun h => ?_)
                · have hlt : j < c.inits.length := by simpa using h
                  obtain ⟨y, hy⟩ : ∃ y, c.inits[j]? = some y := ⟨_, List.getElem?_eq_getElem hlt⟩
                  have hy' : (c.inits.map FInit.av)[j]? = some (.agg y.cells) := by rw [List.getElem?_map, hy]; rfl
                  have hys := hcf.inits y (List.mem_of_getElem? hy)
                  rw [drop_cons hy, allPre_cons] at hA
                  have hbad : okInit (st.mine c) (c.inits.take j) y = false → clsAll P.classes = none := fun h => classOk_false_of (l := []) hI (by rw [classOk, hA, h]; simp)
                  repeat (first | with_reducible refine CW.seq ?_ | with_reducible refine andThen_normal ?_ | with_reducible refine CW.skip ?_ | with_reducible refine CW.block ?_ | refine CW.reg ?_ | refine RL.step tysOk rfl rfl rfl rfl ?_ | refine RL.idx tysOk _ rfl rfl rfl rfl rfl rfl rfl rfl rfl rfl rfl (by assumption) rfl ?_)
                  refine RL.newBox tysOk rfl rfl rfl rfl rfl rfl rfl (fun _ => rfl) rfl rfl (fun _ => rfl) rfl rfl rfl rfl ?_
                  repeat (first | with_reducible refine CW.seq ?_ | with_reducible refine andThen_normal ?_ | refine CW.reg ?_ | refine RL.nil ?_ | refine RL.step tysOk rfl rfl rfl rfl ?_)
                  refine RL.lookup tysOk rfl rfl rfl rfl rfl rfl rfl rfl rfl rfl hm1 rfl (getA_set m y.slot) rfl ?_
                  rw [gotA_set, hmineB]
                  cases hc1 : (st.mine c).contains y.slot with
                  | true =>
                    repeat (first | refine RL.step tysOk rfl rfl rfl rfl ?_)
                    refine RL.callP rfl rfl rfl rfl rfl (between_spec y.n _) ?_
                    repeat (first | refine RL.step tysOk rfl rfl rfl rfl ?_)
                    refine needR rfl rfl rfl rfl rfl (fun h7 => ?_) (fun h7 => ?_)
                    · repeat (first | with_reducible refine andThen_normal ?_ | refine CW.reg ?_ | refine RL.nil ?_ | refine RL.step tysOk rfl rfl rfl rfl ?_)
                      refine RL.call rfl rfl rfl rfl rfl (one_spec y.slot ((c.inits.take j).map FInit.slot) ib t1 hi1 hys) ?_ ?_
                      · rintro _ _ (⟨hn, ⟨⟩, rfl⟩ | ⟨_, h, _⟩)
                        · have hins : insS ((c.inits.take j).map FInit.slot) y.slot = (c.inits.take (j + 1)).map FInit.slot := by
                            have : ((c.inits.take j).map FInit.slot).contains y.slot = false := by simp only [Bool.and_eq_true, Bool.not_eq_true'] at hn; exact hn.2
                            rw [insS, this, ← take_snoc hy]; simp
                          rw [hins]
                          repeat (first | with_reducible refine andThen_normal ?_ | with_reducible refine inBlock_normal ?_ | refine CW.reg (RL.run tysOk rfl (RL.nil ?_)) | refine RL.nil ?_)
                          refine ⟨(j + 1, t1.set ib (.map (setA ((c.inits.take (j + 1)).map FInit.slot)))), ⟨hlt, pv.setI _, (Store.set_ne t1 _ pv.d.2.1).trans hm1, Store.set_same _ _ _, ?_⟩, ⟨⟨_, rfl, AVle.refl _⟩, ⟨_, rfl, AVle.refl _⟩, ⟨_, rfl, AVle.refl _⟩, ⟨_, rfl, AVle.refl _⟩, ⟨_, rfl, AVle.refl _⟩, ⟨_, rfl, AVle.refl _⟩, ⟨_, rfl, AVle.refl _⟩, ⟨_, rfl, AVle.refl _⟩, ⟨_, rfl, AVle.refl _⟩, ⟨_, rfl, AVle.refl _⟩, ⟨_, rfl, AVle.refl _⟩, ⟨_, rfl, AVle.refl _⟩, ⟨_, rfl, AVle.of_eq ?_⟩, trivial⟩, Store.sub_refl _, by show c.inits.length - (j + 1) < c.inits.length - j; omega⟩
                          · rw [hA, okInit, hc1, h7, hn, take_snoc hy]; rfl
                          · rw [i64_succ (by have := hcf.ilen; omega)]
                        · cases h
                      · rintro _ _ (⟨_, h, _⟩ | ⟨hn, ⟨⟩, rfl⟩)
                        · cases h
                        · repeat (first | with_reducible refine andThen_panic ?_ | with_reducible refine inBlock_panic ?_)
                          exact ⟨_, _, AVle.refl _, Store.sub_refl _, pv.inv.fail (hbad (by rw [okInit, hn]; simp))⟩
                    · repeat (first | with_reducible refine andThen_panic ?_ | with_reducible refine inBlock_panic ?_)
                      exact ⟨_, _, AVle.refl _, Store.sub_refl _, pv.inv.fail (hbad (by rw [okInit, h7]; simp))⟩
                  | false =>
                    repeat (first | refine RL.step tysOk rfl rfl rfl rfl ?_ | refine RL.skip rfl rfl rfl ?_)
                    refine needR rfl rfl rfl rfl rfl (fun h7 => by cases h7) (fun h7 => ?_)
                    repeat (first | with_reducible refine andThen_panic ?_ | with_reducible refine inBlock_panic ?_)
                    exact ⟨_, _, AVle.refl _, Store.sub_refl _, pv.inv.fail (hbad (by rw [okInit, hc1]; simp))⟩
                · have hge : c.inits.length ≤ j := by simpa using h
                  rw [List.drop_eq_nil_of_le hge] at hA
                  have hAI : allPre (okInit (st.mine c)) [] c.inits = true := hA
                  clear hA
                  repeat (first | with_reducible refine CW.seq ?_ | with_reducible refine andThen_normal ?_ | with_reducible refine andThen_exit ?_ | with_reducible refine inBlock_here ?_ | with_reducible refine CW.exit ?_ | refine CW.reg ?_ | refine RL.step tysOk rfl rfl rfl rfl ?_)
                  refine RL.call rfl rfl rfl rfl rfl (one_spec c.name st.names nb t1 pv.inv.hn hcf.name) ?_ ?_
                  · rintro _ _ (⟨hn, ⟨⟩, rfl⟩ | ⟨_, h, _⟩)
                    · have hnc : st.names.contains c.name = false := by simp only [Bool.and_eq_true, Bool.not_eq_true'] at hn; exact hn.2
                      have hins : insS st.names c.name = st.names ++ [c.name] := by rw [insS, hnc]; rfl
                      rw [hins]
                      obtain ⟨d1, d2, d3, d4, d5, d6⟩ := pv.inv.d
                      have hp2 : (t1.set nb (.map (setA (st.names ++ [c.name])))) pb = _ := (Store.set_ne _ _ d6).trans pv.inv.hp
                      have hc2 : (t1.set nb (.map (setA (st.names ++ [c.name])))) cb = _ := (Store.set_ne _ _ d2).trans pv.inv.hc
                      have hok : classOk st c = true := by
                        rw [classOk, h5, hAP, hAS, hAI, hn]; rfl
                      rw [clsRest, if_pos hok] at hI
                      have hput := putA_class hnc
                      rw [show st.names.length = i from pv.inv.nlen] at hput
                      repeat (first | with_reducible refine CW.seq ?_ | with_reducible refine andThen_normal ?_ | refine RL.nil ?_)
                      refine CW.drw tysOk mixed rfl (RD.run rfl ?_)
                      refine RD.one (i := 3) rfl rfl rfl rfl rfl (OW.loadP tysOk rfl rfl rfl hp2 rfl (X := fun _ _ => False)) ?_ (fun _ _ h => False.elim h)
                      rintro _ _ ⟨rfl, rfl⟩
                      refine RD.run rfl ?_
                      refine RD.oneN (i := 7) rfl rfl rfl rfl (OW.mapUpdate tysOk (.inl rfl) rfl rfl rfl rfl rfl rfl hc2 rfl hput (X := fun _ _ => False)) ?_ (fun _ _ h => False.elim h)
                      rintro _ _ rfl
                      refine RD.run rfl (RD.done rfl ?_)
                      have hp3 : ((t1.set nb (.map (setA (st.names ++ [c.name])))).set cb (.map (classA (st.names ++ [c.name])))) pb = _ := (Store.set_ne _ _ d4).trans hp2
                      have hrow := pv.inv.rowNext (.map (setA (st.names ++ [c.name]))) (.map (classA (st.names ++ [c.name])))
                      have hil := pv.inv.hlen
                      repeat (first | with_reducible refine andThen_normal ?_ | refine CW.reg ?_ | refine RL.step tysOk rfl rfl rfl rfl ?_ | refine RL.loadP tysOk rfl rfl rfl rfl rfl rfl (by assumption) rfl ?_)
                      refine RL.append1 tysOk rfl rfl rfl rfl rfl rfl rfl (by intro k h; cases h) rfl rfl rfl rfl rfl rfl rfl (n := i) (by simp [hil]) (by show (i + 1) * 8 ≤ _; omega) (by omega) (rowBase_eq hrow) (rowBase_ok hrow) (fun b' hb' => ?_)
                      have hp4 : (rowOf (rowBase ((t1.set nb (.map (setA (st.names ++ [c.name])))).set cb (.map (classA (st.names ++ [c.name])))) own) 72 1 (i + 1) (.own b')) pb = _ :=
                        (Store.set_ne _ _ (ne_none hb' (rowBase_get hrow hp3 rfl)).symm).trans (rowBase_get hrow hp3 rfl)
                      have nx := pv.inv.next c.name (st.mine c) m mb b' pv.am hm1 hmine hb'
                      rw [show (hs ++ [mb]).map AV.map = hs.map AV.map ++ [.map mb] by simp] at nx
                      repeat (first | refine RL.step tysOk rfl rfl rfl rfl ?_)
                      refine RL.storeP tysOk rfl rfl rfl rfl rfl rfl rfl rfl rfl hp4 rfl ?_
                      repeat (first | with_reducible refine andThen_normal ?_ | with_reducible refine inBlock_normal ?_ | refine CW.reg (RL.run tysOk rfl (RL.nil ?_)) | refine RL.nil ?_)
                      refine ⟨(i + 1, _, st.next c, .own b', hs ++ [mb], ms ++ [m]), ⟨hlt, nx, hI⟩, ⟨⟨_, rfl, AVle.refl _⟩, ⟨_, rfl, AVle.refl _⟩, ⟨_, rfl, AVle.refl _⟩, ⟨_, rfl, AVle.refl _⟩, ⟨_, rfl, AVle.of_eq ?_⟩, trivial⟩, Store.sub_refl _, by show P.classes.length - (i + 1) < P.classes.length - i; omega⟩
                      rw [i64_succ (by omega)]
                    · cases h
                  · rintro _ _ (⟨_, h, _⟩ | ⟨hn, ⟨⟩, rfl⟩)
                    · cases h
                    · repeat (first | with_reducible refine andThen_panic ?_ | with_reducible refine inBlock_panic ?_)
                      exact ⟨_, _, AVle.refl _, Store.sub_refl _, pv.inv.fail (classOk_false_of (l := []) hI (by rw [classOk, hn]; simp))⟩
        · repeat (first | with_reducible refine andThen_panic ?_ | with_reducible refine inBlock_panic ?_)
          exact ⟨_, _, AVle.refl _, Store.sub_refl _, inv.fail (classOk_false_of (l := []) hI (by simp [classOk, h5]))⟩
      · have hge : P.classes.length ≤ i := by simpa using h
        rw [List.drop_eq_nil_of_le hge, clsRest] at hI
        repeat (first | with_reducible refine andThen_normal ?_ | with_reducible refine andThen_exit ?_ | with_reducible refine inBlock_here ?_ | with_reducible refine CW.exit ?_ | refine CW.reg ?_ | refine RL.step tysOk rfl rfl rfl rfl ?_ | refine RL.loadP tysOk rfl rfl rfl rfl rfl rfl (by assumption) rfl ?_)
        refine RL.storeP tysOk rfl rfl rfl rfl rfl rfl rfl rfl rfl hp rfl ?_
        repeat (first | refine RL.nil ?_)
        refine ⟨_, _, _, rfl, AVle.refl _, Store.sub_refl _, ?_⟩
        obtain ⟨d1, d2, d3, d4, d5, d6⟩ := inv.d
        unfold ClsPost
        rw [hI]
        refine ⟨⟨rfl, (Store.set_ne _ _ d4.symm).trans inv.hc, (Store.set_ne _ _ d5.symm).trans inv.hsl, .slc 1 (hs.map .map) own, ?_⟩, fun x h1 h2 h3 h4 => (Store.set_ne _ _ h1).trans (inv.rest x h1 h2 h3 h4)⟩
        rw [Store.set_same]
        simp only [List.length_map]
        rfl
  · have hn : clsAll P.classes = none := by
      have : ¬ P.classes.length ≤ 10 := by simp at h10; omega
      rw [clsAll, if_neg this]
    repeat (first | with_reducible refine andThen_panic ?_)
    refine ⟨_, _, AVle.refl _, Store.sub_refl _, ?_⟩
    unfold ClsPost
    rw [hn]
    exact ⟨⟨rfl, _, hp⟩, fun _ _ _ _ _ => rfl⟩
end Go.Proofs.Ytaafacnoddjhgaa

/- Contracts of the layer 'shape': an expression is formed, and speaks of what there is. -/
namespace Go.Proofs.Ytaafacnoddjhgaa
open Go.AE

section
variable {N : Nat} {l : List Oper} {Q : AEx → Env → Store → Prop} {env : Env} {s : Store} {m : Nat}
theorem needRD {i : Nat} {o : Oper} {d : Nat} {xa : Array Operand} {ats : Array TypeId} {c : Bool} (hr : readyL l.toArray m (idxs 0 l) = [i]) (ho : l.toArray[i]? = some o) (hd : o.dst = some d) (hN : Nat.blt d N = true)
    (hg : guardOf l.toArray (pickE env (looks l.toArray o)) o = some true) (hop : o.op = .call { callee := .value (.func 77), args := xa, argTypes := ats }) (ha : evs (pickE env (looks l.toArray o)) xa.toList = some [.bool c])
    (hk : c = true → RD Try.prog tys N l.toArray Q (dn (m ||| 2 ^ i)) ((d, .tup []) :: env) s) (hx : c = false → Q (.panic unf) [] s) : RD Try.prog tys N l.toArray Q (dn m) env s :=
  RD.one hr ho hd hN hg (OW.call hop (fv := .func 77 [] []) rfl ha (ACallV.of_calls (need_spec c s))) (fun x s' h => by
    obtain ⟨rfl, ⟨hc, h⟩ | ⟨hc, h⟩⟩ := h
    · cases h; exact hk hc
    · cases h) (fun x s' h => by
    obtain ⟨rfl, ⟨hc, h⟩ | ⟨hc, h⟩⟩ := h
    · cases h
    · cases h; exact hx hc)
end

/-- Does a node speak of what there is? -/
def spokenE (names slots : List Str) (next : Bool) (g : FExp) : Bool :=
  if g.op == 4 || g.op == 7 then slots.contains g.text else if g.op == 6 || g.op == 8 then names.contains g.text else if g.op == 18 then next else true

def knownB (names slots : List Str) (cnt : Nat) (e : FExp) (params : List Str) (next : Bool) : Bool :=
  (lookB (.exp e) 120 && decide (cnt + e.size ≤ 120)) && (e.allE.all (spokenE names slots next) && e.frees.all params.contains)

/-- How a look at a part of a program ends: it goes on, with so many nodes more, or it gives up. -/
def Counts (P : FProg) (pb cb sb : Nat) (has : AV) (s : Store) (ok : Bool) (n : Int) (o : AOut) (s' : Store) : Prop :=
  (ok = true ∧ o = .ret (.tup []) ∧ s' = s.set pb (.box 136 (progCells P cb has sb n))) ∨ (ok = false ∧ o = .panic unf ∧ ∃ k, s' = s.set pb (.box 136 (progCells P cb has sb k)))

set_option maxRecDepth 10000 in
set_option maxHeartbeats 4000000 in
theorem known_spec (P : FProg) (pb cb sb : Nat) (has : AV) (cnt : Nat) (names slots : List Str) (e : FExp) (params : List Str) (own : Own) (next : Bool) (s : Store) (hp : s pb = some (.box 136 (progCells P cb has sb cnt)))
    (hc : s cb = some (.map (classA names))) (hsb : s sb = some (.map (setA slots))) (he : e.Fair) (hcnt : cnt < big) (hpl : params.length < 9223372036854775807) :
    ACalls Try.prog 84 [.ptr pb 0, e.av, .slc 1 (strs params) own, .bool next] s (Counts P pb cb sb has s (knownB names slots cnt e params next) ((cnt + e.size : Nat) : Int)) := by
  have hb : big = 1099511627776 := rfl
  have hes := he.size
  have hpc : pb ≠ cb := fun e => by subst e; rw [hp] at hc; cases hc
  have hps : pb ≠ sb := fun e => by subst e; rw [hp] at hsb; cases hsb
  refine ACalls.of_CW tysOk call84 Try.func84 rfl rfl ?_
  repeat (first | with_reducible refine CW.seq ?_ | with_reducible refine andThen_normal ?_ | refine CW.reg (RL.run tysOk rfl (RL.nil ?_)))
  refine CW.drw tysOk mixed rfl (RD.run rfl ?_)
  refine' RD.loadCall (i := 3) (j := 7) (σ := Unit) (P1 := _) (fun _ => .int .i64 (e.size : Int)) (fun _ => s) (fun _ => lookB (.exp e) 120 = true) tysOk rfl rfl rfl rfl rfl rfl rfl rfl rfl rfl rfl rfl hp rfl rfl rfl rfl (OW.call rfl (fv := .func 76 [] []) rfl rfl (ACallV.of_calls (look_spec (.exp e) 120 s he.size he.short (by decide))))
    (fun y s' ⟨h1, h2⟩ => ⟨(), by rcases h2 with ⟨h, ⟨⟩⟩ | ⟨_, h⟩; exact ⟨h, rfl, h1⟩; cases h⟩) ?A ?B ?C ?D
  case A => intro _ _ hP; exact hP
  case B =>
    intro _ _ hP
    refine RD.one (i := 3) rfl rfl rfl rfl rfl (OW.loadP tysOk rfl rfl rfl hp rfl (X := fun _ _ => False)) ?_ (fun _ _ h => False.elim h)
    rintro _ _ ⟨rfl, rfl⟩
    exact RD.congr _ (get_swap _ _ _ rfl) hP
  case D =>
    rintro _ _ ⟨rfl, ⟨_, h⟩ | ⟨hl, ⟨⟩⟩⟩
    · cases h
    · repeat (first | with_reducible refine andThen_panic ?_)
      exact ⟨_, _, AVle.refl _, Store.sub_refl _, .inr ⟨by rw [knownB, hl]; rfl, rfl, cnt, (Store.set_eq _ _ _ hp).symm⟩⟩
  case C =>
    intro _ hlook
    refine RD.run rfl ?_
    refine RD.oneN (i := 11) rfl rfl rfl rfl (OW.storeP tysOk rfl rfl rfl rfl rfl rfl rfl hp rfl (X := fun _ _ => False)) ?_ (fun _ _ h => False.elim h)
    rintro _ _ rfl
    refine RD.run rfl (RD.done rfl ?_)
    have hwrap : IntKind.wrap .i64 ((cnt : Int) + (e.size : Int)) = ((cnt + e.size : Nat) : Int) := by rw [i64_wrap (by omega) (by omega)]; omega
    have hset : (setL (0 + 9) [AV.int .i64 (IntKind.wrap .i64 ((cnt : Int) + (e.size : Int)))] (progCells P cb has sb (cnt : Int))) = progCells P cb has sb ((cnt + e.size : Nat) : Int) := by rw [hwrap]; rfl
    rw [hset]
    have hp1 := Store.set_same s pb (.box 136 (progCells P cb has sb ((cnt + e.size : Nat) : Int)))
    have hc1 : (s.set pb (.box 136 (progCells P cb has sb ((cnt + e.size : Nat) : Int)))) cb = _ := (Store.set_ne _ _ hpc.symm).trans hc
    have hs1 : (s.set pb (.box 136 (progCells P cb has sb ((cnt + e.size : Nat) : Int)))) sb = _ := (Store.set_ne _ _ hps.symm).trans hsb
    have hfail : (decide (cnt + e.size ≤ 120)) = false ∨ e.allE.all (spokenE names slots next) = false ∨ e.frees.all params.contains = false → Counts P pb cb sb has s (knownB names slots cnt e params next) ((cnt + e.size : Nat) : Int) (.panic unf) (s.set pb (.box 136 (progCells P cb has sb ((cnt + e.size : Nat) : Int)))) :=
      fun h => .inr ⟨by rw [knownB]; rcases h with h | h | h <;> rw [h] <;> simp, rfl, _, rfl⟩
    generalize hT : s.set pb (.box 136 (progCells P cb has sb ((cnt + e.size : Nat) : Int))) = t at hp1 hc1 hs1 hfail ⊢
    repeat (first | with_reducible refine CW.seq ?_ | with_reducible refine andThen_normal ?_ | refine CW.reg ?_ | refine RL.step tysOk rfl rfl rfl rfl ?_ | refine RL.loadP tysOk rfl rfl rfl rfl rfl rfl (by assumption) rfl ?_)
    refine needR rfl rfl rfl rfl rfl (fun h120 => ?_) (fun h120 => ?_)
    · have h120' : decide (cnt + e.size ≤ 120) = true := by simp at h120 ⊢; omega
      repeat (first | with_reducible refine CW.seq ?_ | with_reducible refine andThen_normal ?_ | refine CW.reg ?_ | refine RL.nil ?_ | refine RL.step tysOk rfl rfl rfl rfl ?_)
      refine RL.callP rfl rfl rfl rfl rfl (all_spec e _) ?_
      repeat (first | with_reducible refine andThen_normal ?_ | with_reducible refine CW.block ?_ | refine RL.nil ?_)
      refine CW.rangeAll e rfl rfl he.size (fun rem s₁ => s₁ = t ∧ e.allE.all (spokenE names slots next) = rem.all (spokenE names slots next)) (fun _ _ => False) (fun v s₁ => v = unf ∧ s₁ = t ∧ e.allE.all (spokenE names slots next) = false) ⟨rfl, rfl⟩ ?_ ?_ (fun _ _ h => h.elim) ?_
      · rintro g rem s₁ hg ⟨rfl, hA⟩
        rw [List.all_cons] at hA
        have hbad : spokenE names slots next g = false → e.allE.all (spokenE names slots next) = false := fun h => by rw [hA, h]; rfl
        have hgood : spokenE names slots next g = true → e.allE.all (spokenE names slots next) = rem.all (spokenE names slots next) := fun h => by rw [hA, h]; rfl
        repeat (first | refine CW.reg ?_)
        refine RL.newBox tysOk rfl rfl rfl rfl rfl rfl rfl (fun _ => rfl) rfl rfl (fun _ => rfl) rfl rfl rfl rfl ?_
        repeat (first | with_reducible refine CW.seq ?_ | with_reducible refine andThen_normal ?_ | with_reducible refine CW.block ?_ | refine CW.reg (RL.run tysOk rfl (RL.nil ?_)) | refine RL.nil ?_)
        cases h4 : (g.op == 4) with
        | true =>
          repeat (first | with_reducible refine andThen_normal ?_ | with_reducible refine CW.skip ?_ | refine CW.condT rfl ?_)
          refine CW.drw tysOk mixed rfl (RD.run rfl ?_)
          refine RD.one (i := 3) rfl rfl rfl rfl rfl (OW.loadP tysOk rfl rfl rfl hp1 rfl (X := fun _ _ => False)) ?_ (fun _ _ h => False.elim h)
          rintro _ _ ⟨rfl, rfl⟩
          refine RD.run rfl ?_
          refine RD.one (i := 6) rfl rfl rfl rfl rfl (OW.lookup tysOk rfl rfl rfl rfl rfl rfl rfl (.inl ⟨sb, rfl, hs1⟩) rfl (getA_set slots g.text) rfl (X := fun _ _ => False)) ?_ (fun _ _ h => False.elim h)
          rintro z _ ⟨hz, rfl⟩
          refine RD_step _ _ (hz.trans (gotA_set _ _)) ?_
          refine RD.run rfl ?_
          refine needRD (i := 7) rfl rfl rfl rfl rfl rfl rfl (fun h7 => ?_) (fun h7 => ?_)
          · refine RD.run rfl (RD.done rfl ?_)
            repeat (first | with_reducible refine inBlock_normal ?_)
            exact ⟨rfl, hgood (by simp_all [spokenE])⟩
          · repeat (first | with_reducible refine inBlock_panic ?_)
            exact ⟨rfl, rfl, hbad (by simp_all [spokenE])⟩
        | false =>
          repeat (first | with_reducible refine andThen_normal ?_ | refine CW.reg (RL.run tysOk rfl (RL.nil ?_)) | refine CW.condF rfl ?_)
          cases h7 : (g.op == 7) with
          | true =>
            repeat (first | refine CW.condT rfl ?_)
            refine CW.drw tysOk mixed rfl (RD.run rfl ?_)
            refine RD.one (i := 3) rfl rfl rfl rfl rfl (OW.loadP tysOk rfl rfl rfl hp1 rfl (X := fun _ _ => False)) ?_ (fun _ _ h => False.elim h)
            rintro _ _ ⟨rfl, rfl⟩
            refine RD.run rfl ?_
            refine RD.one (i := 6) rfl rfl rfl rfl rfl (OW.lookup tysOk rfl rfl rfl rfl rfl rfl rfl (.inl ⟨sb, rfl, hs1⟩) rfl (getA_set slots g.text) rfl (X := fun _ _ => False)) ?_ (fun _ _ h => False.elim h)
            rintro z _ ⟨hz, rfl⟩
            refine RD_step _ _ (hz.trans (gotA_set _ _)) ?_
            refine RD.run rfl ?_
            refine needRD (i := 7) rfl rfl rfl rfl rfl rfl rfl (fun h7 => ?_) (fun h7 => ?_)
            · refine RD.run rfl (RD.done rfl ?_)
              repeat (first | with_reducible refine inBlock_normal ?_)
              exact ⟨rfl, hgood (by simp_all [spokenE])⟩
            · repeat (first | with_reducible refine inBlock_panic ?_)
              exact ⟨rfl, rfl, hbad (by simp_all [spokenE])⟩
          | false =>
            repeat (first | with_reducible refine CW.seq ?_ | with_reducible refine andThen_normal ?_ | refine CW.reg (RL.run tysOk rfl (RL.nil ?_)) | refine CW.condF rfl ?_)
            cases h6 : (g.op == 6) with
            | true =>
              repeat (first | with_reducible refine CW.seq ?_ | with_reducible refine andThen_normal ?_ | with_reducible refine CW.skip ?_ | refine CW.condT rfl ?_)
              refine CW.drw tysOk mixed rfl (RD.run rfl ?_)
              refine RD.one (i := 3) rfl rfl rfl rfl rfl (OW.loadP tysOk rfl rfl rfl hp1 rfl (X := fun _ _ => False)) ?_ (fun _ _ h => False.elim h)
              rintro _ _ ⟨rfl, rfl⟩
              refine RD.run rfl ?_
              refine RD.one (i := 6) rfl rfl rfl rfl rfl (OW.lookup tysOk rfl rfl rfl rfl rfl rfl rfl (.inl ⟨cb, rfl, hc1⟩) rfl (getA_class names g.text) rfl (X := fun _ _ => False)) ?_ (fun _ _ h => False.elim h)
              rintro z _ ⟨hz, rfl⟩
              refine RD_step _ _ (hz.trans (gotA_class _ _)) ?_
              refine RD.run rfl (RD.done rfl ?_)
              repeat (first | with_reducible refine andThen_normal ?_ | refine CW.reg ?_ | refine RL.step tysOk rfl rfl rfl rfl ?_)
              refine needR rfl rfl rfl rfl rfl (fun h7 => ?_) (fun h7 => ?_)
              · repeat (first | with_reducible refine inBlock_normal ?_ | refine RL.nil ?_)
                exact ⟨rfl, hgood (by simp_all [spokenE])⟩
              · repeat (first | with_reducible refine inBlock_panic ?_)
                exact ⟨rfl, rfl, hbad (by simp_all [spokenE])⟩
            | false =>
              repeat (first | with_reducible refine andThen_normal ?_ | refine CW.reg (RL.run tysOk rfl (RL.nil ?_)) | refine CW.condF rfl ?_)
              cases h8 : (g.op == 8) with
              | true =>
                repeat (first | with_reducible refine CW.seq ?_ | refine CW.condT rfl ?_)
                refine CW.drw tysOk mixed rfl (RD.run rfl ?_)
                refine RD.one (i := 3) rfl rfl rfl rfl rfl (OW.loadP tysOk rfl rfl rfl hp1 rfl (X := fun _ _ => False)) ?_ (fun _ _ h => False.elim h)
                rintro _ _ ⟨rfl, rfl⟩
                refine RD.run rfl ?_
                refine RD.one (i := 6) rfl rfl rfl rfl rfl (OW.lookup tysOk rfl rfl rfl rfl rfl rfl rfl (.inl ⟨cb, rfl, hc1⟩) rfl (getA_class names g.text) rfl (X := fun _ _ => False)) ?_ (fun _ _ h => False.elim h)
                rintro z _ ⟨hz, rfl⟩
                refine RD_step _ _ (hz.trans (gotA_class _ _)) ?_
                refine RD.run rfl (RD.done rfl ?_)
                repeat (first | with_reducible refine andThen_normal ?_ | refine CW.reg ?_ | refine RL.step tysOk rfl rfl rfl rfl ?_)
                refine needR rfl rfl rfl rfl rfl (fun h7 => ?_) (fun h7 => ?_)
                · repeat (first | with_reducible refine inBlock_normal ?_ | refine RL.nil ?_)
                  exact ⟨rfl, hgood (by simp_all [spokenE])⟩
                · repeat (first | with_reducible refine inBlock_panic ?_)
                  exact ⟨rfl, rfl, hbad (by simp_all [spokenE])⟩
              | false =>
                repeat (first | with_reducible refine CW.seq ?_ | with_reducible refine andThen_normal ?_ | refine CW.reg (RL.run tysOk rfl (RL.nil ?_)) | refine CW.condF rfl ?_)
                cases h18 : (g.op == 18) with
                | true =>
                  repeat (first | refine CW.reg ?_ | refine CW.condT rfl ?_ | refine RL.step tysOk rfl rfl rfl rfl ?_)
                  refine needR rfl rfl rfl rfl rfl (fun hn => ?_) (fun hn => ?_)
                  · repeat (first | with_reducible refine inBlock_normal ?_ | refine RL.nil ?_)
                    exact ⟨rfl, hgood (by simp_all [spokenE])⟩
                  · repeat (first | with_reducible refine inBlock_panic ?_)
                    exact ⟨rfl, rfl, hbad (by simp_all [spokenE])⟩
                | false =>
                  repeat (first | with_reducible refine inBlock_normal ?_ | with_reducible refine CW.skip ?_ | refine CW.condF rfl ?_)
                  exact ⟨rfl, hgood (by simp_all [spokenE])⟩
      · rintro s₁ ⟨rfl, hA⟩
        have hA' : e.allE.all (spokenE names slots next) = true := hA
        repeat (first | with_reducible refine CW.seq ?_ | with_reducible refine andThen_normal ?_ | with_reducible refine inBlock_normal ?_ | refine CW.reg ?_ | refine RL.step tysOk rfl rfl rfl rfl ?_)
        refine RL.call rfl rfl rfl rfl rfl (freeOf_spec e _ (by omega)) ?_ (fun _ _ ⟨_, _, h, _⟩ => by cases h)
        rintro _ _ ⟨b, hb, ⟨⟩, rfl⟩
        refine RL.op rfl rfl rfl (OW.rangeM tysOk rfl rfl rfl rfl (Store.set_same _ _ _) (X := fun _ _ => False)) ?_ (fun _ _ h => False.elim h)
        rintro _ _ ⟨it, hit, hne, rfl, rfl⟩
        rw [Store.set_set]
        have hit' : s₁ it = none := (Store.set_none hit).2
        repeat (first | with_reducible refine andThen_normal ?_ | with_reducible refine CW.block ?_ | refine RL.nil ?_)
        refine CW.loop (σ := List Str × Option (AV × AV)) (fun _ => [(2, .slc 1 (strs params) own), (66, .ptr it 0)]) (fun q => (s₁.set b (.ranged (setA e.frees) it (setA q.1) q.2)).set it (.tick b))
          (fun q => e.frees.all params.contains = q.1.all params.contains) (fun q => q.1.length) (e.frees, none) rfl ?_ (Store.sub_refl _) ?_
        · exact ⟨⟨_, rfl, AVle.refl _⟩, ⟨_, rfl, AVle.refl _⟩, trivial⟩
        · rintro ⟨lf, cur⟩ hF
          simp only at hF
          have hsub : ∀ o o', Store.Sub s₁ ((s₁.set b o).set it o') := fun o o' => Store.subSet (Store.subSet (Store.sub_refl _) hb) hit'
          repeat (first | with_reducible refine CW.seq ?_ | refine CW.reg ?_)
          refine RL.op rfl rfl rfl (OW.nextM (m := b) (i := it) rfl rfl (by rw [Store.set_ne _ _ (Ne.symm hne)]; exact Store.set_same _ _ _) (Store.set_same _ _ _) (X := fun _ _ => False)) ?_ (fun _ _ h => False.elim h)
          rintro _ _ (⟨hlf, rfl, rfl⟩ | ⟨l₁, kk, v, l₂, hlf, rfl, rfl⟩)
          · obtain rfl : lf = [] := by cases lf <;> simp_all [setA]
            repeat (first | with_reducible refine CW.seq ?_ | with_reducible refine andThen_normal ?_ | with_reducible refine andThen_exit ?_ | with_reducible refine inBlock_here ?_ | with_reducible refine CW.exit ?_ | refine RL.nil ?_ | refine CW.condF rfl ?_ | refine RL.step tysOk rfl rfl rfl rfl ?_)
            exact ⟨_, _, s₁, rfl, AVle.refl _, hsub _ _, .inl ⟨by rw [knownB, hlook, h120', hA', hF]; rfl, rfl, hT.symm⟩⟩
          · obtain ⟨a, w, b', rfl, rfl, rfl, rfl, rfl⟩ := setA_split hlf
            repeat (first | with_reducible refine CW.seq ?_ | with_reducible refine andThen_normal ?_ | with_reducible refine CW.skip ?_ | with_reducible refine CW.block ?_ | refine CW.reg ?_ | refine RL.nil ?_ | refine CW.condT rfl ?_ | refine RL.step tysOk rfl rfl rfl rfl ?_)
            refine RL.op rfl rfl rfl (OW.entryM (m := b) (i := it) rfl rfl (Store.set_same _ _ _) (X := fun _ _ => False)) ?_ (fun _ _ h => False.elim h)
            rintro _ _ ⟨rfl, rfl⟩
            repeat (first | with_reducible refine andThen_normal ?_ | refine CW.reg ?_ | refine RL.nil ?_ | refine RL.step tysOk rfl rfl rfl rfl ?_)
            refine RL.callP rfl rfl rfl rfl rfl (contains1_spec params own w _ hpl) ?_
            skip
            have hF2 : e.frees.all params.contains = (params.contains w && (a ++ b').all params.contains) := by
              rw [hF]; simp only [List.all_append, List.all_cons]; rw [← Bool.and_assoc, Bool.and_comm (a.all _), Bool.and_assoc]
            refine needR rfl rfl rfl rfl rfl (fun hw => ?_) (fun hw => ?_)
            · repeat (first | with_reducible refine andThen_normal ?_ | with_reducible refine inBlock_normal ?_ | refine RL.nil ?_)
              refine ⟨(a ++ b', some (.str w, .bool true)), by rw [hF2, hw]; rfl, ⟨⟨_, rfl, AVle.refl _⟩, ⟨_, rfl, AVle.refl _⟩, trivial⟩, ?_, by simp <;> omega⟩
              rw [setA_append]
              intro z
              left
              by_cases e1 : z = b
              · subst e1; rw [Store.set_ne _ _ (Ne.symm hne), Store.set_same, Store.set_same]
              · by_cases e2 : z = it
                · subst e2; rw [Store.set_same, Store.set_ne _ _ e1, Store.set_same]
                · rw [Store.set_ne _ _ e2, Store.set_ne _ _ e1, Store.set_ne _ _ e1, Store.set_ne _ _ e2, Store.set_ne _ _ e1]
            · repeat (first | with_reducible refine andThen_panic ?_ | with_reducible refine inBlock_panic ?_)
              refine ⟨_, s₁, AVle.refl _, ?_, hfail (.inr (.inr (by rw [hF2, hw]; rfl)))⟩
              intro z
              by_cases e1 : z = b
              · subst e1; exact .inr hb
              · rw [Store.set_ne _ _ e1]; exact hsub _ _ z
      · rintro v s₁ ⟨rfl, rfl, hA⟩
        repeat (first | with_reducible refine andThen_panic ?_ | with_reducible refine inBlock_panic ?_)
        exact ⟨_, _, AVle.refl _, Store.sub_refl _, hfail (.inr (.inl hA))⟩
    · have h120' : decide (cnt + e.size ≤ 120) = false := by simp at h120 ⊢; omega
      repeat (first | with_reducible refine andThen_panic ?_)
      exact ⟨_, _, AVle.refl _, Store.sub_refl _, hfail (.inl h120')⟩
end Go.Proofs.Ytaafacnoddjhgaa

/- Contracts of the layer 'shape': a fact is formed for some parameters. -/
namespace Go.Proofs.Ytaafacnoddjhgaa
open Go.AE

/-- Does a node of a fact speak of what there is? -/
def spokenF (names slots params : List Str) : Part → Bool
  | .exp _ => true
  | .fact f => (f.name == [] || params.contains f.name) && (f.path.all slots.contains && ((((names.contains f.cls || f.cls == []) || f.cls == anyS) || f.cls == intS) || f.cls == noneS))

def factB (names slots : List Str) (cnt : Nat) (f : FFact) (params : List Str) : Bool :=
  (lookB (.fact f) 120 && decide (cnt + f.size ≤ 120)) && ((Part.fact f).nodes 1).all fun x => spokenF names slots params x.2

set_option maxRecDepth 10000 in
theorem fact1_spec (P : FProg) (pb cb sb : Nat) (has : AV) (cnt : Int) (slots : List Str) (x : Str) (s : Store) (hp : s pb = some (.box 136 (progCells P cb has sb cnt))) (hsb : s sb = some (.map (setA slots))) :
    ACalls Try.prog 121 [.str x, .fptr [.ptr pb 0] 0] s (fun o s' => o = .ret (.bool (slots.contains x)) ∧ s' = s) := by
  refine ACalls.of_CW tysOk call121 Try.func121 rfl rfl ?_
  repeat (first | with_reducible refine CW.seq ?_ | with_reducible refine andThen_normal ?_ | refine CW.reg (RL.run tysOk rfl (RL.nil ?_)) | refine CW.reg ?_ | refine RL.step tysOk rfl rfl rfl rfl ?_ | refine RL.loadP tysOk rfl rfl rfl rfl rfl rfl (by assumption) rfl ?_)
  refine RL.lookup tysOk rfl rfl rfl rfl rfl rfl rfl rfl rfl rfl hsb rfl (getA_set slots x) rfl ?_
  rw [gotA_set]
  repeat (first | with_reducible refine andThen_normal ?_ | with_reducible refine CW.ret ?_ | refine RL.nil ?_ | refine RL.step tysOk rfl rfl rfl rfl ?_)
  exact ⟨_, _, _, rfl, AVle.refl _, Store.sub_refl _, rfl, rfl⟩

/-- What is asked of a function that says yes or no of strings, at a store. -/
def SaysAt (fv : AV) (f : Str → Bool) (l : List Str) (s : Store) : Prop := ∀ x ∈ l, ACallV Try.prog fv [.str x] s (fun o s' => o = .ret (.bool (f x)) ∧ s' = s)

set_option maxRecDepth 10000 in
theorem indexFuncAt_spec (l : List Str) (own : Own) (fv : AV) (f : Str → Bool) (s : Store) (hl : l.length < 9223372036854775807) (hc : cellsOf fv = some [fv]) (hf : SaysAt fv f l s) :
    ACalls Try.prog 129 [.slc 1 (strs l) own, fv] s (fun o s' => o = .ret (.int .i64 (idxBy f l 0)) ∧ s' = s) := by
  refine ACalls.of_CW tysOk call129 Try.func129 rfl rfl ?_
  repeat (first | with_reducible refine CW.seq ?_ | with_reducible refine andThen_normal ?_ | with_reducible refine CW.block ?_ | refine CW.reg (RL.run tysOk rfl (RL.nil ?_)))
  refine CW.loop (σ := Nat) (fun j => [(0, .slc 1 (strs l) own), (1, fv), (7, .int .i64 (strs l).length), (8, .int .i64 (j : Int))]) (fun _ => s) (fun j => j ≤ l.length ∧ idxBy f l 0 = idxBy f l j) (fun j => l.length - j) 0 ⟨by omega, rfl⟩ ?_ (Store.sub_refl _) ?_
  · exact ⟨⟨_, rfl, AVle.refl _⟩, ⟨_, rfl, AVle.refl _⟩, ⟨_, rfl, AVle.refl _⟩, ⟨_, rfl, AVle.refl _⟩, trivial⟩
  · rintro j ⟨hj, hI⟩
    repeat (first | with_reducible refine CW.seq ?_ | with_reducible refine andThen_normal ?_ | refine CW.reg (RL.run tysOk rfl (RL.nil ?_)))
    refine CW.cond rfl (fun h => ?_) (fun h => ?_)
    · have hlt : j < l.length := by simpa using h
      obtain ⟨y, hy⟩ : ∃ y, l[j]? = some y := ⟨_, List.getElem?_eq_getElem hlt⟩
      have hy' : (strs l)[j]? = some (.str y) := by rw [strs_get, hy]; rfl
      repeat (first | with_reducible refine CW.seq ?_ | with_reducible refine andThen_normal ?_ | with_reducible refine CW.skip ?_ | with_reducible refine CW.block ?_ | refine CW.reg (RL.run tysOk rfl (RL.nil ?_)) | refine CW.reg ?_ | refine RL.step tysOk rfl rfl rfl rfl ?_ | refine RL.idx tysOk _ rfl rfl rfl rfl rfl rfl rfl rfl rfl rfl rfl (by assumption) rfl ?_)
      refine RL.callV rfl rfl rfl rfl rfl rfl (hf y (List.mem_of_getElem? hy)) ?_ (fun _ _ ⟨h, _⟩ => by cases h)
      rintro x s' ⟨⟨⟩, rfl⟩
      cases hfy : f y with
      | true =>
        repeat (first | with_reducible refine CW.seq ?_ | with_reducible refine andThen_normal ?_ | with_reducible refine andThen_ret ?_ | with_reducible refine inBlock_ret ?_ | with_reducible refine CW.ret ?_ | refine CW.reg (RL.run tysOk rfl (RL.nil ?_)) | refine RL.nil ?_ | refine CW.condT rfl ?_)
        exact ⟨_, _, _, rfl, AVle.refl _, Store.sub_refl _, by rw [hI, idxBy_hit hy hfy], rfl⟩
      | false =>
        repeat (first | with_reducible refine andThen_normal ?_ | with_reducible refine inBlock_normal ?_ | with_reducible refine CW.skip ?_ | refine CW.reg (RL.run tysOk rfl (RL.nil ?_)) | refine RL.nil ?_ | refine CW.condF rfl ?_)
        refine ⟨j + 1, ⟨hlt, ?_⟩, ⟨⟨_, rfl, AVle.refl _⟩, ⟨_, rfl, AVle.refl _⟩, ⟨_, rfl, AVle.refl _⟩, ⟨_, rfl, AVle.of_eq ?_⟩, trivial⟩, Store.sub_refl _, by omega⟩
        · rw [hI, idxBy_miss hy hfy]
        · rw [i64_succ (by omega)]
    · repeat (first | with_reducible refine CW.seq ?_ | with_reducible refine andThen_normal ?_ | with_reducible refine andThen_exit ?_ | with_reducible refine inBlock_here ?_ | with_reducible refine CW.ret ?_ | with_reducible refine CW.exit ?_ | refine CW.reg (RL.run tysOk rfl (RL.nil ?_)))
      refine ⟨_, _, _, rfl, AVle.refl _, Store.sub_refl _, ?_, rfl⟩
      have : l.length ≤ j := by simpa using h
      rw [hI, idxBy_end this]

set_option maxRecDepth 10000 in
theorem everyAt_spec (l : List Str) (own : Own) (g : FuncId) (cap : List AV) (f : Str → Bool) (s : Store) (hl : l.length < 9223372036854775807) (hf : SaysAt (.func g [] cap) f l s) :
    ACalls Try.prog 78 [.slc 1 (strs l) own, .func g [] cap] s (fun o s' => o = .ret (.bool (l.all f)) ∧ s' = s) := by
  refine ACalls.of_CW tysOk call78 Try.func78 rfl rfl ?_
  repeat (first | with_reducible refine CW.seq ?_ | with_reducible refine andThen_normal ?_ | refine CW.reg (RL.run tysOk rfl (RL.nil ?_)) | refine CW.reg ?_ | refine RL.step tysOk rfl rfl rfl rfl ?_)
  have hcf : ACalls Try.prog 107 [.slc 1 (strs l) own, .func 108 [] [.fptr [.func g [] cap] 0]] s (fun o s' => o = .ret (.bool (l.any fun x => !f x)) ∧ s' = s) := by
    refine ACalls.of_CW tysOk call107 Try.func107 rfl rfl ?_
    repeat (first | with_reducible refine CW.seq ?_ | with_reducible refine andThen_normal ?_ | refine CW.reg (RL.run tysOk rfl (RL.nil ?_)) | refine CW.reg ?_ | refine RL.step tysOk rfl rfl rfl rfl ?_)
    refine RL.callP rfl rfl rfl rfl rfl (indexFuncAt_spec l own _ (fun x => !f x) s hl rfl (fun x hx => ACallV.of_calls ?_)) ?_
    · refine ACalls.of_CW tysOk call108 Try.func108 rfl rfl ?_
      repeat (first | with_reducible refine CW.seq ?_ | with_reducible refine andThen_normal ?_ | refine CW.reg (RL.run tysOk rfl (RL.nil ?_)) | refine CW.reg ?_ | refine RL.step tysOk rfl rfl rfl rfl ?_)
      refine RL.callV rfl rfl rfl rfl rfl rfl (hf x hx) ?_ (fun _ _ ⟨h, _⟩ => by cases h)
      rintro _ _ ⟨⟨⟩, rfl⟩
      repeat (first | with_reducible refine andThen_normal ?_ | with_reducible refine CW.ret ?_ | refine RL.nil ?_ | refine RL.step tysOk rfl rfl rfl rfl ?_)
      exact ⟨_, _, _, rfl, AVle.refl _, Store.sub_refl _, rfl, rfl⟩
    repeat (first | with_reducible refine andThen_normal ?_ | with_reducible refine CW.ret ?_ | refine RL.nil ?_ | refine RL.step tysOk rfl rfl rfl rfl ?_)
    exact ⟨_, _, _, rfl, AVle.refl _, Store.sub_refl _, by rw [idxBy_any], rfl⟩
  refine RL.callP rfl rfl rfl rfl rfl hcf ?_
  repeat (first | with_reducible refine andThen_normal ?_ | with_reducible refine CW.ret ?_ | refine RL.nil ?_ | refine RL.step tysOk rfl rfl rfl rfl ?_)
  refine ⟨_, _, _, rfl, AVle.refl _, Store.sub_refl _, ?_, rfl⟩
  rw [List.any_eq_not_all_not]; simp

set_option maxRecDepth 10000 in
set_option maxHeartbeats 4000000 in
theorem fact_spec (P : FProg) (pb cb sb : Nat) (has : AV) (cnt : Nat) (names slots : List Str) (f : FFact) (params : List Str) (own : Own) (s : Store) (hp : s pb = some (.box 136 (progCells P cb has sb cnt)))
    (hc : s cb = some (.map (classA names))) (hsb : s sb = some (.map (setA slots))) (hf : f.Fair) (hcnt : cnt < big) (hpl : params.length < 9223372036854775807) :
    ACalls Try.prog 86 [.ptr pb 0, f.av, .slc 1 (strs params) own] s (Counts P pb cb sb has s (factB names slots cnt f params) ((cnt + f.size : Nat) : Int)) := by
  have hb : big = 1099511627776 := rfl
  have hes := hf.size
  have hpc : pb ≠ cb := fun e => by subst e; rw [hp] at hc; cases hc
  have hps : pb ≠ sb := fun e => by subst e; rw [hp] at hsb; cases hsb
  refine ACalls.of_CW tysOk call86 Try.func86 rfl rfl ?_
  repeat (first | with_reducible refine CW.seq ?_ | with_reducible refine andThen_normal ?_ | refine CW.reg (RL.run tysOk rfl (RL.nil ?_)))
  refine CW.drw tysOk mixed rfl (RD.run rfl ?_)
  refine' RD.loadCall (i := 3) (j := 7) (σ := Unit) (P1 := _) (fun _ => .int .i64 (f.size : Int)) (fun _ => s) (fun _ => lookB (.fact f) 120 = true) tysOk rfl rfl rfl rfl rfl rfl rfl rfl rfl rfl rfl rfl hp rfl rfl rfl rfl (OW.call rfl (fv := .func 76 [] []) rfl rfl (ACallV.of_calls (look_spec (.fact f) 120 s hf.size hf.short (by decide))))
    (fun y s' ⟨h1, h2⟩ => ⟨(), by rcases h2 with ⟨h, ⟨⟩⟩ | ⟨_, h⟩; exact ⟨h, rfl, h1⟩; cases h⟩) ?A ?B ?C ?D
  case A => intro _ _ hP; exact hP
  case B =>
    intro _ _ hP
    refine RD.one (i := 3) rfl rfl rfl rfl rfl (OW.loadP tysOk rfl rfl rfl hp rfl (X := fun _ _ => False)) ?_ (fun _ _ h => False.elim h)
    rintro _ _ ⟨rfl, rfl⟩
    exact RD.congr _ (get_swap _ _ _ rfl) hP
  case D =>
    rintro _ _ ⟨rfl, ⟨_, h⟩ | ⟨hl, ⟨⟩⟩⟩
    · cases h
    · repeat (first | with_reducible refine andThen_panic ?_)
      exact ⟨_, _, AVle.refl _, Store.sub_refl _, .inr ⟨by rw [factB, hl]; rfl, rfl, cnt, (Store.set_eq _ _ _ hp).symm⟩⟩
  case C =>
    intro _ hlook
    refine RD.run rfl ?_
    refine RD.oneN (i := 11) rfl rfl rfl rfl (OW.storeP tysOk rfl rfl rfl rfl rfl rfl rfl hp rfl (X := fun _ _ => False)) ?_ (fun _ _ h => False.elim h)
    rintro _ _ rfl
    refine RD.run rfl (RD.done rfl ?_)
    have hwrap : IntKind.wrap .i64 ((cnt : Int) + (f.size : Int)) = ((cnt + f.size : Nat) : Int) := by rw [i64_wrap (by omega) (by omega)]; omega
    have hset : (setL (0 + 9) [AV.int .i64 (IntKind.wrap .i64 ((cnt : Int) + (f.size : Int)))] (progCells P cb has sb (cnt : Int))) = progCells P cb has sb ((cnt + f.size : Nat) : Int) := by rw [hwrap]; rfl
    rw [hset]
    have hp1 := Store.set_same s pb (.box 136 (progCells P cb has sb ((cnt + f.size : Nat) : Int)))
    have hc1 : (s.set pb (.box 136 (progCells P cb has sb ((cnt + f.size : Nat) : Int)))) cb = _ := (Store.set_ne _ _ hpc.symm).trans hc
    have hs1 : (s.set pb (.box 136 (progCells P cb has sb ((cnt + f.size : Nat) : Int)))) sb = _ := (Store.set_ne _ _ hps.symm).trans hsb
    have hfail : (decide (cnt + f.size ≤ 120)) = false ∨ (((Part.fact f).nodes 1).all fun x => spokenF names slots params x.2) = false → Counts P pb cb sb has s (factB names slots cnt f params) ((cnt + f.size : Nat) : Int) (.panic unf) (s.set pb (.box 136 (progCells P cb has sb ((cnt + f.size : Nat) : Int)))) :=
      fun h => .inr ⟨by rw [factB]; rcases h with h | h <;> rw [h] <;> simp, rfl, _, rfl⟩
    generalize hT : s.set pb (.box 136 (progCells P cb has sb ((cnt + f.size : Nat) : Int))) = t at hp1 hc1 hs1 hfail ⊢
    repeat (first | with_reducible refine CW.seq ?_ | with_reducible refine andThen_normal ?_ | refine CW.reg ?_ | refine RL.step tysOk rfl rfl rfl rfl ?_ | refine RL.loadP tysOk rfl rfl rfl rfl rfl rfl (by assumption) rfl ?_)
    refine needR rfl rfl rfl rfl rfl (fun h120 => ?_) (fun h120 => ?_)
    · have h120' : decide (cnt + f.size ≤ 120) = true := by simp at h120 ⊢; omega
      repeat (first | with_reducible refine CW.seq ?_ | with_reducible refine andThen_normal ?_ | refine CW.reg ?_ | refine RL.nil ?_ | refine RL.step tysOk rfl rfl rfl rfl ?_)
      refine RL.callP rfl rfl rfl rfl rfl (nodes_spec (.fact f) _) ?_
      repeat (first | with_reducible refine andThen_normal ?_ | with_reducible refine CW.block ?_ | refine RL.nil ?_)
      refine CW.rangeNodes (.fact f) rfl rfl rfl hf.size (fun rem s₁ => s₁ = t ∧ (((Part.fact f).nodes 1).all fun x => spokenF names slots params x.2) = rem.all fun x => spokenF names slots params x.2) (fun _ _ => False)
        (fun v s₁ => v = unf ∧ s₁ = t ∧ (((Part.fact f).nodes 1).all fun x => spokenF names slots params x.2) = false) ⟨rfl, rfl⟩ ?_ ?_ (fun _ _ h => h.elim) ?_
      · rintro d x rem s₁ hmem ⟨rfl, hA⟩
        have htx := hf.texts _ hmem
        cases x with
        | exp e => obtain ⟨g, hg⟩ := nodes_fact hmem; cases hg
        | fact g =>
          obtain ⟨ht1, ht2, ht3, ht4⟩ : g.Texts := htx
          rw [List.all_cons] at hA
          have hbad : spokenF names slots params (.fact g) = false → (((Part.fact f).nodes 1).all fun x => spokenF names slots params x.2) = false := fun h => by rw [hA]; simp only [h]; rfl
          have hgood : spokenF names slots params (.fact g) = true → (((Part.fact f).nodes 1).all fun x => spokenF names slots params x.2) = rem.all fun x => spokenF names slots params x.2 := fun h => by rw [hA]; simp only [h]; rfl
          repeat (first | with_reducible refine CW.seq ?_ | with_reducible refine andThen_normal ?_ | with_reducible refine CW.block ?_ | refine CW.reg (RL.run tysOk rfl (RL.nil ?_)) | refine CW.reg ?_ | refine RL.step tysOk rfl rfl rfl rfl ?_)
          refine RL.newBox tysOk rfl rfl rfl rfl rfl rfl rfl (fun _ => rfl) rfl rfl (fun _ => rfl) rfl rfl rfl rfl ?_
          repeat (first | with_reducible refine CW.seq ?_ | with_reducible refine andThen_normal ?_ | refine CW.reg (RL.run tysOk rfl (RL.nil ?_)) | refine CW.reg ?_ | refine RL.nil ?_ | refine CW.condT rfl ?_ | refine RL.step tysOk rfl rfl rfl rfl ?_)
          refine RL.cut 6 [(3, .fptr [.ptr pb 0] 0), (8, .fptr g.cells 0), (51, .bool (g.name == [] || params.contains g.name))] ?_ ?_
          · repeat' (first | refine RL.nil ?_ | refine RL.step tysOk rfl rfl rfl rfl ?_ | refine RL.skip rfl rfl rfl ?_ | refine RL.gstepF tysOk rfl rfl rfl rfl rfl rfl rfl (fun _ => ?_) (fun _ => ?_) | refine RL.callP rfl rfl rfl rfl rfl (contains1_spec params own g.name _ hpl) ?_)
            all_goals refine ⟨rfl, ⟨⟨_, rfl, AVle.refl _⟩, ⟨_, rfl, AVle.refl _⟩, ⟨_, rfl, AVle.of_eq ?_⟩, trivial⟩, rfl⟩
            all_goals simp_all
          refine needR rfl rfl rfl rfl rfl (fun h3 => ?_) (fun h3 => ?_)
          · repeat (first | with_reducible refine CW.seq ?_ | with_reducible refine andThen_normal ?_ | refine CW.reg ?_ | refine RL.nil ?_ | refine RL.step tysOk rfl rfl rfl rfl ?_)
            refine RL.callP rfl rfl rfl rfl rfl (everyAt_spec g.path _ _ _ slots.contains _ ht3 (fun x hx => ACallV.of_calls (fact1_spec P pb cb sb has _ slots x _ hp1 hs1))) ?_
            refine needR rfl rfl rfl rfl rfl (fun h4 => ?_) (fun h4 => ?_)
            · repeat (first | with_reducible refine CW.seq ?_ | with_reducible refine andThen_normal ?_ | refine RL.nil ?_)
              refine CW.drw tysOk mixed rfl (RD.run rfl ?_)
              refine RD.one (i := 3) rfl rfl rfl rfl rfl (OW.loadP tysOk rfl rfl rfl hp1 rfl (X := fun _ _ => False)) ?_ (fun _ _ h => False.elim h)
              rintro _ _ ⟨rfl, rfl⟩
              refine RD.run rfl ?_
              refine RD.one (i := 7) rfl rfl rfl rfl rfl (OW.lookup tysOk rfl rfl rfl rfl rfl rfl rfl (.inl ⟨cb, rfl, hc1⟩) rfl (getA_class names g.cls) rfl (X := fun _ _ => False)) ?_ (fun _ _ h => False.elim h)
              rintro z _ ⟨hz, rfl⟩
              refine RD_step _ _ (hz.trans (gotA_class _ _)) ?_
              refine RD.run rfl (RD.done rfl ?_)
              repeat (first | with_reducible refine andThen_normal ?_ | refine CW.reg ?_ | refine RL.step tysOk rfl rfl rfl rfl ?_)
              refine RL.cut 23 [(94, .bool ((((names.contains g.cls || g.cls == []) || g.cls == anyS) || g.cls == intS) || g.cls == noneS))] ?_ ?_
              · repeat' (first | refine RL.nil ?_ | refine RL.step tysOk rfl rfl rfl rfl ?_ | refine RL.skip rfl rfl rfl ?_ | refine RL.gstepF tysOk rfl rfl rfl rfl rfl rfl rfl (fun _ => ?_) (fun _ => ?_))
                all_goals refine ⟨rfl, ⟨⟨_, rfl, AVle.of_eq ?_⟩, trivial⟩, rfl⟩
                all_goals simp_all [anyS, intS, noneS]
              refine needR rfl rfl rfl rfl rfl (fun h5 => ?_) (fun h5 => ?_)
              · repeat (first | with_reducible refine inBlock_normal ?_ | refine RL.nil ?_)
                exact ⟨rfl, hgood (by rw [spokenF, h3, h4, h5]; rfl)⟩
              · repeat (first | with_reducible refine inBlock_panic ?_)
                exact ⟨rfl, rfl, hbad (by rw [spokenF, h5]; simp)⟩
            · repeat (first | with_reducible refine andThen_panic ?_ | with_reducible refine inBlock_panic ?_)
              exact ⟨rfl, rfl, hbad (by rw [spokenF, h4]; simp)⟩
          · repeat (first | with_reducible refine andThen_panic ?_ | with_reducible refine inBlock_panic ?_)
            exact ⟨rfl, rfl, hbad (by rw [spokenF, h3]; simp)⟩
      · rintro s₁ ⟨rfl, hA⟩
        repeat (first | with_reducible refine inBlock_normal ?_)
        exact ⟨_, _, _, rfl, AVle.refl _, Store.sub_refl _, .inl ⟨by rw [factB, hlook, h120', hA]; rfl, rfl, hT.symm⟩⟩
      · rintro v s₁ ⟨rfl, rfl, hA⟩
        repeat (first | with_reducible refine inBlock_panic ?_)
        exact ⟨_, _, AVle.refl _, Store.sub_refl _, hfail (.inr hA)⟩
    · have h120' : decide (cnt + f.size ≤ 120) = false := by simp at h120 ⊢; omega
      repeat (first | with_reducible refine andThen_panic ?_)
      exact ⟨_, _, AVle.refl _, Store.sub_refl _, hfail (.inl h120')⟩
end Go.Proofs.Ytaafacnoddjhgaa

/- Contracts of the layer 'shape': the functions of a program. -/
namespace Go.Proofs.Ytaafacnoddjhgaa
open Go.AE

theorem OW.storeSame {P : Program} {Γ : Tys} (hΓ : TysOk P Γ) {N : Nat} {env : Env} {s : Store} {o : Oper} {t T : TypeId} {x y : Operand} {i : TI} {b off : Nat} {cs us : List AV} {v : AV} (ho : o.op = .store t x y) (ht : Γ.get? t = some i) (hx : ev env x = some (.ptr b off))
    (hy : ev env y = some v) (hv : cellsOf v = some us) (hu : Nat.beq us.length i.size = true) (h1c : us.all oneC = true) (hs : s b = some (.box T cs)) (hfit : Nat.ble (off + us.length) cs.length = true) (hsame : setL off us cs = cs) {X : AV → Store → Prop} :
    OW P N o env s (fun _ s' => s' = s) X :=
  (OW.storeP hΓ ho ht hx hy hv hu h1c hs hfit (X := X)).mono (fun x s' h => by rw [h, hsame, Store.set_eq _ _ _ hs]) (fun _ _ h => h)

def gensA (l : List (Str × Int)) : List (AV × AV) := l.map fun x => (.str x.1, .int .i64 x.2)
theorem getA_gens (l : List (Str × Int)) (s : Str) : getA (gensA l) (.str s) = some ((l.find? (fun x => s == x.1)).map fun x => AV.int .i64 x.2) := by
  induction l with
  | nil => rfl
  | cons r l ih =>
    simp only [gensA, List.map_cons, getA, keyEq, List.find?_cons]
    cases h : s == r.1 with
    | true => rfl
    | false => simp only [gensA] at ih; exact ih
theorem putA_gens {l : List (Str × Int)} {s : Str} (n : Int) (h : l.find? (fun x => s == x.1) = none) : putA (gensA l) (.str s) (.int .i64 n) = some (gensA (l ++ [(s, n)])) := by
  induction l with
  | nil => rfl
  | cons r l ih =>
    rw [List.find?_cons] at h
    cases hs : s == r.1 with
    | true => rw [hs] at h; cases h
    | false =>
      rw [hs] at h
      have := ih h
      simp only [gensA] at this
      simp only [gensA, List.map_cons, putA, keyEq, hs, this, List.cons_append]

/-- A function is noted: which there are, with how many arguments; whether none has several. -/
def gNote (st : List (Str × Int) × Bool) (s : Str) (n : Int) : List (Str × Int) × Bool :=
  match st.1.find? (fun x => s == x.1) with
  | some x => (st.1, st.2 && x.2 == n)
  | none => (st.1 ++ [(s, n)], st.2)

/-- What is known while functions are noted. -/
structure GInv (s t : Store) (mb ib ob gb : Nat) (G : List (Str × Int)) (is : Bool) (own : Own) : Prop where
  hm : t mb = some (.box 91 [.map gb])
  hi : t ib = some (.box 4 [.bool is])
  ho : t ob = some (.box 22 [.slc 1 (strs (G.map (·.1))) own])
  hg : t gb = some (.map (gensA G))
  row : RowIs t 9 1 G.length own
  sub : Store.Sub s t
  sn : s mb = none ∧ s ib = none ∧ s ob = none ∧ s gb = none
  srow : ∀ b, own = .own b → s b = none
  d : mb ≠ ib ∧ mb ≠ ob ∧ mb ≠ gb ∧ ib ≠ ob ∧ ib ≠ gb ∧ ob ≠ gb

section
variable {s t : Store} {mb ib ob gb : Nat} {G : List (Str × Int)} {is : Bool} {own : Own}
theorem RowIs.keep {t t' : Store} {e : TypeId} {sz n : Nat} {own : Own} (h : RowIs t e sz n own) (hk : ∀ b o, t b = some o → notRow o = false → t' b = some o) : RowIs t' e sz n own := by
  cases own with
  | own b => exact hk b _ h rfl
  | nil => trivial
  | clip => trivial
  | fro => exact h

theorem GInv.setI (h : GInv s t mb ib ob gb G is own) (b : Bool) : GInv s (t.set ib (.box 4 [.bool b])) mb ib ob gb G b own := by
  obtain ⟨d1, d2, d3, d4, d5, d6⟩ := h.d
  refine ⟨(Store.set_ne _ _ d1).trans h.hm, Store.set_same _ _ _, (Store.set_ne _ _ d4.symm).trans h.ho, (Store.set_ne _ _ d5.symm).trans h.hg, h.row.keep fun x o hx ho => ?_, Store.subSet h.sub h.sn.2.1, h.sn, h.srow, h.d⟩
  exact (Store.set_ne _ _ (fun e => by subst e; rw [h.hi] at hx; cases hx; cases ho)).trans hx

/-- A name more. -/
theorem GInv.add (h : GInv s t mb ib ob gb G is own) (x : Str) (n : Int) (b' : Nat) (hb' : rowBase (t.set gb (.map (gensA (G ++ [(x, n)])))) own b' = none) :
    GInv s ((rowOf (rowBase (t.set gb (.map (gensA (G ++ [(x, n)])))) own) 9 1 (G.length + 1) (.own b')).set ob (.box 22 [.slc 1 (strs ((G ++ [(x, n)]).map (·.1))) (.own b')])) mb ib ob gb (G ++ [(x, n)]) is (.own b') := by
  obtain ⟨d1, d2, d3, d4, d5, d6⟩ := h.d
  have hrow : RowIs (t.set gb (.map (gensA (G ++ [(x, n)])))) 9 1 G.length own := h.row.keep fun x o hx ho => (Store.set_ne _ _ (fun e => by subst e; rw [h.hg] at hx; cases hx; cases ho)).trans hx
  have hnr : ∀ y o, t y = some o → notRow o = true → ∀ b, own = .own b → y ≠ b := fun y o hy ho b hb e => by
    subst hb; subst e
    have := h.row; simp only [RowIs] at this; rw [this] at hy; cases hy; cases ho
  have hk : ∀ y o, y ≠ gb → t y = some o → notRow o = true → rowOf (rowBase (t.set gb (.map (gensA (G ++ [(x, n)])))) own) 9 1 (G.length + 1) (.own b') y = some o := fun y o hy h1 h2 =>
    rowNext_keep (n := 0) hb' ((Store.set_ne _ _ hy).trans h1) (hnr y o h1 h2)
  have hob' : b' ≠ ob := fun e => by
    subst e
    have := rowBase_get hrow ((Store.set_ne _ _ d6).trans h.ho) rfl
    rw [hb'] at this; cases this
  have hsb' : s b' = none := by
    refine Classical.byContradiction fun hne => ?_
    have q1 : t b' = s b' := by
      rcases h.sub b' with q | q
      · exact q.symm
      · exact absurd q hne
    cases hsb : s b' with
    | none => exact hne hsb
    | some o =>
      rw [hsb] at q1
      have g1 : b' ≠ gb := fun e => by subst e; rw [h.sn.2.2.2] at hsb; cases hsb
      have g2 : ∀ b, own = .own b → b' ≠ b := fun b hb e => by subst e; rw [h.srow _ hb] at hsb; cases hsb
      have : rowBase (t.set gb (.map (gensA (G ++ [(x, n)])))) own b' = some o := by
        cases own with
        | own b => exact (Store.del_ne _ (g2 b rfl)).trans ((Store.set_ne _ _ g1).trans q1)
        | nil => exact (Store.set_ne _ _ g1).trans q1
        | clip => exact (Store.set_ne _ _ g1).trans q1
        | fro => exact (Store.set_ne _ _ g1).trans q1
      rw [hb'] at this; cases this
  refine ⟨(Store.set_ne _ _ d2).trans (hk mb _ d3 h.hm rfl), (Store.set_ne _ _ d4).trans (hk ib _ d5 h.hi rfl), Store.set_same _ _ _, (Store.set_ne _ _ d6.symm).trans ?_, ?_, ?_, h.sn, ?_, h.d⟩
  · refine rowNext_keep (n := 0) hb' (Store.set_same _ _ _) fun b hb e => ?_
    subst hb; subst e
    have := h.row; simp only [RowIs] at this; rw [h.hg] at this; cases this
  · show (Store.set _ ob _) b' = _
    rw [Store.set_ne _ _ hob', List.length_append]; exact Store.set_same _ _ _
  · refine Store.subSet ?_ h.sn.2.2.1
    intro y
    rcases h.sub y with q | q
    · cases hsy : s y with
      | none => exact .inr rfl
      | some o =>
        left
        rw [hsy] at q
        have g1 : y ≠ gb := fun e => by subst e; rw [h.sn.2.2.2] at hsy; cases hsy
        exact (rowNext_keep (n := 0) hb' ((Store.set_ne _ _ g1).trans q.symm) (fun b hb e => by subst e; rw [h.srow _ hb] at hsy; cases hsy)).symm
    · exact .inr q
  · rintro b ⟨⟩; exact hsb'
end

set_option maxRecDepth 10000 in
theorem gensNote_spec (s t : Store) (mb ib ob gb : Nat) (G : List (Str × Int)) (is : Bool) (own : Own) (x : Str) (n : Int) (h : GInv s t mb ib ob gb G is own) (hG : G.length < big) :
    ACalls Try.prog 100 [.str x, .int .i64 n, .ptr mb 0, .ptr ib 0, .ptr ob 0] t (fun o t' => o = .ret (.tup []) ∧ ∃ own', GInv s t' mb ib ob gb (gNote (G, is) x n).1 (gNote (G, is) x n).2 own') := by
  have hb : big = 1099511627776 := rfl
  have hm := h.hm
  have hi := h.hi
  have ho := h.ho
  refine ACalls.of_CW tysOk call100 Try.func100 rfl rfl ?_
  repeat (first | with_reducible refine CW.seq ?_ | refine CW.reg ?_ | refine RL.step tysOk rfl rfl rfl rfl ?_ | refine RL.loadP tysOk rfl rfl rfl rfl rfl rfl (by assumption) rfl ?_)
  refine RL.lookup tysOk rfl rfl rfl rfl rfl rfl rfl rfl rfl rfl h.hg rfl (getA_gens G x) rfl ?_
  cases hfi : G.find? (fun y => x == y.1) with
  | some y =>
    have hN : gNote (G, is) x n = (G, is && y.2 == n) := by simp only [gNote, hfi]
    rw [hN]
    cases is with
    | true =>
      repeat (first | with_reducible refine CW.seq ?_ | with_reducible refine andThen_normal ?_ | refine CW.reg (RL.run tysOk rfl (RL.nil ?_)) | refine CW.reg ?_ | refine RL.nil ?_ | refine CW.condT rfl ?_ | refine RL.step tysOk rfl rfl rfl rfl ?_ | refine RL.loadP tysOk rfl rfl rfl rfl rfl rfl (by assumption) rfl ?_)
      refine RL.storeP tysOk rfl rfl rfl rfl rfl rfl rfl rfl rfl hi rfl ?_
      repeat (first | with_reducible refine andThen_normal ?_ | with_reducible refine andThen_ret ?_ | with_reducible refine CW.ret ?_ | refine RL.nil ?_)
      exact ⟨_, _, _, rfl, AVle.refl _, Store.sub_refl _, rfl, own, h.setI _⟩
    | false =>
      repeat (first | with_reducible refine CW.seq ?_ | with_reducible refine andThen_normal ?_ | refine CW.reg (RL.run tysOk rfl (RL.nil ?_)) | refine CW.reg ?_ | refine RL.nil ?_ | refine CW.condT rfl ?_ | refine RL.step tysOk rfl rfl rfl rfl ?_ | refine RL.skip rfl rfl rfl ?_ | refine RL.loadP tysOk rfl rfl rfl rfl rfl rfl (by assumption) rfl ?_)
      refine RL.storeP tysOk rfl rfl rfl rfl rfl rfl rfl rfl rfl hi rfl ?_
      repeat (first | with_reducible refine andThen_normal ?_ | with_reducible refine andThen_ret ?_ | with_reducible refine CW.ret ?_ | refine RL.nil ?_)
      exact ⟨_, _, _, rfl, AVle.refl _, Store.sub_refl _, rfl, own, h.setI _⟩
  | none =>
    have hN : gNote (G, is) x n = (G ++ [(x, n)], is) := by simp only [gNote, hfi]
    rw [hN]
    obtain ⟨d1, d2, d3, d4, d5, d6⟩ := h.d
    have hrow : RowIs (t.set gb (.map (gensA (G ++ [(x, n)])))) 9 1 G.length own := h.row.keep fun x o hx ho => (Store.set_ne _ _ (fun e => by subst e; rw [h.hg] at hx; cases hx; cases ho)).trans hx
    repeat (first | with_reducible refine CW.seq ?_ | with_reducible refine andThen_normal ?_ | with_reducible refine CW.skip ?_ | refine CW.reg (RL.run tysOk rfl (RL.nil ?_)) | refine CW.reg ?_ | refine RL.nil ?_ | refine CW.condF rfl ?_ | refine RL.step tysOk rfl rfl rfl rfl ?_ | refine RL.loadP tysOk rfl rfl rfl rfl rfl rfl (by assumption) rfl ?_)
    refine RL.mapUpdate tysOk rfl rfl (.inl rfl) rfl rfl rfl rfl rfl rfl h.hg rfl (putA_gens n hfi) ?_
    have ho2 : (t.set gb (.map (gensA (G ++ [(x, n)])))) ob = _ := (Store.set_ne _ _ d6).trans h.ho
    repeat (first | with_reducible refine andThen_normal ?_ | refine CW.reg ?_ | refine RL.nil ?_ | refine RL.step tysOk rfl rfl rfl rfl ?_ | refine RL.loadP tysOk rfl rfl rfl rfl rfl rfl (by assumption) rfl ?_)
    refine RL.append1 tysOk rfl rfl rfl rfl rfl rfl rfl (by intro k h; cases h) rfl rfl rfl rfl rfl rfl rfl (n := G.length) (by simp) (by show (G.length + 1) * 16 ≤ _; omega) (by omega) (rowBase_eq hrow) (rowBase_ok hrow) (fun b' hb' => ?_)
    have nx := h.add x n b' hb'
    have ho3 := rowNext_keep (n := 0) (e := 9) (sz := 1) (m := G.length + 1) hb' ho2 (fun b hb e => by
      subst hb; subst e
      have := hrow; simp only [RowIs] at this; rw [ho2] at this; cases this)
    rw [show strs ((G ++ [(x, n)]).map (·.1)) = strs (G.map (·.1)) ++ [.str x] by simp [strs]] at nx
    refine RL.storeP tysOk rfl rfl rfl rfl rfl rfl rfl rfl rfl ho3 rfl ?_
    repeat (first | refine RL.nil ?_)
    exact ⟨_, _, _, rfl, AVle.refl _, Store.sub_refl _, rfl, .own b', nx⟩
end Go.Proofs.Ytaafacnoddjhgaa

