import Derived.Test.YtaafacnoddjhgaaGreatRc
/- Contracts of the layer 'shape': the classes of a program. -/
namespace Go.Proofs.YtaafacnoddjhgaaGreat
open Go.AE

def Sh (x : Str) : Prop := x.length < 9223372036854775807
structure Strs (l : List Str) : Prop where
 len : l.length < big
 sh : ∀ x ∈ l, Sh x
structure FClass.Fair (c : FClass) : Prop where
 name : Sh c.name
 parents : Strs c.parents
 slots : Strs c.slots
 ilen : c.inits.length < big
 inits : ∀ x ∈ c.inits, Sh x.slot

def progCells (P : FProg) (cb : Nat) (has : AV) (sb : Nat) (count : Int) : List AV := P.cells ++ [.map cb, has, .map sb, .int .i64 count]

structure CInv (P : FProg) (pb cb sb nb : Nat) (s t : Store) (i : Nat) (st : CSt) (own : Own) (hs : List Nat) (ms : List (List Str)) : Prop where
 hp : t pb = some (.box 136 (progCells P cb (.slc 1 (hs.map .map) own) sb 0))
 hc : t cb = some (.map (classA st.names))
 hsl : t sb = some (.map (setA st.slots))
 hn : t nb = some (.map (setA st.names))
 row : RowIs t 76 1 i own
 hlen : hs.length = i
 mlen : ms.length = i
 nlen : st.names.length = i
 stlen : st.has.length = i
 has : ∀ (k h : Nat) (m : List Str), hs[k]? = some h → ms[k]? = some m → t h = some (.map (setA m))
 hne : ∀ h ∈ hs, h ≠ cb ∧ h ≠ sb ∧ h ≠ nb
 mem : ∀ (k : Nat) (m l : List Str), ms[k]? = some m → st.has[k]? = some l → ∀ z, z ∈ m ↔ z ∈ l
 d : cb ≠ sb ∧ cb ≠ nb ∧ sb ≠ nb ∧ pb ≠ cb ∧ pb ≠ sb ∧ pb ≠ nb
 snb : s nb = none
 srow : ∀ b, own = .own b → s b = none
 rest : ∀ x, x ≠ pb → x ≠ cb → x ≠ sb → s x ≠ none → t x = s x

structure Ap (pb cb sb nb : Nat) (s : Store) (own : Own) (hs : List Nat) (b : Nat) : Prop where
 hp : b ≠ pb
 hc : b ≠ cb
 hsl : b ≠ sb
 hn : b ≠ nb
 row : ∀ b', own = .own b' → b ≠ b'
 has : b ∉ hs
 rest : s b = none

theorem ne_none {t : Store} {b x : Nat} {o : AObj} (hb : t b = none) (hx : t x = some o) : b ≠ x := fun e => by subst e; rw [hx] at hb; cases hb

section
variable {P : FProg} {pb cb sb nb : Nat} {s t : Store} {i : Nat} {st : CSt} {own : Own} {hs : List Nat} {ms : List (List Str)}

theorem CInv.ap (h : CInv P pb cb sb nb s t i st own hs ms) {b : Nat} (hb : t b = none) : Ap pb cb sb nb s own hs b := by
 refine ⟨ne_none hb h.hp, ne_none hb h.hc, ne_none hb h.hsl, ne_none hb h.hn, ?_, ?_, ?_⟩
 ·rintro b' rfl e; subst e
  have := h.row; simp only [RowIs] at this; rw [this] at hb; cases hb
 ·intro hm
  obtain ⟨k, hk⟩ := List.getElem?_of_mem hm
  have hk' : k < ms.length := by rw [h.mlen, ← h.hlen]; exact (List.getElem?_eq_some_iff.1 hk).1
  have := h.has k b _ hk (List.getElem?_eq_getElem hk')
  rw [this] at hb; cases hb
 ·refine Classical.byContradiction fun hn => ?_
  have h1 : b ≠ pb := fun e => by subst e; rw [h.hp] at hb; cases hb
  have h2 : b ≠ cb := fun e => by subst e; rw [h.hc] at hb; cases hb
  have h3 : b ≠ sb := fun e => by subst e; rw [h.hsl] at hb; cases hb
  have := h.rest b h1 h2 h3 hn
  rw [hb] at this; exact hn this.symm

theorem CInv.set (h : CInv P pb cb sb nb s t i st own hs ms) {b : Nat} (hb : Ap pb cb sb nb s own hs b) (o : AObj) : CInv P pb cb sb nb s (t.set b o) i st own hs ms := by
 refine ⟨by rw [Store.set_ne _ _ (Ne.symm hb.hp)]; exact h.hp, by rw [Store.set_ne _ _ (Ne.symm hb.hc)]; exact h.hc, by rw [Store.set_ne _ _ (Ne.symm hb.hsl)]; exact h.hsl, by rw [Store.set_ne _ _ (Ne.symm hb.hn)]; exact h.hn, ?_, h.hlen, h.mlen, h.nlen, h.stlen, ?_, h.hne, h.mem, h.d, h.snb, h.srow, ?_⟩
 ·have := h.row
  cases own with
  | own b' => show (t.set b o) b' = _; rw [Store.set_ne _ _ (Ne.symm (hb.row b' rfl))]; exact this
  | nil => trivial
  | clip => exact this
  | fro => exact this
 ·intro k x m hk hm
  rw [Store.set_ne _ _ (by intro e; subst e; exact hb.has (List.mem_of_getElem? hk))]
  exact h.has k x m hk hm
 ·intro x h1 h2 h3 h4
  rw [Store.set_ne _ _ (fun e => by subst e; exact h4 hb.rest)]
  exact h.rest x h1 h2 h3 h4

theorem CInv.slot (h : CInv P pb cb sb nb s t i st own hs ms) (l : List Str) : CInv P pb cb sb nb s (t.set sb (.map (setA l))) i { st with slots := l } own hs ms := by
 obtain ⟨d1, d2, d3, d4, d5, d6⟩ := h.d
 refine ⟨by rw [Store.set_ne _ _ d5]; exact h.hp, by rw [Store.set_ne _ _ d1]; exact h.hc, sSam, by rw [Store.set_ne _ _ (Ne.symm d3)]; exact h.hn, ?_, h.hlen, h.mlen, h.nlen, h.stlen, ?_, h.hne, h.mem, h.d, h.snb, h.srow, ?_⟩
 ·have := h.row
  cases own with
  | own b' =>
   have hne : b' ≠ sb := fun e => by subst e; have q := h.hsl; simp only [RowIs] at this; rw [this] at q; cases q
   show (t.set sb _) b' = _; rw [Store.set_ne _ _ hne]; exact this
  | nil => trivial
  | clip => exact this
  | fro => exact this
 ·intro k x m hk hm
  rw [Store.set_ne _ _ (h.hne x (List.mem_of_getElem? hk)).2.1]
  exact h.has k x m hk hm
 ·intro x h1 h2 h3 h4
  rw [Store.set_ne _ _ h3]
  exact h.rest x h1 h2 h3 h4

theorem CInv.next (h : CInv P pb cb sb nb s t i st own hs ms) (name : Str) (l m : List Str) (mb b' : Nat) (hmb : Ap pb cb sb nb s own hs mb) (hm : t mb = some (.map (setA m))) (hl : ∀ z, z ∈ m ↔ z ∈ l)
  (hb' : rowBase ((t.set nb (.map (setA (st.names ++ [name])))).set cb (.map (classA (st.names ++ [name])))) own b' = none) :
  CInv P pb cb sb nb s ((rowOf (rowBase ((t.set nb (.map (setA (st.names ++ [name])))).set cb (.map (classA (st.names ++ [name])))) own) 76 1 (i + 1) (.own b')).set pb (.box 136 (progCells P cb (.slc 1 ((hs ++ [mb]).map .map) (.own b')) sb 0)))
   (i + 1) ⟨st.names ++ [name], st.slots, st.has ++ [l]⟩ (.own b') (hs ++ [mb]) (ms ++ [m]) := by
 obtain ⟨d1, d2, d3, d4, d5, d6⟩ := h.d
 generalize hT : ((t.set nb (.map (setA (st.names ++ [name])))).set cb (.map (classA (st.names ++ [name])))) = T at hb' ⊢
 have hTn : T nb = some (.map (setA (st.names ++ [name]))) := by rw [← hT, Store.set_ne _ _ (Ne.symm d2), Store.set_same]
 have hTc : T cb = some (.map (classA (st.names ++ [name]))) := by rw [← hT, Store.set_same]
 have hTo : ∀ x, x ≠ nb → x ≠ cb → T x = t x := fun x h1 h2 => by rw [← hT, Store.set_ne _ _ h2, Store.set_ne _ _ h1]
 have hrow : RowIs T 76 1 i own := by
  have := h.row
  cases own with
  | own b =>
   simp only [RowIs] at this ⊢
   rw [hTo]
   ·exact this
   ·intro e; subst e; have q := h.hn; rw [this] at q; cases q
   ·intro e; subst e; have q := h.hc; rw [this] at q; cases q
  | nil => trivial
  | clip => exact this
  | fro => exact this
 have hbn : rowBase T own b' = none := by rw [hT] at *; exact hb'
 have hget : ∀ x o, T x = some o → notRow o = true → x ≠ pb → ((rowOf (rowBase T own) 76 1 (i + 1) (.own b')).set pb (.box 136 (progCells P cb (.slc 1 ((hs ++ [mb]).map .map) (.own b')) sb 0))) x = some o := by
  intro x o hx ho hp
  have h1 := rowBase_get hrow hx ho
  have hne : x ≠ b' := fun e => by subst e; rw [hbn] at h1; cases h1
  rw [Store.set_ne _ _ hp]
  show ((rowBase T own).set b' _) x = _
  rw [Store.set_ne _ _ hne]; exact h1
 have hpb' : b' ≠ pb := fun e => by
  subst e
  have h1 := rowBase_get hrow ((hTo _ d6 d4).trans h.hp) rfl
  rw [hbn] at h1; cases h1
 have hsb' : s b' = none := by
  refine Classical.byContradiction fun hne => ?_
  have g : ∀ x o, T x = some o → notRow o = true → b' ≠ x := fun x o hx ho => ne_none hbn (rowBase_get hrow hx ho)
  have e2 : b' ≠ cb := g cb _ hTc rfl
  have e3 : b' ≠ sb := g sb _ ((hTo _ d3 d1.symm).trans h.hsl) rfl
  have e4 : b' ≠ nb := g nb _ hTn rfl
  have q1 := h.rest b' hpb' e2 e3 hne
  have q2 : T b' = s b' := (hTo _ e4 e2).trans q1
  cases own with
  | own b =>
   have : b' ≠ b := fun e => by subst e; exact hne (h.srow _ rfl)
   have q3 : (T.del b) b' = none := hbn
   rw [Store.del_ne _ this, q2] at q3
   exact hne q3
  | nil => have q3 : T b' = none := hbn; rw [q2] at q3; exact hne q3
  | clip => have q3 : T b' = none := hbn; rw [q2] at q3; exact hne q3
  | fro => exact hrow.elim
 have hkeep : ∀ x, x ≠ pb → x ≠ nb → x ≠ cb → x ≠ b' → (∀ b, own = .own b → x ≠ b) → ((rowOf (rowBase T own) 76 1 (i + 1) (.own b')).set pb (.box 136 (progCells P cb (.slc 1 ((hs ++ [mb]).map .map) (.own b')) sb 0))) x = t x := by
  intro x h1 h2 h3 h4 h5
  rw [Store.set_ne _ _ h1]
  show ((rowBase T own).set b' _) x = _
  rw [Store.set_ne _ _ h4]
  cases own with
  | own b => exact (Store.del_ne _ (h5 b rfl)).trans (hTo x h2 h3)
  | nil => exact hTo x h2 h3
  | clip => exact hTo x h2 h3
  | fro => exact hTo x h2 h3
 have hmem : ∀ x ∈ hs, ∃ m, t x = some (.map (setA m)) ∧ x ≠ pb := by
  intro x hx
  obtain ⟨k, hk⟩ := List.getElem?_of_mem hx
  have hk' : k < ms.length := by rw [h.mlen, ← h.hlen]; exact (List.getElem?_eq_some_iff.1 hk).1
  have q := h.has k x _ hk (List.getElem?_eq_getElem hk')
  exact ⟨_, q, fun e => by subst e; rw [h.hp] at q; cases q⟩
 refine ⟨sSam, hget cb _ hTc rfl (Ne.symm d4), hget sb _ ((hTo _ d3 d1.symm).trans h.hsl) rfl (Ne.symm d5), hget nb _ hTn rfl (Ne.symm d6), ?_, by simp [h.hlen], by simp [h.mlen], by simp [h.nlen], by simp [h.stlen], ?_, ?_, ?_, h.d, h.snb, ?_, ?_⟩
 ·show ((rowOf _ _ _ _ _).set pb _) b' = _
  rw [Store.set_ne _ _ hpb']; exact sSam
 ·intro k x m' hk hm'
  rcases Nat.lt_or_ge k i with hlt | hge
  ·rw [List.getElem?_append_left (by rw [h.hlen]; exact hlt)] at hk
   rw [List.getElem?_append_left (by rw [h.mlen]; exact hlt)] at hm'
   have q := h.has k x m' hk hm'
   obtain ⟨q1, q2, q3⟩ := h.hne x (List.mem_of_getElem? hk)
   obtain ⟨_, q4, q5⟩ := hmem x (List.mem_of_getElem? hk)
   exact hget x _ ((hTo x q3 q1).trans q) rfl q5
  ·rw [List.getElem?_append_right (by rw [h.hlen]; exact hge), h.hlen] at hk
   rw [List.getElem?_append_right (by rw [h.mlen]; exact hge), h.mlen] at hm'
   have hki : k - i = 0 := by
    have := (List.getElem?_eq_some_iff.1 hk).1; simp at this; exact this
   rw [hki] at hk hm'
   simp at hk hm'; subst hk; subst hm'
   exact hget _ _ ((hTo _ hmb.hn hmb.hc).trans hm) rfl hmb.hp
 ·intro x hx
  rcases List.mem_append.1 hx with hx | hx
  ·exact h.hne x hx
  ·simp at hx; subst hx; exact ⟨hmb.hc, hmb.hsl, hmb.hn⟩
 ·intro k m' l' hm' hl' z
  rcases Nat.lt_or_ge k i with hlt | hge
  ·rw [List.getElem?_append_left (by rw [h.mlen]; exact hlt)] at hm'
   rw [List.getElem?_append_left (by rw [h.stlen]; exact hlt)] at hl'
   exact h.mem k m' l' hm' hl' z
  ·rw [List.getElem?_append_right (by rw [h.mlen]; exact hge), h.mlen] at hm'
   rw [List.getElem?_append_right (by rw [h.stlen]; exact hge), h.stlen] at hl'
   have hki : k - i = 0 := by
    have := (List.getElem?_eq_some_iff.1 hm').1; simp at this; exact this
   rw [hki] at hl' hm'
   simp at hl' hm'; subst hl'; subst hm'
   exact hl z
 ·rintro b ⟨⟩
  exact hsb'
 ·intro x h1 h2 h3 h4
  have hx := h.rest x h1 h2 h3 h4
  have q1 : x ≠ nb := fun e => by subst e; exact h4 h.snb
  have q2 : ∀ b, own = .own b → x ≠ b := fun b hb e => by subst e; exact h4 (h.srow _ hb)
  rw [hkeep x h1 q1 h2 (fun e => by subst e; exact h4 hsb') q2]
  exact hx
end
end Go.Proofs.YtaafacnoddjhgaaGreat

/- Contracts of the layer 'shape': the classes of a program are looked at. -/
namespace Go.Proofs.YtaafacnoddjhgaaGreat
open Go.AE

def ClsPost (P : FProg) (pb cb sb : Nat) (s : Store) (o : AOut) (s' : Store) : Prop :=
 (match clsAll P.classes with
  | some st => o = .ret (.tup []) ∧ s' cb = some (.map (classA st.names)) ∧ s' sb = some (.map (setA st.slots)) ∧ ∃ has, s' pb = some (.box 136 (progCells P cb has sb P.classes.length))
  | none => o = .panic unf ∧ ∃ has, s' pb = some (.box 136 (progCells P cb has sb 0))) ∧
 ∀ x, x ≠ pb → x ≠ cb → x ≠ sb → s x ≠ none → s' x = s x

theorem CInv.rowNext {P : FProg} {pb cb sb nb : Nat} {s t : Store} {i : Nat} {st : CSt} {own : Own} {hs : List Nat} {ms : List (List Str)} (h : CInv P pb cb sb nb s t i st own hs ms) (o o' : AObj) :
  RowIs ((t.set nb o).set cb o') 76 1 i own := by
 have := h.row
 cases own with
 | own b =>
  simp only [RowIs] at this ⊢
  have h1 : b ≠ nb := by intro e; subst e; have q := h.hn; rw [this] at q; cases q
  have h2 : b ≠ cb := by intro e; subst e; have q := h.hc; rw [this] at q; cases q
  rw [Store.set_ne _ _ h2, Store.set_ne _ _ h1]
  exact this
 | nil => trivial
 | clip => exact this
 | fro => exact this

theorem CInv.fail {P : FProg} {pb cb sb nb : Nat} {s t : Store} {i : Nat} {st : CSt} {own : Own} {hs : List Nat} {ms : List (List Str)} (h : CInv P pb cb sb nb s t i st own hs ms) (hf : clsAll P.classes = none) :
  ClsPost P pb cb sb s (.panic unf) t := by
 unfold ClsPost
 rw [hf]
 exact ⟨⟨rfl, _, h.hp⟩, h.rest⟩

structure PInv (P : FProg) (pb cb sb nb : Nat) (s t : Store) (i : Nat) (st : CSt) (own : Own) (hs : List Nat) (ms : List (List Str)) (mb qb ib : Nat) : Prop where
 inv : CInv P pb cb sb nb s t i st own hs ms
 am : Ap pb cb sb nb s own hs mb
 aq : Ap pb cb sb nb s own hs qb
 ai : Ap pb cb sb nb s own hs ib
 d : mb ≠ qb ∧ mb ≠ ib ∧ qb ≠ ib

section
variable {P : FProg} {pb cb sb nb : Nat} {s t : Store} {i : Nat} {st : CSt} {own : Own} {hs : List Nat} {ms : List (List Str)} {mb qb ib : Nat}
theorem PInv.setM (h : PInv P pb cb sb nb s t i st own hs ms mb qb ib) (o : AObj) : PInv P pb cb sb nb s (t.set mb o) i st own hs ms mb qb ib := ⟨h.inv.set h.am o, h.am, h.aq, h.ai, h.d⟩
theorem PInv.setQ (h : PInv P pb cb sb nb s t i st own hs ms mb qb ib) (o : AObj) : PInv P pb cb sb nb s (t.set qb o) i st own hs ms mb qb ib := ⟨h.inv.set h.aq o, h.am, h.aq, h.ai, h.d⟩
theorem PInv.setI (h : PInv P pb cb sb nb s t i st own hs ms mb qb ib) (o : AObj) : PInv P pb cb sb nb s (t.set ib o) i st own hs ms mb qb ib := ⟨h.inv.set h.ai o, h.am, h.aq, h.ai, h.d⟩
end

section
variable {P : FProg} {pb cb sb nb : Nat} {s t : Store} {i : Nat} {st : CSt} {own : Own} {hs : List Nat} {ms : List (List Str)} {mb qb ib : Nat}
theorem PInv.slot (h : PInv P pb cb sb nb s t i st own hs ms mb qb ib) (l : List Str) : PInv P pb cb sb nb s (t.set sb (.map (setA l))) i { st with slots := l } own hs ms mb qb ib := ⟨h.inv.slot l, h.am, h.aq, h.ai, h.d⟩
end

theorem progCells_nil (P : FProg) (cb sb : Nat) : AVleL (progCells P cb (.slc 0 [] .nil) sb 0) (progCells P cb (.slc 1 [] .nil) sb 0) :=
 (AVleL.refl _).append (.cons aRfl (.cons (AVle.nil (by simp)) (AVleL.refl _)))

theorem classOk_false_of {st : CSt} {c : FClass} {l r : List FClass} {cls : List FClass} (hI : clsAll cls = clsRest st (c :: r)) (h : classOk st c = false) : clsAll cls = none := by
 rw [hI, clsRest, h]; rfl

set_option maxRecDepth 10000 in
set_option maxHeartbeats 4000000 in
theorem classes_spec (P : FProg) (pb cb sb : Nat) (s : Store) (hp : s pb = some (.box 136 (progCells P cb (.slc 0 [] .nil) sb 0))) (hc : s cb = some (.map [])) (hsb : s sb = some (.map [])) (hcs : cb ≠ sb)
  (hf : ∀ c ∈ P.classes, c.Fair) (hlen : P.classes.length < big) :
  ACalls Tryz.prog 88 [.ptr pb 0] s (ClsPost P pb cb sb s) := by
 have hb : big = 1099511627776 := rfl
 have hpc : pb ≠ cb := fun e => by subst e; rw [hp] at hc; cases hc
 have hps : pb ≠ sb := fun e => by subst e; rw [hp] at hsb; cases hsb
 refine ACalls.of_CW tO call88 Tryz.func88 rfl rfl ?_
 repeat (first | with_reducible apply CW.seq | refine CW.reg ?_ | refine wS rfl ?_ | refine RL.loadP tO rfl rfl rfl rfl rfl rfl (by assumption) rfl ?_)
 refine needR rfl rfl rfl rfl rfl (fun h10 => ?_) (fun h10 => ?_)
 ·have h10' : P.classes.length ≤ 10 := by simp at h10; omega
  have hall : clsAll P.classes = clsRest .zero P.classes := by rw [clsAll, if_pos h10']
  repeat (first | (with_reducible first | apply CW.seq | apply aN) | refine CW.reg ?_ | refine RL.nil ?_)
  refine RL.makeMap rfl rfl rfl rfl (fun nb hnb => ?_)
  have hpn : pb ≠ nb := ne_of_some hp hnb
  have hcn : cb ≠ nb := ne_of_some hc hnb
  have hsn : sb ≠ nb := ne_of_some hsb hnb
  have hp1 : (s.set nb (.map [])) pb = some (.box 136 (progCells P cb (.slc 0 [] .nil) sb 0)) := by rw [Store.set_ne _ _ hpn]; exact hp
  repeat (first | (with_reducible first | apply CW.seq | apply aN | apply CW.block) | refine CW.reg ?_ | refine RL.nil ?_ | refine wS rfl ?_ | refine RL.loadP tO rfl rfl rfl rfl rfl rfl (by assumption) rfl ?_)
  refine CW.boxWeak pb _ hp1 (progCells_nil P cb sb) ?_
  have inv0 : CInv P pb cb sb nb s ((s.set nb (.map [])).set pb (.box 136 (progCells P cb (.slc 1 [] .nil) sb 0))) 0 .zero .nil [] [] := by
   refine ⟨sSam, ?_, ?_, ?_, trivial, rfl, rfl, rfl, rfl, by simp, by simp, by simp, ⟨hcs, hcn, hsn, hpc, hps, hpn⟩, hnb, by simp, ?_⟩
   ·rw [Store.set_ne _ _ hpc.symm, Store.set_ne _ _ hcn]; exact hc
   ·rw [Store.set_ne _ _ hps.symm, Store.set_ne _ _ hsn]; exact hsb
   ·rw [Store.set_ne _ _ hpn.symm, Store.set_same]; rfl
   ·intro x h1 h2 h3 h4
    rw [Store.set_ne _ _ h1, Store.set_ne _ _ (fun e => by subst e; exact h4 hnb)]
  refine CW.loop (σ := Nat × Store × CSt × Own × List Nat × List (List Str)) (fun q => [(0, .ptr pb 0), (2, .map nb), (30, .slc 4 (P.classes.map FClass.av) .fro), (31, .int .i64 (P.classes.map FClass.av).length), (32, .int .i64 (q.1 : Int))]) (fun q => q.2.1)
   (fun q => q.1 ≤ P.classes.length ∧ CInv P pb cb sb nb s q.2.1 q.1 q.2.2.1 q.2.2.2.1 q.2.2.2.2.1 q.2.2.2.2.2 ∧ clsAll P.classes = clsRest q.2.2.1 (P.classes.drop q.1)) (fun q => P.classes.length - q.1)
   (0, _, .zero, .nil, [], []) ⟨by simp, inv0, hall⟩ ?_ sSub ?_
  ·exact ⟨⟨_, rfl, aRfl⟩, ⟨_, rfl, aRfl⟩, ⟨_, rfl, aRfl⟩, ⟨_, rfl, aRfl⟩, ⟨_, rfl, aRfl⟩, trivial⟩
  ·rintro ⟨i, t, st, own, hs, ms⟩ ⟨hi, inv, hI⟩
   simp only at hi inv hI ⊢
   have hp := inv.hp
   repeat (first | (with_reducible first | apply CW.seq | apply aN) | refine wR rfl ?_)
   refine CW.cond rfl (fun h => ?_) (fun h => ?_)
   ·have hlt : i < P.classes.length := by simpa using h
    obtain ⟨c, hci⟩ : ∃ c, P.classes[i]? = some c := ⟨_, List.getElem?_eq_getElem hlt⟩
    have hci' : (P.classes.map FClass.av)[i]? = some (.agg c.cells) := by rw [List.getElem?_map, hci]; rfl
    have hcf := hf c (List.mem_of_getElem? hci)
    rw [drop_cons hci] at hI
    repeat (first | (with_reducible first | apply CW.seq | apply aN | apply CW.skip | apply CW.block) | refine CW.reg ?_ | refine wS rfl ?_ | refine RL.idx tO _ rfl rfl rfl rfl rfl rfl rfl rfl rfl rfl rfl (by assumption) rfl ?_)
    refine RL.alloc tO rfl rfl rfl rfl rfl rfl rfl (fun b4 hb4 => ?_)
    refine wS rfl ?_
    refine RL.storeP tO rfl rfl rfl rfl rfl rfl rfl rfl rfl sSam rfl ?_
    rw [Store.set_set]
    refine RL.freeze 4 b4 rfl sSam ?_
    rw [Store.del_set _ _ _ hb4]
    repeat (first | (with_reducible first | apply CW.seq | apply aN) | refine CW.reg ?_ | refine RL.nil ?_ | refine wS rfl ?_)
    refine RL.cut 5 [(0, .ptr pb 0), (2, .map nb), (30, .slc 4 (P.classes.map FClass.av) .fro), (31, .int .i64 (P.classes.map FClass.av).length), (32, .int .i64 (i : Int)), (3, .int .i64 (i : Int)), (4, .fptr c.cells 0), (46, .bool (decide (c.parents.length ≤ 3) && decide (c.slots.length ≤ 4)))] ?_ ?_
    ·repeat' (first | refine RL.nil ?_ | refine wS rfl ?_ | refine RL.skip rfl rfl rfl ?_ | refine RL.gstepT tO rfl rfl rfl rfl rfl rfl rfl (fun _ => ?_) (fun _ => ?_))
     all_goals refine ⟨rfl, ⟨⟨_, rfl, aRfl⟩, ⟨_, rfl, aRfl⟩, ⟨_, rfl, aRfl⟩, ⟨_, rfl, aRfl⟩, ⟨_, rfl, aRfl⟩, ⟨_, rfl, aRfl⟩, ⟨_, rfl, aRfl⟩, ⟨_, rfl, AVle.of_eq ?_⟩, trivial⟩, rfl⟩
     all_goals simp_all
     all_goals first | (congr 1; rw [Bool.eq_iff_iff]; simp; omega) | (intros; omega)
    refine needR rfl rfl rfl rfl rfl (fun h5 => ?_) (fun h5 => ?_)
    ·repeat (first | (with_reducible first | apply CW.seq | apply aN) | refine CW.reg ?_ | refine RL.nil ?_)
     refine RL.makeMap rfl rfl rfl rfl (fun mb hmb => ?_)
     refine RL.makeMap rfl rfl rfl rfl (fun qb hqb => ?_)
     refine RL.makeMap rfl rfl rfl rfl (fun ib hib => ?_)
     have am := inv.ap hmb
     have inv1 := inv.set am (.map [])
     have aq := inv1.ap hqb
     have inv2 := inv1.set aq (.map [])
     have ai := inv2.ap hib
     have inv3 := inv2.set ai (.map [])
     have hmq : mb ≠ qb := ne_of_some (Store.set_same t mb (.map [])) hqb
     have hqi : qb ≠ ib := ne_of_some (Store.set_same _ qb (.map [])) hib
     have hmi : mb ≠ ib := ne_of_some (by rw [Store.set_ne _ _ hmq]; exact Store.set_same t mb (.map [])) hib
     have pinv : PInv P pb cb sb nb s (((t.set mb (.map [])).set qb (.map [])).set ib (.map [])) i st own hs ms mb qb ib := ⟨inv3, am, aq, ai, ⟨hmq, hmi, hqi⟩⟩
     repeat (first | (with_reducible first | apply CW.seq | apply aN | apply CW.block) | refine wR rfl ?_ | refine RL.nil ?_ | refine wS rfl ?_)
     refine CW.loop (σ := Nat × Store × List Str) (fun q => [(0, .ptr pb 0), (2, .map nb), (3, .int .i64 (i : Int)), (4, .fptr c.cells 0), (5, .map mb), (6, .map qb), (7, .map ib), (30, .slc 4 (P.classes.map FClass.av) .fro), (31, .int .i64 (P.classes.map FClass.av).length), (32, .int .i64 (i : Int)), (52, .slc 1 (strs c.parents) .fro), (53, .int .i64 (strs c.parents).length), (54, .int .i64 (q.1 : Int))]) (fun q => q.2.1)
      (fun q => q.1 ≤ c.parents.length ∧ PInv P pb cb sb nb s q.2.1 i st own hs ms mb qb ib ∧ q.2.1 mb = some (.map (setA q.2.2)) ∧ q.2.1 qb = some (.map (setA (c.parents.take q.1))) ∧ q.2.1 ib = some (.map []) ∧
       (∀ z, z ∈ q.2.2 ↔ z ∈ (c.parents.take q.1).flatMap st.slotsOf) ∧ allPre (okParent st.names) [] c.parents = allPre (okParent st.names) (c.parents.take q.1) (c.parents.drop q.1)) (fun q => c.parents.length - q.1)
      (0, _, []) ⟨by simp, pinv, ?_, ?_, sSam, by simp, rfl⟩ ?_ sSub ?_
     ·show (((t.set mb (.map [])).set qb (.map [])).set ib (.map [])) mb = _
      rw [Store.set_ne _ _ hmi, Store.set_ne _ _ hmq, Store.set_same]; rfl
     ·show (((t.set mb (.map [])).set qb (.map [])).set ib (.map [])) qb = _
      rw [Store.set_ne _ _ hqi, Store.set_same]; rfl
     ·exact ⟨⟨_, rfl, aRfl⟩, ⟨_, rfl, aRfl⟩, ⟨_, rfl, aRfl⟩, ⟨_, rfl, aRfl⟩, ⟨_, rfl, aRfl⟩, ⟨_, rfl, aRfl⟩, ⟨_, rfl, aRfl⟩, ⟨_, rfl, aRfl⟩, ⟨_, rfl, aRfl⟩, ⟨_, rfl, aRfl⟩, ⟨_, rfl, aRfl⟩, ⟨_, rfl, aRfl⟩, ⟨_, rfl, aRfl⟩, trivial⟩
     ·rintro ⟨j, t1, m⟩ ⟨hj, pv, hm1, hq1, hi1, hmem, hA⟩
      simp only at hj pv hm1 hq1 hi1 hmem hA ⊢
      have hp := pv.inv.hp
      have hcb := pv.inv.hc
      repeat (first | (with_reducible first | apply CW.seq | apply aN) | refine wR rfl ?_)
      refine CW.cond rfl (fun h => ?_) (fun h => ?_)
      ·have hlt : j < c.parents.length := by simpa using h
       obtain ⟨y, hy⟩ : ∃ y, c.parents[j]? = some y := ⟨_, List.getElem?_eq_getElem hlt⟩
       have hy' : (strs c.parents)[j]? = some (.str y) := by rw [strs_get, hy]; rfl
       have hys := hcf.parents.sh y (List.mem_of_getElem? hy)
       rw [drop_cons hy, allPre_cons] at hA
       have hbad : okParent st.names (c.parents.take j) y = false → clsAll P.classes = none := fun h => classOk_false_of (l := []) hI (by rw [classOk, hA, h]; simp)
       cases hfi : st.names.findIdx? (· == y) with
       | none =>
        have hcn : st.names.contains y = false := by rw [← findIdx_contains, hfi]; rfl
        repeat (first | (with_reducible first | apply CW.seq | apply aN | apply CW.skip | apply CW.block) | refine CW.reg ?_ | refine RL.nil ?_ | refine wS rfl ?_ | refine RL.loadP tO rfl rfl rfl rfl rfl rfl (by assumption) rfl ?_ | refine RL.idx tO _ rfl rfl rfl rfl rfl rfl rfl rfl rfl rfl rfl (by assumption) rfl ?_)
        refine RL.lookup tO rfl rfl rfl rfl rfl rfl rfl rfl rfl rfl hcb rfl (getA_class _ _) rfl ?_
        rw [gotA_class, hfi, hcn]
        repeat (first | (with_reducible first | apply CW.seq | apply aN) | refine CW.reg ?_ | refine RL.nil ?_ | refine wS rfl ?_)
        refine needR rfl rfl rfl rfl rfl (fun h => by cases h) (fun _ => ?_)
        repeat (with_reducible first | apply aP | apply iP)
        exact ⟨_, _, aRfl, sSub, pv.inv.fail (hbad (by rw [okParent, hcn]; rfl))⟩
       | some k =>
        have hcn : st.names.contains y = true := by rw [← findIdx_contains, hfi]; rfl
        have hklt : k < st.names.length := (List.findIdx?_eq_some_iff_getElem.1 hfi).1
        have hki : k < i := by rw [← pv.inv.nlen]; exact hklt
        obtain ⟨hk, hhk⟩ : ∃ x, hs[k]? = some x := ⟨_, List.getElem?_eq_getElem (by rw [pv.inv.hlen]; exact hki)⟩
        obtain ⟨mk, hmk⟩ : ∃ x, ms[k]? = some x := ⟨_, List.getElem?_eq_getElem (by rw [pv.inv.mlen]; exact hki)⟩
        obtain ⟨lk, hlk⟩ : ∃ x, st.has[k]? = some x := ⟨_, List.getElem?_eq_getElem (by rw [pv.inv.stlen]; exact hki)⟩
        have hsl : st.slotsOf y = lk := by
         rw [CSt.slotsOf, hfi]; simp [hlk]
        repeat (first | (with_reducible first | apply CW.seq | apply aN | apply CW.skip | apply CW.block) | refine CW.reg ?_ | refine RL.nil ?_ | refine wS rfl ?_ | refine RL.loadP tO rfl rfl rfl rfl rfl rfl (by assumption) rfl ?_ | refine RL.idx tO _ rfl rfl rfl rfl rfl rfl rfl rfl rfl rfl rfl (by assumption) rfl ?_)
        refine RL.lookup tO rfl rfl rfl rfl rfl rfl rfl rfl rfl rfl hcb rfl (getA_class _ _) rfl ?_
        rw [gotA_class, hfi, hcn]
        repeat (first | (with_reducible first | apply CW.seq | apply aN) | refine CW.reg ?_ | refine RL.nil ?_ | refine wS rfl ?_)
        refine needR rfl rfl rfl rfl rfl (fun _ => ?_) (fun h => by cases h)
        repeat (first | (with_reducible first | apply CW.seq | apply aN) | refine CW.reg ?_ | refine RL.nil ?_ | refine wS rfl ?_)
        refine RL.call rfl rfl rfl rfl rfl (one_spec y (c.parents.take j) qb t1 hq1 hys) ?_ ?_
        ·rintro _ _ (⟨hn, ⟨⟩, rfl⟩ | ⟨_, h, _⟩)
         ·have pv2 := pv.setQ (.map (setA (insS (c.parents.take j) y)))
          generalize hT : t1.set qb (.map (setA (insS (c.parents.take j) y))) = t2 at pv2 ⊢
          have hm2 : t2 mb = some (.map (setA m)) := by rw [← hT, Store.set_ne _ _ pv.d.1]; exact hm1
          have hq2 : t2 qb = some (.map (setA (c.parents.take (j + 1)))) := by
           rw [← hT, Store.set_same, ← take_snoc hy]
           have : (c.parents.take j).contains y = false := by simp only [Bool.and_eq_true, Bool.not_eq_true'] at hn; exact hn.2
           rw [insS, this]; rfl
          have hi2 : t2 ib = some (.map []) := by rw [← hT, Store.set_ne _ _ (Ne.symm pv.d.2.2)]; exact hi1
          have hp := pv2.inv.hp
          have hmapk := pv2.inv.has k hk mk hhk hmk
          have hkm : hk ≠ mb := fun e => pv2.am.has (e ▸ List.mem_of_getElem? hhk)
          have hkel : (hs.map AV.map)[k]? = some (.map hk) := by rw [List.getElem?_map, hhk]; rfl
          repeat (first | (with_reducible first | apply CW.seq | apply aN) | refine CW.reg ?_ | refine RL.nil ?_ | refine wS rfl ?_ | refine RL.loadP tO rfl rfl rfl rfl rfl rfl (by assumption) rfl ?_ | refine RL.idx tO _ rfl rfl rfl rfl rfl rfl rfl rfl rfl rfl rfl (by assumption) rfl ?_)
          refine RL.op rfl rfl rfl (OW.rangeM tO rfl rfl rfl rfl hmapk (X := fun _ _ => False)) ?_ (fun _ _ h => False.elim h)
          rintro _ _ ⟨it, hit, hine, rfl, rfl⟩
          have hmset : t2.set mb (.map (setA m)) = t2 := Store.set_eq _ _ _ hm2
          have him : it ≠ mb := (ne_of_some hm2 hit).symm
          repeat (first | (with_reducible first | apply aN | apply CW.block) | refine RL.nil ?_)
          refine CW.loop (σ := List Str × Option (AV × AV) × List Str) (fun _ => [(0, .ptr pb 0), (2, .map nb), (3, .int .i64 (i : Int)), (4, .fptr c.cells 0), (5, .map mb), (6, .map qb), (7, .map ib), (30, .slc 4 (P.classes.map FClass.av) .fro), (31, .int .i64 (P.classes.map FClass.av).length), (32, .int .i64 (i : Int)), (52, .slc 1 (strs c.parents) .fro), (53, .int .i64 (strs c.parents).length), (54, .int .i64 (j : Int)), (79, .ptr it 0)])
           (fun q => ((t2.set mb (.map (setA q.2.2))).set hk (.ranged (setA mk) it (setA q.1) q.2.1)).set it (.tick hk)) (fun q => ∀ z, (z ∈ q.2.2 ∨ z ∈ q.1) ↔ z ∈ m ∨ z ∈ mk) (fun q => q.1.length) (mk, none, m) (fun z => Iff.rfl) ?_ ?_ ?_
          ·exact ⟨⟨_, rfl, aRfl⟩, ⟨_, rfl, aRfl⟩, ⟨_, rfl, aRfl⟩, ⟨_, rfl, aRfl⟩, ⟨_, rfl, aRfl⟩, ⟨_, rfl, aRfl⟩, ⟨_, rfl, aRfl⟩, ⟨_, rfl, aRfl⟩, ⟨_, rfl, aRfl⟩, ⟨_, rfl, aRfl⟩, ⟨_, rfl, aRfl⟩, ⟨_, rfl, aRfl⟩, ⟨_, rfl, aRfl⟩, ⟨_, rfl, aRfl⟩, trivial⟩
          ·show Store.Sub (((t2.set mb (.map (setA m))).set hk _).set it _) _
           rw [hmset]; exact sSub
          ·rintro ⟨lf, cur, mi⟩ hz
           simp only at hz
           repeat (first | with_reducible apply CW.seq | refine CW.reg ?_)
           refine RL.op rfl rfl rfl (OW.nextM (m := hk) (i := it) rfl rfl (by rw [Store.set_ne _ _ (Ne.symm hine)]; exact sSam) sSam (X := fun _ _ => False)) ?_ (fun _ _ h => False.elim h)
           rintro _ _ (⟨hlf, rfl, rfl⟩ | ⟨l₁, kk, v, l₂, hlf, rfl, rfl⟩)
           ·obtain rfl : lf = [] := by cases lf <;> simp_all [setA]
            refine RL.step tO rfl rfl rfl rfl (RL.nil ?_)
            repeat (first | (with_reducible first | apply CW.seq | apply aN | apply aX | apply iN | apply iH | apply CW.exit) | refine CW.condF rfl ?_)
            refine CW.unrange hk (i := it) (by rw [Store.set_ne _ _ (Ne.symm hine)]; exact sSam) ?_
            refine CW.drop (t2.set mb (.map (setA mi))) (fun z => ?_) ?_
            ·by_cases e1 : z = hk
             ·subst e1; left; rw [Store.set_same, Store.set_ne _ _ hkm]; exact hmapk
             ·rw [Store.set_ne _ _ e1]
              by_cases e2 : z = it
              ·subst e2; right; rw [Store.set_ne _ _ him]; exact hit
              ·left; rw [Store.set_ne _ _ e2, Store.set_ne _ _ e1]
            repeat (first | with_reducible apply aN | refine wR rfl ?_)
            refine ⟨(j + 1, t2.set mb (.map (setA mi)), mi), ⟨hlt, pv2.setM _, sSam, (Store.set_ne t2 _ (Ne.symm pv.d.1)).trans hq2, (Store.set_ne t2 _ (Ne.symm pv.d.2.1)).trans hi2, fun z => ?_, ?_⟩, ⟨⟨_, rfl, aRfl⟩, ⟨_, rfl, aRfl⟩, ⟨_, rfl, aRfl⟩, ⟨_, rfl, aRfl⟩, ⟨_, rfl, aRfl⟩, ⟨_, rfl, aRfl⟩, ⟨_, rfl, aRfl⟩, ⟨_, rfl, aRfl⟩, ⟨_, rfl, aRfl⟩, ⟨_, rfl, aRfl⟩, ⟨_, rfl, aRfl⟩, ⟨_, rfl, aRfl⟩, ⟨_, rfl, AVle.of_eq ?_⟩, trivial⟩, sSub, by show c.parents.length - (j + 1) < c.parents.length - j; omega⟩
            ·have h1 := hz z
             simp only [List.not_mem_nil, or_false] at h1
             rw [h1, hmem z, ← take_snoc hy]
             simp only [List.flatMap_append, List.mem_append, List.flatMap_cons, List.flatMap_nil, List.append_nil, hsl]
             rw [pv.inv.mem k mk lk hmk hlk z]
            ·rw [hA, okParent, hcn, hn, take_snoc hy]; rfl
            ·rw [i64_succ (by have := hcf.parents.len; omega)]
           ·obtain ⟨a, w, b, rfl, rfl, rfl, rfl, rfl⟩ := setA_split hlf
            repeat (first | (with_reducible first | apply CW.seq | apply aN | apply CW.skip | apply CW.block) | refine CW.reg ?_ | refine RL.nil ?_ | refine CW.condT rfl ?_ | refine wS rfl ?_)
            refine RL.op rfl rfl rfl (OW.entryM (m := hk) (i := it) rfl rfl sSam (X := fun _ _ => False)) ?_ (fun _ _ h => False.elim h)
            rintro _ _ ⟨rfl, rfl⟩
            repeat (first | with_reducible apply aN | refine CW.reg ?_ | refine RL.nil ?_ | refine wS rfl ?_)
            refine RL.mapUpdate tO rfl rfl (.inl rfl) rfl rfl rfl rfl rfl rfl (by rw [Store.set_ne _ _ (Ne.symm hkm), Store.set_ne _ _ (Ne.symm him), Store.set_ne _ _ (Ne.symm hkm)]; exact sSam) rfl (putA_set mi w) ?_
            repeat (first | (with_reducible first | apply aN | apply iN) | refine RL.nil ?_)
            refine ⟨(a ++ b, some (.str w, .bool true), insS mi w), fun z => ?_, ⟨⟨_, rfl, aRfl⟩, ⟨_, rfl, aRfl⟩, ⟨_, rfl, aRfl⟩, ⟨_, rfl, aRfl⟩, ⟨_, rfl, aRfl⟩, ⟨_, rfl, aRfl⟩, ⟨_, rfl, aRfl⟩, ⟨_, rfl, aRfl⟩, ⟨_, rfl, aRfl⟩, ⟨_, rfl, aRfl⟩, ⟨_, rfl, aRfl⟩, ⟨_, rfl, aRfl⟩, ⟨_, rfl, aRfl⟩, ⟨_, rfl, aRfl⟩, trivial⟩, ?_, by simp <;> omega⟩
            ·rw [← hz z]; simp only [mem_insS, List.mem_append, List.mem_cons]
             constructor
             ·rintro ((h | h) | (h | h)) <;> simp [h]
             ·rintro (h | (h | (h | h))) <;> simp [h]
            ·rw [setA_append]
             intro z
             left
             by_cases e1 : z = mb
             ·subst e1; rw [Store.set_same, Store.set_ne _ _ (Ne.symm him), Store.set_ne _ _ (Ne.symm hkm), Store.set_same]
             ·by_cases e2 : z = it
              ·subst e2; rw [Store.set_same, Store.set_ne _ _ e1, Store.set_ne _ _ hine, Store.set_same]
              ·by_cases e3 : z = hk
               ·subst e3; rw [Store.set_ne _ _ e2, Store.set_same, Store.set_ne _ _ e1, Store.set_same]
               ·rw [Store.set_ne _ _ e2, Store.set_ne _ _ e3, Store.set_ne _ _ e1, Store.set_ne _ _ e1, Store.set_ne _ _ e3, Store.set_ne _ _ e2, Store.set_ne _ _ e3, Store.set_ne _ _ e1]
         ·cases h
        ·rintro _ _ (⟨_, h, _⟩ | ⟨hn, ⟨⟩, rfl⟩)
         ·cases h
         ·repeat (with_reducible first | apply aP | apply iP)
          exact ⟨_, _, aRfl, sSub, pv.inv.fail (hbad (by rw [okParent, hcn, hn]; rfl))⟩
      ·have hge : c.parents.length ≤ j := by simpa using h
       rw [List.take_of_length_le hge] at hmem
       rw [List.drop_eq_nil_of_le hge] at hA
       have hAP : allPre (okParent st.names) [] c.parents = true := hA
       have pv0 : PInv P pb cb sb nb s t1 i { st with slots := st.slots ++ c.slots.take 0 } own hs ms mb qb ib := by
        rw [List.take_zero, List.append_nil]; exact pv
       clear hq1 hA
       repeat (first | (with_reducible first | apply CW.seq | apply aN | apply aX | apply iH | apply CW.exit | apply CW.block) | refine wR rfl ?_)
       refine CW.loop (σ := Nat × Store × List Str) (fun q => [(0, .ptr pb 0), (2, .map nb), (3, .int .i64 (i : Int)), (4, .fptr c.cells 0), (5, .map mb), (6, .map qb), (7, .map ib), (30, .slc 4 (P.classes.map FClass.av) .fro), (31, .int .i64 (P.classes.map FClass.av).length), (32, .int .i64 (i : Int)), (88, .slc 1 (strs c.slots) .fro), (89, .int .i64 (strs c.slots).length), (90, .int .i64 (q.1 : Int))]) (fun q => q.2.1)
        (fun q => q.1 ≤ c.slots.length ∧ PInv P pb cb sb nb s q.2.1 i { st with slots := st.slots ++ c.slots.take q.1 } own hs ms mb qb ib ∧ q.2.1 mb = some (.map (setA q.2.2)) ∧ q.2.1 ib = some (.map []) ∧
         (∀ z, z ∈ q.2.2 ↔ z ∈ c.parents.flatMap st.slotsOf ∨ z ∈ c.slots.take q.1) ∧ allPre (okSlot st.slots) [] c.slots = allPre (okSlot st.slots) (c.slots.take q.1) (c.slots.drop q.1)) (fun q => c.slots.length - q.1)
        (0, t1, m) ⟨by simp, pv0, hm1, hi1, fun z => by rw [hmem z]; simp, rfl⟩ ?_ sSub ?_
       ·exact ⟨⟨_, rfl, aRfl⟩, ⟨_, rfl, aRfl⟩, ⟨_, rfl, aRfl⟩, ⟨_, rfl, aRfl⟩, ⟨_, rfl, aRfl⟩, ⟨_, rfl, aRfl⟩, ⟨_, rfl, aRfl⟩, ⟨_, rfl, aRfl⟩, ⟨_, rfl, aRfl⟩, ⟨_, rfl, aRfl⟩, ⟨_, rfl, aRfl⟩, ⟨_, rfl, aRfl⟩, ⟨_, rfl, aRfl⟩, trivial⟩
       clear pv0 hmem hm1 hi1 pv hp hcb
       rintro ⟨j, t1, m⟩ ⟨hj, pv, hm1, hi1, hmem, hA⟩
       simp only at hj pv hm1 hi1 hmem hA ⊢
       have hp := pv.inv.hp
       repeat (first | (with_reducible first | apply CW.seq | apply aN) | refine wR rfl ?_)
       refine CW.cond rfl (fun h => ?_) (fun h => ?_)
       ·have hlt : j < c.slots.length := by simpa using h
        obtain ⟨y, hy⟩ : ∃ y, c.slots[j]? = some y := ⟨_, List.getElem?_eq_getElem hlt⟩
        have hy' : (strs c.slots)[j]? = some (.str y) := by rw [strs_get, hy]; rfl
        have hys := hcf.slots.sh y (List.mem_of_getElem? hy)
        rw [drop_cons hy, allPre_cons] at hA
        have hbad : okSlot st.slots (c.slots.take j) y = false → clsAll P.classes = none := fun h => classOk_false_of (l := []) hI (by rw [classOk, hA, h]; simp)
        repeat (first | (with_reducible first | apply CW.seq | apply aN | apply CW.skip | apply CW.block) | refine CW.reg ?_ | refine RL.nil ?_ | refine wS rfl ?_ | refine RL.loadP tO rfl rfl rfl rfl rfl rfl (by assumption) rfl ?_ | refine RL.idx tO _ rfl rfl rfl rfl rfl rfl rfl rfl rfl rfl rfl (by assumption) rfl ?_)
        refine RL.call rfl rfl rfl rfl rfl (one_spec y (st.slots ++ c.slots.take j) sb t1 pv.inv.hsl hys) ?_ ?_
        ·rintro _ _ (⟨hn, ⟨⟩, rfl⟩ | ⟨_, h, _⟩)
         ·have hins : insS (st.slots ++ c.slots.take j) y = st.slots ++ c.slots.take (j + 1) := by
           have : (st.slots ++ c.slots.take j).contains y = false := by simp only [Bool.and_eq_true, Bool.not_eq_true'] at hn; exact hn.2
           rw [insS, this, ← take_snoc hy]; simp
          rw [hins]
          have pv2 := pv.slot (st.slots ++ c.slots.take (j + 1))
          have hm2 : (t1.set sb (.map (setA (st.slots ++ c.slots.take (j + 1))))) mb = some (.map (setA m)) := (Store.set_ne _ _ pv.am.hsl).trans hm1
          have hi2 : (t1.set sb (.map (setA (st.slots ++ c.slots.take (j + 1))))) ib = some (.map []) := (Store.set_ne _ _ pv.ai.hsl).trans hi1
          generalize t1.set sb (.map (setA (st.slots ++ c.slots.take (j + 1)))) = t2 at pv2 hm2 hi2 ⊢
          repeat (first | with_reducible apply aN | refine CW.reg ?_ | refine RL.nil ?_ | refine wS rfl ?_)
          refine RL.mapUpdate tO rfl rfl (.inl rfl) rfl rfl rfl rfl rfl rfl hm2 rfl (putA_set m y) ?_
          repeat (first | (with_reducible first | apply aN | apply iN) | refine wR rfl ?_ | refine RL.nil ?_)
          refine ⟨(j + 1, t2.set mb (.map (setA (insS m y))), insS m y), ⟨hlt, pv2.setM _, sSam, (Store.set_ne t2 _ (Ne.symm pv.d.2.1)).trans hi2, fun z => ?_, ?_⟩, ⟨⟨_, rfl, aRfl⟩, ⟨_, rfl, aRfl⟩, ⟨_, rfl, aRfl⟩, ⟨_, rfl, aRfl⟩, ⟨_, rfl, aRfl⟩, ⟨_, rfl, aRfl⟩, ⟨_, rfl, aRfl⟩, ⟨_, rfl, aRfl⟩, ⟨_, rfl, aRfl⟩, ⟨_, rfl, aRfl⟩, ⟨_, rfl, aRfl⟩, ⟨_, rfl, aRfl⟩, ⟨_, rfl, AVle.of_eq ?_⟩, trivial⟩, sSub, by show c.slots.length - (j + 1) < c.slots.length - j; omega⟩
          ·rw [mem_insS, hmem z, ← take_snoc hy]; simp [or_assoc]
          ·rw [hA, okSlot, hn, take_snoc hy]; rfl
          ·rw [i64_succ (by have := hcf.slots.len; omega)]
         ·cases h
        ·rintro _ _ (⟨_, h, _⟩ | ⟨hn, ⟨⟩, rfl⟩)
         ·cases h
         ·repeat (with_reducible first | apply aP | apply iP)
          exact ⟨_, _, aRfl, sSub, pv.inv.fail (hbad (by rw [okSlot, hn]))⟩
       ·have hge : c.slots.length ≤ j := by simpa using h
        rw [List.take_of_length_le hge] at hmem pv
        rw [List.drop_eq_nil_of_le hge] at hA
        have hAS : allPre (okSlot st.slots) [] c.slots = true := hA
        have hmine : ∀ z, z ∈ m ↔ z ∈ st.mine c := fun z => by rw [hmem z, CSt.mine]; simp
        have hmineB : ∀ z, m.contains z = (st.mine c).contains z := fun z => by rw [Bool.eq_iff_iff]; simpa using hmine z
        repeat (first | (with_reducible first | apply CW.seq | apply aN | apply aX | apply iH | apply CW.exit | apply CW.block) | refine wR rfl ?_)
        refine CW.loop (σ := Nat × Store) (fun q => [(0, .ptr pb 0), (2, .map nb), (3, .int .i64 (i : Int)), (4, .fptr c.cells 0), (5, .map mb), (6, .map qb), (7, .map ib), (30, .slc 4 (P.classes.map FClass.av) .fro), (31, .int .i64 (P.classes.map FClass.av).length), (32, .int .i64 (i : Int)), (104, .slc 2 (c.inits.map FInit.av) .fro), (105, .int .i64 (c.inits.map FInit.av).length), (106, .int .i64 (q.1 : Int))]) (fun q => q.2)
         (fun q => q.1 ≤ c.inits.length ∧ PInv P pb cb sb nb s q.2 i { st with slots := st.slots ++ c.slots } own hs ms mb qb ib ∧ q.2 mb = some (.map (setA m)) ∧ q.2 ib = some (.map (setA ((c.inits.take q.1).map FInit.slot))) ∧
          allPre (okInit (st.mine c)) [] c.inits = allPre (okInit (st.mine c)) (c.inits.take q.1) (c.inits.drop q.1)) (fun q => c.inits.length - q.1)
         (0, t1) ⟨by simp, pv, hm1, hi1, rfl⟩ ?_ sSub ?_
        ·exact ⟨⟨_, rfl, aRfl⟩, ⟨_, rfl, aRfl⟩, ⟨_, rfl, aRfl⟩, ⟨_, rfl, aRfl⟩, ⟨_, rfl, aRfl⟩, ⟨_, rfl, aRfl⟩, ⟨_, rfl, aRfl⟩, ⟨_, rfl, aRfl⟩, ⟨_, rfl, aRfl⟩, ⟨_, rfl, aRfl⟩, ⟨_, rfl, aRfl⟩, ⟨_, rfl, aRfl⟩, ⟨_, rfl, aRfl⟩, trivial⟩
        clear hm1 hi1 pv hp hA hmem
        rintro ⟨j, t1⟩ ⟨hj, pv, hm1, hi1, hA⟩
        simp only at hj pv hm1 hi1 hA ⊢
        have hp := pv.inv.hp
        repeat (first | (with_reducible first | apply CW.seq | apply aN) | refine wR rfl ?_)
        refine CW.cond rfl (fun h => ?_) (fun h => ?_)
        ·have hlt : j < c.inits.length := by simpa using h
         obtain ⟨y, hy⟩ : ∃ y, c.inits[j]? = some y := ⟨_, List.getElem?_eq_getElem hlt⟩
         have hy' : (c.inits.map FInit.av)[j]? = some (.agg y.cells) := by rw [List.getElem?_map, hy]; rfl
         have hys := hcf.inits y (List.mem_of_getElem? hy)
         rw [drop_cons hy, allPre_cons] at hA
         have hbad : okInit (st.mine c) (c.inits.take j) y = false → clsAll P.classes = none := fun h => classOk_false_of (l := []) hI (by rw [classOk, hA, h]; simp)
         repeat (first | (with_reducible first | apply CW.seq | apply aN | apply CW.skip | apply CW.block) | refine CW.reg ?_ | refine wS rfl ?_ | refine RL.idx tO _ rfl rfl rfl rfl rfl rfl rfl rfl rfl rfl rfl (by assumption) rfl ?_)
         refine RL.newBox tO rfl rfl rfl rfl rfl rfl rfl (fun _ => rfl) rfl rfl (fun _ => rfl) rfl rfl rfl rfl ?_
         repeat (first | (with_reducible first | apply CW.seq | apply aN) | refine CW.reg ?_ | refine RL.nil ?_ | refine wS rfl ?_)
         refine RL.lookup tO rfl rfl rfl rfl rfl rfl rfl rfl rfl rfl hm1 rfl (getA_set m y.slot) rfl ?_
         rw [gotA_set, hmineB]
         cases hc1 : (st.mine c).contains y.slot with
         | true =>
          repeat (first | refine wS rfl ?_)
          refine RL.callP rfl rfl rfl rfl rfl (between_spec y.n _) ?_
          repeat (first | refine wS rfl ?_)
          refine needR rfl rfl rfl rfl rfl (fun h7 => ?_) (fun h7 => ?_)
          ·repeat (first | with_reducible apply aN | refine CW.reg ?_ | refine RL.nil ?_ | refine wS rfl ?_)
           refine RL.call rfl rfl rfl rfl rfl (one_spec y.slot ((c.inits.take j).map FInit.slot) ib t1 hi1 hys) ?_ ?_
           ·rintro _ _ (⟨hn, ⟨⟩, rfl⟩ | ⟨_, h, _⟩)
            ·have hins : insS ((c.inits.take j).map FInit.slot) y.slot = (c.inits.take (j + 1)).map FInit.slot := by
              have : ((c.inits.take j).map FInit.slot).contains y.slot = false := by simp only [Bool.and_eq_true, Bool.not_eq_true'] at hn; exact hn.2
              rw [insS, this, ← take_snoc hy]; simp
             rw [hins]
             repeat (first | (with_reducible first | apply aN | apply iN) | refine wR rfl ?_ | refine RL.nil ?_)
             refine ⟨(j + 1, t1.set ib (.map (setA ((c.inits.take (j + 1)).map FInit.slot)))), ⟨hlt, pv.setI _, (Store.set_ne t1 _ pv.d.2.1).trans hm1, sSam, ?_⟩, ⟨⟨_, rfl, aRfl⟩, ⟨_, rfl, aRfl⟩, ⟨_, rfl, aRfl⟩, ⟨_, rfl, aRfl⟩, ⟨_, rfl, aRfl⟩, ⟨_, rfl, aRfl⟩, ⟨_, rfl, aRfl⟩, ⟨_, rfl, aRfl⟩, ⟨_, rfl, aRfl⟩, ⟨_, rfl, aRfl⟩, ⟨_, rfl, aRfl⟩, ⟨_, rfl, aRfl⟩, ⟨_, rfl, AVle.of_eq ?_⟩, trivial⟩, sSub, by show c.inits.length - (j + 1) < c.inits.length - j; omega⟩
             ·rw [hA, okInit, hc1, h7, hn, take_snoc hy]; rfl
             ·rw [i64_succ (by have := hcf.ilen; omega)]
            ·cases h
           ·rintro _ _ (⟨_, h, _⟩ | ⟨hn, ⟨⟩, rfl⟩)
            ·cases h
            ·repeat (with_reducible first | apply aP | apply iP)
             exact ⟨_, _, aRfl, sSub, pv.inv.fail (hbad (by rw [okInit, hn]; simp))⟩
          ·repeat (with_reducible first | apply aP | apply iP)
           exact ⟨_, _, aRfl, sSub, pv.inv.fail (hbad (by rw [okInit, h7]; simp))⟩
         | false =>
          repeat (first | refine wS rfl ?_ | refine RL.skip rfl rfl rfl ?_)
          refine needR rfl rfl rfl rfl rfl (fun h7 => by cases h7) (fun h7 => ?_)
          repeat (with_reducible first | apply aP | apply iP)
          exact ⟨_, _, aRfl, sSub, pv.inv.fail (hbad (by rw [okInit, hc1]; simp))⟩
        ·have hge : c.inits.length ≤ j := by simpa using h
         rw [List.drop_eq_nil_of_le hge] at hA
         have hAI : allPre (okInit (st.mine c)) [] c.inits = true := hA
         clear hA
         repeat (first | (with_reducible first | apply CW.seq | apply aN | apply aX | apply iH | apply CW.exit) | refine CW.reg ?_ | refine wS rfl ?_)
         refine RL.call rfl rfl rfl rfl rfl (one_spec c.name st.names nb t1 pv.inv.hn hcf.name) ?_ ?_
         ·rintro _ _ (⟨hn, ⟨⟩, rfl⟩ | ⟨_, h, _⟩)
          ·have hnc : st.names.contains c.name = false := by simp only [Bool.and_eq_true, Bool.not_eq_true'] at hn; exact hn.2
           have hins : insS st.names c.name = st.names ++ [c.name] := by rw [insS, hnc]; rfl
           rw [hins]
           obtain ⟨d1, d2, d3, d4, d5, d6⟩ := pv.inv.d
           have hp2 : (t1.set nb (.map (setA (st.names ++ [c.name])))) pb = _ := (Store.set_ne _ _ d6).trans pv.inv.hp
           have hc2 : (t1.set nb (.map (setA (st.names ++ [c.name])))) cb = _ := (Store.set_ne _ _ d2).trans pv.inv.hc
           have hok : classOk st c = true := by
            rw [classOk, h5, hAP, hAS, hAI, hn]; rfl
           rw [clsRest, if_pos hok] at hI
           have hput := putA_class hnc
           rw [show st.names.length = i from pv.inv.nlen] at hput
           repeat (first | (with_reducible first | apply CW.seq | apply aN) | refine RL.nil ?_)
           refine CW.drw tO mixed rfl (RD.run rfl ?_)
           refine RD.one (i := 3) rfl rfl rfl rfl rfl (OW.loadP tO rfl rfl rfl hp2 rfl (X := fun _ _ => False)) ?_ (fun _ _ h => False.elim h)
           rintro _ _ ⟨rfl, rfl⟩
           refine RD.run rfl ?_
           refine RD.oneN (i := 7) rfl rfl rfl rfl (OW.mapUpdate tO (.inl rfl) rfl rfl rfl rfl rfl rfl hc2 rfl hput (X := fun _ _ => False)) ?_ (fun _ _ h => False.elim h)
           rintro _ _ rfl
           refine RD.run rfl (RD.done rfl ?_)
           have hp3 : ((t1.set nb (.map (setA (st.names ++ [c.name])))).set cb (.map (classA (st.names ++ [c.name])))) pb = _ := (Store.set_ne _ _ d4).trans hp2
           have hrow := pv.inv.rowNext (.map (setA (st.names ++ [c.name]))) (.map (classA (st.names ++ [c.name])))
           have hil := pv.inv.hlen
           repeat (first | with_reducible apply aN | refine CW.reg ?_ | refine wS rfl ?_ | refine RL.loadP tO rfl rfl rfl rfl rfl rfl (by assumption) rfl ?_)
           refine RL.append1 tO rfl rfl rfl rfl rfl rfl rfl (by intro k h; cases h) rfl rfl rfl rfl rfl rfl rfl (n := i) (by simp [hil]) (by show (i + 1) * 8 ≤ _; omega) (by omega) (rowBase_eq hrow) (rowBase_ok hrow) (fun b' hb' => ?_)
           have hp4 : (rowOf (rowBase ((t1.set nb (.map (setA (st.names ++ [c.name])))).set cb (.map (classA (st.names ++ [c.name])))) own) 76 1 (i + 1) (.own b')) pb = _ :=
            (Store.set_ne _ _ (ne_none hb' (rowBase_get hrow hp3 rfl)).symm).trans (rowBase_get hrow hp3 rfl)
           have nx := pv.inv.next c.name (st.mine c) m mb b' pv.am hm1 hmine hb'
           rw [show (hs ++ [mb]).map AV.map = hs.map AV.map ++ [.map mb] by simp] at nx
           repeat (first | refine wS rfl ?_)
           refine RL.storeP tO rfl rfl rfl rfl rfl rfl rfl rfl rfl hp4 rfl ?_
           repeat (first | (with_reducible first | apply aN | apply iN) | refine wR rfl ?_ | refine RL.nil ?_)
           refine ⟨(i + 1, _, st.next c, .own b', hs ++ [mb], ms ++ [m]), ⟨hlt, nx, hI⟩, ⟨⟨_, rfl, aRfl⟩, ⟨_, rfl, aRfl⟩, ⟨_, rfl, aRfl⟩, ⟨_, rfl, aRfl⟩, ⟨_, rfl, AVle.of_eq ?_⟩, trivial⟩, sSub, by show P.classes.length - (i + 1) < P.classes.length - i; omega⟩
           rw [i64_succ (by omega)]
          ·cases h
         ·rintro _ _ (⟨_, h, _⟩ | ⟨hn, ⟨⟩, rfl⟩)
          ·cases h
          ·repeat (with_reducible first | apply aP | apply iP)
           exact ⟨_, _, aRfl, sSub, pv.inv.fail (classOk_false_of (l := []) hI (by rw [classOk, hn]; simp))⟩
    ·repeat (with_reducible first | apply aP | apply iP)
     exact ⟨_, _, aRfl, sSub, inv.fail (classOk_false_of (l := []) hI (by simp [classOk, h5]))⟩
   ·have hge : P.classes.length ≤ i := by simpa using h
    rw [List.drop_eq_nil_of_le hge, clsRest] at hI
    repeat (first | (with_reducible first | apply aN | apply aX | apply iH | apply CW.exit) | refine CW.reg ?_ | refine wS rfl ?_ | refine RL.loadP tO rfl rfl rfl rfl rfl rfl (by assumption) rfl ?_)
    refine RL.storeP tO rfl rfl rfl rfl rfl rfl rfl rfl rfl hp rfl ?_
    repeat (first | refine RL.nil ?_)
    refine ⟨_, _, _, rfl, aRfl, sSub, ?_⟩
    obtain ⟨d1, d2, d3, d4, d5, d6⟩ := inv.d
    unfold ClsPost
    rw [hI]
    refine ⟨⟨rfl, (Store.set_ne _ _ d4.symm).trans inv.hc, (Store.set_ne _ _ d5.symm).trans inv.hsl, .slc 1 (hs.map .map) own, ?_⟩, fun x h1 h2 h3 h4 => (Store.set_ne _ _ h1).trans (inv.rest x h1 h2 h3 h4)⟩
    rw [Store.set_same]
    simp only [List.length_map]
    rfl
 ·have hn : clsAll P.classes = none := by
   have : ¬ P.classes.length ≤ 10 := by simp at h10; omega
   rw [clsAll, if_neg this]
  repeat (first | with_reducible apply aP)
  refine ⟨_, _, aRfl, sSub, ?_⟩
  unfold ClsPost
  rw [hn]
  exact ⟨⟨rfl, _, hp⟩, fun _ _ _ _ _ => rfl⟩
end Go.Proofs.YtaafacnoddjhgaaGreat

/- Contracts of the layer 'shape': an expression is formed, and speaks of what there is. -/
namespace Go.Proofs.YtaafacnoddjhgaaGreat
open Go.AE

section
variable {N : Nat} {l : List Oper} {Q : AEx → Env → Store → Prop} {env : Env} {s : Store} {m : Nat}
theorem needRD {i : Nat} {o : Oper} {d : Nat} {xa : Array Operand} {ats : Array TypeId} {c : Bool} (hr : readyL l.toArray m (idxs 0 l) = [i]) (ho : l.toArray[i]? = some o) (hd : o.dst = some d) (hN : Nat.blt d N = true)
  (hg : guardOf l.toArray (pickE env (looks l.toArray o)) o = some true) (hop : o.op = .call { callee := .value (.func 89), args := xa, argTypes := ats }) (ha : evs (pickE env (looks l.toArray o)) xa.toList = some [.bool c])
  (hk : c = true → RD Tryz.prog tys N l.toArray Q (dn (m ||| 2 ^ i)) ((d, .tup []) :: env) s) (hx : c = false → Q (.panic unf) [] s) : RD Tryz.prog tys N l.toArray Q (dn m) env s :=
 RD.one hr ho hd hN hg (OW.call hop (fv := .func 89 [] []) rfl ha (ACallV.of_calls (need_spec c s))) (fun x s' h => by
  obtain ⟨rfl, ⟨hc, h⟩ | ⟨hc, h⟩⟩ := h
  ·cases h; exact hk hc
  ·cases h) (fun x s' h => by
  obtain ⟨rfl, ⟨hc, h⟩ | ⟨hc, h⟩⟩ := h
  ·cases h
  ·cases h; exact hx hc)
end

def spokenE (names slots : List Str) (next : Bool) (g : FExp) : Bool :=
 if g.op == 4 || g.op == 7 then slots.contains g.text else if g.op == 6 || g.op == 8 then names.contains g.text else if g.op == 18 then next else true

def knownB (names slots : List Str) (cnt : Nat) (e : FExp) (params : List Str) (next : Bool) : Bool :=
 (lookB (.exp e) 120 && decide (cnt + e.size ≤ 120)) && (e.allE.all (spokenE names slots next) && e.frees.all params.contains)

def Counts (P : FProg) (pb cb sb : Nat) (has : AV) (s : Store) (ok : Bool) (n : Int) (o : AOut) (s' : Store) : Prop :=
 (ok = true ∧ o = .ret (.tup []) ∧ s' = s.set pb (.box 136 (progCells P cb has sb n))) ∨ (ok = false ∧ o = .panic unf ∧ ∃ k, s' = s.set pb (.box 136 (progCells P cb has sb k)))

set_option maxRecDepth 10000 in
set_option maxHeartbeats 4000000 in
theorem known_spec (P : FProg) (pb cb sb : Nat) (has : AV) (cnt : Nat) (names slots : List Str) (e : FExp) (params : List Str) (own : Own) (next : Bool) (s : Store) (hp : s pb = some (.box 136 (progCells P cb has sb cnt)))
    (hc : s cb = some (.map (classA names))) (hsb : s sb = some (.map (setA slots))) (he : e.Fair) (hcnt : cnt < big) (hpl : params.length < 9223372036854775807) :
    ACalls Tryz.prog 90 [.ptr pb 0, e.av, .slc 1 (strs params) own, .bool next] s (Counts P pb cb sb has s (knownB names slots cnt e params next) ((cnt + e.size : Nat) : Int)) := by
  have hb : big = 1099511627776 := rfl
  have hes := he.size
  have hpc : pb ≠ cb := fun e => by subst e; rw [hp] at hc; cases hc
  have hps : pb ≠ sb := fun e => by subst e; rw [hp] at hsb; cases hsb
  refine ACalls.of_CW tO call90 Tryz.func90 rfl rfl ?_
  repeat (first | (with_reducible first | apply CW.seq | apply aN) | refine wR rfl ?_)
  refine CW.drw tO mixed rfl (RD.run rfl ?_)
  refine' RD.loadCall (i := 3) (j := 7) (σ := Unit) (P1 := _) (fun _ => .int .i64 (e.size : Int)) (fun _ => s) (fun _ => lookB (.exp e) 120 = true) tO rfl rfl rfl rfl rfl rfl rfl rfl rfl rfl rfl rfl hp rfl rfl rfl rfl (OW.call rfl (fv := .func 80 [] []) rfl rfl (ACallV.of_calls (look_spec (.exp e) 120 s he.size he.short (by decide))))
    (fun y s' ⟨h1, h2⟩ => ⟨(), by rcases h2 with ⟨h, ⟨⟩⟩ | ⟨_, h⟩; exact ⟨h, rfl, h1⟩; cases h⟩) ?A ?B ?C ?D
  case A => intro _ _ hP; exact hP
  case B =>
    intro _ _ hP
    refine RD.one (i := 3) rfl rfl rfl rfl rfl (OW.loadP tO rfl rfl rfl hp rfl (X := fun _ _ => False)) ?_ (fun _ _ h => False.elim h)
    rintro _ _ ⟨rfl, rfl⟩
    exact RD.congr _ (get_swap _ _ _ rfl) hP
  case D =>
    rintro _ _ ⟨rfl, ⟨_, h⟩ | ⟨hl, ⟨⟩⟩⟩
    · cases h
    · repeat (first | with_reducible apply aP)
      exact ⟨_, _, aRfl, sSub, .inr ⟨by rw [knownB, hl]; rfl, rfl, cnt, (Store.set_eq _ _ _ hp).symm⟩⟩
  case C =>
    intro _ hlook
    refine RD.run rfl ?_
    refine RD.oneN (i := 11) rfl rfl rfl rfl (OW.storeP tO rfl rfl rfl rfl rfl rfl rfl hp rfl (X := fun _ _ => False)) ?_ (fun _ _ h => False.elim h)
    rintro _ _ rfl
    refine RD.run rfl (RD.done rfl ?_)
    have hwrap : IntKind.wrap .i64 ((cnt : Int) + (e.size : Int)) = ((cnt + e.size : Nat) : Int) := by rw [i64_wrap (by omega) (by omega)]; omega
    have hset : (setL (0 + 9) [AV.int .i64 (IntKind.wrap .i64 ((cnt : Int) + (e.size : Int)))] (progCells P cb has sb (cnt : Int))) = progCells P cb has sb ((cnt + e.size : Nat) : Int) := by rw [hwrap]; rfl
    rw [hset]
    have hp1 := Store.set_same s pb (.box 136 (progCells P cb has sb ((cnt + e.size : Nat) : Int)))
    have hc1 : (s.set pb (.box 136 (progCells P cb has sb ((cnt + e.size : Nat) : Int)))) cb = _ := (Store.set_ne _ _ hpc.symm).trans hc
    have hs1 : (s.set pb (.box 136 (progCells P cb has sb ((cnt + e.size : Nat) : Int)))) sb = _ := (Store.set_ne _ _ hps.symm).trans hsb
    have hfail : (decide (cnt + e.size ≤ 120)) = false ∨ e.allE.all (spokenE names slots next) = false ∨ e.frees.all params.contains = false → Counts P pb cb sb has s (knownB names slots cnt e params next) ((cnt + e.size : Nat) : Int) (.panic unf) (s.set pb (.box 136 (progCells P cb has sb ((cnt + e.size : Nat) : Int)))) :=
      fun h => .inr ⟨by rw [knownB]; rcases h with h | h | h <;> rw [h] <;> simp, rfl, _, rfl⟩
    generalize hT : s.set pb (.box 136 (progCells P cb has sb ((cnt + e.size : Nat) : Int))) = t at hp1 hc1 hs1 hfail ⊢
    repeat (first | (with_reducible first | apply CW.seq | apply aN) | refine CW.reg ?_ | refine wS rfl ?_ | refine RL.loadP tO rfl rfl rfl rfl rfl rfl (by assumption) rfl ?_)
    refine needR rfl rfl rfl rfl rfl (fun h120 => ?_) (fun h120 => ?_)
    · have h120' : decide (cnt + e.size ≤ 120) = true := by simp at h120 ⊢; omega
      repeat (first | (with_reducible first | apply CW.seq | apply aN) | refine CW.reg ?_ | refine RL.nil ?_ | refine wS rfl ?_)
      refine RL.callP rfl rfl rfl rfl rfl (all_spec e _) ?_
      repeat (first | (with_reducible first | apply aN | apply CW.block) | refine RL.nil ?_)
      refine CW.rangeAll e rfl rfl he.size (fun rem s₁ => s₁ = t ∧ e.allE.all (spokenE names slots next) = rem.all (spokenE names slots next)) (fun _ _ => False) (fun v s₁ => v = unf ∧ s₁ = t ∧ e.allE.all (spokenE names slots next) = false) ⟨rfl, rfl⟩ ?_ ?_ (fun _ _ h => h.elim) ?_
      · rintro g rem s₁ hg ⟨rfl, hA⟩
        rw [List.all_cons] at hA
        have hbad : spokenE names slots next g = false → e.allE.all (spokenE names slots next) = false := fun h => by rw [hA, h]; rfl
        have hgood : spokenE names slots next g = true → e.allE.all (spokenE names slots next) = rem.all (spokenE names slots next) := fun h => by rw [hA, h]; rfl
        repeat (first | refine CW.reg ?_)
        refine RL.newBox tO rfl rfl rfl rfl rfl rfl rfl (fun _ => rfl) rfl rfl (fun _ => rfl) rfl rfl rfl rfl ?_
        repeat (first | (with_reducible first | apply CW.seq | apply aN | apply CW.block) | refine wR rfl ?_ | refine RL.nil ?_)
        cases h4 : (g.op == 4) with
        | true =>
          repeat (first | (with_reducible first | apply aN | apply CW.skip) | refine CW.condT rfl ?_)
          refine CW.drw tO mixed rfl (RD.run rfl ?_)
          refine RD.one (i := 3) rfl rfl rfl rfl rfl (OW.loadP tO rfl rfl rfl hp1 rfl (X := fun _ _ => False)) ?_ (fun _ _ h => False.elim h)
          rintro _ _ ⟨rfl, rfl⟩
          refine RD.run rfl ?_
          refine RD.one (i := 6) rfl rfl rfl rfl rfl (OW.lookup tO rfl rfl rfl rfl rfl rfl rfl (.inl ⟨sb, rfl, hs1⟩) rfl (getA_set slots g.text) rfl (X := fun _ _ => False)) ?_ (fun _ _ h => False.elim h)
          rintro z _ ⟨hz, rfl⟩
          refine RD_step _ _ (hz.trans (gotA_set _ _)) ?_
          refine RD.run rfl ?_
          refine needRD (i := 7) rfl rfl rfl rfl rfl rfl rfl (fun h7 => ?_) (fun h7 => ?_)
          · refine RD.run rfl (RD.done rfl ?_)
            repeat (first | with_reducible apply iN)
            exact ⟨rfl, hgood (by simp_all [spokenE])⟩
          · repeat (first | with_reducible apply iP)
            exact ⟨rfl, rfl, hbad (by simp_all [spokenE])⟩
        | false =>
          repeat (first | with_reducible apply aN | refine wR rfl ?_ | refine CW.condF rfl ?_)
          cases h7 : (g.op == 7) with
          | true =>
            repeat (first | refine CW.condT rfl ?_)
            refine CW.drw tO mixed rfl (RD.run rfl ?_)
            refine RD.one (i := 3) rfl rfl rfl rfl rfl (OW.loadP tO rfl rfl rfl hp1 rfl (X := fun _ _ => False)) ?_ (fun _ _ h => False.elim h)
            rintro _ _ ⟨rfl, rfl⟩
            refine RD.run rfl ?_
            refine RD.one (i := 6) rfl rfl rfl rfl rfl (OW.lookup tO rfl rfl rfl rfl rfl rfl rfl (.inl ⟨sb, rfl, hs1⟩) rfl (getA_set slots g.text) rfl (X := fun _ _ => False)) ?_ (fun _ _ h => False.elim h)
            rintro z _ ⟨hz, rfl⟩
            refine RD_step _ _ (hz.trans (gotA_set _ _)) ?_
            refine RD.run rfl ?_
            refine needRD (i := 7) rfl rfl rfl rfl rfl rfl rfl (fun h7 => ?_) (fun h7 => ?_)
            · refine RD.run rfl (RD.done rfl ?_)
              repeat (first | with_reducible apply iN)
              exact ⟨rfl, hgood (by simp_all [spokenE])⟩
            · repeat (first | with_reducible apply iP)
              exact ⟨rfl, rfl, hbad (by simp_all [spokenE])⟩
          | false =>
            repeat (first | (with_reducible first | apply CW.seq | apply aN) | refine wR rfl ?_ | refine CW.condF rfl ?_)
            cases h6 : (g.op == 6) with
            | true =>
              repeat (first | (with_reducible first | apply CW.seq | apply aN | apply CW.skip) | refine CW.condT rfl ?_)
              refine CW.drw tO mixed rfl (RD.run rfl ?_)
              refine RD.one (i := 3) rfl rfl rfl rfl rfl (OW.loadP tO rfl rfl rfl hp1 rfl (X := fun _ _ => False)) ?_ (fun _ _ h => False.elim h)
              rintro _ _ ⟨rfl, rfl⟩
              refine RD.run rfl ?_
              refine RD.one (i := 6) rfl rfl rfl rfl rfl (OW.lookup tO rfl rfl rfl rfl rfl rfl rfl (.inl ⟨cb, rfl, hc1⟩) rfl (getA_class names g.text) rfl (X := fun _ _ => False)) ?_ (fun _ _ h => False.elim h)
              rintro z _ ⟨hz, rfl⟩
              refine RD_step _ _ (hz.trans (gotA_class _ _)) ?_
              refine RD.run rfl (RD.done rfl ?_)
              repeat (first | with_reducible apply aN | refine CW.reg ?_ | refine wS rfl ?_)
              refine needR rfl rfl rfl rfl rfl (fun h7 => ?_) (fun h7 => ?_)
              · repeat (first | with_reducible apply iN | refine RL.nil ?_)
                exact ⟨rfl, hgood (by simp_all [spokenE])⟩
              · repeat (first | with_reducible apply iP)
                exact ⟨rfl, rfl, hbad (by simp_all [spokenE])⟩
            | false =>
              repeat (first | with_reducible apply aN | refine wR rfl ?_ | refine CW.condF rfl ?_)
              cases h8 : (g.op == 8) with
              | true =>
                repeat (first | with_reducible apply CW.seq | refine CW.condT rfl ?_)
                refine CW.drw tO mixed rfl (RD.run rfl ?_)
                refine RD.one (i := 3) rfl rfl rfl rfl rfl (OW.loadP tO rfl rfl rfl hp1 rfl (X := fun _ _ => False)) ?_ (fun _ _ h => False.elim h)
                rintro _ _ ⟨rfl, rfl⟩
                refine RD.run rfl ?_
                refine RD.one (i := 6) rfl rfl rfl rfl rfl (OW.lookup tO rfl rfl rfl rfl rfl rfl rfl (.inl ⟨cb, rfl, hc1⟩) rfl (getA_class names g.text) rfl (X := fun _ _ => False)) ?_ (fun _ _ h => False.elim h)
                rintro z _ ⟨hz, rfl⟩
                refine RD_step _ _ (hz.trans (gotA_class _ _)) ?_
                refine RD.run rfl (RD.done rfl ?_)
                repeat (first | with_reducible apply aN | refine CW.reg ?_ | refine wS rfl ?_)
                refine needR rfl rfl rfl rfl rfl (fun h7 => ?_) (fun h7 => ?_)
                · repeat (first | with_reducible apply iN | refine RL.nil ?_)
                  exact ⟨rfl, hgood (by simp_all [spokenE])⟩
                · repeat (first | with_reducible apply iP)
                  exact ⟨rfl, rfl, hbad (by simp_all [spokenE])⟩
              | false =>
                repeat (first | (with_reducible first | apply CW.seq | apply aN) | refine wR rfl ?_ | refine CW.condF rfl ?_)
                cases h18 : (g.op == 18) with
                | true =>
                  repeat (first | refine CW.reg ?_ | refine CW.condT rfl ?_ | refine wS rfl ?_)
                  refine needR rfl rfl rfl rfl rfl (fun hn => ?_) (fun hn => ?_)
                  · repeat (first | with_reducible apply iN | refine RL.nil ?_)
                    exact ⟨rfl, hgood (by simp_all [spokenE])⟩
                  · repeat (first | with_reducible apply iP)
                    exact ⟨rfl, rfl, hbad (by simp_all [spokenE])⟩
                | false =>
                  repeat (first | (with_reducible first | apply iN | apply CW.skip) | refine CW.condF rfl ?_)
                  exact ⟨rfl, hgood (by simp_all [spokenE])⟩
      · rintro s₁ ⟨rfl, hA⟩
        have hA' : e.allE.all (spokenE names slots next) = true := hA
        repeat (first | (with_reducible first | apply CW.seq | apply aN | apply iN) | refine CW.reg ?_ | refine wS rfl ?_)
        refine RL.call rfl rfl rfl rfl rfl (freeOf_spec e _ (by omega)) ?_ (fun _ _ ⟨_, _, h, _⟩ => by cases h)
        rintro _ _ ⟨b, hb, ⟨⟩, rfl⟩
        refine RL.op rfl rfl rfl (OW.rangeM tO rfl rfl rfl rfl sSam (X := fun _ _ => False)) ?_ (fun _ _ h => False.elim h)
        rintro _ _ ⟨it, hit, hne, rfl, rfl⟩
        rw [Store.set_set]
        have hit' : s₁ it = none := (Store.set_none hit).2
        repeat (first | (with_reducible first | apply aN | apply CW.block) | refine RL.nil ?_)
        refine CW.loop (σ := List Str × Option (AV × AV)) (fun _ => [(2, .slc 1 (strs params) own), (66, .ptr it 0)]) (fun q => (s₁.set b (.ranged (setA e.frees) it (setA q.1) q.2)).set it (.tick b))
          (fun q => e.frees.all params.contains = q.1.all params.contains) (fun q => q.1.length) (e.frees, none) rfl ?_ sSub ?_
        · exact ⟨⟨_, rfl, aRfl⟩, ⟨_, rfl, aRfl⟩, trivial⟩
        · rintro ⟨lf, cur⟩ hF
          simp only at hF
          have hsub : ∀ o o', Store.Sub s₁ ((s₁.set b o).set it o') := fun o o' => Store.subSet (Store.subSet sSub hb) hit'
          repeat (first | with_reducible apply CW.seq | refine CW.reg ?_)
          refine RL.op rfl rfl rfl (OW.nextM (m := b) (i := it) rfl rfl (by rw [Store.set_ne _ _ (Ne.symm hne)]; exact sSam) sSam (X := fun _ _ => False)) ?_ (fun _ _ h => False.elim h)
          rintro _ _ (⟨hlf, rfl, rfl⟩ | ⟨l₁, kk, v, l₂, hlf, rfl, rfl⟩)
          · obtain rfl : lf = [] := by cases lf <;> simp_all [setA]
            repeat (first | (with_reducible first | apply CW.seq | apply aN | apply aX | apply iH | apply CW.exit) | refine RL.nil ?_ | refine CW.condF rfl ?_ | refine wS rfl ?_)
            exact ⟨_, _, s₁, rfl, aRfl, hsub _ _, .inl ⟨by rw [knownB, hlook, h120', hA', hF]; rfl, rfl, hT.symm⟩⟩
          · obtain ⟨a, w, b', rfl, rfl, rfl, rfl, rfl⟩ := setA_split hlf
            repeat (first | (with_reducible first | apply CW.seq | apply aN | apply CW.skip | apply CW.block) | refine CW.reg ?_ | refine RL.nil ?_ | refine CW.condT rfl ?_ | refine wS rfl ?_)
            refine RL.op rfl rfl rfl (OW.entryM (m := b) (i := it) rfl rfl sSam (X := fun _ _ => False)) ?_ (fun _ _ h => False.elim h)
            rintro _ _ ⟨rfl, rfl⟩
            repeat (first | with_reducible apply aN | refine CW.reg ?_ | refine RL.nil ?_ | refine wS rfl ?_)
            refine RL.callP rfl rfl rfl rfl rfl (contains1_spec params own w _ hpl) ?_
            skip
            have hF2 : e.frees.all params.contains = (params.contains w && (a ++ b').all params.contains) := by
              rw [hF]; simp only [List.all_append, List.all_cons]; rw [← Bool.and_assoc, Bool.and_comm (a.all _), Bool.and_assoc]
            refine needR rfl rfl rfl rfl rfl (fun hw => ?_) (fun hw => ?_)
            · repeat (first | (with_reducible first | apply aN | apply iN) | refine RL.nil ?_)
              refine ⟨(a ++ b', some (.str w, .bool true)), by rw [hF2, hw]; rfl, ⟨⟨_, rfl, aRfl⟩, ⟨_, rfl, aRfl⟩, trivial⟩, ?_, by simp <;> omega⟩
              rw [setA_append]
              intro z
              left
              by_cases e1 : z = b
              · subst e1; rw [Store.set_ne _ _ (Ne.symm hne), Store.set_same, Store.set_same]
              · by_cases e2 : z = it
                · subst e2; rw [Store.set_same, Store.set_ne _ _ e1, Store.set_same]
                · rw [Store.set_ne _ _ e2, Store.set_ne _ _ e1, Store.set_ne _ _ e1, Store.set_ne _ _ e2, Store.set_ne _ _ e1]
            · repeat (with_reducible first | apply aP | apply iP)
              refine ⟨_, s₁, aRfl, ?_, hfail (.inr (.inr (by rw [hF2, hw]; rfl)))⟩
              intro z
              by_cases e1 : z = b
              · subst e1; exact .inr hb
              · rw [Store.set_ne _ _ e1]; exact hsub _ _ z
      · rintro v s₁ ⟨rfl, rfl, hA⟩
        repeat (with_reducible first | apply aP | apply iP)
        exact ⟨_, _, aRfl, sSub, hfail (.inr (.inl hA))⟩
    · have h120' : decide (cnt + e.size ≤ 120) = false := by simp at h120 ⊢; omega
      repeat (first | with_reducible apply aP)
      exact ⟨_, _, aRfl, sSub, hfail (.inl h120')⟩
end Go.Proofs.YtaafacnoddjhgaaGreat

/- Contracts of the layer 'shape': a fact is formed for some parameters. -/
namespace Go.Proofs.YtaafacnoddjhgaaGreat
open Go.AE

def spokenF (names slots params : List Str) : Part → Bool
 | .exp _ => true
 | .fact f => (f.name == [] || params.contains f.name) && (f.path.all slots.contains && ((((names.contains f.cls || f.cls == []) || f.cls == anyS) || f.cls == intS) || f.cls == noneS))

def factB (names slots : List Str) (cnt : Nat) (f : FFact) (params : List Str) : Bool :=
 (lookB (.fact f) 120 && decide (cnt + f.size ≤ 120)) && ((Part.fact f).nodes 1).all fun x => spokenF names slots params x.2

set_option maxRecDepth 10000 in
theorem fact1_spec (P : FProg) (pb cb sb : Nat) (has : AV) (cnt : Int) (slots : List Str) (x : Str) (s : Store) (hp : s pb = some (.box 136 (progCells P cb has sb cnt))) (hsb : s sb = some (.map (setA slots))) :
  ACalls Tryz.prog 132 [.str x, .fptr [.ptr pb 0] 0] s (fun o s' => o = .ret (.bool (slots.contains x)) ∧ s' = s) := by
 refine ACalls.of_CW tO call132 Tryz.func132 rfl rfl ?_
 repeat (first | (with_reducible first | apply CW.seq | apply aN) | refine wR rfl ?_ | refine CW.reg ?_ | refine wS rfl ?_ | refine RL.loadP tO rfl rfl rfl rfl rfl rfl (by assumption) rfl ?_)
 refine RL.lookup tO rfl rfl rfl rfl rfl rfl rfl rfl rfl rfl hsb rfl (getA_set slots x) rfl ?_
 rw [gotA_set]
 repeat (first | (with_reducible first | apply aN | apply CW.ret) | refine RL.nil ?_ | refine wS rfl ?_)
 exact ⟨_, _, _, rfl, aRfl, sSub, rfl, rfl⟩

def SaysAt (fv : AV) (f : Str → Bool) (l : List Str) (s : Store) : Prop := ∀ x ∈ l, ACallV Tryz.prog fv [.str x] s (fun o s' => o = .ret (.bool (f x)) ∧ s' = s)

set_option maxRecDepth 10000 in
theorem indexFuncAt_spec (l : List Str) (own : Own) (fv : AV) (f : Str → Bool) (s : Store) (hl : l.length < 9223372036854775807) (hc : cellsOf fv = some [fv]) (hf : SaysAt fv f l s) :
  ACalls Tryz.prog 151 [.slc 1 (strs l) own, fv] s (fun o s' => o = .ret (.int .i64 (idxBy f l 0)) ∧ s' = s) := by
 refine ACalls.of_CW tO call151 Tryz.func151 rfl rfl ?_
 repeat (first | (with_reducible first | apply CW.seq | apply aN | apply CW.block) | refine wR rfl ?_)
 refine CW.loop (σ := Nat) (fun j => [(0, .slc 1 (strs l) own), (1, fv), (7, .int .i64 (strs l).length), (8, .int .i64 (j : Int))]) (fun _ => s) (fun j => j ≤ l.length ∧ idxBy f l 0 = idxBy f l j) (fun j => l.length - j) 0 ⟨by omega, rfl⟩ ?_ sSub ?_
 ·exact ⟨⟨_, rfl, aRfl⟩, ⟨_, rfl, aRfl⟩, ⟨_, rfl, aRfl⟩, ⟨_, rfl, aRfl⟩, trivial⟩
 ·rintro j ⟨hj, hI⟩
  repeat (first | (with_reducible first | apply CW.seq | apply aN) | refine wR rfl ?_)
  refine CW.cond rfl (fun h => ?_) (fun h => ?_)
  ·have hlt : j < l.length := by simpa using h
   obtain ⟨y, hy⟩ : ∃ y, l[j]? = some y := ⟨_, List.getElem?_eq_getElem hlt⟩
   have hy' : (strs l)[j]? = some (.str y) := by rw [strs_get, hy]; rfl
   repeat (first | (with_reducible first | apply CW.seq | apply aN | apply CW.skip | apply CW.block) | refine wR rfl ?_ | refine CW.reg ?_ | refine wS rfl ?_ | refine RL.idx tO _ rfl rfl rfl rfl rfl rfl rfl rfl rfl rfl rfl (by assumption) rfl ?_)
   refine RL.callV rfl rfl rfl rfl rfl rfl (hf y (List.mem_of_getElem? hy)) ?_ (fun _ _ ⟨h, _⟩ => by cases h)
   rintro x s' ⟨⟨⟩, rfl⟩
   cases hfy : f y with
   | true =>
    repeat (first | (with_reducible first | apply CW.seq | apply aN | apply aR | apply iR | apply CW.ret) | refine wR rfl ?_ | refine RL.nil ?_ | refine CW.condT rfl ?_)
    exact ⟨_, _, _, rfl, aRfl, sSub, by rw [hI, idxBy_hit hy hfy], rfl⟩
   | false =>
    repeat (first | (with_reducible first | apply aN | apply iN | apply CW.skip) | refine wR rfl ?_ | refine RL.nil ?_ | refine CW.condF rfl ?_)
    refine ⟨j + 1, ⟨hlt, ?_⟩, ⟨⟨_, rfl, aRfl⟩, ⟨_, rfl, aRfl⟩, ⟨_, rfl, aRfl⟩, ⟨_, rfl, AVle.of_eq ?_⟩, trivial⟩, sSub, by omega⟩
    ·rw [hI, idxBy_miss hy hfy]
    ·rw [i64_succ (by omega)]
  ·repeat (first | (with_reducible first | apply CW.seq | apply aN | apply aX | apply iH | apply CW.ret | apply CW.exit) | refine wR rfl ?_)
   refine ⟨_, _, _, rfl, aRfl, sSub, ?_, rfl⟩
   have : l.length ≤ j := by simpa using h
   rw [hI, idxBy_end this]

set_option maxRecDepth 10000 in
theorem everyAt_spec (l : List Str) (own : Own) (g : FuncId) (cap : List AV) (f : Str → Bool) (s : Store) (hl : l.length < 9223372036854775807) (hf : SaysAt (.func g [] cap) f l s) :
  ACalls Tryz.prog 131 [.slc 1 (strs l) own, .func g [] cap] s (fun o s' => o = .ret (.bool (l.all f)) ∧ s' = s) := by
 refine ACalls.of_CW tO call131 Tryz.func131 rfl rfl ?_
 repeat (first | (with_reducible first | apply CW.seq | apply aN) | refine wR rfl ?_ | refine CW.reg ?_ | refine wS rfl ?_)
 have hcf : ACalls Tryz.prog 148 [.slc 1 (strs l) own, .func 149 [] [.fptr [.func g [] cap] 0]] s (fun o s' => o = .ret (.bool (l.any fun x => !f x)) ∧ s' = s) := by
  refine ACalls.of_CW tO call148 Tryz.func148 rfl rfl ?_
  repeat (first | (with_reducible first | apply CW.seq | apply aN) | refine wR rfl ?_ | refine CW.reg ?_ | refine wS rfl ?_)
  refine RL.callP rfl rfl rfl rfl rfl (indexFuncAt_spec l own _ (fun x => !f x) s hl rfl (fun x hx => ACallV.of_calls ?_)) ?_
  ·refine ACalls.of_CW tO call149 Tryz.func149 rfl rfl ?_
   repeat (first | (with_reducible first | apply CW.seq | apply aN) | refine wR rfl ?_ | refine CW.reg ?_ | refine wS rfl ?_)
   refine RL.callV rfl rfl rfl rfl rfl rfl (hf x hx) ?_ (fun _ _ ⟨h, _⟩ => by cases h)
   rintro _ _ ⟨⟨⟩, rfl⟩
   repeat (first | (with_reducible first | apply aN | apply CW.ret) | refine RL.nil ?_ | refine wS rfl ?_)
   exact ⟨_, _, _, rfl, aRfl, sSub, rfl, rfl⟩
  repeat (first | (with_reducible first | apply aN | apply CW.ret) | refine RL.nil ?_ | refine wS rfl ?_)
  exact ⟨_, _, _, rfl, aRfl, sSub, by rw [idxBy_any], rfl⟩
 refine RL.callP rfl rfl rfl rfl rfl hcf ?_
 repeat (first | (with_reducible first | apply aN | apply CW.ret) | refine RL.nil ?_ | refine wS rfl ?_)
 refine ⟨_, _, _, rfl, aRfl, sSub, ?_, rfl⟩
 rw [List.any_eq_not_all_not]; simp

set_option maxRecDepth 10000 in
set_option maxHeartbeats 4000000 in
theorem fact_spec (P : FProg) (pb cb sb : Nat) (has : AV) (cnt : Nat) (names slots : List Str) (f : FFact) (params : List Str) (own : Own) (s : Store) (hp : s pb = some (.box 136 (progCells P cb has sb cnt)))
    (hc : s cb = some (.map (classA names))) (hsb : s sb = some (.map (setA slots))) (hf : f.Fair) (hcnt : cnt < big) (hpl : params.length < 9223372036854775807) :
    ACalls Tryz.prog 92 [.ptr pb 0, f.av, .slc 1 (strs params) own] s (Counts P pb cb sb has s (factB names slots cnt f params) ((cnt + f.size : Nat) : Int)) := by
  have hb : big = 1099511627776 := rfl
  have hes := hf.size
  have hpc : pb ≠ cb := fun e => by subst e; rw [hp] at hc; cases hc
  have hps : pb ≠ sb := fun e => by subst e; rw [hp] at hsb; cases hsb
  refine ACalls.of_CW tO call92 Tryz.func92 rfl rfl ?_
  repeat (first | (with_reducible first | apply CW.seq | apply aN) | refine wR rfl ?_)
  refine CW.drw tO mixed rfl (RD.run rfl ?_)
  refine' RD.loadCall (i := 3) (j := 7) (σ := Unit) (P1 := _) (fun _ => .int .i64 (f.size : Int)) (fun _ => s) (fun _ => lookB (.fact f) 120 = true) tO rfl rfl rfl rfl rfl rfl rfl rfl rfl rfl rfl rfl hp rfl rfl rfl rfl (OW.call rfl (fv := .func 80 [] []) rfl rfl (ACallV.of_calls (look_spec (.fact f) 120 s hf.size hf.short (by decide))))
    (fun y s' ⟨h1, h2⟩ => ⟨(), by rcases h2 with ⟨h, ⟨⟩⟩ | ⟨_, h⟩; exact ⟨h, rfl, h1⟩; cases h⟩) ?A ?B ?C ?D
  case A => intro _ _ hP; exact hP
  case B =>
    intro _ _ hP
    refine RD.one (i := 3) rfl rfl rfl rfl rfl (OW.loadP tO rfl rfl rfl hp rfl (X := fun _ _ => False)) ?_ (fun _ _ h => False.elim h)
    rintro _ _ ⟨rfl, rfl⟩
    exact RD.congr _ (get_swap _ _ _ rfl) hP
  case D =>
    rintro _ _ ⟨rfl, ⟨_, h⟩ | ⟨hl, ⟨⟩⟩⟩
    · cases h
    · repeat (first | with_reducible apply aP)
      exact ⟨_, _, aRfl, sSub, .inr ⟨by rw [factB, hl]; rfl, rfl, cnt, (Store.set_eq _ _ _ hp).symm⟩⟩
  case C =>
    intro _ hlook
    refine RD.run rfl ?_
    refine RD.oneN (i := 11) rfl rfl rfl rfl (OW.storeP tO rfl rfl rfl rfl rfl rfl rfl hp rfl (X := fun _ _ => False)) ?_ (fun _ _ h => False.elim h)
    rintro _ _ rfl
    refine RD.run rfl (RD.done rfl ?_)
    have hwrap : IntKind.wrap .i64 ((cnt : Int) + (f.size : Int)) = ((cnt + f.size : Nat) : Int) := by rw [i64_wrap (by omega) (by omega)]; omega
    have hset : (setL (0 + 9) [AV.int .i64 (IntKind.wrap .i64 ((cnt : Int) + (f.size : Int)))] (progCells P cb has sb (cnt : Int))) = progCells P cb has sb ((cnt + f.size : Nat) : Int) := by rw [hwrap]; rfl
    rw [hset]
    have hp1 := Store.set_same s pb (.box 136 (progCells P cb has sb ((cnt + f.size : Nat) : Int)))
    have hc1 : (s.set pb (.box 136 (progCells P cb has sb ((cnt + f.size : Nat) : Int)))) cb = _ := (Store.set_ne _ _ hpc.symm).trans hc
    have hs1 : (s.set pb (.box 136 (progCells P cb has sb ((cnt + f.size : Nat) : Int)))) sb = _ := (Store.set_ne _ _ hps.symm).trans hsb
    have hfail : (decide (cnt + f.size ≤ 120)) = false ∨ (((Part.fact f).nodes 1).all fun x => spokenF names slots params x.2) = false → Counts P pb cb sb has s (factB names slots cnt f params) ((cnt + f.size : Nat) : Int) (.panic unf) (s.set pb (.box 136 (progCells P cb has sb ((cnt + f.size : Nat) : Int)))) :=
      fun h => .inr ⟨by rw [factB]; rcases h with h | h <;> rw [h] <;> simp, rfl, _, rfl⟩
    generalize hT : s.set pb (.box 136 (progCells P cb has sb ((cnt + f.size : Nat) : Int))) = t at hp1 hc1 hs1 hfail ⊢
    repeat (first | (with_reducible first | apply CW.seq | apply aN) | refine CW.reg ?_ | refine wS rfl ?_ | refine RL.loadP tO rfl rfl rfl rfl rfl rfl (by assumption) rfl ?_)
    refine needR rfl rfl rfl rfl rfl (fun h120 => ?_) (fun h120 => ?_)
    · have h120' : decide (cnt + f.size ≤ 120) = true := by simp at h120 ⊢; omega
      repeat (first | (with_reducible first | apply CW.seq | apply aN) | refine CW.reg ?_ | refine RL.nil ?_ | refine wS rfl ?_)
      refine RL.callP rfl rfl rfl rfl rfl (nodes_spec (.fact f) _) ?_
      repeat (first | (with_reducible first | apply aN | apply CW.block) | refine RL.nil ?_)
      refine CW.rangeNodes (.fact f) rfl rfl rfl hf.size (fun rem s₁ => s₁ = t ∧ (((Part.fact f).nodes 1).all fun x => spokenF names slots params x.2) = rem.all fun x => spokenF names slots params x.2) (fun _ _ => False)
        (fun v s₁ => v = unf ∧ s₁ = t ∧ (((Part.fact f).nodes 1).all fun x => spokenF names slots params x.2) = false) ⟨rfl, rfl⟩ ?_ ?_ (fun _ _ h => h.elim) ?_
      · rintro d x rem s₁ hmem ⟨rfl, hA⟩
        have htx := hf.texts _ hmem
        cases x with
        | exp e => obtain ⟨g, hg⟩ := nodes_fact hmem; cases hg
        | fact g =>
          obtain ⟨ht1, ht2, ht3, ht4⟩ : g.Texts := htx
          rw [List.all_cons] at hA
          have hbad : spokenF names slots params (.fact g) = false → (((Part.fact f).nodes 1).all fun x => spokenF names slots params x.2) = false := fun h => by rw [hA]; simp only [h]; rfl
          have hgood : spokenF names slots params (.fact g) = true → (((Part.fact f).nodes 1).all fun x => spokenF names slots params x.2) = rem.all fun x => spokenF names slots params x.2 := fun h => by rw [hA]; simp only [h]; rfl
          repeat (first | (with_reducible first | apply CW.seq | apply aN | apply CW.block) | refine wR rfl ?_ | refine CW.reg ?_ | refine wS rfl ?_)
          refine RL.newBox tO rfl rfl rfl rfl rfl rfl rfl (fun _ => rfl) rfl rfl (fun _ => rfl) rfl rfl rfl rfl ?_
          repeat (first | (with_reducible first | apply CW.seq | apply aN) | refine wR rfl ?_ | refine CW.reg ?_ | refine RL.nil ?_ | refine CW.condT rfl ?_ | refine wS rfl ?_)
          refine RL.cut 6 [(3, .fptr [.ptr pb 0] 0), (8, .fptr g.cells 0), (51, .bool (g.name == [] || params.contains g.name))] ?_ ?_
          · repeat' (first | refine RL.nil ?_ | refine wS rfl ?_ | refine RL.skip rfl rfl rfl ?_ | refine RL.gstepF tO rfl rfl rfl rfl rfl rfl rfl (fun _ => ?_) (fun _ => ?_) | refine RL.callP rfl rfl rfl rfl rfl (contains1_spec params own g.name _ hpl) ?_)
            all_goals refine ⟨rfl, ⟨⟨_, rfl, aRfl⟩, ⟨_, rfl, aRfl⟩, ⟨_, rfl, AVle.of_eq ?_⟩, trivial⟩, rfl⟩
            all_goals simp_all
          refine needR rfl rfl rfl rfl rfl (fun h3 => ?_) (fun h3 => ?_)
          · repeat (first | (with_reducible first | apply CW.seq | apply aN) | refine CW.reg ?_ | refine RL.nil ?_ | refine wS rfl ?_)
            refine RL.callP rfl rfl rfl rfl rfl (everyAt_spec g.path _ _ _ slots.contains _ ht3 (fun x hx => ACallV.of_calls (fact1_spec P pb cb sb has _ slots x _ hp1 hs1))) ?_
            refine needR rfl rfl rfl rfl rfl (fun h4 => ?_) (fun h4 => ?_)
            · repeat (first | (with_reducible first | apply CW.seq | apply aN) | refine RL.nil ?_)
              refine CW.drw tO mixed rfl (RD.run rfl ?_)
              refine RD.one (i := 3) rfl rfl rfl rfl rfl (OW.loadP tO rfl rfl rfl hp1 rfl (X := fun _ _ => False)) ?_ (fun _ _ h => False.elim h)
              rintro _ _ ⟨rfl, rfl⟩
              refine RD.run rfl ?_
              refine RD.one (i := 7) rfl rfl rfl rfl rfl (OW.lookup tO rfl rfl rfl rfl rfl rfl rfl (.inl ⟨cb, rfl, hc1⟩) rfl (getA_class names g.cls) rfl (X := fun _ _ => False)) ?_ (fun _ _ h => False.elim h)
              rintro z _ ⟨hz, rfl⟩
              refine RD_step _ _ (hz.trans (gotA_class _ _)) ?_
              refine RD.run rfl (RD.done rfl ?_)
              repeat (first | with_reducible apply aN | refine CW.reg ?_ | refine wS rfl ?_)
              refine RL.cut 23 [(94, .bool ((((names.contains g.cls || g.cls == []) || g.cls == anyS) || g.cls == intS) || g.cls == noneS))] ?_ ?_
              · repeat' (first | refine RL.nil ?_ | refine wS rfl ?_ | refine RL.skip rfl rfl rfl ?_ | refine RL.gstepF tO rfl rfl rfl rfl rfl rfl rfl (fun _ => ?_) (fun _ => ?_))
                all_goals refine ⟨rfl, ⟨⟨_, rfl, AVle.of_eq ?_⟩, trivial⟩, rfl⟩
                all_goals simp_all [anyS, intS, noneS]
              refine needR rfl rfl rfl rfl rfl (fun h5 => ?_) (fun h5 => ?_)
              · repeat (first | with_reducible apply iN | refine RL.nil ?_)
                exact ⟨rfl, hgood (by rw [spokenF, h3, h4, h5]; rfl)⟩
              · repeat (first | with_reducible apply iP)
                exact ⟨rfl, rfl, hbad (by rw [spokenF, h5]; simp)⟩
            · repeat (with_reducible first | apply aP | apply iP)
              exact ⟨rfl, rfl, hbad (by rw [spokenF, h4]; simp)⟩
          · repeat (with_reducible first | apply aP | apply iP)
            exact ⟨rfl, rfl, hbad (by rw [spokenF, h3]; simp)⟩
      · rintro s₁ ⟨rfl, hA⟩
        repeat (first | with_reducible apply iN)
        exact ⟨_, _, _, rfl, aRfl, sSub, .inl ⟨by rw [factB, hlook, h120', hA]; rfl, rfl, hT.symm⟩⟩
      · rintro v s₁ ⟨rfl, rfl, hA⟩
        repeat (first | with_reducible apply iP)
        exact ⟨_, _, aRfl, sSub, hfail (.inr hA)⟩
    · have h120' : decide (cnt + f.size ≤ 120) = false := by simp at h120 ⊢; omega
      repeat (first | with_reducible apply aP)
      exact ⟨_, _, aRfl, sSub, hfail (.inl h120')⟩
end Go.Proofs.YtaafacnoddjhgaaGreat

/- Contracts of the layer 'shape': the functions of a program. -/
namespace Go.Proofs.YtaafacnoddjhgaaGreat
open Go.AE

theorem OW.storeSame {P : Program} {Γ : Tys} (hΓ : TysOk P Γ) {N : Nat} {env : Env} {s : Store} {o : Oper} {t T : TypeId} {x y : Operand} {i : TI} {b off : Nat} {cs us : List AV} {v : AV} (ho : o.op = .store t x y) (ht : Γ.get? t = some i) (hx : ev env x = some (.ptr b off))
  (hy : ev env y = some v) (hv : cellsOf v = some us) (hu : Nat.beq us.length i.size = true) (h1c : us.all oneC = true) (hs : s b = some (.box T cs)) (hfit : Nat.ble (off + us.length) cs.length = true) (hsame : setL off us cs = cs) {X : AV → Store → Prop} :
  OW P N o env s (fun _ s' => s' = s) X :=
 (OW.storeP hΓ ho ht hx hy hv hu h1c hs hfit (X := X)).mono (fun x s' h => by rw [h, hsame, Store.set_eq _ _ _ hs]) (fun _ _ h => h)

def gensA (l : List (Str × Int)) : List (AV × AV) := l.map fun x => (.str x.1, .int .i64 x.2)
theorem getA_gens (l : List (Str × Int)) (s : Str) : getA (gensA l) (.str s) = some ((l.find? (fun x => s == x.1)).map fun x => AV.int .i64 x.2) := by
 induction l with
 | nil => rfl
 | cons r l ih =>
  simp only [gensA, List.map_cons, getA, keyEq, List.find?_cons]
  cases h : s == r.1 with
  | true => rfl
  | false => simp only [gensA] at ih; exact ih
theorem putA_gens {l : List (Str × Int)} {s : Str} (n : Int) (h : l.find? (fun x => s == x.1) = none) : putA (gensA l) (.str s) (.int .i64 n) = some (gensA (l ++ [(s, n)])) := by
 induction l with
 | nil => rfl
 | cons r l ih =>
  rw [List.find?_cons] at h
  cases hs : s == r.1 with
  | true => rw [hs] at h; cases h
  | false =>
   rw [hs] at h
   have := ih h
   simp only [gensA] at this
   simp only [gensA, List.map_cons, putA, keyEq, hs, this, List.cons_append]

def gNote (st : List (Str × Int) × Bool) (s : Str) (n : Int) : List (Str × Int) × Bool :=
 match st.1.find? (fun x => s == x.1) with
 | some x => (st.1, st.2 && x.2 == n)
 | none => (st.1 ++ [(s, n)], st.2)

structure GInv (s t : Store) (mb ib ob gb : Nat) (G : List (Str × Int)) (is : Bool) (own : Own) : Prop where
 hm : t mb = some (.box 114 [.map gb])
 hi : t ib = some (.box 4 [.bool is])
 ho : t ob = some (.box 38 [.slc 1 (strs (G.map (·.1))) own])
 hg : t gb = some (.map (gensA G))
 row : RowIs t 9 1 G.length own
 sub : Store.Sub s t
 sn : s mb = none ∧ s ib = none ∧ s ob = none ∧ s gb = none
 srow : ∀ b, own = .own b → s b = none
 d : mb ≠ ib ∧ mb ≠ ob ∧ mb ≠ gb ∧ ib ≠ ob ∧ ib ≠ gb ∧ ob ≠ gb

section
variable {s t : Store} {mb ib ob gb : Nat} {G : List (Str × Int)} {is : Bool} {own : Own}
theorem RowIs.keep {t t' : Store} {e : TypeId} {sz n : Nat} {own : Own} (h : RowIs t e sz n own) (hk : ∀ b o, t b = some o → notRow o = false → t' b = some o) : RowIs t' e sz n own := by
 cases own with
 | own b => exact hk b _ h rfl
 | nil => trivial
 | clip => trivial
 | fro => exact h

theorem GInv.setI (h : GInv s t mb ib ob gb G is own) (b : Bool) : GInv s (t.set ib (.box 4 [.bool b])) mb ib ob gb G b own := by
 obtain ⟨d1, d2, d3, d4, d5, d6⟩ := h.d
 refine ⟨(Store.set_ne _ _ d1).trans h.hm, sSam, (Store.set_ne _ _ d4.symm).trans h.ho, (Store.set_ne _ _ d5.symm).trans h.hg, h.row.keep fun x o hx ho => ?_, Store.subSet h.sub h.sn.2.1, h.sn, h.srow, h.d⟩
 exact (Store.set_ne _ _ (fun e => by subst e; rw [h.hi] at hx; cases hx; cases ho)).trans hx

theorem GInv.add (h : GInv s t mb ib ob gb G is own) (x : Str) (n : Int) (b' : Nat) (hb' : rowBase (t.set gb (.map (gensA (G ++ [(x, n)])))) own b' = none) :
  GInv s ((rowOf (rowBase (t.set gb (.map (gensA (G ++ [(x, n)])))) own) 9 1 (G.length + 1) (.own b')).set ob (.box 38 [.slc 1 (strs ((G ++ [(x, n)]).map (·.1))) (.own b')])) mb ib ob gb (G ++ [(x, n)]) is (.own b') := by
 obtain ⟨d1, d2, d3, d4, d5, d6⟩ := h.d
 have hrow : RowIs (t.set gb (.map (gensA (G ++ [(x, n)])))) 9 1 G.length own := h.row.keep fun x o hx ho => (Store.set_ne _ _ (fun e => by subst e; rw [h.hg] at hx; cases hx; cases ho)).trans hx
 have hnr : ∀ y o, t y = some o → notRow o = true → ∀ b, own = .own b → y ≠ b := fun y o hy ho b hb e => by
  subst hb; subst e
  have := h.row; simp only [RowIs] at this; rw [this] at hy; cases hy; cases ho
 have hk : ∀ y o, y ≠ gb → t y = some o → notRow o = true → rowOf (rowBase (t.set gb (.map (gensA (G ++ [(x, n)])))) own) 9 1 (G.length + 1) (.own b') y = some o := fun y o hy h1 h2 =>
  rowNext_keep (n := 0) hb' ((Store.set_ne _ _ hy).trans h1) (hnr y o h1 h2)
 have hob' : b' ≠ ob := fun e => by
  subst e
  have := rowBase_get hrow ((Store.set_ne _ _ d6).trans h.ho) rfl
  rw [hb'] at this; cases this
 have hsb' : s b' = none := by
  refine Classical.byContradiction fun hne => ?_
  have q1 : t b' = s b' := by
   rcases h.sub b' with q | q
   ·exact q.symm
   ·exact absurd q hne
  cases hsb : s b' with
  | none => exact hne hsb
  | some o =>
   rw [hsb] at q1
   have g1 : b' ≠ gb := fun e => by subst e; rw [h.sn.2.2.2] at hsb; cases hsb
   have g2 : ∀ b, own = .own b → b' ≠ b := fun b hb e => by subst e; rw [h.srow _ hb] at hsb; cases hsb
   have : rowBase (t.set gb (.map (gensA (G ++ [(x, n)])))) own b' = some o := by
    cases own with
    | own b => exact (Store.del_ne _ (g2 b rfl)).trans ((Store.set_ne _ _ g1).trans q1)
    | nil => exact (Store.set_ne _ _ g1).trans q1
    | clip => exact (Store.set_ne _ _ g1).trans q1
    | fro => exact (Store.set_ne _ _ g1).trans q1
   rw [hb'] at this; cases this
 refine ⟨(Store.set_ne _ _ d2).trans (hk mb _ d3 h.hm rfl), (Store.set_ne _ _ d4).trans (hk ib _ d5 h.hi rfl), sSam, (Store.set_ne _ _ d6.symm).trans ?_, ?_, ?_, h.sn, ?_, h.d⟩
 ·refine rowNext_keep (n := 0) hb' sSam fun b hb e => ?_
  subst hb; subst e
  have := h.row; simp only [RowIs] at this; rw [h.hg] at this; cases this
 ·show (Store.set _ ob _) b' = _
  rw [Store.set_ne _ _ hob', List.length_append]; exact sSam
 ·refine Store.subSet ?_ h.sn.2.2.1
  intro y
  rcases h.sub y with q | q
  ·cases hsy : s y with
   | none => exact .inr rfl
   | some o =>
    left
    rw [hsy] at q
    have g1 : y ≠ gb := fun e => by subst e; rw [h.sn.2.2.2] at hsy; cases hsy
    exact (rowNext_keep (n := 0) hb' ((Store.set_ne _ _ g1).trans q.symm) (fun b hb e => by subst e; rw [h.srow _ hb] at hsy; cases hsy)).symm
  ·exact .inr q
 ·rintro b ⟨⟩; exact hsb'
end

set_option maxRecDepth 10000 in
theorem gensNote_spec (s t : Store) (mb ib ob gb : Nat) (G : List (Str × Int)) (is : Bool) (own : Own) (x : Str) (n : Int) (h : GInv s t mb ib ob gb G is own) (hG : G.length < big) :
  ACalls Tryz.prog 109 [.str x, .int .i64 n, .ptr mb 0, .ptr ib 0, .ptr ob 0] t (fun o t' => o = .ret (.tup []) ∧ ∃ own', GInv s t' mb ib ob gb (gNote (G, is) x n).1 (gNote (G, is) x n).2 own') := by
 have hb : big = 1099511627776 := rfl
 have hm := h.hm
 have hi := h.hi
 have ho := h.ho
 refine ACalls.of_CW tO call109 Tryz.func109 rfl rfl ?_
 repeat (first | with_reducible apply CW.seq | refine CW.reg ?_ | refine wS rfl ?_ | refine RL.loadP tO rfl rfl rfl rfl rfl rfl (by assumption) rfl ?_)
 refine RL.lookup tO rfl rfl rfl rfl rfl rfl rfl rfl rfl rfl h.hg rfl (getA_gens G x) rfl ?_
 cases hfi : G.find? (fun y => x == y.1) with
 | some y =>
  have hN : gNote (G, is) x n = (G, is && y.2 == n) := by simp only [gNote, hfi]
  rw [hN]
  cases is with
  | true =>
   repeat (first | (with_reducible first | apply CW.seq | apply aN) | refine wR rfl ?_ | refine CW.reg ?_ | refine RL.nil ?_ | refine CW.condT rfl ?_ | refine wS rfl ?_ | refine RL.loadP tO rfl rfl rfl rfl rfl rfl (by assumption) rfl ?_)
   refine RL.storeP tO rfl rfl rfl rfl rfl rfl rfl rfl rfl hi rfl ?_
   repeat (first | (with_reducible first | apply aN | apply aR | apply CW.ret) | refine RL.nil ?_)
   exact ⟨_, _, _, rfl, aRfl, sSub, rfl, own, h.setI _⟩
  | false =>
   repeat (first | (with_reducible first | apply CW.seq | apply aN) | refine wR rfl ?_ | refine CW.reg ?_ | refine RL.nil ?_ | refine CW.condT rfl ?_ | refine wS rfl ?_ | refine RL.skip rfl rfl rfl ?_ | refine RL.loadP tO rfl rfl rfl rfl rfl rfl (by assumption) rfl ?_)
   refine RL.storeP tO rfl rfl rfl rfl rfl rfl rfl rfl rfl hi rfl ?_
   repeat (first | (with_reducible first | apply aN | apply aR | apply CW.ret) | refine RL.nil ?_)
   exact ⟨_, _, _, rfl, aRfl, sSub, rfl, own, h.setI _⟩
 | none =>
  have hN : gNote (G, is) x n = (G ++ [(x, n)], is) := by simp only [gNote, hfi]
  rw [hN]
  obtain ⟨d1, d2, d3, d4, d5, d6⟩ := h.d
  have hrow : RowIs (t.set gb (.map (gensA (G ++ [(x, n)])))) 9 1 G.length own := h.row.keep fun x o hx ho => (Store.set_ne _ _ (fun e => by subst e; rw [h.hg] at hx; cases hx; cases ho)).trans hx
  repeat (first | (with_reducible first | apply CW.seq | apply aN | apply CW.skip) | refine wR rfl ?_ | refine CW.reg ?_ | refine RL.nil ?_ | refine CW.condF rfl ?_ | refine wS rfl ?_ | refine RL.loadP tO rfl rfl rfl rfl rfl rfl (by assumption) rfl ?_)
  refine RL.mapUpdate tO rfl rfl (.inl rfl) rfl rfl rfl rfl rfl rfl h.hg rfl (putA_gens n hfi) ?_
  have ho2 : (t.set gb (.map (gensA (G ++ [(x, n)])))) ob = _ := (Store.set_ne _ _ d6).trans h.ho
  repeat (first | with_reducible apply aN | refine CW.reg ?_ | refine RL.nil ?_ | refine wS rfl ?_ | refine RL.loadP tO rfl rfl rfl rfl rfl rfl (by assumption) rfl ?_)
  refine RL.append1 tO rfl rfl rfl rfl rfl rfl rfl (by intro k h; cases h) rfl rfl rfl rfl rfl rfl rfl (n := G.length) (by simp) (by show (G.length + 1) * 16 ≤ _; omega) (by omega) (rowBase_eq hrow) (rowBase_ok hrow) (fun b' hb' => ?_)
  have nx := h.add x n b' hb'
  have ho3 := rowNext_keep (n := 0) (e := 9) (sz := 1) (m := G.length + 1) hb' ho2 (fun b hb e => by
   subst hb; subst e
   have := hrow; simp only [RowIs] at this; rw [ho2] at this; cases this)
  rw [show strs ((G ++ [(x, n)]).map (·.1)) = strs (G.map (·.1)) ++ [.str x] by simp [strs]] at nx
  refine RL.storeP tO rfl rfl rfl rfl rfl rfl rfl rfl rfl ho3 rfl ?_
  repeat (first | refine RL.nil ?_)
  exact ⟨_, _, _, rfl, aRfl, sSub, rfl, .own b', nx⟩
end Go.Proofs.YtaafacnoddjhgaaGreat

/- Contracts of the layer 'shape': the functions of a program, in order. -/
namespace Go.Proofs.YtaafacnoddjhgaaGreat
open Go.AE

def gNotes (st : List (Str × Int) × Bool) (l : List (Str × Int)) : List (Str × Int) × Bool := l.foldl (fun st x => gNote st x.1 x.2) st
def callsL (l : List FExp) : List (Str × Int) := (l.filter fun g => g.op == 5).map fun g => (g.text, (g.kids.length : Int))
def methodNotes (l : List FMethod) : List (Str × Int) := l.map fun m => (m.name, (m.params.length : Int))
def progNotes (P : FProg) : List (Str × Int) := methodNotes P.methods ++ (P.methods.map FMethod.body ++ [P.main]).flatMap fun e => callsL e.allE
def progGens (P : FProg) : List (Str × Int) × Bool := gNotes ([], true) (progNotes P)

theorem gNote_length (st : List (Str × Int) × Bool) (s : Str) (n : Int) : (gNote st s n).1.length ≤ st.1.length + 1 := by
 unfold gNote; split <;> simp

theorem GInv.weaken {s s' t : Store} {mb ib ob gb : Nat} {G : List (Str × Int)} {is : Bool} {own : Own} (h : GInv s' t mb ib ob gb G is own) (hs : Store.Sub s s') : GInv s t mb ib ob gb G is own :=
 ⟨h.hm, h.hi, h.ho, h.hg, h.row, hs.trans h.sub, ⟨hs.none h.sn.1, hs.none h.sn.2.1, hs.none h.sn.2.2.1, hs.none h.sn.2.2.2⟩, fun b hb => hs.none (h.srow b hb), h.d⟩

theorem RowIs.of_sub {s t : Store} {e : TypeId} {sz n : Nat} {own : Own} (hok : own ≠ .fro) (h : Store.Sub (rowOf s e sz n own) t) : RowIs t e sz n own := by
 cases own with
 | own b =>
  rcases h b with q | q
  ·have : rowOf s e sz n (.own b) b = some (.row e sz n) := sSam
   rw [this] at q; exact q.symm
  ·have : rowOf s e sz n (.own b) b = some (.row e sz n) := sSam
   rw [this] at q; cases q
 | nil => trivial
 | clip => trivial
 | fro => exact hok rfl

theorem GInv.row2 {s t : Store} {mb ib ob gb : Nat} {G : List (Str × Int)} {is : Bool} {own own2 : Own} {e : TypeId} {sz n m b' : Nat} (h : GInv (rowOf s e sz n own2) t mb ib ob gb G is own) (hok : own2 ≠ .fro) (h2 : ∀ b, own2 = .own b → s b = none)
  (hb' : rowBase t own2 b' = none) : GInv (rowOf s e sz m (.own b')) (rowOf (rowBase t own2) e sz m (.own b')) mb ib ob gb G is own ∧ s b' = none := by
 have hr2 : RowIs t e sz n own2 := RowIs.of_sub hok h.sub
 have hss : Store.Sub s (rowOf s e sz n own2) := by
  cases own2 with
  | own b => exact Store.subSet sSub (h2 b rfl)
  | nil => exact sSub
  | clip => exact sSub
  | fro => exact sSub
 have hne : ∀ x o, t x = some o → (rowOf s e sz n own2) x = none → ∀ b, own2 = .own b → x ≠ b := by
  intro x o hx hn b hb e0; subst hb; subst e0
  have : rowOf s e sz n (.own x) x = some (.row e sz n) := sSam
  rw [this] at hn; cases hn
 have hk : ∀ x o, t x = some o → (rowOf s e sz n own2) x = none → rowOf (rowBase t own2) e sz m (.own b') x = some o := fun x o hx hn => rowNext_keep (n := 0) hb' hx (hne x o hx hn)
 have hnb : ∀ x o, t x = some o → (rowOf s e sz n own2) x = none → x ≠ b' := by
  intro x o hx hn e; subst e
  have q : rowBase t own2 x = some o := by
   cases own2 with
   | own b => exact (Store.del_ne _ (hne x o hx hn b rfl)).trans hx
   | nil => exact hx
   | clip => exact hx
   | fro => exact hx
  rw [hb'] at q; cases q
 have hsb : s b' = none := by
  cases hs : s b' with
  | none => rfl
  | some o =>
   have g2 : ∀ b, own2 = .own b → b' ≠ b := fun b hb e => by subst e; rw [h2 _ hb] at hs; cases hs
   have q1 : (rowOf s e sz n own2) b' = some o := by
    cases own2 with
    | own b => exact (Store.set_ne _ _ (g2 b rfl)).trans hs
    | nil => exact hs
    | clip => exact hs
    | fro => exact hs
   have q2 : t b' = some o := by
    rcases h.sub b' with q | q
    ·rw [q1] at q; exact q.symm
    ·rw [q1] at q; cases q
   have q3 : rowBase t own2 b' = some o := by
    cases own2 with
    | own b => exact (Store.del_ne _ (g2 b rfl)).trans q2
    | nil => exact q2
    | clip => exact q2
    | fro => exact q2
   rw [hb'] at q3; cases q3
 obtain ⟨n1, n2, n3, n4⟩ := h.sn
 have hsn : ∀ x o, t x = some o → (rowOf s e sz n own2) x = none → (rowOf s e sz m (.own b')) x = none := fun x o hx hn => (Store.set_ne _ _ (hnb x o hx hn)).trans (hss.none hn)
 refine ⟨⟨hk mb _ h.hm n1, hk ib _ h.hi n2, hk ob _ h.ho n3, hk gb _ h.hg n4, ?_, ?_, ⟨hsn mb _ h.hm n1, hsn ib _ h.hi n2, hsn ob _ h.ho n3, hsn gb _ h.hg n4⟩, ?_, h.d⟩, hsb⟩
 ·have := h.row
  cases own with
  | own b => exact hk b _ this (h.srow b rfl)
  | nil => trivial
  | clip => trivial
  | fro => exact this
 ·intro x
  by_cases e1 : x = b'
  ·subst e1; left; exact sSam.trans sSam.symm
  ·show (s.set b' _) x = _ ∨ (s.set b' _) x = none
   rw [Store.set_ne _ _ e1]
   cases hs : s x with
   | none => exact .inr rfl
   | some o =>
    left
    have g2 : ∀ b, own2 = .own b → x ≠ b := fun b hb e => by subst e; rw [h2 _ hb] at hs; cases hs
    have q1 : (rowOf s e sz n own2) x = some o := by
     cases own2 with
     | own b => exact (Store.set_ne _ _ (g2 b rfl)).trans hs
     | nil => exact hs
     | clip => exact hs
     | fro => exact hs
    have q2 : t x = some o := by
     rcases h.sub x with q | q
     ·rw [q1] at q; exact q.symm
     ·rw [q1] at q; cases q
    exact (rowNext_keep (n := 0) hb' q2 g2).symm
 ·intro b hb
  have q := h.srow b hb
  have hrow := h.row
  subst hb
  exact hsn b _ hrow q

theorem resA_cell3 {Γ : Tys} {env : Env} {s : Store} {a b a' b' a'' b'' : Nat} {t T t' T' t'' T'' : TypeId} {i i' i'' : TI} {cs cs' cs'' : List AV} {v v' v'' : AV} (he : env.get? a = some (.ptr b 0)) (hi : Γ.get? t = some i) (hs : s b = some (.box T cs)) (hl : loadC i cs 0 = some v)
  (he' : env.get? a' = some (.ptr b' 0)) (hi' : Γ.get? t' = some i') (hs' : s b' = some (.box T' cs')) (hl' : loadC i' cs' 0 = some v') (he'' : env.get? a'' = some (.ptr b'' 0)) (hi'' : Γ.get? t'' = some i'') (hs'' : s b'' = some (.box T'' cs'')) (hl'' : loadC i'' cs'' 0 = some v'') :
  resA Γ env s [.cell a t, .cell a' t', .cell a'' t''] = some (.tup [v, v', v'']) := by simp [resA, resAll, resOne, he, hi, hs, hl, he', hi', hs', hl', he'', hi'', hs'', hl'']

theorem FMethod.cellsG (m : FMethod) : m.cells = [.int .i64 m.kind, .str m.name, .slc 1 (strs m.params) .fro, .int .i64 m.fact.op, .str m.fact.name, .slc 1 (strs m.fact.path) .fro, .str m.fact.cls, .int .i64 m.fact.n, .slc 6 m.fact.kav .fro,
  .int .i64 m.body.op, .int .i64 m.body.n, .str m.body.text, .slc 4 m.body.kav .fro] := rfl

structure FMethod.Fair (m : FMethod) : Prop where
 name : Sh m.name
 params : Strs m.params
 fact : m.fact.Fair
 body : m.body.Fair
structure FProg.Fair (P : FProg) : Prop where
 clen : P.classes.length < big
 cls : ∀ c ∈ P.classes, c.Fair
 mlen : P.methods.length < big
 mth : ∀ m ∈ P.methods, m.Fair
 main : P.main.Fair
 notes : (progNotes P).length < big
 slen : (P.classes.flatMap FClass.slots).length < big

set_option maxRecDepth 10000 in
set_option maxHeartbeats 2000000 in
theorem gens_spec (P : FProg) (s : Store) (hP : P.Fair) :
  ACalls Tryz.prog 69 [P.av] s (fun o s' => (∃ gb, o = .ret (.tup [.slc 1 (strs ((progGens P).1.map (·.1))) .fro, .map gb, .bool (progGens P).2])) ∧ s' = s) := by
 have hb : big = 1099511627776 := rfl
 have hml := hP.mlen
 have hnl := hP.notes
 refine ACalls.of_CW tO call69 Tryz.func69 rfl rfl ?_
 repeat (first | with_reducible apply CW.seq | refine CW.reg ?_ | refine wS rfl ?_)
 refine RL.alloc tO rfl rfl rfl rfl rfl rfl rfl (fun ob hob => ?_)
 refine RL.alloc tO rfl rfl rfl rfl rfl rfl rfl (fun mb hmb => ?_)
 refine RL.alloc tO rfl rfl rfl rfl rfl rfl rfl (fun ib hib => ?_)
 repeat (first | (with_reducible first | apply CW.seq | apply aN) | refine CW.reg ?_ | refine RL.nil ?_)
 refine RL.makeMap rfl rfl rfl rfl (fun gb hgb => ?_)
 simp only [Store.set_eq_none] at hob hmb hib hgb
 obtain ⟨a1, a2⟩ := hmb
 obtain ⟨a3, a4, a5⟩ := hib
 obtain ⟨a6, a7, a8, a9⟩ := hgb
 refine RL.storeP tO rfl rfl rfl rfl rfl rfl rfl rfl rfl (by (repeat (first | exact sSam | assumption | with_reducible rw [Store.set_ne _ _ (by omega)]))) rfl ?_
 repeat (first | (with_reducible first | apply CW.seq | apply aN) | refine CW.reg ?_ | refine RL.nil ?_)
 refine RL.storeP tO rfl rfl rfl rfl rfl rfl rfl rfl rfl (by (repeat (first | exact sSam | assumption | with_reducible rw [Store.set_ne _ _ (by omega)]))) rfl ?_
 repeat (first | (with_reducible first | apply CW.seq | apply aN) | refine CW.reg ?_ | refine RL.nil ?_ | refine wS rfl ?_)
 refine RL.newBox tO rfl rfl rfl rfl rfl rfl rfl (fun _ => rfl) rfl rfl (fun _ => rfl) rfl rfl rfl rfl ?_
 repeat (first | (with_reducible first | apply CW.seq | apply aN | apply CW.block) | refine wR rfl ?_ | refine RL.nil ?_)
 have g0 : GInv s (((((s.set ob (.box 38 [.slc 1 [] .nil])).set mb (.box 114 [.map gb])).set ib (.box 4 [.bool true])).set gb (.map []))) mb ib ob gb [] true .nil := by
  refine ⟨(by (repeat (first | exact sSam | assumption | with_reducible rw [Store.set_ne _ _ (by omega)]))), (by (repeat (first | exact sSam | assumption | with_reducible rw [Store.set_ne _ _ (by omega)]))), (by (repeat (first | exact sSam | assumption | with_reducible rw [Store.set_ne _ _ (by omega)]))), (by (repeat (first | exact sSam | assumption | with_reducible rw [Store.set_ne _ _ (by omega)]))), trivial, Store.subSet (Store.subSet (Store.subSet (Store.subSet sSub hob) a2) a5) a9, ⟨a2, a5, hob, a9⟩, by simp, ⟨a3.symm, a1, a7.symm, a4, a6.symm, a8.symm⟩⟩
 refine CW.boxWeak ob [.slc 1 [] .nil] (cs := [.slc 0 [] .nil]) (by (repeat (first | exact sSam | assumption | with_reducible rw [Store.set_ne _ _ (by omega)]))) (.one (AVle.nil (by simp))) ?_
 refine CW.loop (σ := Nat × Store × (List (Str × Int) × Bool) × Own × Own) (fun q => [(1, .fptr P.cells 0), (2, .ptr ob 0), (3, .ptr mb 0), (4, .ptr ib 0), (5, .fptr [.func 109 [] [.ptr mb 0, .ptr ib 0, .ptr ob 0]] 0), (6, .slc 4 ((P.methods.take q.1).map fun m => m.body.av) q.2.2.2.2), (16, .slc 13 (P.methods.map FMethod.av) .fro), (17, .int .i64 (P.methods.map FMethod.av).length), (18, .int .i64 (q.1 : Int))]) (fun q => q.2.1)
  (fun q => q.1 ≤ P.methods.length ∧ GInv (rowOf s 27 4 q.1 q.2.2.2.2) q.2.1 mb ib ob gb q.2.2.1.1 q.2.2.1.2 q.2.2.2.1 ∧ q.2.2.2.2 ≠ .fro ∧ (∀ b, q.2.2.2.2 = .own b → s b = none) ∧ gNotes q.2.2.1 (methodNotes (P.methods.drop q.1)) = gNotes ([], true) (methodNotes P.methods) ∧ q.2.2.1.1.length ≤ q.1)
  (fun q => P.methods.length - q.1) (0, (((((s.set ob (.box 38 [.slc 1 [] .nil])).set mb (.box 114 [.map gb])).set ib (.box 4 [.bool true])).set gb (.map []))), ([], true), .nil, .clip) ⟨by simp, g0, by simp, by simp, rfl, by simp⟩ ?_ (fun z => by simp only [Store.set, Store.del]; (repeat' split) <;> first | (exact .inl rfl) | (exfalso; omega) | (right; simp_all; done)) ?_
 ·exact ⟨⟨_, rfl, aRfl⟩, ⟨_, rfl, aRfl⟩, ⟨_, rfl, aRfl⟩, ⟨_, rfl, aRfl⟩, ⟨_, rfl, aRfl⟩, ⟨_, rfl, aRfl⟩, ⟨_, rfl, aRfl⟩, ⟨_, rfl, aRfl⟩, ⟨_, rfl, aRfl⟩, trivial⟩
 ·rintro ⟨i, t, ⟨G, is⟩, own, own2⟩ ⟨hi, g, hok2, hs2, hN, hGl⟩
  simp only at hi g hok2 hs2 hN hGl ⊢
  repeat (first | (with_reducible first | apply CW.seq | apply aN) | refine wR rfl ?_)
  refine CW.cond rfl (fun h => ?_) (fun h => ?_)
  ·have hlt : i < P.methods.length := by simpa using h
   obtain ⟨m, hm⟩ : ∃ m, P.methods[i]? = some m := ⟨_, List.getElem?_eq_getElem hlt⟩
   have hm' : (P.methods.map FMethod.av)[i]? = some (.agg m.cells) := by rw [List.getElem?_map, hm]; rfl
   rw [drop_cons hm] at hN
   repeat (first | (with_reducible first | apply CW.seq | apply aN | apply CW.skip | apply CW.block) | refine CW.reg ?_ | refine wS rfl ?_ | refine RL.idx tO _ rfl rfl rfl rfl rfl rfl rfl rfl rfl rfl rfl (by assumption) rfl ?_)
   refine RL.newBox tO rfl rfl rfl rfl rfl rfl rfl (fun _ => rfl) rfl rfl (fun _ => rfl) rfl rfl rfl rfl ?_
   repeat (first | (with_reducible first | apply CW.seq | apply aN) | refine CW.reg ?_ | refine RL.nil ?_ | refine wS rfl ?_)
   refine RL.callV rfl rfl rfl rfl rfl rfl (ACallV.of_calls (gensNote_spec _ t mb ib ob gb G is own m.name ((strs m.params).length : Int) g (by omega))) ?_ (fun _ _ ⟨h, _⟩ => by cases h)
   rintro _ t' ⟨⟨⟩, own', g'⟩
   have hr2 : RowIs t' 27 4 i own2 := RowIs.of_sub hok2 g'.sub
   repeat (first | with_reducible apply aN | refine CW.reg ?_ | refine RL.nil ?_ | refine wS rfl ?_)
   refine RL.append1 tO rfl rfl rfl rfl rfl rfl rfl (by intro k h; cases h) rfl rfl rfl rfl rfl rfl rfl (n := i) (by simp; omega) (by show (i + 1) * 56 ≤ _; omega) (by omega) (rowBase_eq hr2) (rowBase_ok hr2) (fun b' hb' => ?_)
   obtain ⟨g2, hsb'⟩ := g'.row2 (m := i + 1) hok2 hs2 hb'
   repeat (first | (with_reducible first | apply aN | apply iN) | refine wR rfl ?_ | refine RL.nil ?_ | refine wS rfl ?_)
   refine ⟨(i + 1, _, gNote (G, is) m.name ((strs m.params).length : Int), own', .own b'), ⟨hlt, g2, by simp, fun b hb => by cases hb; exact hsb', ?_, ?_⟩, ⟨⟨_, rfl, aRfl⟩, ⟨_, rfl, aRfl⟩, ⟨_, rfl, aRfl⟩, ⟨_, rfl, aRfl⟩, ⟨_, rfl, aRfl⟩, ⟨_, rfl, AVle.of_eq ?_⟩, ⟨_, rfl, aRfl⟩, ⟨_, rfl, aRfl⟩, ⟨_, rfl, AVle.of_eq ?_⟩, trivial⟩, sSub, by show P.methods.length - (i + 1) < P.methods.length - i; omega⟩
   ·rw [← hN, strs_length]; rfl
   ·have := gNote_length (G, is) m.name ((strs m.params).length : Int)
    show (gNote (G, is) m.name ((strs m.params).length : Int)).1.length ≤ i + 1
    simp only at this; omega
   ·congr 1; exact map_take_succ (fun m : FMethod => m.body.av) hm
   ·rw [i64_succ (by omega)]
  ·have hge : P.methods.length ≤ i := by simpa using h
   have hie : i = P.methods.length := by omega
   have hr2 : RowIs t 27 4 i own2 := RowIs.of_sub hok2 g.sub
   repeat (first | (with_reducible first | apply CW.seq | apply aN | apply aX | apply iH | apply CW.exit) | refine CW.reg ?_ | refine wS rfl ?_)
   refine RL.append1 tO rfl rfl rfl rfl rfl rfl rfl (by intro k h; cases h) rfl rfl rfl rfl rfl rfl rfl (n := i) (by simp; omega) (by show (i + 1) * 56 ≤ _; omega) (by omega) (rowBase_eq hr2) (rowBase_ok hr2) (fun b' hb' => ?_)
   obtain ⟨g2, hsb'⟩ := g.row2 (m := i + 1) hok2 hs2 hb'
   have g3 := g2.weaken (Store.subSet (Store.sub_refl s) hsb')
   generalize rowOf (rowBase t own2) 27 4 (i + 1) (.own b') = t3 at g3 ⊢
   generalize hbsd : P.methods.map FMethod.body ++ [P.main] = bs
   have hbs : ((P.methods.take i).map fun m => m.body.av) ++ [P.main.av] = bs.map FExp.av := by
    rw [← hbsd, List.take_of_length_le hge]; simp
   have hbf : ∀ e ∈ bs, e.Fair := by
    intro e he
    rw [← hbsd] at he
    rcases List.mem_append.1 he with he | he
    ·obtain ⟨m, hm, rfl⟩ := List.mem_map.1 he; exact (hP.mth m hm).body
    ·simp at he; subst he; exact hP.main
   have hbl : bs.length = P.methods.length + 1 := by rw [← hbsd]; simp
   rw [List.drop_eq_nil_of_le hge] at hN
   have hN' : (G, is) = gNotes ([], true) (methodNotes P.methods) := hN
   have hfin : gNotes (G, is) (bs.flatMap fun e => callsL e.allE) = progGens P := by
    rw [hN', progGens, progNotes, hbsd, gNotes, gNotes, gNotes, List.foldl_append]
   have hfl : G.length + (bs.flatMap fun e => callsL e.allE).length ≤ (progNotes P).length := by
    rw [progNotes, hbsd, List.length_append]
    have : (methodNotes P.methods).length = P.methods.length := by simp [methodNotes]
    omega
   repeat (first | (with_reducible first | apply aN | apply CW.block) | refine RL.nil ?_ | refine wS rfl ?_)
   refine CW.loop (σ := Nat × Store × (List (Str × Int) × Bool) × Own) (fun q => [(2, .ptr ob 0), (3, .ptr mb 0), (4, .ptr ib 0), (5, .fptr [.func 109 [] [.ptr mb 0, .ptr ib 0, .ptr ob 0]] 0), (39, .slc 4 (bs.map FExp.av) .fro), (40, .int .i64 (bs.map FExp.av).length), (41, .int .i64 (q.1 : Int))]) (fun q => q.2.1)
    (fun q => q.1 ≤ bs.length ∧ GInv s q.2.1 mb ib ob gb q.2.2.1.1 q.2.2.1.2 q.2.2.2 ∧ gNotes q.2.2.1 ((bs.drop q.1).flatMap fun e => callsL e.allE) = progGens P ∧ q.2.2.1.1.length + ((bs.drop q.1).flatMap fun e => callsL e.allE).length ≤ (progNotes P).length)
    (fun q => bs.length - q.1) (0, t3, (G, is), own) ⟨by simp, g3, hfin, hfl⟩ ?_ sSub ?_
   ·exact ⟨⟨_, rfl, aRfl⟩, ⟨_, rfl, aRfl⟩, ⟨_, rfl, aRfl⟩, ⟨_, rfl, aRfl⟩, ⟨_, rfl, (AVle.of_eq (congrArg (fun l => AV.slc 4 l (.own b')) hbs)).trans AVle.fro⟩, ⟨_, rfl, AVle.of_eq (congrArg (fun l : List AV => AV.int .i64 l.length) hbs)⟩, ⟨_, rfl, aRfl⟩, trivial⟩
   ·clear hN hN' hfin hfl g g2 g3 hGl hok2 hs2 hr2
    rintro ⟨j, t, ⟨G, is⟩, own⟩ ⟨hj, g, hN, hl⟩
    simp only at hj g hN hl ⊢
    repeat (first | (with_reducible first | apply CW.seq | apply aN) | refine wR rfl ?_)
    refine CW.cond rfl (fun h => ?_) (fun h => ?_)
    ·have hlt : j < bs.length := by simpa using h
     obtain ⟨e, he⟩ : ∃ e, bs[j]? = some e := ⟨_, List.getElem?_eq_getElem hlt⟩
     have he' : (bs.map FExp.av)[j]? = some (.agg e.cells) := by rw [List.getElem?_map, he]; rfl
     have hef := hbf e (List.mem_of_getElem? he)
     rw [drop_cons he, List.flatMap_cons] at hN hl
     generalize hrest : ((bs.drop (j + 1)).flatMap fun e => callsL e.allE) = rest at hN hl ⊢
     repeat (first | (with_reducible first | apply CW.seq | apply aN | apply CW.skip | apply CW.block) | refine CW.reg ?_ | refine wS rfl ?_ | refine RL.idx tO _ rfl rfl rfl rfl rfl rfl rfl rfl rfl rfl rfl (by assumption) rfl ?_)
     refine RL.newBox tO rfl rfl rfl rfl rfl rfl rfl (fun _ => rfl) rfl rfl (fun _ => rfl) rfl rfl rfl rfl ?_
     repeat (first | (with_reducible first | apply CW.seq | apply aN) | refine CW.reg ?_ | refine RL.nil ?_ | refine wS rfl ?_)
     refine RL.callP rfl rfl rfl rfl rfl (all_spec e _) ?_
     repeat (first | (with_reducible first | apply aN | apply CW.block) | refine RL.nil ?_)
     refine CW.rangeAll e rfl rfl hef.size (fun rem s₁ => ∃ G' is' own', GInv s s₁ mb ib ob gb G' is' own' ∧ gNotes (G', is') (callsL rem ++ rest) = progGens P ∧ G'.length + (callsL rem ++ rest).length ≤ (progNotes P).length)
      (fun _ _ => False) (fun _ _ => False) ⟨G, is, own, g, hN, hl⟩ ?_ ?_ (fun _ _ h => h.elim) (fun _ _ h => h.elim)
     ·rintro x rem s₁ hx ⟨G', is', own', g', hN', hl'⟩
      repeat (first | refine CW.reg ?_)
      refine RL.newBox tO rfl rfl rfl rfl rfl rfl rfl (fun _ => rfl) rfl rfl (fun _ => rfl) rfl rfl rfl rfl ?_
      repeat (first | (with_reducible first | apply CW.seq | apply aN | apply CW.block) | refine wR rfl ?_ | refine RL.nil ?_)
      cases h5 : (x.op == 5) with
      | true =>
       have hc : callsL (x :: rem) = (x.text, (x.kids.length : Int)) :: callsL rem := by simp [callsL, List.filter_cons, h5]
       rw [hc] at hN' hl'
       simp only [List.cons_append, List.length_cons] at hl'
       repeat (first | refine CW.reg ?_ | refine CW.condT rfl ?_ | refine wS rfl ?_)
       refine RL.callV rfl rfl rfl rfl rfl rfl (ACallV.of_calls (gensNote_spec s s₁ mb ib ob gb G' is' own' x.text (x.kav.length : Int) g' (by omega))) ?_ (fun _ _ ⟨h, _⟩ => by cases h)
       rintro _ t' ⟨⟨⟩, own'', g''⟩
       repeat (first | with_reducible apply iN | refine RL.nil ?_)
       refine ⟨_, _, own'', g'', ?_, ?_⟩
       ·rw [← hN', FExp.kav_length]; rfl
       ·have := gNote_length (G', is') x.text (x.kav.length : Int)
        simp only at this; omega
      | false =>
       have hc : callsL (x :: rem) = callsL rem := by simp [callsL, List.filter_cons, h5]
       rw [hc] at hN' hl'
       repeat (first | (with_reducible first | apply iN | apply CW.skip) | refine CW.condF rfl ?_)
       exact ⟨G', is', own', g', hN', hl'⟩
     ·rintro s₁ ⟨G', is', own', g', hN', hl'⟩
      repeat (first | (with_reducible first | apply aN | apply iN) | refine wR rfl ?_)
      refine ⟨(j + 1, s₁, (G', is'), own'), ⟨hlt, g', hrest.symm ▸ hN', hrest.symm ▸ hl'⟩, ⟨⟨_, rfl, aRfl⟩, ⟨_, rfl, aRfl⟩, ⟨_, rfl, aRfl⟩, ⟨_, rfl, aRfl⟩, ⟨_, rfl, aRfl⟩, ⟨_, rfl, aRfl⟩, ⟨_, rfl, AVle.of_eq ?_⟩, trivial⟩, sSub, by show bs.length - (j + 1) < bs.length - j; omega⟩
      rw [i64_succ (by omega)]
    ·have hge : bs.length ≤ j := by simpa using h
     rw [List.drop_eq_nil_of_le hge] at hN
     have hfin : (G, is) = progGens P := hN
     have hm := g.hm
     have hi := g.hi
     have ho := g.ho
     repeat (with_reducible first | apply CW.seq | apply aN | apply aX | apply iH | apply CW.exit)
     refine CW.drw tO mixed rfl (RD.run rfl ?_)
     refine RD.many rfl (RDAll.c (RDStep.mk (i := 0) rfl rfl rfl rfl (OW.loadP tO rfl rfl rfl ho rfl (X := fun _ _ => False)) ?_ (fun _ _ h => False.elim h)) (RDAll.c (RDStep.mk (i := 1) rfl rfl rfl rfl (OW.loadP tO rfl rfl rfl hm rfl (X := fun _ _ => False)) ?_ (fun _ _ h => False.elim h)) (RDAll.c (RDStep.mk (i := 2) rfl rfl rfl rfl (OW.loadP tO rfl rfl rfl hi rfl (X := fun _ _ => False)) ?_ (fun _ _ h => False.elim h)) RDAll.n)))
     ·rintro _ _ ⟨rfl, rfl⟩
      refine RD.run rfl ?_
      refine RD.many rfl (RDAll.c (RDStep.mk (i := 1) rfl rfl rfl rfl (OW.loadP tO rfl rfl rfl hm rfl (X := fun _ _ => False)) ?_ (fun _ _ h => False.elim h)) (RDAll.c (RDStep.mk (i := 2) rfl rfl rfl rfl (OW.loadP tO rfl rfl rfl hi rfl (X := fun _ _ => False)) ?_ (fun _ _ h => False.elim h)) (RDAll.c (RDStep.mkN (i := 3) rfl rfl rfl (OW.storeSame tO rfl rfl rfl rfl rfl rfl rfl ho rfl rfl (X := fun _ _ => False)) ?_ (fun _ _ h => False.elim h)) RDAll.n)))
      ·rintro _ _ ⟨rfl, rfl⟩
       refine RD.run rfl ?_
       refine RD.many rfl (RDAll.c (RDStep.mk (i := 2) rfl rfl rfl rfl (OW.loadP tO rfl rfl rfl hi rfl (X := fun _ _ => False)) ?_ (fun _ _ h => False.elim h)) (RDAll.c (RDStep.mkN (i := 3) rfl rfl rfl (OW.storeSame tO rfl rfl rfl rfl rfl rfl rfl ho rfl rfl (X := fun _ _ => False)) ?_ (fun _ _ h => False.elim h)) RDAll.n))
       ·rintro _ _ ⟨rfl, rfl⟩
        refine RD.run rfl ?_
        refine RD.many rfl (RDAll.c (RDStep.mkN (i := 3) rfl rfl rfl (OW.storeSame tO rfl rfl rfl rfl rfl rfl rfl ho rfl rfl (X := fun _ _ => False)) ?_ (fun _ _ h => False.elim h)) RDAll.n)
        ·rintro _ _ rfl
         refine RD.run rfl ?_
         refine RD.many rfl (RDAll.c (RDStep.mkN (i := 4) rfl rfl rfl (OW.storeSame tO rfl rfl rfl rfl rfl rfl rfl hm rfl rfl (X := fun _ _ => False)) ?_ (fun _ _ h => False.elim h)) RDAll.n)
         ·rintro _ _ rfl
          refine RD.run rfl ?_
          refine RD.many rfl (RDAll.c (RDStep.mkN (i := 5) rfl rfl rfl (OW.storeSame tO rfl rfl rfl rfl rfl rfl rfl hi rfl rfl (X := fun _ _ => False)) ?_ (fun _ _ h => False.elim h)) RDAll.n)
          ·rintro _ _ rfl
           refine RD.run rfl ?_
           refine RD.done rfl ?_
           repeat (with_reducible first | apply aN | apply CW.ret)
           refine ⟨_, .tup [.slc 1 (strs (G.map (·.1))) .fro, .map gb, .bool is], s, resA_cell3 rfl rfl ho rfl rfl rfl hm rfl rfl rfl hi rfl, AVle.tup (.cons AVle.fro (AVleL.refl _)), g.sub, ⟨gb, ?_⟩, rfl⟩
           rw [← hfin]
       ·rintro _ _ rfl
        refine RD.run rfl ?_
        refine RD.many rfl (RDAll.c (RDStep.mk (i := 2) rfl rfl rfl rfl (OW.loadP tO rfl rfl rfl hi rfl (X := fun _ _ => False)) ?_ (fun _ _ h => False.elim h)) (RDAll.c (RDStep.mkN (i := 4) rfl rfl rfl (OW.storeSame tO rfl rfl rfl rfl rfl rfl rfl hm rfl rfl (X := fun _ _ => False)) ?_ (fun _ _ h => False.elim h)) RDAll.n))
        ·rintro _ _ ⟨rfl, rfl⟩
         refine RD.run rfl ?_
         refine RD.many rfl (RDAll.c (RDStep.mkN (i := 4) rfl rfl rfl (OW.storeSame tO rfl rfl rfl rfl rfl rfl rfl hm rfl rfl (X := fun _ _ => False)) ?_ (fun _ _ h => False.elim h)) RDAll.n)
         ·rintro _ _ rfl
          refine RD.run rfl ?_
          refine RD.many rfl (RDAll.c (RDStep.mkN (i := 5) rfl rfl rfl (OW.storeSame tO rfl rfl rfl rfl rfl rfl rfl hi rfl rfl (X := fun _ _ => False)) ?_ (fun _ _ h => False.elim h)) RDAll.n)
          ·rintro _ _ rfl
           refine RD.run rfl ?_
           refine RD.done rfl ?_
           repeat (with_reducible first | apply aN | apply CW.ret)
           refine ⟨_, .tup [.slc 1 (strs (G.map (·.1))) .fro, .map gb, .bool is], s, resA_cell3 rfl rfl ho rfl rfl rfl hm rfl rfl rfl hi rfl, AVle.tup (.cons AVle.fro (AVleL.refl _)), g.sub, ⟨gb, ?_⟩, rfl⟩
           rw [← hfin]
        ·rintro _ _ rfl
         refine RD.run rfl ?_
         refine RD.many rfl (RDAll.c (RDStep.mk (i := 2) rfl rfl rfl rfl (OW.loadP tO rfl rfl rfl hi rfl (X := fun _ _ => False)) ?_ (fun _ _ h => False.elim h)) RDAll.n)
         ·rintro _ _ ⟨rfl, rfl⟩
          refine RD.run rfl ?_
          refine RD.many rfl (RDAll.c (RDStep.mkN (i := 5) rfl rfl rfl (OW.storeSame tO rfl rfl rfl rfl rfl rfl rfl hi rfl rfl (X := fun _ _ => False)) ?_ (fun _ _ h => False.elim h)) RDAll.n)
          ·rintro _ _ rfl
           refine RD.run rfl ?_
           refine RD.done rfl ?_
           repeat (with_reducible first | apply aN | apply CW.ret)
           refine ⟨_, .tup [.slc 1 (strs (G.map (·.1))) .fro, .map gb, .bool is], s, resA_cell3 rfl rfl ho rfl rfl rfl hm rfl rfl rfl hi rfl, AVle.tup (.cons AVle.fro (AVleL.refl _)), g.sub, ⟨gb, ?_⟩, rfl⟩
           rw [← hfin]
      ·rintro _ _ ⟨rfl, rfl⟩
       refine RD.run rfl ?_
       refine RD.many rfl (RDAll.c (RDStep.mk (i := 1) rfl rfl rfl rfl (OW.loadP tO rfl rfl rfl hm rfl (X := fun _ _ => False)) ?_ (fun _ _ h => False.elim h)) (RDAll.c (RDStep.mkN (i := 3) rfl rfl rfl (OW.storeSame tO rfl rfl rfl rfl rfl rfl rfl ho rfl rfl (X := fun _ _ => False)) ?_ (fun _ _ h => False.elim h)) RDAll.n))
       ·rintro _ _ ⟨rfl, rfl⟩
        refine RD.run rfl ?_
        refine RD.many rfl (RDAll.c (RDStep.mkN (i := 3) rfl rfl rfl (OW.storeSame tO rfl rfl rfl rfl rfl rfl rfl ho rfl rfl (X := fun _ _ => False)) ?_ (fun _ _ h => False.elim h)) RDAll.n)
        ·rintro _ _ rfl
         refine RD.run rfl ?_
         refine RD.many rfl (RDAll.c (RDStep.mkN (i := 4) rfl rfl rfl (OW.storeSame tO rfl rfl rfl rfl rfl rfl rfl hm rfl rfl (X := fun _ _ => False)) ?_ (fun _ _ h => False.elim h)) RDAll.n)
         ·rintro _ _ rfl
          refine RD.run rfl ?_
          refine RD.many rfl (RDAll.c (RDStep.mkN (i := 5) rfl rfl rfl (OW.storeSame tO rfl rfl rfl rfl rfl rfl rfl hi rfl rfl (X := fun _ _ => False)) ?_ (fun _ _ h => False.elim h)) RDAll.n)
          ·rintro _ _ rfl
           refine RD.run rfl ?_
           refine RD.done rfl ?_
           repeat (with_reducible first | apply aN | apply CW.ret)
           refine ⟨_, .tup [.slc 1 (strs (G.map (·.1))) .fro, .map gb, .bool is], s, resA_cell3 rfl rfl ho rfl rfl rfl hm rfl rfl rfl hi rfl, AVle.tup (.cons AVle.fro (AVleL.refl _)), g.sub, ⟨gb, ?_⟩, rfl⟩
           rw [← hfin]
       ·rintro _ _ rfl
        refine RD.run rfl ?_
        refine RD.many rfl (RDAll.c (RDStep.mk (i := 1) rfl rfl rfl rfl (OW.loadP tO rfl rfl rfl hm rfl (X := fun _ _ => False)) ?_ (fun _ _ h => False.elim h)) RDAll.n)
        ·rintro _ _ ⟨rfl, rfl⟩
         refine RD.run rfl ?_
         refine RD.many rfl (RDAll.c (RDStep.mkN (i := 4) rfl rfl rfl (OW.storeSame tO rfl rfl rfl rfl rfl rfl rfl hm rfl rfl (X := fun _ _ => False)) ?_ (fun _ _ h => False.elim h)) RDAll.n)
         ·rintro _ _ rfl
          refine RD.run rfl ?_
          refine RD.many rfl (RDAll.c (RDStep.mkN (i := 5) rfl rfl rfl (OW.storeSame tO rfl rfl rfl rfl rfl rfl rfl hi rfl rfl (X := fun _ _ => False)) ?_ (fun _ _ h => False.elim h)) RDAll.n)
          ·rintro _ _ rfl
           refine RD.run rfl ?_
           refine RD.done rfl ?_
           repeat (with_reducible first | apply aN | apply CW.ret)
           refine ⟨_, .tup [.slc 1 (strs (G.map (·.1))) .fro, .map gb, .bool is], s, resA_cell3 rfl rfl ho rfl rfl rfl hm rfl rfl rfl hi rfl, AVle.tup (.cons AVle.fro (AVleL.refl _)), g.sub, ⟨gb, ?_⟩, rfl⟩
           rw [← hfin]
      ·rintro _ _ rfl
       refine RD.run rfl ?_
       refine RD.many rfl (RDAll.c (RDStep.mk (i := 1) rfl rfl rfl rfl (OW.loadP tO rfl rfl rfl hm rfl (X := fun _ _ => False)) ?_ (fun _ _ h => False.elim h)) (RDAll.c (RDStep.mk (i := 2) rfl rfl rfl rfl (OW.loadP tO rfl rfl rfl hi rfl (X := fun _ _ => False)) ?_ (fun _ _ h => False.elim h)) RDAll.n))
       ·rintro _ _ ⟨rfl, rfl⟩
        refine RD.run rfl ?_
        refine RD.many rfl (RDAll.c (RDStep.mk (i := 2) rfl rfl rfl rfl (OW.loadP tO rfl rfl rfl hi rfl (X := fun _ _ => False)) ?_ (fun _ _ h => False.elim h)) (RDAll.c (RDStep.mkN (i := 4) rfl rfl rfl (OW.storeSame tO rfl rfl rfl rfl rfl rfl rfl hm rfl rfl (X := fun _ _ => False)) ?_ (fun _ _ h => False.elim h)) RDAll.n))
        ·rintro _ _ ⟨rfl, rfl⟩
         refine RD.run rfl ?_
         refine RD.many rfl (RDAll.c (RDStep.mkN (i := 4) rfl rfl rfl (OW.storeSame tO rfl rfl rfl rfl rfl rfl rfl hm rfl rfl (X := fun _ _ => False)) ?_ (fun _ _ h => False.elim h)) RDAll.n)
         ·rintro _ _ rfl
          refine RD.run rfl ?_
          refine RD.many rfl (RDAll.c (RDStep.mkN (i := 5) rfl rfl rfl (OW.storeSame tO rfl rfl rfl rfl rfl rfl rfl hi rfl rfl (X := fun _ _ => False)) ?_ (fun _ _ h => False.elim h)) RDAll.n)
          ·rintro _ _ rfl
           refine RD.run rfl ?_
           refine RD.done rfl ?_
           repeat (with_reducible first | apply aN | apply CW.ret)
           refine ⟨_, .tup [.slc 1 (strs (G.map (·.1))) .fro, .map gb, .bool is], s, resA_cell3 rfl rfl ho rfl rfl rfl hm rfl rfl rfl hi rfl, AVle.tup (.cons AVle.fro (AVleL.refl _)), g.sub, ⟨gb, ?_⟩, rfl⟩
           rw [← hfin]
        ·rintro _ _ rfl
         refine RD.run rfl ?_
         refine RD.many rfl (RDAll.c (RDStep.mk (i := 2) rfl rfl rfl rfl (OW.loadP tO rfl rfl rfl hi rfl (X := fun _ _ => False)) ?_ (fun _ _ h => False.elim h)) RDAll.n)
         ·rintro _ _ ⟨rfl, rfl⟩
          refine RD.run rfl ?_
          refine RD.many rfl (RDAll.c (RDStep.mkN (i := 5) rfl rfl rfl (OW.storeSame tO rfl rfl rfl rfl rfl rfl rfl hi rfl rfl (X := fun _ _ => False)) ?_ (fun _ _ h => False.elim h)) RDAll.n)
          ·rintro _ _ rfl
           refine RD.run rfl ?_
           refine RD.done rfl ?_
           repeat (with_reducible first | apply aN | apply CW.ret)
           refine ⟨_, .tup [.slc 1 (strs (G.map (·.1))) .fro, .map gb, .bool is], s, resA_cell3 rfl rfl ho rfl rfl rfl hm rfl rfl rfl hi rfl, AVle.tup (.cons AVle.fro (AVleL.refl _)), g.sub, ⟨gb, ?_⟩, rfl⟩
           rw [← hfin]
       ·rintro _ _ ⟨rfl, rfl⟩
        refine RD.run rfl ?_
        refine RD.many rfl (RDAll.c (RDStep.mk (i := 1) rfl rfl rfl rfl (OW.loadP tO rfl rfl rfl hm rfl (X := fun _ _ => False)) ?_ (fun _ _ h => False.elim h)) RDAll.n)
        ·rintro _ _ ⟨rfl, rfl⟩
         refine RD.run rfl ?_
         refine RD.many rfl (RDAll.c (RDStep.mkN (i := 4) rfl rfl rfl (OW.storeSame tO rfl rfl rfl rfl rfl rfl rfl hm rfl rfl (X := fun _ _ => False)) ?_ (fun _ _ h => False.elim h)) RDAll.n)
         ·rintro _ _ rfl
          refine RD.run rfl ?_
          refine RD.many rfl (RDAll.c (RDStep.mkN (i := 5) rfl rfl rfl (OW.storeSame tO rfl rfl rfl rfl rfl rfl rfl hi rfl rfl (X := fun _ _ => False)) ?_ (fun _ _ h => False.elim h)) RDAll.n)
          ·rintro _ _ rfl
           refine RD.run rfl ?_
           refine RD.done rfl ?_
           repeat (with_reducible first | apply aN | apply CW.ret)
           refine ⟨_, .tup [.slc 1 (strs (G.map (·.1))) .fro, .map gb, .bool is], s, resA_cell3 rfl rfl ho rfl rfl rfl hm rfl rfl rfl hi rfl, AVle.tup (.cons AVle.fro (AVleL.refl _)), g.sub, ⟨gb, ?_⟩, rfl⟩
           rw [← hfin]
     ·rintro _ _ ⟨rfl, rfl⟩
      refine RD.run rfl ?_
      refine RD.many rfl (RDAll.c (RDStep.mk (i := 0) rfl rfl rfl rfl (OW.loadP tO rfl rfl rfl ho rfl (X := fun _ _ => False)) ?_ (fun _ _ h => False.elim h)) (RDAll.c (RDStep.mk (i := 2) rfl rfl rfl rfl (OW.loadP tO rfl rfl rfl hi rfl (X := fun _ _ => False)) ?_ (fun _ _ h => False.elim h)) RDAll.n))
      ·rintro _ _ ⟨rfl, rfl⟩
       refine RD.run rfl ?_
       refine RD.many rfl (RDAll.c (RDStep.mk (i := 2) rfl rfl rfl rfl (OW.loadP tO rfl rfl rfl hi rfl (X := fun _ _ => False)) ?_ (fun _ _ h => False.elim h)) (RDAll.c (RDStep.mkN (i := 3) rfl rfl rfl (OW.storeSame tO rfl rfl rfl rfl rfl rfl rfl ho rfl rfl (X := fun _ _ => False)) ?_ (fun _ _ h => False.elim h)) RDAll.n))
       ·rintro _ _ ⟨rfl, rfl⟩
        refine RD.run rfl ?_
        refine RD.many rfl (RDAll.c (RDStep.mkN (i := 3) rfl rfl rfl (OW.storeSame tO rfl rfl rfl rfl rfl rfl rfl ho rfl rfl (X := fun _ _ => False)) ?_ (fun _ _ h => False.elim h)) RDAll.n)
        ·rintro _ _ rfl
         refine RD.run rfl ?_
         refine RD.many rfl (RDAll.c (RDStep.mkN (i := 4) rfl rfl rfl (OW.storeSame tO rfl rfl rfl rfl rfl rfl rfl hm rfl rfl (X := fun _ _ => False)) ?_ (fun _ _ h => False.elim h)) RDAll.n)
         ·rintro _ _ rfl
          refine RD.run rfl ?_
          refine RD.many rfl (RDAll.c (RDStep.mkN (i := 5) rfl rfl rfl (OW.storeSame tO rfl rfl rfl rfl rfl rfl rfl hi rfl rfl (X := fun _ _ => False)) ?_ (fun _ _ h => False.elim h)) RDAll.n)
          ·rintro _ _ rfl
           refine RD.run rfl ?_
           refine RD.done rfl ?_
           repeat (with_reducible first | apply aN | apply CW.ret)
           refine ⟨_, .tup [.slc 1 (strs (G.map (·.1))) .fro, .map gb, .bool is], s, resA_cell3 rfl rfl ho rfl rfl rfl hm rfl rfl rfl hi rfl, AVle.tup (.cons AVle.fro (AVleL.refl _)), g.sub, ⟨gb, ?_⟩, rfl⟩
           rw [← hfin]
       ·rintro _ _ rfl
        refine RD.run rfl ?_
        refine RD.many rfl (RDAll.c (RDStep.mk (i := 2) rfl rfl rfl rfl (OW.loadP tO rfl rfl rfl hi rfl (X := fun _ _ => False)) ?_ (fun _ _ h => False.elim h)) (RDAll.c (RDStep.mkN (i := 4) rfl rfl rfl (OW.storeSame tO rfl rfl rfl rfl rfl rfl rfl hm rfl rfl (X := fun _ _ => False)) ?_ (fun _ _ h => False.elim h)) RDAll.n))
        ·rintro _ _ ⟨rfl, rfl⟩
         refine RD.run rfl ?_
         refine RD.many rfl (RDAll.c (RDStep.mkN (i := 4) rfl rfl rfl (OW.storeSame tO rfl rfl rfl rfl rfl rfl rfl hm rfl rfl (X := fun _ _ => False)) ?_ (fun _ _ h => False.elim h)) RDAll.n)
         ·rintro _ _ rfl
          refine RD.run rfl ?_
          refine RD.many rfl (RDAll.c (RDStep.mkN (i := 5) rfl rfl rfl (OW.storeSame tO rfl rfl rfl rfl rfl rfl rfl hi rfl rfl (X := fun _ _ => False)) ?_ (fun _ _ h => False.elim h)) RDAll.n)
          ·rintro _ _ rfl
           refine RD.run rfl ?_
           refine RD.done rfl ?_
           repeat (with_reducible first | apply aN | apply CW.ret)
           refine ⟨_, .tup [.slc 1 (strs (G.map (·.1))) .fro, .map gb, .bool is], s, resA_cell3 rfl rfl ho rfl rfl rfl hm rfl rfl rfl hi rfl, AVle.tup (.cons AVle.fro (AVleL.refl _)), g.sub, ⟨gb, ?_⟩, rfl⟩
           rw [← hfin]
        ·rintro _ _ rfl
         refine RD.run rfl ?_
         refine RD.many rfl (RDAll.c (RDStep.mk (i := 2) rfl rfl rfl rfl (OW.loadP tO rfl rfl rfl hi rfl (X := fun _ _ => False)) ?_ (fun _ _ h => False.elim h)) RDAll.n)
         ·rintro _ _ ⟨rfl, rfl⟩
          refine RD.run rfl ?_
          refine RD.many rfl (RDAll.c (RDStep.mkN (i := 5) rfl rfl rfl (OW.storeSame tO rfl rfl rfl rfl rfl rfl rfl hi rfl rfl (X := fun _ _ => False)) ?_ (fun _ _ h => False.elim h)) RDAll.n)
          ·rintro _ _ rfl
           refine RD.run rfl ?_
           refine RD.done rfl ?_
           repeat (with_reducible first | apply aN | apply CW.ret)
           refine ⟨_, .tup [.slc 1 (strs (G.map (·.1))) .fro, .map gb, .bool is], s, resA_cell3 rfl rfl ho rfl rfl rfl hm rfl rfl rfl hi rfl, AVle.tup (.cons AVle.fro (AVleL.refl _)), g.sub, ⟨gb, ?_⟩, rfl⟩
           rw [← hfin]
      ·rintro _ _ ⟨rfl, rfl⟩
       refine RD.run rfl ?_
       refine RD.many rfl (RDAll.c (RDStep.mk (i := 0) rfl rfl rfl rfl (OW.loadP tO rfl rfl rfl ho rfl (X := fun _ _ => False)) ?_ (fun _ _ h => False.elim h)) RDAll.n)
       ·rintro _ _ ⟨rfl, rfl⟩
        refine RD.run rfl ?_
        refine RD.many rfl (RDAll.c (RDStep.mkN (i := 3) rfl rfl rfl (OW.storeSame tO rfl rfl rfl rfl rfl rfl rfl ho rfl rfl (X := fun _ _ => False)) ?_ (fun _ _ h => False.elim h)) RDAll.n)
        ·rintro _ _ rfl
         refine RD.run rfl ?_
         refine RD.many rfl (RDAll.c (RDStep.mkN (i := 4) rfl rfl rfl (OW.storeSame tO rfl rfl rfl rfl rfl rfl rfl hm rfl rfl (X := fun _ _ => False)) ?_ (fun _ _ h => False.elim h)) RDAll.n)
         ·rintro _ _ rfl
          refine RD.run rfl ?_
          refine RD.many rfl (RDAll.c (RDStep.mkN (i := 5) rfl rfl rfl (OW.storeSame tO rfl rfl rfl rfl rfl rfl rfl hi rfl rfl (X := fun _ _ => False)) ?_ (fun _ _ h => False.elim h)) RDAll.n)
          ·rintro _ _ rfl
           refine RD.run rfl ?_
           refine RD.done rfl ?_
           repeat (with_reducible first | apply aN | apply CW.ret)
           refine ⟨_, .tup [.slc 1 (strs (G.map (·.1))) .fro, .map gb, .bool is], s, resA_cell3 rfl rfl ho rfl rfl rfl hm rfl rfl rfl hi rfl, AVle.tup (.cons AVle.fro (AVleL.refl _)), g.sub, ⟨gb, ?_⟩, rfl⟩
           rw [← hfin]
     ·rintro _ _ ⟨rfl, rfl⟩
      refine RD.run rfl ?_
      refine RD.many rfl (RDAll.c (RDStep.mk (i := 0) rfl rfl rfl rfl (OW.loadP tO rfl rfl rfl ho rfl (X := fun _ _ => False)) ?_ (fun _ _ h => False.elim h)) (RDAll.c (RDStep.mk (i := 1) rfl rfl rfl rfl (OW.loadP tO rfl rfl rfl hm rfl (X := fun _ _ => False)) ?_ (fun _ _ h => False.elim h)) RDAll.n))
      ·rintro _ _ ⟨rfl, rfl⟩
       refine RD.run rfl ?_
       refine RD.many rfl (RDAll.c (RDStep.mk (i := 1) rfl rfl rfl rfl (OW.loadP tO rfl rfl rfl hm rfl (X := fun _ _ => False)) ?_ (fun _ _ h => False.elim h)) (RDAll.c (RDStep.mkN (i := 3) rfl rfl rfl (OW.storeSame tO rfl rfl rfl rfl rfl rfl rfl ho rfl rfl (X := fun _ _ => False)) ?_ (fun _ _ h => False.elim h)) RDAll.n))
       ·rintro _ _ ⟨rfl, rfl⟩
        refine RD.run rfl ?_
        refine RD.many rfl (RDAll.c (RDStep.mkN (i := 3) rfl rfl rfl (OW.storeSame tO rfl rfl rfl rfl rfl rfl rfl ho rfl rfl (X := fun _ _ => False)) ?_ (fun _ _ h => False.elim h)) RDAll.n)
        ·rintro _ _ rfl
         refine RD.run rfl ?_
         refine RD.many rfl (RDAll.c (RDStep.mkN (i := 4) rfl rfl rfl (OW.storeSame tO rfl rfl rfl rfl rfl rfl rfl hm rfl rfl (X := fun _ _ => False)) ?_ (fun _ _ h => False.elim h)) RDAll.n)
         ·rintro _ _ rfl
          refine RD.run rfl ?_
          refine RD.many rfl (RDAll.c (RDStep.mkN (i := 5) rfl rfl rfl (OW.storeSame tO rfl rfl rfl rfl rfl rfl rfl hi rfl rfl (X := fun _ _ => False)) ?_ (fun _ _ h => False.elim h)) RDAll.n)
          ·rintro _ _ rfl
           refine RD.run rfl ?_
           refine RD.done rfl ?_
           repeat (with_reducible first | apply aN | apply CW.ret)
           refine ⟨_, .tup [.slc 1 (strs (G.map (·.1))) .fro, .map gb, .bool is], s, resA_cell3 rfl rfl ho rfl rfl rfl hm rfl rfl rfl hi rfl, AVle.tup (.cons AVle.fro (AVleL.refl _)), g.sub, ⟨gb, ?_⟩, rfl⟩
           rw [← hfin]
       ·rintro _ _ rfl
        refine RD.run rfl ?_
        refine RD.many rfl (RDAll.c (RDStep.mk (i := 1) rfl rfl rfl rfl (OW.loadP tO rfl rfl rfl hm rfl (X := fun _ _ => False)) ?_ (fun _ _ h => False.elim h)) RDAll.n)
        ·rintro _ _ ⟨rfl, rfl⟩
         refine RD.run rfl ?_
         refine RD.many rfl (RDAll.c (RDStep.mkN (i := 4) rfl rfl rfl (OW.storeSame tO rfl rfl rfl rfl rfl rfl rfl hm rfl rfl (X := fun _ _ => False)) ?_ (fun _ _ h => False.elim h)) RDAll.n)
         ·rintro _ _ rfl
          refine RD.run rfl ?_
          refine RD.many rfl (RDAll.c (RDStep.mkN (i := 5) rfl rfl rfl (OW.storeSame tO rfl rfl rfl rfl rfl rfl rfl hi rfl rfl (X := fun _ _ => False)) ?_ (fun _ _ h => False.elim h)) RDAll.n)
          ·rintro _ _ rfl
           refine RD.run rfl ?_
           refine RD.done rfl ?_
           repeat (with_reducible first | apply aN | apply CW.ret)
           refine ⟨_, .tup [.slc 1 (strs (G.map (·.1))) .fro, .map gb, .bool is], s, resA_cell3 rfl rfl ho rfl rfl rfl hm rfl rfl rfl hi rfl, AVle.tup (.cons AVle.fro (AVleL.refl _)), g.sub, ⟨gb, ?_⟩, rfl⟩
           rw [← hfin]
      ·rintro _ _ ⟨rfl, rfl⟩
       refine RD.run rfl ?_
       refine RD.many rfl (RDAll.c (RDStep.mk (i := 0) rfl rfl rfl rfl (OW.loadP tO rfl rfl rfl ho rfl (X := fun _ _ => False)) ?_ (fun _ _ h => False.elim h)) RDAll.n)
       ·rintro _ _ ⟨rfl, rfl⟩
        refine RD.run rfl ?_
        refine RD.many rfl (RDAll.c (RDStep.mkN (i := 3) rfl rfl rfl (OW.storeSame tO rfl rfl rfl rfl rfl rfl rfl ho rfl rfl (X := fun _ _ => False)) ?_ (fun _ _ h => False.elim h)) RDAll.n)
        ·rintro _ _ rfl
         refine RD.run rfl ?_
         refine RD.many rfl (RDAll.c (RDStep.mkN (i := 4) rfl rfl rfl (OW.storeSame tO rfl rfl rfl rfl rfl rfl rfl hm rfl rfl (X := fun _ _ => False)) ?_ (fun _ _ h => False.elim h)) RDAll.n)
         ·rintro _ _ rfl
          refine RD.run rfl ?_
          refine RD.many rfl (RDAll.c (RDStep.mkN (i := 5) rfl rfl rfl (OW.storeSame tO rfl rfl rfl rfl rfl rfl rfl hi rfl rfl (X := fun _ _ => False)) ?_ (fun _ _ h => False.elim h)) RDAll.n)
          ·rintro _ _ rfl
           refine RD.run rfl ?_
           refine RD.done rfl ?_
           repeat (with_reducible first | apply aN | apply CW.ret)
           refine ⟨_, .tup [.slc 1 (strs (G.map (·.1))) .fro, .map gb, .bool is], s, resA_cell3 rfl rfl ho rfl rfl rfl hm rfl rfl rfl hi rfl, AVle.tup (.cons AVle.fro (AVleL.refl _)), g.sub, ⟨gb, ?_⟩, rfl⟩
           rw [← hfin]
end Go.Proofs.YtaafacnoddjhgaaGreat

/- Contracts of the layer 'shape': which programs are formed, and how many classes and nodes they have. -/
namespace Go.Proofs.YtaafacnoddjhgaaGreat
open Go.AE

theorem ACalls.weakArgs {P : Program} {f : FuncId} {xs ys : List AV} {s : Store} {R : AOut → Store → Prop} (hl : AVleL xs ys) (h : ACalls P f ys s R) : ACalls P f xs s R :=
 ⟨h.1, fun w p vs hwf hr => h.2 w p vs hwf (hl.rel hr)⟩

def mB1 (m : FMethod) : Bool := (((decide (m.kind ≥ 1) && decide (m.kind ≤ 4)) && nameS m.name) && decide ((m.params.length : Int) ≥ 1)) && decide ((m.params.length : Int) ≤ 3)
def okParam (pre : List Str) (s : Str) : Bool := nameS s && !pre.contains s
def methodOk (names slots : List Str) (cnt : Nat) (m : FMethod) : Bool :=
 mB1 m && (allPre okParam [] m.params && (factB names slots cnt m.fact m.params && knownB names slots (cnt + m.fact.size) m.body m.params (m.kind == 1 || m.kind == 4)))
def methodsOk (names slots : List Str) : Nat → List FMethod → Bool
 | _, [] => true
 | cnt, m :: r => methodOk names slots cnt m && methodsOk names slots (cnt + m.fact.size + m.body.size) r
def methodsCount : List FMethod → Nat
 | [] => 0
 | m :: r => m.fact.size + m.body.size + methodsCount r

def progOk (P : FProg) : Bool := match clsAll P.classes with
 | none => false
 | some st => decide (P.methods.length ≤ 16) && (knownB st.names st.slots P.classes.length P.main [] false && (methodsOk st.names st.slots (P.classes.length + P.main.size) P.methods && ((progGens P).2 && decide ((progGens P).1.length ≤ 8))))
def progCount (P : FProg) : Nat := P.classes.length + P.main.size + methodsCount P.methods

structure KInv (P : FProg) (pb cb sb : Nat) (s t : Store) (st : CSt) (has : AV) (cnt : Int) : Prop where
 hp : t pb = some (.box 136 (progCells P cb has sb cnt))
 hc : t cb = some (.map (classA st.names))
 hs : t sb = some (.map (setA st.slots))
 d : pb ≠ cb ∧ pb ≠ sb
 rest : ∀ x, x ≠ pb → x ≠ cb → x ≠ sb → s x ≠ none → t x = s x

section
variable {P : FProg} {pb cb sb : Nat} {s t : Store} {st : CSt} {has : AV} {cnt : Int}
theorem KInv.new (h : KInv P pb cb sb s t st has cnt) {b : Nat} (hb : t b = none) : b ≠ pb ∧ b ≠ cb ∧ b ≠ sb ∧ s b = none := by
 refine ⟨ne_none hb h.hp, ne_none hb h.hc, ne_none hb h.hs, ?_⟩
 refine Classical.byContradiction fun hn => ?_
 have := h.rest b (ne_none hb h.hp) (ne_none hb h.hc) (ne_none hb h.hs) hn
 rw [hb] at this; exact hn this.symm
theorem KInv.set (h : KInv P pb cb sb s t st has cnt) {b : Nat} (hb : b ≠ pb ∧ b ≠ cb ∧ b ≠ sb ∧ s b = none) (o : AObj) : KInv P pb cb sb s (t.set b o) st has cnt :=
 ⟨(Store.set_ne _ _ hb.1.symm).trans h.hp, (Store.set_ne _ _ hb.2.1.symm).trans h.hc, (Store.set_ne _ _ hb.2.2.1.symm).trans h.hs, h.d,
  fun x h1 h2 h3 h4 => (Store.set_ne _ _ (fun e => by subst e; exact h4 hb.2.2.2)).trans (h.rest x h1 h2 h3 h4)⟩
theorem KInv.count (h : KInv P pb cb sb s t st has cnt) (n : Int) : KInv P pb cb sb s (t.set pb (.box 136 (progCells P cb has sb n))) st has n :=
 ⟨sSam, (Store.set_ne _ _ h.d.1.symm).trans h.hc, (Store.set_ne _ _ h.d.2.symm).trans h.hs, h.d, fun x h1 h2 h3 h4 => (Store.set_ne _ _ h1).trans (h.rest x h1 h2 h3 h4)⟩
end

def CountOk (P : FProg) (pb cb sb : Nat) (s s' : Store) : Prop := progOk P = true ∧ (∃ has, s' pb = some (.box 136 (progCells P cb has sb (progCount P)))) ∧ ∀ x, x ≠ pb → x ≠ cb → x ≠ sb → s x ≠ none → s' x = s x
def CountBad (P : FProg) (pb cb sb : Nat) (s s' : Store) : Prop := progOk P = false ∧ (∃ has k, s' pb = some (.box 136 (progCells P cb has sb k))) ∧ ∀ x, x ≠ pb → x ≠ cb → x ≠ sb → s x ≠ none → s' x = s x

theorem KInv.bad {P : FProg} {pb cb sb : Nat} {s t : Store} {st : CSt} {has : AV} {cnt : Int} (h : KInv P pb cb sb s t st has cnt) (hb : progOk P = false) : CountBad P pb cb sb s t := ⟨hb, ⟨has, cnt, h.hp⟩, h.rest⟩

set_option maxRecDepth 10000 in
set_option maxHeartbeats 4000000 in
theorem count1_spec (P : FProg) (pb cb sb : Nat) (s : Store) (hp : s pb = some (.box 136 (progCells P cb (.slc 0 [] .nil) sb 0))) (hc : s cb = some (.map [])) (hsb : s sb = some (.map [])) (hcs : cb ≠ sb) (hP : P.Fair) :
  ACalls Tryz.prog 87 [.fptr [.ptr pb 0] 0, .fptr P.cells 0] s (Tries (CountOk P pb cb sb s) (CountBad P pb cb sb s)) := by
 have hb : big = 1099511627776 := rfl
 have hml := hP.mlen
 have hpc : pb ≠ cb := fun e => by subst e; rw [hp] at hc; cases hc
 have hps : pb ≠ sb := fun e => by subst e; rw [hp] at hsb; cases hsb
 refine ACalls.of_CW tO call87 Tryz.func87 rfl rfl ?_
 have hcl := classes_spec P pb cb sb s hp hc hsb hcs hP.cls hP.clen
 unfold ClsPost at hcl
 cases hall : clsAll P.classes with
 | none =>
  have hbad : progOk P = false := by rw [progOk, hall]
  rw [hall] at hcl
  repeat (first | with_reducible apply CW.seq | refine CW.reg ?_ | refine wS rfl ?_)
  refine RL.call rfl rfl rfl rfl rfl hcl (fun _ _ ⟨⟨h, _⟩, _⟩ => by cases h) ?_
  rintro _ t ⟨⟨⟨⟩, has, hp2⟩, hrest⟩
  repeat (first | with_reducible apply aP)
  exact ⟨_, _, aRfl, sSub, .inr ⟨rfl, hbad, ⟨has, 0, hp2⟩, hrest⟩⟩
 | some st =>
  have hok : progOk P = (decide (P.methods.length ≤ 16) && (knownB st.names st.slots P.classes.length P.main [] false && (methodsOk st.names st.slots (P.classes.length + P.main.size) P.methods && ((progGens P).2 && decide ((progGens P).1.length ≤ 8))))) := by rw [progOk, hall]
  have hcl10 : P.classes.length ≤ 10 := by
   unfold clsAll at hall; split at hall
   ·assumption
   ·cases hall
  rw [hall] at hcl
  repeat (first | with_reducible apply CW.seq | refine CW.reg ?_ | refine wS rfl ?_)
  refine RL.call rfl rfl rfl rfl rfl hcl ?_ (fun _ _ ⟨⟨h, _⟩, _⟩ => by cases h)
  rintro _ t ⟨⟨⟨⟩, hc2, hs2, has, hp2⟩, hrest⟩
  have kv : KInv P pb cb sb s t st has P.classes.length := ⟨hp2, hc2, hs2, ⟨hpc, hps⟩, hrest⟩
  clear hp hc hsb hcl hrest
  repeat (first | (with_reducible first | apply CW.seq | apply aN) | refine CW.reg ?_ | refine RL.nil ?_ | refine wS rfl ?_ | refine RL.loadP tO rfl rfl rfl rfl rfl rfl (by assumption) rfl ?_)
  refine needR rfl rfl rfl rfl rfl (fun h16 => ?_) (fun h16 => ?_)
  ·have h16' : decide (P.methods.length ≤ 16) = true := by simp at h16 ⊢; omega
   repeat (first | (with_reducible first | apply CW.seq | apply aN) | refine RL.nil ?_)
   refine CW.drw tO mixed rfl (RD.run rfl ?_)
   refine RD.one (i := 5) rfl rfl rfl rfl rfl (OW.loadP tO rfl rfl rfl hp2 rfl (X := fun _ _ => False)) ?_ (fun _ _ h => False.elim h)
   rintro _ _ ⟨rfl, rfl⟩
   refine RD.call (i := 6) rfl rfl rfl rfl rfl rfl rfl (ACalls.weakArgs (ys := [.ptr pb 0, P.main.av, .slc 1 (strs []) .nil, .bool false]) (.cons aRfl (.cons aRfl (.cons (AVle.nil (by simp)) (.one aRfl)))) (known_spec P pb cb sb has P.classes.length st.names st.slots P.main [] .nil false _ hp2 hc2 hs2 hP.main (by omega) (by simp))) ?_ ?_
   ·rintro _ t2 (⟨hk, ⟨⟩, rfl⟩ | ⟨_, h, _⟩)
    ·refine RD.run rfl (RD.done rfl ?_)
     have kv2 := kv.count ((P.classes.length + P.main.size : Nat) : Int)
     have hp := kv2.hp
     repeat (first | (with_reducible first | apply CW.seq | apply aN | apply CW.block) | refine CW.reg ?_ | refine RL.nil ?_ | refine wS rfl ?_ | refine RL.loadP tO rfl rfl rfl rfl rfl rfl sSam rfl ?_)
     have hk120 : P.classes.length + P.main.size ≤ 120 := by
      simp only [knownB, Bool.and_eq_true, decide_eq_true_eq] at hk; exact hk.1.2
     refine CW.loop (σ := Nat × Store × Nat) (fun q => [(0, .fptr [.ptr pb 0] 0), (1, .fptr P.cells 0), (31, .slc 13 (P.methods.map FMethod.av) .fro), (32, .int .i64 (P.methods.map FMethod.av).length), (33, .int .i64 (q.1 : Int))]) (fun q => q.2.1)
      (fun q => q.1 ≤ P.methods.length ∧ KInv P pb cb sb s q.2.1 st has ((q.2.2 : Nat) : Int) ∧ q.2.2 ≤ 120 ∧ methodsOk st.names st.slots (P.classes.length + P.main.size) P.methods = methodsOk st.names st.slots q.2.2 (P.methods.drop q.1) ∧ q.2.2 + methodsCount (P.methods.drop q.1) = progCount P)
      (fun q => P.methods.length - q.1) (0, _, P.classes.length + P.main.size) ⟨by simp, kv2, hk120, rfl, rfl⟩ ?_ sSub ?_
     ·exact ⟨⟨_, rfl, aRfl⟩, ⟨_, rfl, aRfl⟩, ⟨_, rfl, aRfl⟩, ⟨_, rfl, aRfl⟩, ⟨_, rfl, aRfl⟩, trivial⟩
     ·clear hp kv2 kv hp2 hc2 hs2
      rintro ⟨i, t, cnt⟩ ⟨hi, kv, hc120, hM, hC⟩
      simp only at hi kv hc120 hM hC ⊢
      have hp := kv.hp
      repeat (first | (with_reducible first | apply CW.seq | apply aN) | refine wR rfl ?_)
      refine CW.cond rfl (fun h => ?_) (fun h => ?_)
      ·have hlt : i < P.methods.length := by simpa using h
       obtain ⟨m, hm⟩ : ∃ m, P.methods[i]? = some m := ⟨_, List.getElem?_eq_getElem hlt⟩
       have hm' : (P.methods.map FMethod.av)[i]? = some (.agg m.cells) := by rw [List.getElem?_map, hm]; rfl
       have hmf := hP.mth m (List.mem_of_getElem? hm)
       have hpl := hmf.params.len
       have hnm := hmf.name
       rw [drop_cons hm] at hM hC
       rw [methodsOk] at hM
       rw [methodsCount] at hC
       have hbad : methodOk st.names st.slots cnt m = false → progOk P = false := fun h => by rw [hok, hM, h]; simp
       repeat (first | (with_reducible first | apply CW.seq | apply aN | apply CW.skip | apply CW.block) | refine CW.reg ?_ | refine wS rfl ?_ | refine RL.idx tO _ rfl rfl rfl rfl rfl rfl rfl rfl rfl rfl rfl (by assumption) rfl ?_)
       refine RL.newBox tO rfl rfl rfl rfl rfl rfl rfl (fun _ => rfl) rfl rfl (fun _ => rfl) rfl rfl rfl rfl ?_
       repeat (first | (with_reducible first | apply CW.seq | apply aN) | refine CW.reg ?_ | refine RL.nil ?_ | refine wS rfl ?_)
       refine RL.cut 21 [(0, .fptr [.ptr pb 0] 0), (1, .fptr P.cells 0), (31, .slc 13 (P.methods.map FMethod.av) .fro), (32, .int .i64 (P.methods.map FMethod.av).length), (33, .int .i64 (i : Int)), (3, .fptr m.cells 0), (61, .bool (mB1 m))] ?_ ?_
       ·repeat' (first | refine RL.nil ?_ | refine wS rfl ?_ | refine RL.skip rfl rfl rfl ?_ | refine RL.gstepT tO rfl rfl rfl rfl rfl rfl rfl (fun _ => ?_) (fun _ => ?_) | refine RL.callP rfl rfl rfl rfl rfl (shapeName_spec m.name _ hnm) ?_)
        all_goals refine ⟨rfl, ⟨⟨_, rfl, aRfl⟩, ⟨_, rfl, aRfl⟩, ⟨_, rfl, aRfl⟩, ⟨_, rfl, aRfl⟩, ⟨_, rfl, aRfl⟩, ⟨_, rfl, aRfl⟩, ⟨_, rfl, AVle.of_eq ?_⟩, trivial⟩, rfl⟩
        all_goals simp_all [mB1]
        all_goals omega
       refine needR rfl rfl rfl rfl rfl (fun h1 => ?_) (fun h1 => ?_)
       ·repeat (first | (with_reducible first | apply CW.seq | apply aN) | refine CW.reg ?_ | refine RL.nil ?_)
        refine RL.makeMap rfl rfl rfl rfl (fun qb hqb => ?_)
        have aq := kv.new hqb
        repeat (first | (with_reducible first | apply CW.seq | apply aN | apply CW.block) | refine wR rfl ?_ | refine RL.nil ?_ | refine wS rfl ?_)
        refine CW.loop (σ := Nat × Store) (fun q => [(0, .fptr [.ptr pb 0] 0), (1, .fptr P.cells 0), (31, .slc 13 (P.methods.map FMethod.av) .fro), (32, .int .i64 (P.methods.map FMethod.av).length), (33, .int .i64 (i : Int)), (3, .fptr m.cells 0), (4, .map qb), (65, .slc 1 (strs m.params) .fro), (66, .int .i64 (strs m.params).length), (67, .int .i64 (q.1 : Int))]) (fun q => q.2)
         (fun q => q.1 ≤ m.params.length ∧ KInv P pb cb sb s q.2 st has (cnt : Int) ∧ q.2 qb = some (.map (setA (m.params.take q.1))) ∧ allPre okParam [] m.params = allPre okParam (m.params.take q.1) (m.params.drop q.1)) (fun q => m.params.length - q.1)
         (0, t.set qb (.map [])) ⟨by simp, kv.set aq _, sSam, rfl⟩ ?_ sSub ?_
        ·exact ⟨⟨_, rfl, aRfl⟩, ⟨_, rfl, aRfl⟩, ⟨_, rfl, aRfl⟩, ⟨_, rfl, aRfl⟩, ⟨_, rfl, aRfl⟩, ⟨_, rfl, aRfl⟩, ⟨_, rfl, aRfl⟩, ⟨_, rfl, aRfl⟩, ⟨_, rfl, aRfl⟩, ⟨_, rfl, aRfl⟩, trivial⟩
        ·clear kv hp
         rintro ⟨j, t⟩ ⟨hj, kv, hq, hA⟩
         simp only at hj kv hq hA ⊢
         have hp := kv.hp
         repeat (first | (with_reducible first | apply CW.seq | apply aN) | refine wR rfl ?_)
         refine CW.cond rfl (fun h => ?_) (fun h => ?_)
         ·have hlt : j < m.params.length := by simpa using h
          obtain ⟨y, hy⟩ : ∃ y, m.params[j]? = some y := ⟨_, List.getElem?_eq_getElem hlt⟩
          have hy' : (strs m.params)[j]? = some (.str y) := by rw [strs_get, hy]; rfl
          have hys := hmf.params.sh y (List.mem_of_getElem? hy)
          rw [drop_cons hy, allPre_cons] at hA
          repeat (first | (with_reducible first | apply CW.seq | apply aN | apply CW.skip | apply CW.block) | refine CW.reg ?_ | refine RL.nil ?_ | refine wS rfl ?_ | refine RL.idx tO _ rfl rfl rfl rfl rfl rfl rfl rfl rfl rfl rfl (by assumption) rfl ?_)
          refine RL.call rfl rfl rfl rfl rfl (one_spec y (m.params.take j) qb t hq hys) ?_ ?_
          ·rintro _ _ (⟨hn, ⟨⟩, rfl⟩ | ⟨_, h, _⟩)
           ·have hins : insS (m.params.take j) y = m.params.take (j + 1) := by
             have : (m.params.take j).contains y = false := by simp only [Bool.and_eq_true, Bool.not_eq_true'] at hn; exact hn.2
             rw [insS, this, ← take_snoc hy]; rfl
            rw [hins]
            repeat (first | (with_reducible first | apply aN | apply iN) | refine wR rfl ?_ | refine RL.nil ?_)
            refine ⟨(j + 1, t.set qb (.map (setA (m.params.take (j + 1))))), ⟨hlt, kv.set aq _, sSam, ?_⟩, ⟨⟨_, rfl, aRfl⟩, ⟨_, rfl, aRfl⟩, ⟨_, rfl, aRfl⟩, ⟨_, rfl, aRfl⟩, ⟨_, rfl, aRfl⟩, ⟨_, rfl, aRfl⟩, ⟨_, rfl, aRfl⟩, ⟨_, rfl, aRfl⟩, ⟨_, rfl, aRfl⟩, ⟨_, rfl, AVle.of_eq ?_⟩, trivial⟩, sSub, by show m.params.length - (j + 1) < m.params.length - j; omega⟩
            ·rw [hA, okParam, hn, take_snoc hy]; rfl
            ·rw [i64_succ (by omega)]
           ·cases h
          ·rintro _ _ (⟨_, h, _⟩ | ⟨hn, ⟨⟩, rfl⟩)
           ·cases h
           ·repeat (with_reducible first | apply aP | apply iP)
            exact ⟨_, _, aRfl, sSub, .inr ⟨rfl, kv.bad (hbad (by rw [methodOk, hA, okParam, hn]; simp))⟩⟩
         ·have hge : m.params.length ≤ j := by simpa using h
          rw [List.drop_eq_nil_of_le hge] at hA
          have hAP : allPre okParam [] m.params = true := hA
          repeat (first | (with_reducible first | apply CW.seq | apply aN | apply aX | apply iH | apply CW.exit) | refine CW.reg ?_ | refine wS rfl ?_)
          refine RL.call rfl rfl rfl rfl rfl (fact_spec P pb cb sb has cnt st.names st.slots m.fact m.params .fro t kv.hp kv.hc kv.hs hmf.fact (by omega) (by omega)) ?_ ?_
          ·rintro _ t2 (⟨hf, ⟨⟩, rfl⟩ | ⟨_, h, _⟩)
           ·have kv2 := kv.count ((cnt + m.fact.size : Nat) : Int)
            have hf120 : cnt + m.fact.size ≤ 120 := by
             simp only [factB, Bool.and_eq_true, decide_eq_true_eq] at hf; exact hf.1.2
            repeat (first | with_reducible apply aN | refine CW.reg ?_ | refine RL.nil ?_ | refine wS rfl ?_)
            cases hk1 : (m.kind == 1) with
            | true =>
             have hnx : (m.kind == 1 || m.kind == 4) = true := by rw [hk1]; rfl
             repeat (first | refine wS rfl ?_ | refine RL.skip rfl rfl rfl ?_)
             refine RL.call rfl rfl rfl rfl rfl (known_spec P pb cb sb has (cnt + m.fact.size) st.names st.slots m.body m.params .fro true _ kv2.hp kv2.hc kv2.hs hmf.body (by omega) (by omega)) ?_ ?_
             ·rintro _ t3 (⟨hkn, ⟨⟩, rfl⟩ | ⟨_, h, _⟩)
              ·have kv3 := kv2.count ((cnt + m.fact.size + m.body.size : Nat) : Int)
               have hk120 : cnt + m.fact.size + m.body.size ≤ 120 := by
                simp only [knownB, Bool.and_eq_true, decide_eq_true_eq] at hkn; exact hkn.1.2
               repeat (first | (with_reducible first | apply aN | apply iN) | refine wR rfl ?_ | refine RL.nil ?_)
               refine ⟨(i + 1, _, cnt + m.fact.size + m.body.size), ⟨hlt, kv3, hk120, ?_, by show cnt + m.fact.size + m.body.size + methodsCount (P.methods.drop (i + 1)) = progCount P; omega⟩, ⟨⟨_, rfl, aRfl⟩, ⟨_, rfl, aRfl⟩, ⟨_, rfl, aRfl⟩, ⟨_, rfl, aRfl⟩, ⟨_, rfl, AVle.of_eq ?_⟩, trivial⟩, sSub, by show P.methods.length - (i + 1) < P.methods.length - i; omega⟩
               ·rw [hM, methodOk, h1, hAP, hf, hnx, hkn]; rfl
               ·rw [i64_succ (by omega)]
              ·cases h
             ·rintro _ t3 (⟨_, h, _⟩ | ⟨hkn, ⟨⟩, k, rfl⟩)
              ·cases h
              ·repeat (with_reducible first | apply aP | apply iP)
               exact ⟨_, _, aRfl, sSub, .inr ⟨rfl, (kv2.count k).bad (hbad (by rw [methodOk, hnx, hkn]; simp))⟩⟩
            | false =>
             have hnx : (m.kind == 1 || m.kind == 4) = (m.kind == 4) := by rw [hk1]; rfl
             repeat (first | refine wS rfl ?_)
             refine RL.call rfl rfl rfl rfl rfl (known_spec P pb cb sb has (cnt + m.fact.size) st.names st.slots m.body m.params .fro (m.kind==4) _ kv2.hp kv2.hc kv2.hs hmf.body (by omega) (by omega)) ?_ ?_
             ·rintro _ t3 (⟨hkn, ⟨⟩, rfl⟩ | ⟨_, h, _⟩)
              ·have kv3 := kv2.count ((cnt + m.fact.size + m.body.size : Nat) : Int)
               have hk120 : cnt + m.fact.size + m.body.size ≤ 120 := by
                simp only [knownB, Bool.and_eq_true, decide_eq_true_eq] at hkn; exact hkn.1.2
               repeat (first | (with_reducible first | apply aN | apply iN) | refine wR rfl ?_ | refine RL.nil ?_)
               refine ⟨(i + 1, _, cnt + m.fact.size + m.body.size), ⟨hlt, kv3, hk120, ?_, by show cnt + m.fact.size + m.body.size + methodsCount (P.methods.drop (i + 1)) = progCount P; omega⟩, ⟨⟨_, rfl, aRfl⟩, ⟨_, rfl, aRfl⟩, ⟨_, rfl, aRfl⟩, ⟨_, rfl, aRfl⟩, ⟨_, rfl, AVle.of_eq ?_⟩, trivial⟩, sSub, by show P.methods.length - (i + 1) < P.methods.length - i; omega⟩
               ·rw [hM, methodOk, h1, hAP, hf, hnx, hkn]; rfl
               ·rw [i64_succ (by omega)]
              ·cases h
             ·rintro _ t3 (⟨_, h, _⟩ | ⟨hkn, ⟨⟩, k, rfl⟩)
              ·cases h
              ·repeat (with_reducible first | apply aP | apply iP)
               exact ⟨_, _, aRfl, sSub, .inr ⟨rfl, (kv2.count k).bad (hbad (by rw [methodOk, hnx, hkn]; simp))⟩⟩
           ·cases h
          ·rintro _ t2 (⟨_, h, _⟩ | ⟨hf, ⟨⟩, k, rfl⟩)
           ·cases h
           ·repeat (with_reducible first | apply aP | apply iP)
            exact ⟨_, _, aRfl, sSub, .inr ⟨rfl, (kv.count k).bad (hbad (by rw [methodOk, hf]; simp))⟩⟩
       ·repeat (with_reducible first | apply aP | apply iP)
        exact ⟨_, _, aRfl, sSub, .inr ⟨rfl, kv.bad (hbad (by rw [methodOk, h1]; rfl))⟩⟩
      ·have hge : P.methods.length ≤ i := by simpa using h
       rw [List.drop_eq_nil_of_le hge] at hM hC
       have hMt : methodsOk st.names st.slots (P.classes.length + P.main.size) P.methods = true := hM
       have hCt : cnt = progCount P := by simpa [methodsCount] using hC
       repeat (first | (with_reducible first | apply CW.seq | apply aN | apply aX | apply iH | apply CW.exit) | refine CW.reg ?_ | refine wS rfl ?_)
       refine RL.call rfl rfl rfl rfl rfl (gens_spec P t hP) ?_ (fun _ _ ⟨⟨_, h⟩, _⟩ => by cases h)
       rintro _ _ ⟨⟨gb, ⟨⟩⟩, rfl⟩
       repeat (first | with_reducible apply aN | refine CW.reg ?_ | refine RL.nil ?_ | refine wS rfl ?_)
       cases hg : (progGens P).2 with
       | true =>
        repeat (first | refine wS rfl ?_)
        refine needR rfl rfl rfl rfl rfl (fun h8 => ?_) (fun h8 => ?_)
        ·have h8' : decide ((progGens P).1.length ≤ 8) = true := by simp at h8 ⊢; omega
         repeat (first | refine RL.nil ?_)
         exact ⟨_, _, _, rfl, aRfl, sSub, .inl ⟨rfl, by rw [hok, h16', hk, hMt, hg, h8']; rfl, ⟨has, by rw [← hCt]; exact kv.hp⟩, kv.rest⟩⟩
        ·have h8' : decide ((progGens P).1.length ≤ 8) = false := by simp at h8 ⊢; omega
         skip
         exact ⟨_, _, aRfl, sSub, .inr ⟨rfl, kv.bad (by rw [hok, h8']; simp)⟩⟩
       | false =>
        repeat (first | refine wS rfl ?_ | refine RL.skip rfl rfl rfl ?_)
        refine needR rfl rfl rfl rfl rfl (fun h8 => by cases h8) (fun h8 => ?_)
        skip
        exact ⟨_, _, aRfl, sSub, .inr ⟨rfl, kv.bad (by rw [hok, hg]; simp)⟩⟩
    ·cases h
   ·rintro _ t2 (⟨_, h, _⟩ | ⟨hk, ⟨⟩, k, rfl⟩)
    ·cases h
    ·repeat (first | with_reducible apply aP)
     exact ⟨_, _, aRfl, sSub, .inr ⟨rfl, (kv.count k).bad (by rw [hok, hk]; simp)⟩⟩
  ·have h16' : decide (P.methods.length ≤ 16) = false := by simp at h16 ⊢; omega
   repeat (first | with_reducible apply aP)
   exact ⟨_, _, aRfl, sSub, .inr ⟨rfl, kv.bad (by rw [hok, h16']; rfl)⟩⟩

set_option maxRecDepth 10000 in
theorem count_spec (P : FProg) (s : Store) (hP : P.Fair) :
  ACalls Tryz.prog 47 [P.av] s (fun o s' => (∃ n : Int, o = .ret (.tup [.int .i64 n, .bool (progOk P)]) ∧ (progOk P = true → n = progCount P)) ∧ s' = s) := by
 refine ACalls.of_CW tO call47 Tryz.func47 rfl rfl ?_
 refine CW.seq ?_
 refine CW.reg ?_
 refine wS rfl ?_
 refine wS rfl ?_
 refine wS rfl ?_
 refine RL.nil (aN ?_)
 refine CW.seq ?_
 refine CW.reg ?_
 refine wS rfl ?_
 refine RL.makeMap rfl rfl rfl rfl (fun cb hcb => ?_)
 refine RL.makeMap rfl rfl rfl rfl (fun sb hsb => ?_)
 refine wS rfl ?_
 refine RL.boxM rfl rfl rfl rfl rfl rfl (fun pb hpb => ?_)
 refine RL.newBox tO rfl rfl rfl rfl rfl rfl rfl (fun _ => rfl) rfl rfl (fun _ => rfl) rfl rfl rfl rfl ?_
 simp only [Store.set_eq_none] at hcb hsb hpb
 obtain ⟨a1, a2⟩ := hsb
 obtain ⟨a3, a4, a5⟩ := hpb
 repeat (first | (with_reducible first | apply CW.seq | apply aN) | refine CW.reg ?_ | refine RL.nil ?_ | refine wS rfl ?_)
 refine RL.call rfl rfl rfl rfl rfl (formed_spec _ [.fptr [.ptr pb 0] 0, .fptr P.cells 0] _ _ _ (count1_spec P pb cb sb _ sSam (by (repeat (first | exact sSam | assumption | with_reducible rw [Store.set_ne _ _ (by omega)]))) (by (repeat (first | exact sSam | assumption | with_reducible rw [Store.set_ne _ _ (by omega)]))) a1.symm hP)) ?_ ?_
 ·rintro _ t (⟨⟨⟩, hok, ⟨has, hp⟩, hrest⟩ | ⟨⟨⟩, hok, ⟨has, k, hp⟩, hrest⟩)
  ·repeat (first | (with_reducible first | apply CW.seq | apply aN | apply CW.ret) | refine CW.reg ?_ | refine RL.nil ?_ | refine wS rfl ?_ | refine RL.loadP tO rfl rfl rfl rfl rfl rfl (by assumption) rfl ?_)
   refine ⟨_, _, s, rfl, aRfl, fun x => ?_, ⟨_, by rw [hok], fun _ => rfl⟩, rfl⟩
   by_cases e1 : x = pb
   ·subst e1; exact .inr a5
   by_cases e2 : x = cb
   ·subst e2; exact .inr hcb
   by_cases e3 : x = sb
   ·subst e3; exact .inr a2
   cases hs : s x with
   | none => exact .inr rfl
   | some o =>
    left
    have q : (((s.set cb (.map [])).set sb (.map [])).set pb (.box 136 (progCells P cb (.slc 0 [] .nil) sb 0))) x = some o := by rw [Store.set_ne _ _ e1, Store.set_ne _ _ e3, Store.set_ne _ _ e2]; exact hs
    have := hrest x e1 e2 e3 (by intro hn; have := q.symm.trans hn; cases this)
    exact (this.trans q).symm
  ·repeat (first | (with_reducible first | apply CW.seq | apply aN | apply CW.ret) | refine CW.reg ?_ | refine RL.nil ?_ | refine wS rfl ?_ | refine RL.loadP tO rfl rfl rfl rfl rfl rfl (by assumption) rfl ?_)
   refine ⟨_, _, s, rfl, aRfl, fun x => ?_, ⟨_, by rw [hok], fun h => by rw [hok] at h; cases h⟩, rfl⟩
   by_cases e1 : x = pb
   ·subst e1; exact .inr a5
   by_cases e2 : x = cb
   ·subst e2; exact .inr hcb
   by_cases e3 : x = sb
   ·subst e3; exact .inr a2
   cases hs : s x with
   | none => exact .inr rfl
   | some o =>
    left
    have q : (((s.set cb (.map [])).set sb (.map [])).set pb (.box 136 (progCells P cb (.slc 0 [] .nil) sb 0))) x = some o := by rw [Store.set_ne _ _ e1, Store.set_ne _ _ e3, Store.set_ne _ _ e2]; exact hs
    have := hrest x e1 e2 e3 (by intro hn; have := q.symm.trans hn; cases this)
    exact (this.trans q).symm
 ·rintro _ t (⟨h, _⟩ | ⟨h, _⟩) <;> cases h

set_option maxRecDepth 10000 in
theorem shapeNodes_spec (P : FProg) (s : Store) (hP : P.Fair) :
  ACalls Tryz.prog 23 [P.av] s (fun o s' => o = .ret (.tup [.int .i64 (if progOk P then (progCount P : Int) else 0), err (progOk P)]) ∧ s' = s) := by
 refine ACalls.of_CW tO call23 Tryz.func23 rfl rfl ?_
 repeat (first | (with_reducible first | apply CW.seq | apply aN) | refine wR rfl ?_ | refine CW.reg ?_ | refine wS rfl ?_)
 refine RL.call rfl rfl rfl rfl rfl (count_spec P s hP) ?_ (fun _ _ ⟨⟨_, h, _⟩, _⟩ => by cases h)
 rintro _ _ ⟨⟨n, ⟨⟩, hn⟩, rfl⟩
 cases hok : progOk P with
 | true =>
  rw [hn hok]
  repeat (first | (with_reducible first | apply CW.seq | apply aN | apply CW.ret | apply CW.skip) | refine wR rfl ?_ | refine RL.nil ?_ | refine CW.condF rfl ?_ | refine wS rfl ?_)
  exact ⟨_, _, _, rfl, aRfl, sSub, rfl, rfl⟩
 | false =>
  repeat (first | (with_reducible first | apply CW.seq | apply aN | apply aR | apply CW.ret) | refine wR rfl ?_ | refine RL.nil ?_ | refine CW.condT rfl ?_ | refine wS rfl ?_)
  exact ⟨_, _, _, rfl, aRfl, sSub, rfl, rfl⟩

set_option maxRecDepth 10000 in
theorem shapeCheck_spec (P : FProg) (s : Store) (hP : P.Fair) :
  ACalls Tryz.prog 15 [P.av] s (fun o s' => o = .ret (err (progOk P)) ∧ s' = s) := by
 refine ACalls.of_CW tO call15 Tryz.func15 rfl rfl ?_
 repeat (first | (with_reducible first | apply CW.seq | apply aN) | refine wR rfl ?_ | refine CW.reg ?_ | refine wS rfl ?_)
 refine RL.call rfl rfl rfl rfl rfl (count_spec P s hP) ?_ (fun _ _ ⟨⟨_, h, _⟩, _⟩ => by cases h)
 rintro _ _ ⟨⟨n, ⟨⟩, hn⟩, rfl⟩
 cases hok : progOk P with
 | true =>
  repeat (first | (with_reducible first | apply CW.seq | apply aN | apply CW.ret | apply CW.skip) | refine wR rfl ?_ | refine RL.nil ?_ | refine CW.condF rfl ?_ | refine wS rfl ?_)
  exact ⟨_, _, _, rfl, aRfl, sSub, rfl, rfl⟩
 | false =>
  repeat (first | (with_reducible first | apply CW.seq | apply aN | apply aR | apply CW.ret) | refine wR rfl ?_ | refine RL.nil ?_ | refine CW.condT rfl ?_ | refine wS rfl ?_)
  exact ⟨_, _, _, rfl, aRfl, sSub, rfl, rfl⟩
end Go.Proofs.YtaafacnoddjhgaaGreat

/- Contracts of the layer 'shape': functions, slots, and the classes above one. -/
namespace Go.Proofs.YtaafacnoddjhgaaGreat
open Go.AE

set_option maxRecDepth 10000 in
theorem clipStr_spec (l : List Str) (own : Own) (s : Store) :
  ACalls Tryz.prog 44 [.slc 1 (strs l) own] s (fun o s' => o = .ret (.slc 1 (strs l) .clip) ∧ s' = s) := by
 refine ACalls.of_CW tO call44 Tryz.func44 rfl rfl ?_
 repeat (first | (with_reducible first | apply CW.seq | apply aN) | refine wR rfl ?_ | refine CW.reg ?_ | refine wS rfl ?_)
 refine RL.slice tO 0 (strs l).length rfl rfl rfl rfl rfl rfl rfl rfl (.inr rfl) (.inl ⟨rfl, rfl⟩) (.inr ⟨_, _, rfl, rfl⟩) (.inr ⟨_, _, rfl, rfl, rfl⟩) (by omega) (Nat.le_refl _) ?_
 rw [List.take_length, List.drop_zero]
 repeat (first | (with_reducible first | apply aN | apply CW.ret) | refine RL.nil ?_ | refine wS rfl ?_)
 exact ⟨_, _, _, rfl, aRfl, sSub, rfl, rfl⟩

theorem strs_nil_le : AVle (.slc 0 [] .nil) (.slc 1 (strs []) .fro) := AVle.empty

set_option maxRecDepth 10000 in
theorem shapeGens_spec (P : FProg) (s : Store) (hP : P.Fair) :
  ACalls Tryz.prog 29 [P.av] s (fun o s' => o = .ret (.tup [.slc 1 (strs (if progOk P then (progGens P).1.map (·.1) else [])) .fro, err (progOk P)]) ∧ s' = s) := by
 have hchk := shapeCheck_spec P s hP
 refine ACalls.of_CW tO call29 Tryz.func29 rfl rfl ?_
 cases hok : progOk P with
 | true =>
  rw [hok] at hchk
  repeat (first | (with_reducible first | apply CW.seq | apply aN) | refine wR rfl ?_ | refine CW.reg ?_ | refine wS rfl ?_)
  refine RL.callP rfl rfl rfl rfl rfl hchk ?_
  repeat (first | (with_reducible first | apply CW.seq | apply aN | apply CW.skip) | refine CW.reg ?_ | refine RL.nil ?_ | refine CW.condF rfl ?_ | refine wS rfl ?_)
  refine RL.call rfl rfl rfl rfl rfl (gens_spec P s hP) ?_ (fun _ _ ⟨⟨_, h⟩, _⟩ => by cases h)
  rintro _ _ ⟨⟨gb, ⟨⟩⟩, rfl⟩
  repeat (first | (with_reducible first | apply CW.seq | apply aN) | refine CW.reg ?_ | refine RL.nil ?_ | refine wS rfl ?_)
  refine RL.callP rfl rfl rfl rfl rfl (clipStr_spec _ _ _) ?_
  repeat (first | (with_reducible first | apply aN | apply CW.ret) | refine RL.nil ?_ | refine wS rfl ?_)
  exact ⟨_, _, _, rfl, AVle.tup (.cons AVle.fro (AVleL.refl _)), sSub, rfl, rfl⟩
 | false =>
  rw [hok] at hchk
  repeat (first | (with_reducible first | apply CW.seq | apply aN) | refine wR rfl ?_ | refine CW.reg ?_ | refine wS rfl ?_)
  refine RL.callP rfl rfl rfl rfl rfl hchk ?_
  repeat (first | (with_reducible first | apply CW.seq | apply aN | apply aR | apply CW.ret) | refine wR rfl ?_ | refine RL.nil ?_ | refine CW.condT rfl ?_ | refine wS rfl ?_)
  exact ⟨_, _, _, rfl, AVle.tup (.cons strs_nil_le (AVleL.refl _)), sSub, rfl, rfl⟩

theorem flatMap_take_succ {α β : Type} (f : α → List β) {l : List α} {j : Nat} {x : α} (h : l[j]? = some x) : (l.take (j + 1)).flatMap f = (l.take j).flatMap f ++ f x := by
 rw [List.take_add_one, h]; simp

theorem flatMap_take_le {α β : Type} (f : α → List β) (l : List α) (j : Nat) : ((l.take j).flatMap f).length ≤ (l.flatMap f).length := by
 have : l.flatMap f = (l.take j).flatMap f ++ (l.drop j).flatMap f := by rw [← List.flatMap_append, List.take_append_drop]
 rw [this, List.length_append]; omega

theorem strs_elem (l : List Str) : ∀ y ∈ strs l, elemOk 1 y = true := by
 intro y hy; simp only [strs, List.mem_map] at hy; obtain ⟨z, -, rfl⟩ := hy; rfl

theorem RL.appendR {P : Program} {Γ : Tys} {N : Nat} {ops : Array Oper} {Q : AEx → Env → Store → Prop} {env : Env} {s : Store} {l : List Oper} {o : Oper} {d : Nat} (hΓ : TysOk P Γ) {t t' e : TypeId} {x y : Operand} {it it' ie : TI} {sx sy n : Nat} {xs ys : List AV} {own oy : Own} (hg : guardOf ops env o = some true) (hd : o.dst = some d) (hN : Nat.blt d N = true)
  (ho : o.op = .call { callee := .builtin .append, args := #[x, y], argTypes := #[t, t'] }) (ht : Γ.get? t = some it) (htd : it.td = .slc e) (ht' : Γ.get? t' = some it') (htd' : ∀ k, it'.td ≠ .int k)
  (hie : Γ.get? e = some ie) (hx : ev env x = some (.slc sx xs own)) (hy : ev env y = some (.slc sy ys oy)) (hsx : sx = ie.size) (hsy : ys = [] ∨ sy = ie.size)
  (hzs' : Nat.beq ie.zero.cells.size ie.size = true) (hel : ∀ y ∈ ys, elemOk ie.size y = true) (hb : (xs.length + ys.length) * ie.bytes ≤ 140737488355328) (h63 : xs.length + ys.length ≤ 9223372036854775807) (hn : n = xs.length)
  {s₀ : Store} (hs : s₀ = rowOf s e ie.size n own) (hok : OwnOk s n own)
  (h : ∀ own', OwnOk s (xs.length + ys.length) own' → RL P N ops l Q ((d, .slc ie.size (xs ++ ys) own') :: env) (rowOf s e ie.size (xs.length + ys.length) own')) : RL P N ops (o :: l) Q env s₀ := by
 subst hs
 subst hn
 refine RL.op hg hd hN (OW.appendR hΓ ho ht htd ht' htd' hie hx hy hsx hsy hzs' hel hb h63 rfl hok (X := fun _ _ => False)) ?_ (fun _ _ h => h.elim)
 rintro r s' ⟨own', h1, -, -, rfl, rfl⟩
 exact h own' h1

set_option maxRecDepth 10000 in
theorem shapeSlots_spec (P : FProg) (s : Store) (hP : P.Fair) :
  ACalls Tryz.prog 30 [P.av] s (fun o s' => o = .ret (.tup [.slc 1 (strs (if progOk P then P.classes.flatMap FClass.slots else [])) .fro, err (progOk P)]) ∧ s' = s) := by
 have hb : big = 1099511627776 := rfl
 have hchk := shapeCheck_spec P s hP
 have hcl := hP.clen
 have hsl := hP.slen
 refine ACalls.of_CW tO call30 Tryz.func30 rfl rfl ?_
 cases hok : progOk P with
 | true =>
  rw [hok] at hchk
  repeat (first | (with_reducible first | apply CW.seq | apply aN) | refine wR rfl ?_ | refine CW.reg ?_ | refine wS rfl ?_)
  refine RL.callP rfl rfl rfl rfl rfl hchk ?_
  repeat (first | (with_reducible first | apply CW.seq | apply aN | apply CW.skip | apply CW.block) | refine wR rfl ?_ | refine RL.nil ?_ | refine CW.condF rfl ?_ | refine wS rfl ?_)
  refine CW.loop (σ := Nat × Own) (fun q => [(4, .slc 1 (strs ((P.classes.take q.1).flatMap FClass.slots)) q.2), (11, .slc 4 (P.classes.map FClass.av) .fro), (12, .int .i64 (P.classes.map FClass.av).length), (13, .int .i64 (q.1 : Int))])
   (fun q => rowOf s 9 1 ((P.classes.take q.1).flatMap FClass.slots).length q.2) (fun q => q.1 ≤ P.classes.length ∧ OwnOk s 0 q.2) (fun q => P.classes.length - q.1) (0, .nil) ⟨by simp, trivial⟩ ?_ sSub ?_
  ·exact ⟨⟨_, rfl, AVle.nil (by simp)⟩, ⟨_, rfl, aRfl⟩, ⟨_, rfl, aRfl⟩, ⟨_, rfl, aRfl⟩, trivial⟩
  ·rintro ⟨i, own⟩ ⟨hi, hown⟩
   simp only at hi hown
   repeat (first | (with_reducible first | apply CW.seq | apply aN) | refine wR rfl ?_)
   refine CW.cond rfl (fun h => ?_) (fun h => ?_)
   ·have hlt : i < P.classes.length := by simpa using h
    obtain ⟨c, hci⟩ : ∃ c, P.classes[i]? = some c := ⟨_, List.getElem?_eq_getElem hlt⟩
    have hci' : (P.classes.map FClass.av)[i]? = some (.agg c.cells) := by rw [List.getElem?_map, hci]; rfl
    have hle := flatMap_take_le FClass.slots P.classes (i + 1)
    rw [flatMap_take_succ _ hci, List.length_append] at hle
    repeat (first | (with_reducible first | apply CW.seq | apply aN | apply CW.skip | apply CW.block) | refine CW.reg ?_ | refine wS rfl ?_ | refine RL.idx tO _ rfl rfl rfl rfl rfl rfl rfl rfl rfl rfl rfl (by assumption) rfl ?_)
    refine RL.newBox tO rfl rfl rfl rfl rfl rfl rfl (fun _ => rfl) rfl rfl (fun _ => rfl) rfl rfl rfl rfl ?_
    repeat (first | with_reducible apply aN | refine CW.reg ?_ | refine RL.nil ?_ | refine wS rfl ?_)
    refine RL.appendR tO rfl rfl rfl rfl rfl rfl rfl (by intro k; simp) rfl rfl rfl rfl (.inr rfl) rfl (strs_elem _) (n := ((P.classes.take i).flatMap FClass.slots).length) ?_ ?_ (strs_length _).symm rfl (OwnOk.sub' hown) ?_
    ·simp only [strs_length]; show _ * 16 ≤ _; omega
    ·simp only [strs_length]; omega
    rintro own' h1
    repeat (first | (with_reducible first | apply aN | apply iN) | refine wR rfl ?_ | refine RL.nil ?_ | refine wS rfl ?_)
    refine ⟨(i + 1, own'), ⟨hlt, OwnOk.sub' h1⟩, ⟨⟨_, rfl, AVle.of_eq ?_⟩, ⟨_, rfl, aRfl⟩, ⟨_, rfl, aRfl⟩, ⟨_, rfl, AVle.of_eq ?_⟩, trivial⟩, ?_, by show P.classes.length - (i + 1) < P.classes.length - i; omega⟩
    ·rw [flatMap_take_succ _ hci]; simp [strs]
    ·rw [i64_succ (by omega)]
    ·have e : (strs ((P.classes.take i).flatMap FClass.slots)).length + (strs c.slots).length = ((P.classes.take (i + 1)).flatMap FClass.slots).length := by
      rw [flatMap_take_succ _ hci]; simp
     show Store.Sub (rowOf s _ 1 _ own') _
     rw [← e]; exact sSub
   ·have hge : P.classes.length ≤ i := by simpa using h
    repeat (first | (with_reducible first | apply CW.seq | apply aN | apply aX | apply iH | apply CW.exit) | refine CW.reg ?_ | refine wS rfl ?_)
    refine RL.callP rfl rfl rfl rfl rfl (clipStr_spec _ _ _) ?_
    repeat (first | (with_reducible first | apply aN | apply CW.ret) | refine RL.nil ?_ | refine wS rfl ?_)
    refine ⟨_, _, s, rfl, AVle.tup (.cons AVle.fro (AVleL.refl _)), rowOf_sub hown, ?_, rfl⟩
    rw [List.take_of_length_le hge]; rfl
 | false =>
  rw [hok] at hchk
  repeat (first | (with_reducible first | apply CW.seq | apply aN) | refine wR rfl ?_ | refine CW.reg ?_ | refine wS rfl ?_)
  refine RL.callP rfl rfl rfl rfl rfl hchk ?_
  repeat (first | (with_reducible first | apply CW.seq | apply aN | apply aR | apply CW.ret) | refine wR rfl ?_ | refine RL.nil ?_ | refine CW.condT rfl ?_ | refine wS rfl ?_)
  exact ⟨_, _, _, rfl, AVle.tup (.cons strs_nil_le (AVleL.refl _)), sSub, rfl, rfl⟩

/-! ### Classes above one -/

def placeOf (l : List FClass) (name : Str) : Nat → Int := fun j => match (l.drop j).findIdx? (fun c => c.name == name) with
 | some k => ((j + k : Nat) : Int)
 | none => -1
theorem placeOf_hit {l : List FClass} {name : Str} {j : Nat} {c : FClass} (hc : l[j]? = some c) (h : (c.name == name) = true) : placeOf l name j = (j : Int) := by
 simp [placeOf, drop_cons hc, List.findIdx?_cons, h]
theorem placeOf_miss {l : List FClass} {name : Str} {j : Nat} {c : FClass} (hc : l[j]? = some c) (h : (c.name == name) = false) : placeOf l name j = placeOf l name (j + 1) := by
 simp only [placeOf, drop_cons hc, List.findIdx?_cons, h]
 cases (l.drop (j + 1)).findIdx? (fun c => c.name == name) <;> simp [Nat.add_assoc, Nat.add_comm 1]
theorem placeOf_end {l : List FClass} {name : Str} {j : Nat} (h : l.length ≤ j) : placeOf l name j = -1 := by simp [placeOf, List.drop_eq_nil_of_le h]

set_option maxRecDepth 10000 in
theorem indexClass_spec (l : List FClass) (name : Str) (s : Store) (hl : l.length < big) :
  ACalls Tryz.prog 65 [.slc 4 (l.map FClass.av) .fro, .func 66 [] [.fptr [.str name] 0]] s (fun o s' => o = .ret (.int .i64 (placeOf l name 0)) ∧ s' = s) := by
 have hb : big = 1099511627776 := rfl
 have hA : ∀ c : FClass, ACalls Tryz.prog 66 [c.av, .fptr [.str name] 0] s (fun o s' => o = .ret (.bool (c.name == name)) ∧ s' = s) := by
  intro c
  refine ACalls.of_CW tO call66 Tryz.func66 rfl rfl ?_
  repeat (first | (with_reducible first | apply CW.seq | apply aN | apply CW.ret) | refine wR rfl ?_)
  exact ⟨_, _, _, rfl, aRfl, sSub, rfl, rfl⟩
 refine ACalls.of_CW tO call65 Tryz.func65 rfl rfl ?_
 repeat (first | (with_reducible first | apply CW.seq | apply aN | apply CW.block) | refine wR rfl ?_)
 refine CW.loop (σ := Nat) (fun j => [(0, .slc 4 (l.map FClass.av) .fro), (1, .func 66 [] [.fptr [.str name] 0]), (7, .int .i64 (l.map FClass.av).length), (8, .int .i64 (j : Int))]) (fun _ => s) (fun j => j ≤ l.length ∧ placeOf l name 0 = placeOf l name j) (fun j => l.length - j) 0 ⟨by omega, rfl⟩ ?_ sSub ?_
 ·exact ⟨⟨_, rfl, aRfl⟩, ⟨_, rfl, aRfl⟩, ⟨_, rfl, aRfl⟩, ⟨_, rfl, aRfl⟩, trivial⟩
 ·rintro j ⟨hj, hI⟩
  repeat (first | (with_reducible first | apply CW.seq | apply aN) | refine wR rfl ?_)
  refine CW.cond rfl (fun h => ?_) (fun h => ?_)
  ·have hlt : j < l.length := by simpa using h
   obtain ⟨c, hy⟩ : ∃ y, l[j]? = some y := ⟨_, List.getElem?_eq_getElem hlt⟩
   have hy' : (l.map FClass.av)[j]? = some (.agg c.cells) := by rw [List.getElem?_map, hy]; rfl
   repeat (first | (with_reducible first | apply CW.seq | apply aN | apply CW.skip | apply CW.block) | refine wR rfl ?_ | refine CW.reg ?_ | refine wS rfl ?_ | refine RL.idx tO _ rfl rfl rfl rfl rfl rfl rfl rfl rfl rfl rfl (by assumption) rfl ?_)
   refine RL.callV rfl rfl rfl rfl rfl rfl (ACallV.of_calls (hA c)) ?_ (fun _ _ ⟨h, _⟩ => by cases h)
   rintro x s' ⟨⟨⟩, rfl⟩
   cases hfy : c.name == name with
   | true =>
    repeat (first | (with_reducible first | apply CW.seq | apply aN | apply aR | apply iR | apply CW.ret) | refine wR rfl ?_ | refine RL.nil ?_ | refine CW.condT rfl ?_)
    exact ⟨_, _, _, rfl, aRfl, sSub, by rw [hI, placeOf_hit hy hfy], rfl⟩
   | false =>
    repeat (first | (with_reducible first | apply aN | apply iN | apply CW.skip) | refine wR rfl ?_ | refine RL.nil ?_ | refine CW.condF rfl ?_)
    refine ⟨j + 1, ⟨hlt, ?_⟩, ⟨⟨_, rfl, aRfl⟩, ⟨_, rfl, aRfl⟩, ⟨_, rfl, aRfl⟩, ⟨_, rfl, AVle.of_eq ?_⟩, trivial⟩, sSub, by omega⟩
    ·rw [hI, placeOf_miss hy hfy]
    ·rw [i64_succ (by omega)]
  ·repeat (first | (with_reducible first | apply CW.seq | apply aN | apply aX | apply iH | apply CW.ret | apply CW.exit) | refine wR rfl ?_)
   refine ⟨_, _, _, rfl, aRfl, sSub, ?_, rfl⟩
   have : l.length ≤ j := by simpa using h
   rw [hI, placeOf_end this]

def upsS : List FClass → List Str → List Str
 | [], acc => acc
 | c :: r, acc => upsS r (if acc.contains c.name then addAll acc c.parents else acc)
def upOf (l : List FClass) (at_ : Nat) (name : Str) : List Str := upsS (l.take (at_ + 1)).reverse [name]
def aboveS (l : List FClass) (name : Str) : Option (List Str) := match l.findIdx? (fun c => c.name == name) with
 | none => none
 | some k => some (((l.take k).filter fun c => (upOf l k name).contains c.name).map FClass.name)

theorem placeOf_zero (l : List FClass) (name : Str) : placeOf l name 0 = match l.findIdx? (fun c => c.name == name) with | some k => (k : Int) | none => -1 := by
 simp only [placeOf, List.drop_zero]
 cases l.findIdx? (fun c => c.name == name) <;> simp

theorem take_rev {α : Type} {l : List α} {k : Nat} {x : α} (h : l[k]? = some x) : (l.take (k + 1)).reverse = x :: (l.take k).reverse := by
 rw [List.take_add_one, h]; simp

set_option maxRecDepth 10000 in
set_option maxHeartbeats 1000000 in
theorem shapeAbove_spec (P : FProg) (name : Str) (s : Store) (hP : P.Fair) :
  ACalls Tryz.prog 24 [P.av, .str name] s (fun o s' => o = .ret (.tup [.slc 1 (strs (if progOk P then (aboveS P.classes name).getD [] else [])) .fro, err (progOk P && (aboveS P.classes name).isSome)]) ∧ s' = s) := by
 have hb : big = 1099511627776 := rfl
 have hchk := shapeCheck_spec P s hP
 have hcl := hP.clen
 have hidx := indexClass_spec P.classes name s hP.clen
 rw [placeOf_zero] at hidx
 refine ACalls.of_CW tO call24 Tryz.func24 rfl rfl ?_
 cases hok : progOk P with
 | false =>
  rw [hok] at hchk
  repeat (first | (with_reducible first | apply CW.seq | apply aN) | refine wR rfl ?_ | refine CW.reg ?_ | refine wS rfl ?_)
  refine RL.callP rfl rfl rfl rfl rfl hchk ?_
  repeat (first | (with_reducible first | apply CW.seq | apply aN | apply aR | apply CW.ret) | refine wR rfl ?_ | refine RL.nil ?_ | refine CW.condT rfl ?_ | refine wS rfl ?_)
  exact ⟨_, _, _, rfl, AVle.tup (.cons strs_nil_le (AVleL.refl _)), sSub, rfl, rfl⟩
 | true =>
  rw [hok] at hchk
  cases hfi : P.classes.findIdx? (fun c => c.name == name) with
  | none =>
   rw [hfi] at hidx
   repeat (first | (with_reducible first | apply CW.seq | apply aN) | refine wR rfl ?_ | refine CW.reg ?_ | refine wS rfl ?_)
   refine RL.callP rfl rfl rfl rfl rfl hchk ?_
   repeat (first | (with_reducible first | apply CW.seq | apply aN | apply CW.skip) | refine CW.reg ?_ | refine RL.nil ?_ | refine CW.condF rfl ?_ | refine wS rfl ?_)
   refine RL.callP rfl rfl rfl rfl rfl hidx ?_
   repeat (first | (with_reducible first | apply CW.seq | apply aN | apply aR | apply CW.ret) | refine wR rfl ?_ | refine RL.nil ?_ | refine CW.condT rfl ?_ | refine wS rfl ?_)
   refine ⟨_, _, _, rfl, AVle.tup (.cons strs_nil_le (AVleL.refl _)), sSub, ?_, rfl⟩
   rw [aboveS, hfi]; rfl
  | some k =>
   rw [hfi] at hidx
   simp only at hidx
   have hk : k < P.classes.length := (List.findIdx?_eq_some_iff_getElem.1 hfi).1
   repeat (first | (with_reducible first | apply CW.seq | apply aN) | refine wR rfl ?_ | refine CW.reg ?_ | refine wS rfl ?_)
   refine RL.callP rfl rfl rfl rfl rfl hchk ?_
   repeat (first | (with_reducible first | apply CW.seq | apply aN | apply CW.skip) | refine CW.reg ?_ | refine RL.nil ?_ | refine CW.condF rfl ?_ | refine wS rfl ?_)
   refine RL.callP rfl rfl rfl rfl rfl hidx ?_
   repeat (first | (with_reducible first | apply CW.seq | apply aN | apply CW.skip) | refine wR rfl ?_ | refine CW.reg ?_ | refine RL.nil ?_ | refine CW.condF rfl ?_ | refine wS rfl ?_)
   refine RL.makeMap rfl rfl rfl rfl (fun ub hub => ?_)
   repeat (first | refine wS rfl ?_)
   refine RL.mapUpdate tO rfl rfl (.inr rfl) rfl rfl rfl rfl rfl rfl sSam rfl (putA_set [] name) ?_
   rw [Store.set_set]
   repeat (first | (with_reducible first | apply CW.seq | apply aN | apply CW.block) | refine wR rfl ?_ | refine RL.nil ?_ | refine wS rfl ?_)
   refine CW.loop (σ := Nat × List Str) (fun q => [(2, .fptr P.cells 0), (3, .fptr [.str name] 0), (5, .int .i64 0), (6, .int .i64 k), (7, .map ub), (8, .int .i64 ((q.1 : Int) - 1))])
    (fun q => s.set ub (.map (setA q.2))) (fun q => q.1 ≤ k + 1 ∧ upsS (P.classes.take q.1).reverse q.2 = upOf P.classes k name) (fun q => q.1) (k + 1, [name]) ⟨Nat.le_refl _, rfl⟩ ?_ sSub ?_
   ·exact ⟨⟨_, rfl, aRfl⟩, ⟨_, rfl, aRfl⟩, ⟨_, rfl, aRfl⟩, ⟨_, rfl, aRfl⟩, ⟨_, rfl, aRfl⟩, ⟨_, rfl, AVle.of_eq (by simp)⟩, trivial⟩
   ·rintro ⟨m, acc⟩ ⟨hm, hI⟩
    simp only at hm hI
    repeat (first | (with_reducible first | apply CW.seq | apply aN) | refine wR rfl ?_)
    refine CW.cond rfl (fun h => ?_) (fun h => ?_)
    ·have hm0 : 0 < m := by simp at h; omega
     obtain ⟨m, rfl⟩ : ∃ j, m = j + 1 := ⟨m - 1, by omega⟩
     have em : ((m + 1 : Nat) : Int) - 1 = (m : Int) := by omega
     rw [em] at *
     have hlt : m < P.classes.length := by omega
     obtain ⟨c, hci⟩ : ∃ c, P.classes[m]? = some c := ⟨_, List.getElem?_eq_getElem hlt⟩
     have hci' : (P.classes.map FClass.av)[m]? = some (.agg c.cells) := by rw [List.getElem?_map, hci]; rfl
     rw [take_rev hci] at hI
     repeat (first | (with_reducible first | apply CW.seq | apply aN | apply CW.skip | apply CW.block) | refine CW.reg ?_ | refine wS rfl ?_ | refine RL.idx tO _ rfl rfl rfl rfl rfl rfl rfl rfl rfl rfl rfl (by assumption) rfl ?_)
     refine RL.newBox tO rfl rfl rfl rfl rfl rfl rfl (fun _ => rfl) rfl rfl (fun _ => rfl) rfl rfl rfl rfl ?_
     repeat (first | (with_reducible first | apply CW.seq | apply aN) | refine CW.reg ?_ | refine RL.nil ?_ | refine wS rfl ?_)
     refine RL.lookup tO rfl rfl rfl rfl rfl rfl rfl rfl rfl rfl sSam rfl (getA_set _ _) rfl ?_
     cases hcn : acc.contains c.name with
     | true =>
      rw [upsS, if_pos hcn] at hI
      repeat (first | (with_reducible first | apply CW.seq | apply aN | apply CW.block) | refine wR rfl ?_ | refine RL.nil ?_ | refine CW.condT rfl ?_)
      refine CW.loop (σ := Nat × List Str) (fun q => [(2, .fptr P.cells 0), (3, .fptr [.str name] 0), (5, .int .i64 0), (6, .int .i64 k), (7, .map ub), (8, .int .i64 m), (42, .slc 1 (strs c.parents) .fro), (43, .int .i64 (strs c.parents).length), (44, .int .i64 (q.1 : Int))])
       (fun q => s.set ub (.map (setA q.2))) (fun q => q.1 ≤ c.parents.length ∧ addAll q.2 (c.parents.drop q.1) = addAll acc c.parents) (fun q => c.parents.length - q.1) (0, acc) ⟨by simp, rfl⟩ ?_ sSub ?_
      ·exact ⟨⟨_, rfl, aRfl⟩, ⟨_, rfl, aRfl⟩, ⟨_, rfl, aRfl⟩, ⟨_, rfl, aRfl⟩, ⟨_, rfl, aRfl⟩, ⟨_, rfl, aRfl⟩, ⟨_, rfl, aRfl⟩, ⟨_, rfl, aRfl⟩, ⟨_, rfl, aRfl⟩, trivial⟩
      ·rintro ⟨j, ac⟩ ⟨hj, hJ⟩
       simp only at hj hJ
       repeat (first | (with_reducible first | apply CW.seq | apply aN) | refine wR rfl ?_)
       refine CW.cond rfl (fun h => ?_) (fun h => ?_)
       ·have hlt : j < c.parents.length := by simpa using h
        obtain ⟨p, hpj⟩ : ∃ p, c.parents[j]? = some p := ⟨_, List.getElem?_eq_getElem hlt⟩
        have hpj' : (strs c.parents)[j]? = some (.str p) := by rw [strs, List.getElem?_map, hpj]; rfl
        rw [drop_cons hpj] at hJ
        have hpl : c.parents.length < big := (hP.cls c (List.mem_of_getElem? hci)).parents.1
        repeat (first | (with_reducible first | apply CW.seq | apply aN | apply CW.skip | apply CW.block) | refine CW.reg ?_ | refine RL.nil ?_ | refine wS rfl ?_ | refine RL.idx tO _ rfl rfl rfl rfl rfl rfl rfl rfl rfl rfl rfl (by assumption) rfl ?_)
        refine RL.mapUpdate tO rfl rfl (.inl rfl) rfl rfl rfl rfl rfl rfl sSam rfl (putA_set _ _) ?_
        rw [Store.set_set]
        repeat (first | (with_reducible first | apply aN | apply iN) | refine wR rfl ?_ | refine RL.nil ?_)
        refine ⟨(j + 1, insS ac p), ⟨hlt, hJ⟩, ⟨⟨_, rfl, aRfl⟩, ⟨_, rfl, aRfl⟩, ⟨_, rfl, aRfl⟩, ⟨_, rfl, aRfl⟩, ⟨_, rfl, aRfl⟩, ⟨_, rfl, aRfl⟩, ⟨_, rfl, aRfl⟩, ⟨_, rfl, aRfl⟩, ⟨_, rfl, AVle.of_eq ?_⟩, trivial⟩, sSub, by show c.parents.length - (j + 1) < c.parents.length - j; omega⟩
        rw [i64_succ (by omega)]
       ·have hge : c.parents.length ≤ j := by simpa using h
        rw [List.drop_eq_nil_of_le hge] at hJ
        repeat (first | (with_reducible first | apply aN | apply aX | apply iN | apply iH | apply CW.exit) | refine wR rfl ?_)
        refine ⟨(m, ac), ⟨by omega, ?_⟩, ⟨⟨_, rfl, aRfl⟩, ⟨_, rfl, aRfl⟩, ⟨_, rfl, aRfl⟩, ⟨_, rfl, aRfl⟩, ⟨_, rfl, aRfl⟩, ⟨_, rfl, AVle.of_eq ?_⟩, trivial⟩, sSub, by show m < m + 1; omega⟩
        ·rw [← hI, ← hJ]; rfl
        ·show AV.int .i64 (IntKind.wrap .i64 ((m : Int) - 1)) = .int .i64 ((m : Int) - 1); rw [i64_wrap (n := (m : Int) - 1) (by omega) (by omega)]
     | false =>
      rw [upsS, if_neg (by rw [hcn]; exact Bool.false_ne_true)] at hI
      repeat (first | (with_reducible first | apply aN | apply iN | apply CW.skip) | refine wR rfl ?_ | refine RL.nil ?_ | refine CW.condF rfl ?_)
      refine ⟨(m, acc), ⟨by omega, hI⟩, ⟨⟨_, rfl, aRfl⟩, ⟨_, rfl, aRfl⟩, ⟨_, rfl, aRfl⟩, ⟨_, rfl, aRfl⟩, ⟨_, rfl, aRfl⟩, ⟨_, rfl, AVle.of_eq ?_⟩, trivial⟩, sSub, by show m < m + 1; omega⟩
      show AV.int .i64 (IntKind.wrap .i64 ((m : Int) - 1)) = .int .i64 ((m : Int) - 1); rw [i64_wrap (n := (m : Int) - 1) (by omega) (by omega)]
    ·have hm0 : m = 0 := by simp at h; omega
     subst hm0
     simp only [List.take_zero, List.reverse_nil, upsS] at hI
     subst hI
     repeat (first | (with_reducible first | apply CW.seq | apply aN | apply aX | apply iH | apply CW.exit) | refine wR rfl ?_ | refine CW.reg ?_ | refine wS rfl ?_)
     refine RL.slice tO 0 k rfl rfl rfl rfl rfl rfl rfl rfl (.inr rfl) (.inl ⟨rfl, rfl⟩) (.inr ⟨_, _, rfl, rfl⟩) (.inl ⟨rfl, rfl⟩) (by omega) (by rw [List.length_map]; omega) ?_
     rw [List.drop_zero, ← List.map_take]
     have htl : (P.classes.take k).length = k := by rw [List.length_take]; omega
     repeat (first | (with_reducible first | apply aN | apply CW.block) | refine RL.nil ?_ | refine wS rfl ?_)
     refine CW.loop (σ := Nat × Own) (fun q => [(5, .int .i64 0), (7, .map ub), (12, .slc 1 (strs (((P.classes.take q.1).filter fun c => (upOf P.classes k name).contains c.name).map FClass.name)) q.2), (54, .slc 4 ((P.classes.take k).map FClass.av) .fro), (55, .int .i64 ((P.classes.take k).map FClass.av).length), (56, .int .i64 (q.1 : Int))])
      (fun q => rowOf (s.set ub (.map (setA (upOf P.classes k name)))) 9 1 (((P.classes.take q.1).filter fun c => (upOf P.classes k name).contains c.name).map FClass.name).length q.2)
      (fun q => q.1 ≤ k ∧ OwnOk (s.set ub (.map (setA (upOf P.classes k name)))) 0 q.2) (fun q => k - q.1) (0, .nil) ⟨by simp, trivial⟩ ?_ sSub ?_
     ·exact ⟨⟨_, rfl, aRfl⟩, ⟨_, rfl, aRfl⟩, ⟨_, rfl, AVle.nil (by simp)⟩, ⟨_, rfl, aRfl⟩, ⟨_, rfl, aRfl⟩, ⟨_, rfl, aRfl⟩, trivial⟩
     ·rintro ⟨j, own⟩ ⟨hj, hown⟩
      simp only at hj hown
      repeat (first | (with_reducible first | apply CW.seq | apply aN) | refine wR rfl ?_)
      refine CW.cond rfl (fun h => ?_) (fun h => ?_)
      ·have hlt : j < k := by rw [List.length_map, htl] at h; simpa using h
       obtain ⟨c, hcj⟩ : ∃ c, P.classes[j]? = some c := ⟨_, List.getElem?_eq_getElem (by omega)⟩
       have hcj' : ((P.classes.take k).map FClass.av)[j]? = some (.agg c.cells) := by rw [List.getElem?_map, List.getElem?_take_of_lt hlt, hcj]; rfl
       have hnb : ∀ b, own = .own b → b ≠ ub := fun b h e => by subst h; subst e; have := hown; simp [OwnOk, Store.set_same] at this
       repeat (first | (with_reducible first | apply CW.seq | apply aN | apply CW.skip | apply CW.block) | refine CW.reg ?_ | refine wS rfl ?_ | refine RL.idx tO _ rfl rfl rfl rfl rfl rfl rfl rfl rfl rfl rfl (by assumption) rfl ?_)
       refine RL.newBox tO rfl rfl rfl rfl rfl rfl rfl (fun _ => rfl) rfl rfl (fun _ => rfl) rfl rfl rfl rfl ?_
       repeat (first | (with_reducible first | apply CW.seq | apply aN) | refine CW.reg ?_ | refine RL.nil ?_ | refine wS rfl ?_)
       refine RL.lookup tO rfl rfl rfl rfl rfl rfl rfl rfl rfl rfl (rowOf_get hown sSam) rfl (getA_set _ _) rfl ?_
       have hts : P.classes.take (j + 1) = P.classes.take j ++ [c] := by rw [List.take_add_one, hcj]; rfl
       have hfl : (((P.classes.take j).filter fun c => (upOf P.classes k name).contains c.name).map FClass.name).length ≤ k := by
        rw [List.length_map]; exact Nat.le_trans (List.length_filter_le _ _) (by rw [List.length_take]; omega)
       cases hcn : (upOf P.classes k name).contains c.name with
       | true =>
        have hfs : ((P.classes.take (j + 1)).filter fun c => (upOf P.classes k name).contains c.name).map FClass.name = ((P.classes.take j).filter fun c => (upOf P.classes k name).contains c.name).map FClass.name ++ [c.name] := by
         rw [hts, List.filter_append, List.map_append, List.filter_cons_of_pos (by exact hcn)]; rfl
        repeat (first | with_reducible apply aN | refine CW.reg ?_ | refine RL.nil ?_ | refine CW.condT rfl ?_ | refine wS rfl ?_)
        refine RL.append1 tO rfl rfl rfl rfl rfl rfl rfl (by intro k; simp) rfl rfl rfl rfl rfl rfl rfl (strs_length _).symm ?_ ?_ (s := s.set ub (.map (setA (upOf P.classes k name)))) rfl (OwnOk.sub' hown) (fun rb hrb => ?_)
        ·show ((((P.classes.take j).filter fun c => (upOf P.classes k name).contains c.name).map FClass.name).length + 1) * 16 ≤ _; omega
        ·show (((P.classes.take j).filter fun c => (upOf P.classes k name).contains c.name).map FClass.name).length + 1 ≤ _; omega
        repeat (first | (with_reducible first | apply aN | apply iN) | refine wR rfl ?_ | refine RL.nil ?_ | refine wS rfl ?_)
        refine ⟨(j + 1, .own rb), ⟨hlt, hrb⟩, ⟨⟨_, rfl, aRfl⟩, ⟨_, rfl, aRfl⟩, ⟨_, rfl, AVle.of_eq ?_⟩, ⟨_, rfl, aRfl⟩, ⟨_, rfl, aRfl⟩, ⟨_, rfl, AVle.of_eq ?_⟩, trivial⟩, ?_, by show k - (j + 1) < k - j; omega⟩
        ·simp only [hfs]; simp [strs]
        ·show AV.int .i64 (IntKind.wrap .i64 ((j : Int) + 1)) = .int .i64 ((j + 1 : Nat) : Int); rw [i64_succ (by omega)]
        ·simp only [hfs, List.length_append, strs_length]; exact sSub
       | false =>
        have hfs : ((P.classes.take (j + 1)).filter fun c => (upOf P.classes k name).contains c.name).map FClass.name = ((P.classes.take j).filter fun c => (upOf P.classes k name).contains c.name).map FClass.name := by
         rw [hts, List.filter_append, List.map_append, List.filter_cons_of_neg (by rw [hcn]; exact Bool.false_ne_true)]; simp
        repeat (first | (with_reducible first | apply aN | apply iN | apply CW.skip) | refine wR rfl ?_ | refine RL.nil ?_ | refine CW.condF rfl ?_)
        refine ⟨(j + 1, own), ⟨hlt, hown⟩, ⟨⟨_, rfl, aRfl⟩, ⟨_, rfl, aRfl⟩, ⟨_, rfl, AVle.of_eq ?_⟩, ⟨_, rfl, aRfl⟩, ⟨_, rfl, aRfl⟩, ⟨_, rfl, AVle.of_eq ?_⟩, trivial⟩, ?_, by show k - (j + 1) < k - j; omega⟩
        ·simp only [hfs]
        ·show AV.int .i64 (IntKind.wrap .i64 ((j : Int) + 1)) = .int .i64 ((j + 1 : Nat) : Int); rw [i64_succ (by omega)]
        ·simp only [hfs]; exact sSub
      ·have hjk : j = k := by rw [List.length_map, htl] at h; simp at h; omega
       subst hjk
       repeat (first | (with_reducible first | apply CW.seq | apply aN | apply aX | apply iH | apply CW.exit) | refine CW.reg ?_ | refine wS rfl ?_)
       refine RL.callP rfl rfl rfl rfl rfl (clipStr_spec _ _ _) ?_
       repeat (first | (with_reducible first | apply aN | apply CW.ret) | refine RL.nil ?_ | refine wS rfl ?_)
       refine ⟨_, _, s, rfl, AVle.tup (.cons AVle.fro (AVleL.refl _)), ?_, ?_, rfl⟩
       ·exact Store.Sub.trans (Store.sub_set _ _ _ hub) (rowOf_sub hown)
       ·rw [aboveS, hfi]; rfl
end Go.Proofs.YtaafacnoddjhgaaGreat

/- Contracts of the layer 'shape': copies of lists, and new names for bound ones. -/
namespace Go.Proofs.YtaafacnoddjhgaaGreat
open Go.AE

theorem OW.nilEq {P : Program} {Γ : Tys} {N : Nat} {env : Env} {s : Store} {o : Oper} (hΓ : TysOk P Γ) {t yt e : TypeId} {x : Operand} {it : TI} {sz : Nat} {xs : List AV} {own : Own} (ho : o.op = .binOp .eql t x (.const (.slice none 0 0)) yt)
  (ht : Γ.get? t = some it) (htd : it.td = .slc e) (hx : ev env x = some (.slc sz xs own)) {X : AV → Store → Prop} :
  OW P N o env s (fun r s' => s' = s ∧ ((r = .bool true ∧ xs = []) ∨ r = .bool false)) X := by
 refine OW.of_run (by simp [AE.noDefer, ho]) fun ro B a w p hst => ?_
 obtain ⟨info, d, h1, h2, h3, h4, h5, h6⟩ := hΓ.parts ht
 have hu := hst.ev hx
 have hd : ∃ e, d = .slice e := by
  rw [htd] at h3; cases d <;> simp [tdOf] at h3 <;> exact ⟨_, rfl⟩
 obtain ⟨e', rfl⟩ := hd
 have hrun : ∀ q, (binOp .eql t (a.eval x) (.slice none 0 0)).run P w = .ok (.bool q) w → (∀ c, a.eval x ≠ .agg c) → (execOp a.eval o).run P w = .ok (.value (.bool q)) w := by
  intro q hq hc
  unfold execOp
  rw [ho]
  refine run_v ?_
  show (do eqGuard .eql t x (.const (.slice none 0 0)) (a.eval x) (.slice none 0 0); binOp .eql t (a.eval x) (.slice none 0 0) : Sem Value).run P w = _
  rw [Sem.run_bind, eqGuard_ok w ⟨fun _ => ⟨_, rfl⟩, hc⟩, Result.andThen_ok, hq]
 generalize a.eval x = vx at hu hrun
 cases hu with
 | slcNil _ _ _ => exact ⟨_, _, s, p, .bool true, hrun true (run_eqneq rfl rfl (fun d => by simp [Op.equalIn, run_underlying h2])).1 (by simp), .refl w p, .refl s w p, hst.wf, ⟨rfl, .inl ⟨rfl, rfl⟩⟩, .bool _⟩
 | slcZ a _ _ _ => exact ⟨_, _, s, p, .bool false, hrun false (run_eqneq rfl rfl (fun d => by simp [Op.equalIn, run_underlying h2])).1 (by simp), .refl w p, .refl s w p, hst.wf, ⟨rfl, .inr rfl⟩, .bool _⟩
 | slc g off n cap _ vs _ _ hn hl hc hr hs hm hk hcl ho => exact ⟨_, _, s, p, .bool false, hrun false (run_eqneq rfl rfl (fun d => by simp [Op.equalIn, run_underlying h2])).1 (by simp), .refl w p, .refl s w p, hst.wf, ⟨rfl, .inr rfl⟩, .bool _⟩

theorem inits_elem (l : List FInit) : ∀ y ∈ l.map FInit.av, elemOk 2 y = true := by
 intro y hy; simp only [List.mem_map] at hy; obtain ⟨z, -, rfl⟩ := hy; rfl

set_option maxRecDepth 10000 in
theorem cloneStr_spec (l : List Str) (s : Store) (hl : l.length < big) :
  ACalls Tryz.prog 48 [.slc 1 (strs l) .fro] s (fun o s' => o = .ret (.slc 1 (strs l) .fro) ∧ s' = s) := by
 have hb : big = 1099511627776 := rfl
 refine ACalls.of_CW tO call48 Tryz.func48 rfl rfl ?_
 repeat (first | (with_reducible first | apply CW.seq | apply aN) | refine wR rfl ?_ | refine CW.reg ?_ | refine wS rfl ?_)
 refine RL.op rfl rfl rfl (OW.nilEq tO rfl rfl rfl rfl (X := fun _ _ => False)) ?_ (fun _ _ h => False.elim h)
 rintro r s' ⟨rfl, ⟨rfl, hn⟩ | rfl⟩
 ·repeat (first | (with_reducible first | apply CW.seq | apply aN | apply aR | apply CW.ret) | refine wR rfl ?_ | refine RL.nil ?_ | refine CW.condT rfl ?_)
  refine ⟨_, _, _, rfl, ?_, sSub, rfl, rfl⟩
  rw [hn]; exact AVle.empty
 ·repeat (first | (with_reducible first | apply CW.seq | apply aN | apply CW.skip) | refine CW.reg ?_ | refine RL.nil ?_ | refine CW.condF rfl ?_ | refine wS rfl ?_)
  refine RL.append0 tO rfl rfl rfl rfl rfl rfl rfl (by intro k; simp) rfl rfl rfl (.inl rfl) (.inr rfl) rfl (strs_elem _) ?_ ?_ (.inr rfl) (fun hn => ?_) (fun b hb => ?_)
  ·simp only [List.length_nil, Nat.zero_add, strs_length]; show _ * 16 ≤ _; omega
  ·simp only [List.length_nil, Nat.zero_add, strs_length]; omega
  ·repeat (first | (with_reducible first | apply aN | apply CW.ret) | refine RL.nil ?_ | refine wS rfl ?_)
   refine ⟨_, _, _, rfl, ?_, sSub, rfl, rfl⟩
   rw [hn]; exact AVle.empty
  ·repeat (first | (with_reducible first | apply aN | apply CW.ret) | refine RL.nil ?_ | refine wS rfl ?_)
   exact ⟨_, _, _, rfl, AVle.fro, Store.sub_set _ _ _ hb, rfl, rfl⟩

set_option maxRecDepth 10000 in
theorem cloneInit_spec (l : List FInit) (s : Store) (hl : l.length < big) :
  ACalls Tryz.prog 49 [.slc 2 (l.map FInit.av) .fro] s (fun o s' => o = .ret (.slc 2 (l.map FInit.av) .fro) ∧ s' = s) := by
 have hb : big = 1099511627776 := rfl
 refine ACalls.of_CW tO call49 Tryz.func49 rfl rfl ?_
 repeat (first | (with_reducible first | apply CW.seq | apply aN) | refine wR rfl ?_ | refine CW.reg ?_ | refine wS rfl ?_)
 refine RL.op rfl rfl rfl (OW.nilEq tO rfl rfl rfl rfl (X := fun _ _ => False)) ?_ (fun _ _ h => False.elim h)
 rintro r s' ⟨rfl, ⟨rfl, hn⟩ | rfl⟩
 ·repeat (first | (with_reducible first | apply CW.seq | apply aN | apply aR | apply CW.ret) | refine wR rfl ?_ | refine RL.nil ?_ | refine CW.condT rfl ?_)
  refine ⟨_, _, _, rfl, ?_, sSub, rfl, rfl⟩
  rw [hn]; exact AVle.empty
 ·repeat (first | (with_reducible first | apply CW.seq | apply aN | apply CW.skip) | refine CW.reg ?_ | refine RL.nil ?_ | refine CW.condF rfl ?_ | refine wS rfl ?_)
  refine RL.append0 tO rfl rfl rfl rfl rfl rfl rfl (by intro k; simp) rfl rfl rfl (.inl rfl) (.inr rfl) rfl (inits_elem _) ?_ ?_ (.inr rfl) (fun hn => ?_) (fun b hb => ?_)
  ·simp only [List.length_nil, Nat.zero_add, List.length_map]; show _ * 24 ≤ _; omega
  ·simp only [List.length_nil, Nat.zero_add, List.length_map]; omega
  ·repeat (first | (with_reducible first | apply aN | apply CW.ret) | refine RL.nil ?_ | refine wS rfl ?_)
   refine ⟨_, _, _, rfl, ?_, sSub, rfl, rfl⟩
   rw [hn]; exact AVle.empty
  ·repeat (first | (with_reducible first | apply aN | apply CW.ret) | refine RL.nil ?_ | refine wS rfl ?_)
   exact ⟨_, _, _, rfl, AVle.fro, Store.sub_set _ _ _ hb, rfl, rfl⟩

end Go.Proofs.YtaafacnoddjhgaaGreat

/- Contracts of the layer 'shape': new names for bound ones. -/
namespace Go.Proofs.YtaafacnoddjhgaaGreat
open Go.AE

/-! ### New names for bound ones -/

def textN (sc : List (Str × Str)) (tk : List Str) (o : Int) (t : Str) : Str × List Str :=
 if o == 3 then ((stands sc t).getD t, tk) else if o == 9 then (freshS tk, insS tk (freshS tk)) else (t, tk)

mutual
def FExp.renam : List (Str × Str) → List Str → FExp → FExp × List Str
 | sc, tk, .mk o n t ks =>
  let r := textN sc tk o t
  let q := FExp.renams (o == 9) t r.1 sc 0 r.2 ks
  (.mk o n r.1 q.1, q.2)
def FExp.renams (isLet : Bool) (t t' : Str) (sc : List (Str × Str)) : Nat → List Str → List FExp → List FExp × List Str
 | _, tk, [] => ([], tk)
 | i, tk, k :: r =>
  let a := FExp.renam (if isLet && i == 1 then (t, t') :: sc else sc) tk k
  let b := FExp.renams isLet t t' sc (i + 1) a.2 r
  (a.1 :: b.1, b.2)
end

theorem renam_def (e : FExp) (sc : List (Str × Str)) (tk : List Str) : FExp.renam sc tk e =
  (.mk e.op e.n (textN sc tk e.op e.text).1 (FExp.renams (e.op == 9) e.text (textN sc tk e.op e.text).1 sc 0 (textN sc tk e.op e.text).2 e.kids).1, (FExp.renams (e.op == 9) e.text (textN sc tk e.op e.text).1 sc 0 (textN sc tk e.op e.text).2 e.kids).2) := by
 cases e; rw [FExp.renam]; rfl

theorem insS_len (tk : List Str) (x : Str) : (insS tk x).length ≤ tk.length + 1 := by unfold insS; split <;> simp

theorem textN_taken (sc : List (Str × Str)) (tk : List Str) (o : Int) (t : Str) : (textN sc tk o t).2.length ≤ tk.length + 1 := by
 unfold textN
 split
 ·simp
 ·split
  ·exact insS_len _ _
  ·simp

mutual
theorem renam_taken : ∀ (e : FExp) (sc : List (Str × Str)) (tk : List Str), (FExp.renam sc tk e).2.length ≤ tk.length + e.size
  | .mk o n t ks, sc, tk => by
    rw [FExp.renam]
    simp only [FExp.size]
    have h1 := renams_taken ks (o == 9) t (textN sc tk o t).1 sc 0 (textN sc tk o t).2
    have h2 := textN_taken sc tk o t
    omega
theorem renams_taken : ∀ (ks : List FExp) (isLet : Bool) (t t' : Str) (sc : List (Str × Str)) (i : Nat) (tk : List Str), (FExp.renams isLet t t' sc i tk ks).2.length ≤ tk.length + FExp.sizes ks
  | [], _, _, _, _, _, _ => by simp [FExp.renams]
  | k :: r, isLet, t, t', sc, i, tk => by
    simp only [FExp.renams, FExp.sizes]
    have h1 := renam_taken k (if isLet && i == 1 then (t, t') :: sc else sc) tk
    have h2 := renams_taken r isLet t t' sc (i + 1) (FExp.renam (if isLet && i == 1 then (t, t') :: sc else sc) tk k).2
    omega
end

set_option maxRecDepth 10000 in
theorem next_spec (tk : List Str) (tb : Nat) (s : Store) (hs : s tb = some (.map (setA tk))) (hf : HasFree tk) :
  ACalls Tryz.prog 50 [.fptr [.map tb] 0] s (fun o s' => o = .ret (.str (freshS tk)) ∧ s' = s.set tb (.map (setA (insS tk (freshS tk))))) := by
 refine ACalls.of_CW tO call50 Tryz.func50 rfl rfl ?_
 repeat (first | (with_reducible first | apply CW.seq | apply aN) | refine wR rfl ?_ | refine CW.reg ?_ | refine wS rfl ?_)
 refine RL.callP rfl rfl rfl rfl rfl (fresh_spec tk tb _ hs hf) ?_
 repeat (first | (with_reducible first | apply CW.seq | apply aN) | refine CW.reg ?_ | refine RL.nil ?_ | refine wS rfl ?_)
 refine RL.mapUpdate tO rfl rfl (.inl rfl) rfl rfl rfl rfl rfl rfl hs rfl (putA_set _ _) ?_
 repeat (first | (with_reducible first | apply CW.seq | apply aN | apply CW.ret) | refine wR rfl ?_ | refine RL.nil ?_)
 exact ⟨_, _, _, rfl, aRfl, sSub, rfl, rfl⟩

set_option maxRecDepth 10000 in
set_option maxHeartbeats 1000000 in
theorem exp_spec (tb : Nat) : ∀ (n : Nat) (e : FExp) (sc : List (Str × Str)) (tk : List Str) (s : Store), e.size ≤ n → e.size ≤ big → tk.length + e.size < 698 → s tb = some (.map (setA tk)) →
    ACalls Tryz.prog 52 [.fptr [.map tb] 0, e.av, scopeAV sc] s (fun o s' => o = .ret (FExp.renam sc tk e).1.av ∧ s' = s.set tb (.map (setA (FExp.renam sc tk e).2))) := by
  intro n
  induction n with
  | zero => intro e sc tk s h; have := e.size_pos; omega
  | succ n ih =>
    intro e sc tk s hn hbig htk htb
    have hlen := e.kids_length
    have hkl := e.kav_length
    have hb : big = 1099511627776 := rfl
    refine ACalls.of_CW tO call52 Tryz.func52 rfl rfl ?_
    refine CW.seqCutX (σ := Nat) (fun b8 => [(0, .fptr [.map tb] 0), (2, scopeAV sc), (4, .fptr e.cells 0), (6, .ptr b8 0)]) (fun b8 => s.set b8 box0) (fun b8 => s b8 = none) ?_ ?_
    · repeat (first | refine CW.reg ?_ | refine wS rfl ?_)
      refine RL.alloc tO rfl rfl rfl rfl rfl rfl rfl (fun b8 hb8 => ?_)
      repeat (first | refine RL.nil ?_)
      exact ⟨rfl, b8, hb8, ⟨⟨_, rfl, aRfl⟩, ⟨_, rfl, aRfl⟩, ⟨_, rfl, aRfl⟩, ⟨_, rfl, aRfl⟩, trivial⟩, sSub⟩
    intro b8 hb8
    have h8t : tb ≠ b8 := fun e => by subst e; rw [hb8] at htb; cases htb
    refine CW.seqCutX (σ := Nat) (fun b11 => [(0, .fptr [.map tb] 0), (2, scopeAV sc), (4, .fptr e.cells 0), (6, .ptr b8 0), (7, .ptr b11 0)]) (fun b11 => (s.set b8 box0).set b11 (.box 27 (part4 e.op e.n e.text [] .nil))) (fun b11 => (s.set b8 box0) b11 = none) ?_ ?_
    · repeat (first | refine CW.reg ?_ | refine wS rfl ?_)
      refine RL.alloc tO rfl rfl rfl rfl rfl rfl rfl (fun b11 hb11 => ?_)
      refine RL.storeP tO rfl rfl rfl rfl rfl rfl rfl rfl rfl sSam rfl ?_
      rw [Store.set_set]
      refine RL.boxWeak b11 (part4 e.op e.n e.text [] .nil) sSam (part4_nil _ _ _) ?_
      rw [Store.set_set]
      exact RL.nil ⟨rfl, b11, hb11, ⟨⟨_, rfl, aRfl⟩, ⟨_, rfl, aRfl⟩, ⟨_, rfl, aRfl⟩, ⟨_, rfl, aRfl⟩, ⟨_, rfl, aRfl⟩, trivial⟩, sSub⟩
    intro b11 hb11
    obtain ⟨hn8, hn11⟩ := Store.set_none hb11
    have h11t : tb ≠ b11 := fun e => by subst e; rw [hn11] at htb; cases htb
    have hS : ∀ o, ((s.set b8 box0).set b11 o).set tb (.map (setA tk)) = (s.set b8 box0).set b11 o := fun o => Store.set_eq _ _ _ (by rw [Store.set_ne _ _ h11t, Store.set_ne _ _ h8t]; exact htb)
    rw [← hS]
    refine CW.seqCut [(0, .fptr [.map tb] 0), (2, scopeAV sc), (4, .fptr e.cells 0), (6, .ptr b8 0), (7, .ptr b11 0)]
      (((s.set b8 box0).set b11 (.box 27 (part4 e.op e.n (textN sc tk e.op e.text).1 [] .nil))).set tb (.map (setA (textN sc tk e.op e.text).2))) ?_ ?_
    · repeat (first | (with_reducible first | apply CW.seq | apply aN | apply CW.block) | refine wR rfl ?_)
      refine CW.cond rfl (fun h3 => ?_) (fun h3 => ?_)
      · have hT : textN sc tk e.op e.text = ((stands sc e.text).getD e.text, tk) := by rw [textN, if_pos h3]
        rw [hT]
        repeat (first | refine CW.reg ?_ | refine wS rfl ?_)
        refine RL.callP rfl rfl rfl rfl rfl (scopeLook_spec e.text _ sc) ?_
        repeat (first | refine wS rfl ?_)
        refine RL.storeP tO rfl rfl rfl rfl rfl rfl rfl rfl rfl (by rw [Store.set_ne _ _ (Ne.symm h11t)]; exact sSam) rfl ?_
        rw [← Store.set_comm _ _ _ (Ne.symm h11t), Store.set_set]
        repeat (first | with_reducible apply iN | refine RL.nil ?_)
        exact ⟨rfl, (wE rfl), sSub⟩
      · repeat (first | (with_reducible first | apply CW.seq | apply aN) | refine wR rfl ?_)
        refine CW.cond rfl (fun h9 => ?_) (fun h9 => ?_)
        · have hT : textN sc tk e.op e.text = (freshS tk, insS tk (freshS tk)) := by
            rw [textN, if_neg (by rw [show (e.op == 3) = false from h3]; simp), if_pos h9]
          rw [hT]
          repeat (first | refine CW.reg ?_ | refine wS rfl ?_)
          refine RL.call rfl rfl rfl rfl rfl (next_spec tk tb _ sSam (hasFree_of (by omega))) ?_ (fun _ _ ⟨h, _⟩ => by cases h)
          rintro _ _ ⟨⟨⟩, rfl⟩
          rw [Store.set_set]
          repeat (first | refine wS rfl ?_)
          refine RL.storeP tO rfl rfl rfl rfl rfl rfl rfl rfl rfl (by rw [Store.set_ne _ _ (Ne.symm h11t)]; exact sSam) rfl ?_
          rw [← Store.set_comm _ _ _ (Ne.symm h11t), Store.set_set]
          repeat (first | with_reducible apply iN | refine RL.nil ?_)
          exact ⟨rfl, (wE rfl), sSub⟩
        · have hT : textN sc tk e.op e.text = (e.text, tk) := by
            rw [textN, if_neg (by rw [show (e.op == 3) = false from h3]; simp), if_neg (by rw [show (e.op == 9) = false from h9]; simp)]
          rw [hT]
          repeat (with_reducible first | apply iN | apply CW.skip)
          exact ⟨rfl, (wE rfl), sSub⟩
    have hput := renam_def e sc tk
    have htx := textN_taken sc tk e.op e.text
    generalize textN sc tk e.op e.text = tx at hput htx ⊢
    obtain ⟨t', tk1⟩ := tx
    simp only at hput htx ⊢
    rw [FExp.size_def] at htk
    repeat (first | (with_reducible first | apply CW.seq | apply aN | apply CW.block) | refine wR rfl ?_)
    refine CW.loop (σ := Nat × Own × List FExp × List Str) (fun q => [(0, .fptr [.map tb] 0), (2, scopeAV sc), (4, .fptr e.cells 0), (6, .ptr b8 0), (7, .ptr b11 0), (36, .slc 4 e.kav .fro), (37, .int .i64 e.kav.length), (38, .int .i64 (q.1 : Int))])
      (fun q => rowOf (((s.set b8 box0).set b11 (.box 27 (part4 e.op e.n t' q.2.2.1 q.2.1))).set tb (.map (setA q.2.2.2))) 27 4 q.1 q.2.1)
      (fun q => q.1 ≤ e.kids.length ∧ q.2.2.1.length = q.1 ∧ OwnOk (((s.set b8 box0).set b11 (.box 27 (part4 e.op e.n t' q.2.2.1 q.2.1))).set tb (.map (setA q.2.2.2))) q.1 q.2.1 ∧
        q.2.2.2.length + FExp.sizes (e.kids.drop q.1) < 698 ∧
        FExp.renam sc tk e = (.mk e.op e.n t' (q.2.2.1 ++ (FExp.renams (e.op == 9) e.text t' sc q.1 q.2.2.2 (e.kids.drop q.1)).1), (FExp.renams (e.op == 9) e.text t' sc q.1 q.2.2.2 (e.kids.drop q.1)).2))
      (fun q => e.kids.length - q.1) (0, .nil, [], tk1) ⟨by simp, rfl, trivial, by simp; omega, hput⟩ ?_ sSub ?_
    · exact (wE rfl)
    · rintro ⟨j, own, rs, tk2⟩ ⟨hj, hrs, hok, htk2, hP⟩
      simp only at hj hrs hok htk2 hP
      repeat (first | (with_reducible first | apply CW.seq | apply aN) | refine wR rfl ?_)
      refine CW.cond rfl (fun h => ?_) (fun h => ?_)
      · have hlt : j < e.kids.length := by rw [hkl] at h; simpa using h
        obtain ⟨k, hk, hk', hks⟩ := FExp.kid_at hlt
        rw [drop_cons hk, FExp.renams] at hP
        rw [FExp.sizes_drop hk] at htk2
        repeat (first | (with_reducible first | apply CW.seq | apply aN | apply CW.skip | apply CW.block) | refine CW.reg ?_ | refine wS rfl ?_ | refine RL.idx tO _ rfl rfl rfl rfl rfl rfl rfl rfl rfl rfl rfl (by assumption) rfl ?_)
        refine RL.alloc tO rfl rfl rfl rfl rfl rfl rfl (fun b13 hb13 => ?_)
        refine wS rfl ?_
        refine RL.storeP tO rfl rfl rfl rfl rfl rfl rfl rfl rfl sSam rfl ?_
        rw [Store.set_set]
        refine RL.freeze 9 b13 rfl sSam ?_
        rw [Store.del_set _ _ _ hb13]
        refine RL.nil (aN ?_)
        have hnb11 : ∀ b', own = .own b' → b' ≠ b11 := OwnOk.ne (n := j) hok (by rw [Store.set_ne _ _ (Ne.symm h11t)]; exact sSam)
        have hnbt : ∀ b', own = .own b' → b' ≠ tb := OwnOk.ne (n := j) hok sSam
        have hg11 : ∀ M, rowOf (((s.set b8 box0).set b11 (.box 27 (part4 e.op e.n t' rs own))).set tb M) 27 4 j own b11 = some (.box 27 (part4 e.op e.n t' rs own)) := fun M =>
          rowOf_get (m := j) (OwnOk.congr (n := j) (fun z hz => by
            by_cases ez : z = tb
            · subst ez; rw [Store.set_same] at hz; cases hz
            · rw [Store.set_ne _ _ ez] at hz ⊢; exact hz) hok) (by rw [Store.set_ne _ _ (Ne.symm h11t)]; exact sSam)
        refine CW.seqCut [(0, .fptr [.map tb] 0), (2, scopeAV sc), (4, .fptr e.cells 0), (6, .ptr b8 0), (7, .ptr b11 0), (36, .slc 4 e.kav .fro), (37, .int .i64 e.kav.length), (38, .int .i64 (j : Int)), (9, .fptr k.cells 0), (8, .int .i64 (j : Int)), (10, scopeAV sc)] (rowOf (((s.set b8 box0).set b11 (.box 27 (part4 e.op e.n t' rs own))).set tb (.map (setA tk2))) 27 4 j own) ?_ ?_
        · repeat (first | refine wR rfl ?_)
          exact ⟨rfl, (wE rfl), sSub⟩
        refine CW.seqCut [(0, .fptr [.map tb] 0), (2, scopeAV sc), (4, .fptr e.cells 0), (6, .ptr b8 0), (7, .ptr b11 0), (36, .slc 4 e.kav .fro), (37, .int .i64 e.kav.length), (38, .int .i64 (j : Int)), (9, .fptr k.cells 0), (10, scopeAV (if e.op == 9 && j == 1 then (e.text, t') :: sc else sc))] (rowOf (((s.set b8 box0).set b11 (.box 27 (part4 e.op e.n t' rs own))).set tb (.map (setA tk2))) 27 4 j own) ?_ ?_
        · repeat (first | with_reducible apply CW.seq | refine CW.reg ?_ | refine wS rfl ?_)
          refine RL.cut 3 [(0, .fptr [.map tb] 0), (2, scopeAV sc), (4, .fptr e.cells 0), (6, .ptr b8 0), (7, .ptr b11 0), (36, .slc 4 e.kav .fro), (37, .int .i64 e.kav.length), (38, .int .i64 (j : Int)), (9, .fptr k.cells 0), (10, scopeAV sc), (50, .bool (e.op == 9 && j == 1))] ?_ ?_
          · repeat' (first | refine RL.nil ?_ | refine wS rfl ?_ | refine RL.skip rfl rfl rfl ?_ | refine RL.gstepT tO rfl rfl rfl rfl rfl rfl rfl (fun _ => ?_) (fun _ => ?_))
            all_goals refine ⟨rfl, (by repeat (first | exact trivial | refine ⟨⟨_, rfl, aRfl⟩, ?_⟩ | refine ⟨⟨_, rfl, AVle.of_eq (by first | (simp_all; done) | (simp_all; rw [Bool.eq_iff_iff]; simp; omega))⟩, ?_⟩)), rfl⟩
          cases hc : e.op == 9 && j == 1 with
          | false =>
            repeat (first | (with_reducible first | apply aN | apply CW.skip) | refine RL.nil ?_ | refine CW.condF rfl ?_)
            exact ⟨rfl, (wE rfl), sSub⟩
          | true =>
            cases sc with
            | nil =>
              repeat (first | with_reducible apply aN | refine CW.reg ?_ | refine RL.nil ?_ | refine CW.condT rfl ?_ | refine wS rfl ?_)
              refine RL.loadP tO rfl rfl rfl rfl rfl rfl (hg11 _) rfl ?_
              repeat (first | refine RL.nil ?_ | refine wS rfl ?_)
              exact ⟨rfl, (wE rfl), sSub⟩
            | cons _ _ =>
              repeat (first | with_reducible apply aN | refine CW.reg ?_ | refine RL.nil ?_ | refine CW.condT rfl ?_ | refine wS rfl ?_)
              refine RL.loadP tO rfl rfl rfl rfl rfl rfl (hg11 _) rfl ?_
              repeat (first | refine RL.nil ?_ | refine wS rfl ?_)
              exact ⟨rfl, (wE rfl), sSub⟩
        generalize (if (e.op == 9 && j == 1) = true then (e.text, t') :: sc else sc) = sc' at hP ⊢
        have hcall := ih k sc' tk2 (rowOf (((s.set b8 box0).set b11 (.box 27 (part4 e.op e.n t' rs own))).set tb (.map (setA tk2))) 27 4 j own) (by omega) (by omega) (by omega)
          (rowOf_get hok sSam)
        rw [rowOf_upd1 hnbt] at hcall
        skip
        refine CW.drw tO mixed rfl (RD.run rfl ?_)
        generalize hq : FExp.renam sc' tk2 k = pk at hcall hP ⊢
        obtain ⟨k', tk3⟩ := pk
        simp only at hcall hP
        have htk3 : tk3.length ≤ tk2.length + k.size := by
          have := renam_taken k sc' tk2
          rw [hq] at this; exact this
        refine' RD.loadCall (i := 1) (j := 5) (σ := Unit) (P1 := _) (fun _ => k'.av) (fun _ => rowOf (((s.set b8 box0).set b11 (.box 27 (part4 e.op e.n t' rs own))).set tb (.map (setA tk3))) 27 4 j own) (fun _ => True) tO rfl rfl rfl rfl rfl rfl rfl rfl rfl rfl rfl rfl (hg11 _) rfl rfl rfl rfl (OW.call rfl (fv := .func 52 [] []) rfl rfl (ACallV.of_calls hcall)) (fun y s' ⟨h1, h2⟩ => ⟨(), trivial, by cases h1; rfl, h2⟩) ?A ?B ?C (fun _ _ ⟨h, _⟩ => by cases h)
        case A => intro _ _ hP; refine RD.run rfl ?_; exact hP
        case B =>
          intro _ _ hP
          refine RD.run rfl (RD.one (i := 1) rfl rfl rfl rfl rfl (OW.loadP tO rfl rfl rfl (hg11 _) rfl (X := fun _ _ => False)) ?_ (fun _ _ h => False.elim h))
          rintro _ _ ⟨rfl, rfl⟩
          refine RD.congr _ (get_mv _ _ _ [_, _] ?_) hP
          rfl
        case C =>
          intro _ _
          have hok3 : OwnOk (((s.set b8 box0).set b11 (.box 27 (part4 e.op e.n t' rs own))).set tb (.map (setA tk3))) j own := by
            have := OwnOk.set (m := j) (o' := .map (setA tk3)) hok sSam
            rwa [Store.set_set] at this
          refine RD.append1 (i := 7) tO rfl rfl rfl rfl rfl rfl rfl rfl rfl (by intro k h; cases h) rfl rfl rfl rfl rfl rfl rfl (n := j) (by simp [hrs]) (by show (j + 1) * 56 ≤ _; omega) (by omega) rfl hok3 (fun b' hb' => ?_)
          have hb11' : ∀ b'', Own.own b' = .own b'' → b'' ≠ b11 := OwnOk.ne (n := j) (own := .own b') hb' (by rw [Store.set_ne _ _ (Ne.symm h11t)]; exact sSam)
          refine RD.run rfl ?_
          refine RD.oneN (i := 9) rfl rfl rfl rfl (OW.storeP tO rfl rfl rfl rfl rfl rfl rfl (rowOf_get (n := j + 1) (m := j) (own := .own b') hb' (by rw [Store.set_ne _ _ (Ne.symm h11t)]; exact sSam)) rfl (X := fun _ _ => False)) ?_ (fun _ _ h => False.elim h)
          rintro _ _ rfl
          refine RD.run rfl (RD.done rfl ?_)
          rw [rowOf_upd2 hb11' (Ne.symm h11t)]
          repeat (first | (with_reducible first | apply aN | apply iN) | refine wR rfl ?_)
          refine ⟨(j + 1, .own b', rs ++ [k'], tk3), ⟨hlt, by simp [hrs], ?_, by show tk3.length + FExp.sizes (e.kids.drop (j + 1)) < 698; omega, by rw [hP]; simp⟩, (by repeat (first | exact trivial | refine ⟨⟨_, rfl, aRfl⟩, ?_⟩ | refine ⟨⟨_, rfl, AVle.of_eq (by (show AV.int .i64 (IntKind.wrap .i64 ((j : Int) + 1)) = .int .i64 ((j + 1 : Nat) : Int); rw [i64_succ (by omega)]))⟩, ?_⟩)), ?_, by show e.kids.length - (j + 1) < e.kids.length - j; omega⟩
          · refine OwnOk.congr (n := j) (s := ((s.set b8 box0).set b11 (.box 27 (part4 e.op e.n t' rs own))).set tb (.map (setA tk3))) (fun z hz => ?_) hb'
            by_cases e1 : z = tb
            · subst e1; rw [Store.set_same] at hz; cases hz
            · rw [Store.set_ne _ _ e1] at hz ⊢
              by_cases e2 : z = b11
              · subst e2; rw [Store.set_same] at hz; cases hz
              · rw [Store.set_ne _ _ e2] at hz ⊢; exact hz
          · simp only [part4, List.map_append, List.map_cons, List.map_nil]
            exact sSub
      · have hge : e.kids.length ≤ j := by rw [hkl] at h; simpa using h
        have hje : j = e.kids.length := by omega
        rw [List.drop_eq_nil_of_le hge, FExp.renams, List.append_nil] at hP
        repeat (first | (with_reducible first | apply CW.seq | apply aN | apply aX | apply iH | apply CW.exit) | refine CW.reg ?_)
        refine RL.loadP tO rfl rfl rfl rfl rfl rfl (rowOf_get hok (by rw [Store.set_ne _ _ (Ne.symm h11t)]; exact sSam)) rfl ?_
        refine RL.storeP tO rfl rfl rfl rfl rfl rfl rfl rfl rfl (rowOf_get hok (by rw [Store.set_ne _ _ (Ne.symm h8t), Store.set_ne _ _ (fun e => by rw [← e, Store.set_same] at hb11; cases hb11)]; exact sSam)) rfl ?_
        repeat (first | (with_reducible first | apply aN | apply CW.ret) | refine RL.nil ?_)
        refine ⟨_, _, s.set tb (.map (setA tk2)), resA_cell rfl rfl sSam rfl, part4_le e.op e.n t' rs own, ?_, ?_, ?_⟩
        · have q8 : (s.set tb (.map (setA tk2))) b8 = none := by rw [Store.set_ne _ _ (Ne.symm h8t)]; exact hb8
          have q11 : (s.set tb (.map (setA tk2))) b11 = none := by rw [Store.set_ne _ _ (Ne.symm h11t)]; exact hn11
          refine Store.subSet (Store.subRow (m := j) ?_ ?_) q8
          · rw [Store.set_comm _ _ _ (Ne.symm h11t), Store.set_comm _ _ _ (Ne.symm h8t)]
            exact Store.subSet (Store.subSet sSub q8) q11
          · refine OwnOk.congr (n := j) (fun z hz => ?_) hok
            by_cases e1 : z = tb
            · subst e1; rw [Store.set_same] at hz; cases hz
            · rw [Store.set_ne _ _ e1] at hz ⊢
              exact (Store.set_none (Store.set_none hz).2).2
        · rw [hP]
        · rw [hP]
end Go.Proofs.YtaafacnoddjhgaaGreat

/- Contracts of the layer 'shape': a fact under other names. -/
namespace Go.Proofs.YtaafacnoddjhgaaGreat
open Go.AE

mutual
def FFact.renam (sc : List (Str × Str)) : FFact → FFact
 | .mk o x p c n ks => .mk o (if x == [] then [] else (stands sc x).getD x) p c n (FFact.renams sc ks)
def FFact.renams (sc : List (Str × Str)) : List FFact → List FFact
 | [] => []
 | k :: r => FFact.renam sc k :: FFact.renams sc r
end

theorem FFact.renams_eq (sc : List (Str × Str)) : ∀ l : List FFact, FFact.renams sc l = l.map (FFact.renam sc)
 | [] => rfl
 | k :: r => by rw [FFact.renams, FFact.renams_eq sc r]; rfl

theorem FFact.renam_def (sc : List (Str × Str)) (f : FFact) : f.renam sc = .mk f.op (if f.name == [] then [] else (stands sc f.name).getD f.name) f.path f.cls f.n (f.kids.map (FFact.renam sc)) := by
 cases f; rw [FFact.renam, FFact.renams_eq]; rfl

def FFact.Slim (d : Nat) (f : FFact) : Prop := ∀ (d' : Nat) (g : FFact), (d', Part.fact g) ∈ (Part.fact f).nodes d → g.path.length < big
theorem FFact.Slim.kid {d : Nat} {f k : FFact} (h : f.Slim d) (hk : k ∈ f.kids) : k.Slim (d + 1) := fun d' g hg => h d' g (by
 rw [Part.nodes_eq]
 exact List.mem_cons_of_mem _ (List.mem_flatMap.2 ⟨.fact k, List.mem_map.2 ⟨k, hk, rfl⟩, hg⟩))

def part6 (op : Int) (name : Str) (path : List Str) (cls : Str) (n : Int) (ks : List FFact) (own : Own) : List AV := [.int .i64 op, .str name, .slc 1 (strs path) .fro, .str cls, .int .i64 n, .slc 6 (ks.map FFact.av) own]

theorem part6_le (op : Int) (name : Str) (path : List Str) (cls : Str) (n : Int) (ks : List FFact) (own : Own) : AVle (.agg (part6 op name path cls n ks own)) (FFact.av (.mk op name path cls n ks)) := by
 refine AVle.agg (.cons aRfl (.cons aRfl (.cons aRfl (.cons aRfl (.cons aRfl (.one ?_))))))
 rw [FFact.kav_eq]; exact AVle.fro

theorem part6_nil (op : Int) (name : Str) (path : List Str) (cls : Str) (n : Int) : AVleL [.int .i64 op, .str name, .slc 1 (strs path) .fro, .str cls, .int .i64 n, .slc 0 [] .nil] (part6 op name path cls n [] .nil) :=
 .cons aRfl (.cons aRfl (.cons aRfl (.cons aRfl (.cons aRfl (.one (AVle.nil (by simp)))))))

theorem FFact.kid_at {f : FFact} {j : Nat} (h : j < f.kids.length) : ∃ k, f.kids[j]? = some k ∧ f.kav[j]? = some (.agg k.cells) ∧ k.size < f.size := by
 refine ⟨f.kids[j], List.getElem?_eq_getElem h, ?_, FFact.kids_size (List.getElem_mem h)⟩
 rw [FFact.kav_eq]; exact factParts_get _ _ _ (List.getElem?_eq_getElem h)
theorem FFact.kav_length (f : FFact) : f.kav.length = f.kids.length := by rw [FFact.kav_eq, List.length_map]

set_option maxRecDepth 10000 in
set_option maxHeartbeats 1000000 in
theorem renamed_spec (sc : List (Str × Str)) : ∀ (n : Nat) (f : FFact) (d : Nat) (s : Store), f.size ≤ n → f.size ≤ big → f.Slim d →
  ACalls Tryz.prog 51 [f.av, scopeAV sc] s (fun o s' => o = .ret (f.renam sc).av ∧ s' = s) := by
 intro n
 induction n with
 | zero => intro e d s h; have := e.size_pos; omega
 | succ n ih =>
  intro f d s hn hbig htx
  have hlen := f.kids_length
  have hkl := f.kav_length
  have hb : big = 1099511627776 := rfl
  refine ACalls.of_CW tO call51 Tryz.func51 rfl rfl ?_
  have hpl : f.path.length < big := htx d f (by rw [Part.nodes_eq]; exact List.mem_cons_self)
  repeat (first | with_reducible apply CW.seq | refine CW.reg ?_ | refine wS rfl ?_)
  refine RL.alloc tO rfl rfl rfl rfl rfl rfl rfl (fun b4 hb4 => ?_)
  repeat (first | (with_reducible first | apply CW.seq | apply aN) | refine RL.nil ?_)
  generalize hZ : AObj.box 55 _ = Z
  refine CW.drw tO mixed rfl (RD.run rfl ?_)
  refine RD.calmP (i := 4) rfl rfl rfl rfl rfl rfl rfl (fun s => cloneStr_spec f.path s hpl) ?_
  refine RD.run rfl ?_
  refine RD.one (i := 10) rfl rfl rfl rfl rfl (OW.alloc tO rfl rfl rfl rfl (X := fun _ _ => False)) ?_ (fun _ _ h => False.elim h)
  rintro _ _ ⟨b5, hb5, rfl, rfl⟩
  refine RD.run rfl ?_
  refine RD.oneN (i := 11) rfl rfl rfl rfl (OW.storeP tO rfl rfl rfl rfl rfl rfl rfl sSam rfl (X := fun _ _ => False)) ?_ (fun _ _ h => False.elim h)
  rintro _ _ rfl
  refine RD.run rfl (RD.done rfl ?_)
  rw [Store.set_set]
  repeat (first | (with_reducible first | apply CW.seq | apply aN) | refine wR rfl ?_)
  refine CW.boxWeak b5 (part6 f.op [] f.path f.cls f.n [] .nil) sSam (part6_nil _ _ _ _ _) ?_
  rw [Store.set_set]
  have hnm : FFact.renam sc f = .mk f.op (if f.name == [] then [] else (stands sc f.name).getD f.name) f.path f.cls f.n (f.kids.map (FFact.renam sc)) := FFact.renam_def sc f
  obtain ⟨hn5, hs5⟩ := Store.set_none hb5
  refine CW.atCut (σ := Unit) (fun _ => [(1, scopeAV sc), (2, .fptr f.cells 0), (4, .ptr b4 0), (5, .ptr b5 0)]) (fun _ => (s.set b4 Z).set b5 (.box 55 (part6 f.op (if f.name == [] then [] else (stands sc f.name).getD f.name) f.path f.cls f.n [] .nil))) (fun _ => True) ?_ ?_
  ·refine CW.cond rfl (fun h => ?_) (fun h => ?_)
   ·have h' : (f.name == []) = false := by
     have : (!(f.name == [])) = true := h
     simpa using this
    rw [h']
    repeat (first | refine CW.reg ?_ | refine wS rfl ?_)
    refine RL.callP rfl rfl rfl rfl rfl (scopeLook_spec f.name _ sc) ?_
    repeat (first | refine RL.nil ?_ | refine wS rfl ?_ | (refine RL.storeP tO rfl rfl rfl rfl rfl rfl rfl rfl rfl sSam rfl ?_; try with_reducible rw [Store.set_set]))
    exact ⟨rfl, (), trivial, (wE rfl), sSub⟩
   ·have h' : (f.name == []) = true := by
     have : (!(f.name == [])) = false := h
     simpa using this
    rw [h']
    repeat (first | with_reducible apply CW.skip)
    exact ⟨rfl, (), trivial, (wE rfl), sSub⟩
  intro _ _
  generalize (if (f.name == []) = true then [] else (stands sc f.name).getD f.name) = nm at hnm ⊢
  repeat (first | (with_reducible first | apply CW.seq | apply aN | apply CW.block) | refine wR rfl ?_)
  refine CW.loop (σ := Nat × Own) (fun q => [(1, scopeAV sc), (2, .fptr f.cells 0), (4, .ptr b4 0), (5, .ptr b5 0), (30, .slc 6 f.kav .fro), (31, .int .i64 f.kav.length), (32, .int .i64 (q.1 : Int))])
   (fun q => rowOf ((s.set b4 Z).set b5 (.box 55 (part6 f.op nm f.path f.cls f.n ((f.kids.take q.1).map (FFact.renam sc)) q.2))) 55 6 q.1 q.2)
   (fun q => q.1 ≤ f.kids.length ∧ OwnOk ((s.set b4 Z).set b5 (.box 55 (part6 f.op nm f.path f.cls f.n ((f.kids.take q.1).map (FFact.renam sc)) q.2))) q.1 q.2) (fun q => f.kids.length - q.1) (0, .nil) ⟨by simp, trivial⟩ ?_ sSub ?_
  ·exact (wE rfl)
  ·rintro ⟨j, own⟩ ⟨hj, hok⟩
   simp only at hj hok
   repeat (first | (with_reducible first | apply CW.seq | apply aN) | refine wR rfl ?_)
   refine CW.cond rfl (fun h => ?_) (fun h => ?_)
   ·have hlt : j < f.kids.length := by rw [hkl] at h; simpa using h
    obtain ⟨k, hk, hk', hks⟩ := FFact.kid_at hlt
    repeat (first | (with_reducible first | apply CW.seq | apply aN | apply CW.skip | apply CW.block) | refine CW.reg ?_ | refine wS rfl ?_ | refine RL.idx tO _ rfl rfl rfl rfl rfl rfl rfl rfl rfl rfl rfl (by assumption) rfl ?_)
    refine RL.newBox tO rfl rfl rfl rfl rfl rfl rfl (fun _ => rfl) rfl rfl (fun _ => rfl) rfl rfl rfl rfl ?_
    repeat (first | with_reducible apply aN | refine RL.nil ?_)
    refine CW.drw tO mixed rfl (RD.run rfl ?_)
    refine RD.calmP (i := 4) rfl rfl rfl rfl rfl rfl rfl (fun s => ih k (d + 1) s (by omega) (by omega) (htx.kid (List.mem_of_getElem? hk))) ?_
    refine RD.run rfl ?_
    refine RD.one (i := 1) rfl rfl rfl rfl rfl (OW.loadP tO rfl rfl rfl (rowOf_get hok sSam) rfl (X := fun _ _ => False)) ?_ (fun _ _ h => False.elim h)
    rintro _ _ ⟨rfl, rfl⟩
    refine RD.run rfl ?_
    refine RD.append1 (i := 6) tO rfl rfl rfl rfl rfl rfl rfl rfl rfl (by intro k h; cases h) rfl rfl rfl rfl rfl rfl rfl (n := j) (by simp; omega) (by show (j + 1) * 96 ≤ _; omega) (by omega) rfl hok (fun b' hb' => ?_)
    refine RD.run rfl ?_
    refine RD.oneN (i := 8) rfl rfl rfl rfl (OW.storeP tO rfl rfl rfl rfl rfl rfl rfl (rowOf_get (n := j + 1) (m := j) (own := .own b') hb' sSam) rfl (X := fun _ _ => False)) ?_ (fun _ _ h => False.elim h)
    rintro _ _ rfl
    refine RD.run rfl (RD.done rfl ?_)
    rw [rowOf_set (OwnOk.ne (n := j) (own := .own b') hb' sSam), Store.set_set]
    repeat (first | (with_reducible first | apply aN | apply iN) | refine wR rfl ?_)
    refine ⟨(j + 1, .own b'), ⟨hlt, ?_⟩, (by repeat (first | exact trivial | refine ⟨⟨_, rfl, aRfl⟩, ?_⟩ | refine ⟨⟨_, rfl, AVle.of_eq (by (show AV.int .i64 (IntKind.wrap .i64 ((j : Int) + 1)) = .int .i64 ((j + 1 : Nat) : Int); rw [i64_succ (by omega)]))⟩, ?_⟩)), ?_, by show f.kids.length - (j + 1) < f.kids.length - j; omega⟩
    ·have := OwnOk.set (m := j + 1) (n := j) (own := .own b') (o' := .box 55 (part6 f.op nm f.path f.cls f.n ((f.kids.take (j + 1)).map (FFact.renam sc)) (.own b'))) hb' sSam
     rwa [Store.set_set] at this
    ·simp only [part6, ← map_take_succ (FFact.renam sc) hk, List.map_append, List.map_cons, List.map_nil]
     exact sSub
   ·have hge : f.kids.length ≤ j := by rw [hkl] at h; simpa using h
    have hje : j = f.kids.length := by omega
    subst hje
    rw [List.take_length] at hok ⊢
    repeat (first | (with_reducible first | apply CW.seq | apply aN | apply aX | apply iH | apply CW.exit) | refine CW.reg ?_)
    refine RL.loadP tO rfl rfl rfl rfl rfl rfl (rowOf_get hok sSam) rfl ?_
    subst hZ
    refine RL.storeP tO rfl rfl rfl rfl rfl rfl rfl rfl rfl (rowOf_get hok (by rw [Store.set_ne _ _ (Ne.symm hn5)]; exact sSam)) rfl ?_
    refine RL.freeze 4 b4 rfl sSam ?_
    repeat (first | (with_reducible first | apply aN | apply CW.ret) | refine RL.nil ?_)
    refine ⟨_, _, s, rfl, part6_le _ _ _ _ _ _ own, ?_, by rw [hnm], rfl⟩
    exact Store.subDel (Store.subSet (Store.subRow (Store.subSet (Store.subSet sSub hb4) hs5) (OwnOk.of_set (m := f.kids.length) (OwnOk.of_set (m := f.kids.length) hok))) hb4) hb4

end Go.Proofs.YtaafacnoddjhgaaGreat

/- Contracts of the layer 'shape': a program with the first names for its bound ones. -/
namespace Go.Proofs.YtaafacnoddjhgaaGreat
open Go.AE

def paramsN : List Str → List Str → List (Str × Str) → List Str → List Str × List (Str × Str) × List Str
 | [], ns, sc, tk => (ns, sc, tk)
 | x :: r, ns, sc, tk => paramsN r (ns ++ [freshS tk]) ((x, freshS tk) :: sc) (insS tk (freshS tk))

def FMethod.canon (m : FMethod) : FMethod :=
 let p := paramsN m.params [] [] []
 { kind := m.kind, name := m.name, params := p.1, fact := m.fact.renam p.2.1, body := (FExp.renam p.2.1 p.2.2 m.body).1 }

def FProg.canon (P : FProg) : FProg := { classes := P.classes, methods := P.methods.map FMethod.canon, main := (FExp.renam [] [] P.main).1 }

theorem Store.subRowOf {s t : Store} {e : TypeId} {sz n : Nat} {own : Own} (h : Store.Sub s t) : Store.Sub (rowOf s e sz n own) (rowOf t e sz n own) := by
 cases own with
 | own b =>
  intro x
  by_cases ex : x = b
  ·subst ex; left; show (s.set x _) x = (t.set x _) x; rw [Store.set_same, Store.set_same]
  ·show (s.set b _) x = (t.set b _) x ∨ (s.set b _) x = none
   rw [Store.set_ne _ _ ex, Store.set_ne _ _ ex]; exact h x
 | nil => exact h
 | clip => exact h
 | fro => exact h

theorem rowOf_none {s : Store} {e : TypeId} {sz n b : Nat} {own : Own} (h : rowOf s e sz n own b = none) : (∀ b', own = .own b' → b' ≠ b) ∧ s b = none := by
 cases own with
 | own b' =>
  have := Store.set_none (s := s) (b := b') h
  exact ⟨fun b'' e => by cases e; exact fun e => this.1 e.symm, this.2⟩
 | nil => exact ⟨(fun _ e => by cases e), h⟩
 | clip => exact ⟨(fun _ e => by cases e), h⟩
 | fro => exact ⟨(fun _ e => by cases e), h⟩

def newMeth (k : Int) (name : Str) (ns : List Str) (own : Own) : List AV :=
 [.int .i64 k, .str name, .slc 1 (strs ns) own, .int .i64 0, .str [], .slc 0 [] .nil, .str [], .int .i64 0, .slc 0 [] .nil, .int .i64 0, .int .i64 0, .str [], .slc 0 [] .nil]

theorem newMeth_nil (k : Int) (name : Str) : AVleL [.int .i64 k, .str name, .slc 0 [] .nil, .int .i64 0, .str [], .slc 0 [] .nil, .str [], .int .i64 0, .slc 0 [] .nil, .int .i64 0, .int .i64 0, .str [], .slc 0 [] .nil] (newMeth k name [] .nil) :=
 .cons aRfl (.cons aRfl (.cons (AVle.nil (by simp)) (AVleL.refl _)))

def newProg (cl : List FClass) (oc : Own) (ms : List FMethod) (om : Own) : List AV := [.slc 4 (cl.map FClass.av) oc, .slc 13 (ms.map FMethod.av) om, .int .i64 0, .int .i64 0, .str [], .slc 0 [] .nil]

theorem newProg_nil : AVleL [.slc 0 [] .nil, .slc 0 [] .nil, .int .i64 0, .int .i64 0, .str [], .slc 0 [] .nil] (newProg [] .nil [] .nil) :=
 .cons (AVle.nil (by simp)) (.cons (AVle.nil (by simp)) (AVleL.refl _))

structure FProg.Canonable (P : FProg) : Prop where
 clen : P.classes.length < big
 cls : ∀ c ∈ P.classes, c.parents.length < big ∧ c.slots.length < big ∧ c.inits.length < big
 mlen : P.methods.length < 1048577
 mth : ∀ m ∈ P.methods, m.params.length + m.body.size < 698 ∧ m.fact.size ≤ big ∧ m.fact.Slim 1
 main : P.main.size < 698

set_option maxRecDepth 10000 in
set_option maxHeartbeats 2000000 in
theorem canon_spec (P : FProg) (s : Store) (hP : P.Canonable) :
    ACalls Tryz.prog 16 [P.av] s (fun o s' => o = .ret P.canon.av ∧ s' = s) := by
  have hb : big = 1099511627776 := rfl
  have hcl := hP.clen
  have hml := hP.mlen
  refine ACalls.of_CW tO call16 Tryz.func16 rfl rfl ?_
  repeat (first | with_reducible apply CW.seq | refine CW.reg ?_ | refine wS rfl ?_)
  refine RL.alloc tO rfl rfl rfl rfl rfl rfl rfl (fun b2 hb2 => ?_)
  repeat (first | (with_reducible first | apply CW.seq | apply aN) | refine CW.reg ?_ | refine RL.nil ?_)
  refine RL.alloc tO rfl rfl rfl rfl rfl rfl rfl (fun b3 hb3 => ?_)
  refine RL.boxWeak b3 (newProg [] .nil [] .nil) sSam newProg_nil ?_
  rw [Store.set_set]
  generalize hZ : AObj.box 29 _ = Z at hb3 ⊢
  obtain ⟨hn3, hs3⟩ := Store.set_none hb3
  repeat (first | (with_reducible first | apply CW.seq | apply aN | apply CW.block) | refine wR rfl ?_ | refine RL.nil ?_)
  refine CW.loop (σ := Nat × Own) (fun q => [(1, .fptr P.cells 0), (2, .ptr b2 0), (3, .ptr b3 0), (16, .slc 4 (P.classes.map FClass.av) .fro), (17, .int .i64 (P.classes.map FClass.av).length), (18, .int .i64 (q.1 : Int))])
    (fun q => rowOf ((s.set b2 Z).set b3 (.box 29 (newProg (P.classes.take q.1) q.2 [] .nil))) 49 4 q.1 q.2)
    (fun q => q.1 ≤ P.classes.length ∧ OwnOk ((s.set b2 Z).set b3 (.box 29 (newProg (P.classes.take q.1) q.2 [] .nil))) q.1 q.2) (fun q => P.classes.length - q.1) (0, .nil) ⟨by simp, trivial⟩ ?_ sSub ?_
  · exact (wE rfl)
  · rintro ⟨j, own⟩ ⟨hj, hok⟩
    simp only at hj hok
    repeat (first | (with_reducible first | apply CW.seq | apply aN) | refine wR rfl ?_)
    refine CW.cond rfl (fun h => ?_) (fun h => ?_)
    · have hlt : j < P.classes.length := by simpa using h
      obtain ⟨c, hk⟩ : ∃ c, P.classes[j]? = some c := ⟨_, List.getElem?_eq_getElem hlt⟩
      have hk' : (P.classes.map FClass.av)[j]? = some (.agg c.cells) := by rw [List.getElem?_map, hk]; rfl
      obtain ⟨q1, q2, q3⟩ := hP.cls c (List.mem_of_getElem? hk)
      repeat (first | (with_reducible first | apply CW.seq | apply aN | apply CW.skip | apply CW.block) | refine CW.reg ?_ | refine wS rfl ?_ | refine RL.idx tO _ rfl rfl rfl rfl rfl rfl rfl rfl rfl rfl rfl (by assumption) rfl ?_)
      refine RL.newBox tO rfl rfl rfl rfl rfl rfl rfl (fun _ => rfl) rfl rfl (fun _ => rfl) rfl rfl rfl rfl ?_
      repeat (first | with_reducible apply aN | refine RL.nil ?_)
      refine CW.drw tO mixed rfl (RD.run rfl ?_)
      refine RD.calmP (i := 6) rfl rfl rfl rfl rfl rfl rfl (fun s => cloneStr_spec c.parents s q1) ?_
      refine RD.run rfl ?_
      refine RD.calmP (i := 9) rfl rfl rfl rfl rfl rfl rfl (fun s => cloneStr_spec c.slots s q2) ?_
      refine RD.run rfl ?_
      refine RD.calmP (i := 12) rfl rfl rfl rfl rfl rfl rfl (fun s => cloneInit_spec c.inits s q3) ?_
      refine RD.run rfl ?_
      refine RD.one (i := 1) rfl rfl rfl rfl rfl (OW.loadP tO rfl rfl rfl (rowOf_get hok sSam) rfl (X := fun _ _ => False)) ?_ (fun _ _ h => False.elim h)
      rintro _ _ ⟨rfl, rfl⟩
      refine RD.run rfl ?_
      refine RD.append1 (i := 15) tO rfl rfl rfl rfl rfl rfl rfl rfl rfl (by intro k h; cases h) rfl rfl rfl rfl rfl rfl rfl (n := j) (by simp; omega) (by show (j + 1) * 88 ≤ _; omega) (by omega) rfl hok (fun b' hb' => ?_)
      refine RD.run rfl ?_
      refine RD.oneN (i := 17) rfl rfl rfl rfl (OW.storeP tO rfl rfl rfl rfl rfl rfl rfl (rowOf_get (n := j + 1) (m := j) (own := .own b') hb' sSam) rfl (X := fun _ _ => False)) ?_ (fun _ _ h => False.elim h)
      rintro _ _ rfl
      refine RD.run rfl (RD.done rfl ?_)
      rw [rowOf_set (OwnOk.ne (n := j) (own := .own b') hb' sSam), Store.set_set]
      repeat (first | (with_reducible first | apply aN | apply iN) | refine wR rfl ?_)
      refine ⟨(j + 1, .own b'), ⟨hlt, ?_⟩, (by repeat (first | exact trivial | refine ⟨⟨_, rfl, aRfl⟩, ?_⟩ | refine ⟨⟨_, rfl, AVle.of_eq (by (show AV.int .i64 (IntKind.wrap .i64 ((j : Int) + 1)) = .int .i64 ((j + 1 : Nat) : Int); rw [i64_succ (by omega)]))⟩, ?_⟩)), ?_, by show P.classes.length - (j + 1) < P.classes.length - j; omega⟩
      · have := OwnOk.set (m := j + 1) (n := j) (own := .own b') (o' := .box 29 (newProg (P.classes.take (j + 1)) (.own b') [] .nil)) hb' sSam
        rwa [Store.set_set] at this
      · simp only [newProg, ← map_take_succ FClass.av hk]
        exact sSub
    · have hje : j = P.classes.length := by have : P.classes.length ≤ j := by simpa using h
                                            omega
      subst hje
      rw [List.take_length] at hok ⊢
      refine CW.drop _ (rowOf_sub hok) ?_
      refine CW.boxWeak b3 (newProg P.classes .fro [] .nil) sSam (.cons AVle.fro (AVleL.refl _)) ?_
      rw [Store.set_set]
      repeat (first | (with_reducible first | apply CW.seq | apply aN | apply aX | apply iH | apply CW.exit | apply CW.block) | refine wR rfl ?_)
      refine CW.loop (σ := Nat × Own) (fun q => [(1, .fptr P.cells 0), (2, .ptr b2 0), (3, .ptr b3 0), (41, .slc 13 (P.methods.map FMethod.av) .fro), (42, .int .i64 (P.methods.map FMethod.av).length), (43, .int .i64 (q.1 : Int))])
        (fun q => rowOf ((s.set b2 Z).set b3 (.box 29 (newProg P.classes .fro ((P.methods.take q.1).map FMethod.canon) q.2))) 57 13 q.1 q.2)
        (fun q => q.1 ≤ P.methods.length ∧ OwnOk ((s.set b2 Z).set b3 (.box 29 (newProg P.classes .fro ((P.methods.take q.1).map FMethod.canon) q.2))) q.1 q.2) (fun q => P.methods.length - q.1) (0, .nil) ⟨by simp, trivial⟩ ?_ sSub ?_
      · exact (wE rfl)
      · clear hok hj h own
        rintro ⟨j, own⟩ ⟨hj, hok⟩
        simp only at hj hok
        repeat (first | (with_reducible first | apply CW.seq | apply aN) | refine wR rfl ?_)
        refine CW.cond rfl (fun h => ?_) (fun h => ?_)
        · have hlt : j < P.methods.length := by simpa using h
          obtain ⟨m, hk⟩ : ∃ m, P.methods[j]? = some m := ⟨_, List.getElem?_eq_getElem hlt⟩
          have hk' : (P.methods.map FMethod.av)[j]? = some (.agg m.cells) := by rw [List.getElem?_map, hk]; rfl
          obtain ⟨q1, q2, q3⟩ := hP.mth m (List.mem_of_getElem? hk)
          rw [FMethod.cellsG] at hk'
          repeat (first | (with_reducible first | apply CW.seq | apply aN | apply CW.skip | apply CW.block) | refine CW.reg ?_ | refine wS rfl ?_ | refine RL.idx tO _ rfl rfl rfl rfl rfl rfl rfl rfl rfl rfl rfl (by assumption) rfl ?_)
          refine RL.newBox tO rfl rfl rfl rfl rfl rfl rfl (fun _ => rfl) rfl rfl (fun _ => rfl) rfl rfl rfl rfl ?_
          rw [← FMethod.cellsG]
          generalize hU : rowOf _ _ _ _ _ = U
          repeat (first | (with_reducible first | apply CW.seq | apply aN) | refine CW.reg ?_ | refine RL.nil ?_)
          refine RL.makeMap rfl rfl rfl rfl (fun tb htb => ?_)
          repeat (first | (with_reducible first | apply CW.seq | apply aN) | refine wR rfl ?_ | refine CW.reg ?_ | refine RL.nil ?_ | refine wS rfl ?_)
          refine RL.alloc tO rfl rfl rfl rfl rfl rfl rfl (fun b10 hb10 => ?_)
          repeat (first | (with_reducible first | apply CW.seq | apply aN | apply CW.block) | refine wR rfl ?_ | refine RL.nil ?_ | (refine RL.storeP tO rfl rfl rfl rfl rfl rfl rfl rfl rfl sSam rfl ?_; try with_reducible rw [Store.set_set]))
          refine CW.boxWeak b10 (newMeth m.kind m.name [] .nil) sSam (newMeth_nil _ _) ?_
          rw [Store.set_set]
          obtain ⟨hnt, hU10⟩ := Store.set_none hb10
          have htb10 : tb ≠ b10 := fun e => by subst e; rw [Store.set_same] at hb10; cases hb10
          refine CW.loop (σ := Nat × Own × List Str × List (Str × Str) × List Str) (fun q => [(1, .fptr P.cells 0), (2, .ptr b2 0), (3, .ptr b3 0), (7, .fptr m.cells 0), (8, .fptr [.map tb] 0), (9, scopeAV q.2.2.2.1), (10, .ptr b10 0), (41, .slc 13 (P.methods.map FMethod.av) .fro), (42, .int .i64 (P.methods.map FMethod.av).length), (43, .int .i64 (j : Int)), (56, .slc 1 (strs m.params) .fro), (57, .int .i64 (strs m.params).length), (58, .int .i64 (q.1 : Int))])
            (fun q => rowOf ((U.set tb (.map (setA q.2.2.2.2))).set b10 (.box 57 (newMeth m.kind m.name q.2.2.1 q.2.1))) 9 1 q.1 q.2.1)
            (fun q => q.1 ≤ m.params.length ∧ OwnOk U 0 q.2.1 ∧ (∀ b', q.2.1 = .own b' → b' ≠ tb ∧ b' ≠ b10) ∧ q.2.2.1.length = q.1 ∧ q.2.2.2.2.length ≤ q.1 ∧ paramsN (m.params.drop q.1) q.2.2.1 q.2.2.2.1 q.2.2.2.2 = paramsN m.params [] [] []) (fun q => m.params.length - q.1)
            (0, .nil, [], [], []) ⟨by simp, trivial, (fun _ e => by cases e), rfl, Nat.le_refl _, rfl⟩ ?_ sSub ?_
          · exact (wE rfl)
          · rintro ⟨i, own1, ns, sc, tk⟩ ⟨hi, hok1, hne1, hns, htk, hI⟩
            simp only at hi hok1 hne1 hns htk hI
            have hokS : ∀ M Y, OwnOk ((U.set tb M).set b10 Y) i own1 := fun M Y => by
              cases own1 with
              | own b' =>
                obtain ⟨e1, e2⟩ := hne1 b' rfl
                show ((U.set tb M).set b10 Y) b' = none
                rw [Store.set_ne _ _ e2, Store.set_ne _ _ e1]; exact hok1
              | nil => trivial
              | clip => trivial
              | fro => exact hok1
            repeat (first | (with_reducible first | apply CW.seq | apply aN) | refine wR rfl ?_)
            refine CW.cond rfl (fun h => ?_) (fun h => ?_)
            · have hlti : i < m.params.length := by simpa using h
              obtain ⟨x, hx⟩ : ∃ x, m.params[i]? = some x := ⟨_, List.getElem?_eq_getElem hlti⟩
              have hx' : (strs m.params)[i]? = some (.str x) := by rw [strs, List.getElem?_map, hx]; rfl
              rw [drop_cons hx, paramsN] at hI
              repeat (first | (with_reducible first | apply CW.seq | apply aN | apply CW.skip | apply CW.block) | refine CW.reg ?_ | refine RL.nil ?_ | refine wS rfl ?_ | refine RL.idx tO _ rfl rfl rfl rfl rfl rfl rfl rfl rfl rfl rfl (by assumption) rfl ?_)
              refine RL.call rfl rfl rfl rfl rfl (next_spec tk tb _ (rowOf_get (hokS _ _) (by rw [Store.set_ne _ _ htb10]; exact sSam)) (hasFree_of (by omega))) ?_ (fun _ _ ⟨h, _⟩ => by cases h)
              rintro _ _ ⟨⟨⟩, rfl⟩
              rw [rowOf_upd2 (fun b' e => (hne1 b' e).1) htb10]
              cases sc with
              | nil =>
                repeat (first | (with_reducible first | apply CW.seq | apply aN) | refine wR rfl ?_ | refine CW.reg ?_ | refine RL.nil ?_ | refine wS rfl ?_)
                refine RL.loadP tO rfl rfl rfl rfl rfl rfl (rowOf_get (hokS _ _) sSam) rfl ?_
                repeat (first | refine wS rfl ?_)
                refine RL.append1 tO rfl rfl rfl rfl rfl rfl rfl (by intro k; simp) rfl rfl rfl rfl rfl rfl rfl (n := i) (by simp; omega) (by show (i + 1) * 16 ≤ _; omega) (by omega) (s := (U.set tb (.map (setA (insS tk (freshS tk))))).set b10 (.box 57 (newMeth m.kind m.name ns own1))) rfl (hokS _ _) (fun b' hb' => ?_)
                simp only [Store.set_eq_none] at hb'
                repeat (first | refine wS rfl ?_)
                refine RL.storeP tO rfl rfl rfl rfl rfl rfl rfl rfl rfl (rowOf_get (m := 0) (show _ = none from by simp only [Store.set_eq_none]; exact hb') sSam) rfl ?_
                rw [rowOf_upd1 (fun b'' e => by cases e; exact hb'.1)]
                repeat (first | (with_reducible first | apply aN | apply iN) | refine wR rfl ?_ | refine RL.nil ?_)
                refine ⟨(i + 1, .own b', ns ++ [freshS tk], (x, freshS tk) :: [], insS tk (freshS tk)), ⟨hlti, hb'.2.2, (fun b'' e => by cases e; exact ⟨hb'.2.1, hb'.1⟩), by simp [hns], by have := insS_len tk (freshS tk); show (insS tk (freshS tk)).length ≤ i + 1; omega, hI⟩, (by repeat (first | exact trivial | refine ⟨⟨_, rfl, aRfl⟩, ?_⟩ | refine ⟨⟨_, rfl, AVle.of_eq (by (show AV.int .i64 (IntKind.wrap .i64 ((i : Int) + 1)) = .int .i64 ((i + 1 : Nat) : Int); rw [i64_succ (by omega)]))⟩, ?_⟩)), ?_, by show m.params.length - (i + 1) < m.params.length - i; omega⟩
                simp only [newMeth, strs, List.map_append, List.map_cons, List.map_nil]
                exact sSub
              | cons a b =>
                repeat (first | (with_reducible first | apply CW.seq | apply aN) | refine wR rfl ?_ | refine CW.reg ?_ | refine RL.nil ?_ | refine wS rfl ?_)
                refine RL.loadP tO rfl rfl rfl rfl rfl rfl (rowOf_get (hokS _ _) sSam) rfl ?_
                repeat (first | refine wS rfl ?_)
                refine RL.append1 tO rfl rfl rfl rfl rfl rfl rfl (by intro k; simp) rfl rfl rfl rfl rfl rfl rfl (n := i) (by simp; omega) (by show (i + 1) * 16 ≤ _; omega) (by omega) (s := (U.set tb (.map (setA (insS tk (freshS tk))))).set b10 (.box 57 (newMeth m.kind m.name ns own1))) rfl (hokS _ _) (fun b' hb' => ?_)
                simp only [Store.set_eq_none] at hb'
                repeat (first | refine wS rfl ?_)
                refine RL.storeP tO rfl rfl rfl rfl rfl rfl rfl rfl rfl (rowOf_get (m := 0) (show _ = none from by simp only [Store.set_eq_none]; exact hb') sSam) rfl ?_
                rw [rowOf_upd1 (fun b'' e => by cases e; exact hb'.1)]
                repeat (first | (with_reducible first | apply aN | apply iN) | refine wR rfl ?_ | refine RL.nil ?_)
                refine ⟨(i + 1, .own b', ns ++ [freshS tk], (x, freshS tk) :: (a :: b), insS tk (freshS tk)), ⟨hlti, hb'.2.2, (fun b'' e => by cases e; exact ⟨hb'.2.1, hb'.1⟩), by simp [hns], by have := insS_len tk (freshS tk); show (insS tk (freshS tk)).length ≤ i + 1; omega, hI⟩, (by repeat (first | exact trivial | refine ⟨⟨_, rfl, aRfl⟩, ?_⟩ | refine ⟨⟨_, rfl, AVle.of_eq (by (show AV.int .i64 (IntKind.wrap .i64 ((i : Int) + 1)) = .int .i64 ((i + 1 : Nat) : Int); rw [i64_succ (by omega)]))⟩, ?_⟩)), ?_, by show m.params.length - (i + 1) < m.params.length - i; omega⟩
                simp only [newMeth, strs, List.map_append, List.map_cons, List.map_nil]
                exact sSub
            · have hie : i = m.params.length := by have : m.params.length ≤ i := by simpa using h
                                                   omega
              subst hie
              rw [List.drop_length, paramsN] at hI
              refine CW.drop _ (rowOf_sub (hokS _ _)) ?_
              refine CW.boxWeak b10 (newMeth m.kind m.name ns .fro) sSam (.cons aRfl (.cons aRfl (.cons AVle.fro (AVleL.refl _)))) ?_
              rw [Store.set_set]
              have hcn : FMethod.canon m = { kind := m.kind, name := m.name, params := ns, fact := m.fact.renam sc, body := (FExp.renam sc tk m.body).1 } := by rw [FMethod.canon, ← hI]
              repeat (first | (with_reducible first | apply CW.seq | apply aN | apply aX | apply iH | apply CW.exit) | refine CW.reg ?_ | refine wS rfl ?_)
              refine RL.callP rfl rfl rfl rfl rfl (renamed_spec sc m.fact.size m.fact 1 _ (Nat.le_refl _) q2 q3) ?_
              repeat (first | (with_reducible first | apply CW.seq | apply aN) | refine CW.reg ?_ | refine RL.nil ?_ | refine wS rfl ?_ | (refine RL.storeP tO rfl rfl rfl rfl rfl rfl rfl rfl rfl sSam rfl ?_; try with_reducible rw [Store.set_set]))
              refine RL.call rfl rfl rfl rfl rfl (exp_spec tb m.body.size m.body sc tk _ (Nat.le_refl _) (by omega) (by omega) (by rw [Store.set_ne _ _ htb10]; exact sSam)) ?_ (fun _ _ ⟨h, _⟩ => by cases h)
              rintro _ _ ⟨⟨⟩, rfl⟩
              rw [Store.set_comm _ _ _ (Ne.symm htb10), Store.set_set]
              repeat (first | with_reducible apply aN | refine CW.reg ?_ | refine RL.nil ?_ | refine wS rfl ?_ | (refine RL.storeP tO rfl rfl rfl rfl rfl rfl rfl rfl rfl sSam rfl ?_; try with_reducible rw [Store.set_set]))
              subst hU
              rw [rowOf_set (fun b' e => (rowOf_none htb).1 b' e), rowOf_set (fun b' e => (rowOf_none hU10).1 b' e)]
              obtain ⟨e1, e2⟩ := Store.set_none (rowOf_none htb).2
              obtain ⟨e3, e4⟩ := Store.set_none (rowOf_none hU10).2
              obtain ⟨e5, e6⟩ := Store.set_none e2
              obtain ⟨e7, e8⟩ := Store.set_none e4
              generalize hM : (setA (FExp.renam sc tk m.body).2) = M
              have hokA : ∀ Y, OwnOk ((((s.set b2 Z).set b3 (.box 29 (newProg P.classes .fro ((P.methods.take j).map FMethod.canon) own))).set tb (.map M)).set b10 Y) j own := fun Y => by
                cases own with
                | own b' =>
                  have f1 := (rowOf_none htb).1 b' rfl
                  have f2 := (rowOf_none hU10).1 b' rfl
                  show Store.set _ b10 Y b' = none
                  rw [Store.set_ne _ _ f2, Store.set_ne _ _ f1]; exact hok
                | nil => trivial
                | clip => trivial
                | fro => exact hok
              refine RL.loadP tO rfl rfl rfl rfl rfl rfl (rowOf_get (hokA _) (by rw [Store.set_ne _ _ (Ne.symm e3), Store.set_ne _ _ (Ne.symm e1)]; exact sSam)) rfl ?_
              refine RL.loadP tO rfl rfl rfl rfl rfl rfl (rowOf_get (hokA _) sSam) rfl ?_
              repeat (first | refine wS rfl ?_)
              refine RL.append1 tO rfl rfl rfl rfl rfl rfl rfl (by intro k; simp) rfl rfl rfl rfl rfl rfl rfl (n := j) (by simp; omega) (by show (j + 1) * 200 ≤ _; omega) (by omega) rfl (hokA _) (fun b' hb' => ?_)
              simp only [Store.set_eq_none] at hb'
              obtain ⟨g1, g2, g3, g4, g5⟩ := hb'
              repeat (first | refine wS rfl ?_)
              refine RL.storeP tO rfl rfl rfl rfl rfl rfl rfl rfl rfl (rowOf_get (m := 0) (show _ = none from by simp only [Store.set_eq_none]; exact ⟨g1, g2, g3, g4, g5⟩) (by rw [Store.set_ne _ _ (Ne.symm e3), Store.set_ne _ _ (Ne.symm e1)]; exact sSam)) rfl ?_
              rw [rowOf_set (fun b'' e => by cases e; exact g3), Store.set_comm _ _ _ e3, Store.set_comm _ _ _ e1, Store.set_set]
              repeat (first | (with_reducible first | apply aN | apply iN) | refine wR rfl ?_ | refine RL.nil ?_)
              refine ⟨(j + 1, .own b'), ⟨hlt, ?_⟩, (by repeat (first | exact trivial | refine ⟨⟨_, rfl, aRfl⟩, ?_⟩ | refine ⟨⟨_, rfl, AVle.of_eq (by (show AV.int .i64 (IntKind.wrap .i64 ((j : Int) + 1)) = .int .i64 ((j + 1 : Nat) : Int); rw [i64_succ (by omega)]))⟩, ?_⟩)), ?_, by show P.methods.length - (j + 1) < P.methods.length - j; omega⟩
              · show Store.set _ _ _ b' = none
                simp only [Store.set_eq_none]; exact ⟨g3, g4, g5⟩
              · have hmt : (P.methods.take (j + 1)).map FMethod.canon = (P.methods.take j).map FMethod.canon ++ [{ kind := m.kind, name := m.name, params := ns, fact := m.fact.renam sc, body := (FExp.renam sc tk m.body).1 }] := by
                  rw [← map_take_succ FMethod.canon hk, hcn]
                simp only [hmt, newProg, List.map_append, List.map_cons, List.map_nil]
                refine Store.subRowOf ?_
                refine Store.subSet (Store.subSet sSub ?_) ?_
                · simp only [Store.set_eq_none]; exact ⟨e1, e5, e6⟩
                · simp only [Store.set_eq_none]; exact ⟨e3, e7, e8⟩
        · have hje : j = P.methods.length := by have : P.methods.length ≤ j := by simpa using h
                                                omega
          subst hje
          rw [List.take_length] at hok ⊢
          refine CW.drop _ (rowOf_sub hok) ?_
          refine CW.boxWeak b3 (newProg P.classes .fro (P.methods.map FMethod.canon) .fro) sSam (.cons aRfl (.cons AVle.fro (AVleL.refl _))) ?_
          rw [Store.set_set]
          repeat (first | (with_reducible first | apply CW.seq | apply aN | apply aX | apply iH | apply CW.exit) | refine CW.reg ?_)
          refine RL.makeMap rfl rfl rfl rfl (fun tb htb => ?_)
          repeat (first | (with_reducible first | apply CW.seq | apply aN) | refine CW.reg ?_ | refine RL.nil ?_ | refine wS rfl ?_)
          obtain ⟨e1, e2⟩ := Store.set_none htb
          obtain ⟨e3, e4⟩ := Store.set_none e2
          refine RL.call rfl rfl rfl rfl rfl (exp_spec tb P.main.size P.main [] [] _ (Nat.le_refl _) (by have := hP.main; omega) (by simpa using hP.main) sSam) ?_ (fun _ _ ⟨h, _⟩ => by cases h)
          rintro _ _ ⟨⟨⟩, rfl⟩
          rw [Store.set_set]
          repeat (first | refine wS rfl ?_)
          refine RL.storeP tO rfl rfl rfl rfl rfl rfl rfl rfl rfl (by rw [Store.set_ne _ _ (Ne.symm e1)]; exact sSam) rfl ?_
          rw [Store.set_comm _ _ _ e1, Store.set_set]
          repeat (first | (with_reducible first | apply CW.seq | apply aN) | refine CW.reg ?_ | refine RL.nil ?_)
          refine RL.loadP tO rfl rfl rfl rfl rfl rfl (by rw [Store.set_ne _ _ (Ne.symm e1)]; exact sSam) rfl ?_
          subst hZ
          refine RL.storeP tO rfl rfl rfl rfl rfl rfl rfl rfl rfl (by rw [Store.set_ne _ _ (Ne.symm e3), Store.set_ne _ _ (Ne.symm hn3)]; exact sSam) rfl ?_
          repeat (first | (with_reducible first | apply aN | apply CW.ret) | refine RL.nil ?_)
          refine ⟨_, _, s, resA_cell rfl rfl sSam rfl, aRfl, ?_, rfl, rfl⟩
          exact Store.subSet (Store.subSet (Store.subSet (Store.subSet sSub hb2) hs3) e4) hb2
end Go.Proofs.YtaafacnoddjhgaaGreat

/- Contracts of the layer 'shape': Canon. -/
namespace Go.Proofs.YtaafacnoddjhgaaGreat
open Go.AE

theorem knownB_size {names slots : List Str} {cnt : Nat} {e : FExp} {params : List Str} {next : Bool} (h : knownB names slots cnt e params next = true) : e.size ≤ 120 := by
 simp only [knownB, Bool.and_eq_true, decide_eq_true_eq] at h; omega

theorem methodsOk_mem {names slots : List Str} : ∀ {l : List FMethod} {cnt : Nat} {m : FMethod}, methodsOk names slots cnt l = true → m ∈ l → m.params.length ≤ 3 ∧ m.body.size ≤ 120
  | [], _, _, _, h => by cases h
  | a :: l, cnt, m, h, hm => by
    simp only [methodsOk, Bool.and_eq_true] at h
    rcases List.mem_cons.1 hm with rfl | hm
    · have h1 := h.1
      simp only [methodOk, mB1, Bool.and_eq_true, decide_eq_true_eq] at h1
      exact ⟨by omega, knownB_size h1.2.2.2⟩
    · exact methodsOk_mem h.2 hm

def FProg.Slim (P : FProg) : Prop := ∀ m ∈ P.methods, m.fact.Slim 1

theorem FProg.canonable {P : FProg} (hP : P.Fair) (hs : P.Slim) (h : progOk P = true) : P.Canonable := by
 unfold progOk at h
 cases hc : clsAll P.classes with
 | none => rw [hc] at h; cases h
 | some st =>
  rw [hc] at h
  simp only [Bool.and_eq_true, decide_eq_true_eq] at h
  obtain ⟨h1, h2, h3, h4⟩ := h
  have := knownB_size h2
  refine ⟨hP.clen, fun c hcm => ⟨(hP.cls c hcm).parents.1, (hP.cls c hcm).slots.1, (hP.cls c hcm).ilen⟩, by omega, fun m hm => ?_, by omega⟩
  obtain ⟨g1, g2⟩ := methodsOk_mem h3 hm
  exact ⟨by omega, Nat.le_of_lt (hP.mth m hm).fact.size, hs m hm⟩

def zeroP : FProg := { classes := [], methods := [], main := zeroE }
theorem zeroP_le : AVle (.agg [.slc 0 [] .nil, .slc 0 [] .nil, .int .i64 0, .int .i64 0, .str [], .slc 0 [] .nil]) zeroP.av :=
 AVle.agg (.cons AVle.empty (.cons AVle.empty (.cons aRfl (.cons aRfl (.cons aRfl (.one AVle.empty))))))

set_option maxRecDepth 10000 in
theorem shapeCanon_spec (P : FProg) (s : Store) (hP : P.Fair) (hs : P.Slim) :
  ACalls Tryz.prog 6 [P.av] s (fun o s' => o = .ret (.tup [(if progOk P then P.canon else zeroP).av, err (progOk P)]) ∧ s' = s) := by
 refine ACalls.of_CW tO call6 Tryz.func6 rfl rfl ?_
 cases hok : progOk P with
 | true =>
  repeat (first | with_reducible apply CW.seq | refine CW.reg ?_ | refine wS rfl ?_)
  refine RL.alloc tO rfl rfl rfl rfl rfl rfl rfl (fun b2 hb2 => ?_)
  repeat (first | (with_reducible first | apply CW.seq | apply aN) | refine CW.reg ?_ | refine RL.nil ?_ | refine wS rfl ?_)
  refine RL.callP rfl rfl rfl rfl rfl (by have := shapeCheck_spec P (s.set b2 (.box 29 [.slc 0 [] .nil, .slc 0 [] .nil, .int .i64 0, .int .i64 0, .str [], .slc 0 [] .nil])) hP; rw [hok] at this; exact this) ?_
  repeat (first | (with_reducible first | apply CW.seq | apply aN | apply CW.skip) | refine CW.reg ?_ | refine RL.nil ?_ | refine CW.condF rfl ?_ | refine wS rfl ?_)
  refine RL.callP rfl rfl rfl rfl rfl (canon_spec P _ (P.canonable hP hs hok)) ?_
  repeat (first | (with_reducible first | apply aN | apply CW.ret) | refine RL.nil ?_ | refine wS rfl ?_ | (refine RL.storeP tO rfl rfl rfl rfl rfl rfl rfl rfl rfl sSam rfl ?_; try with_reducible rw [Store.set_set]))
  exact ⟨_, _, s, resA_cellT rfl rfl sSam rfl rfl, aRfl, Store.sub_set _ _ _ hb2, rfl, rfl⟩
 | false =>
  repeat (first | with_reducible apply CW.seq | refine CW.reg ?_ | refine wS rfl ?_)
  refine RL.alloc tO rfl rfl rfl rfl rfl rfl rfl (fun b2 hb2 => ?_)
  repeat (first | (with_reducible first | apply CW.seq | apply aN) | refine CW.reg ?_ | refine RL.nil ?_ | refine wS rfl ?_)
  refine RL.callP rfl rfl rfl rfl rfl (by have := shapeCheck_spec P (s.set b2 (.box 29 [.slc 0 [] .nil, .slc 0 [] .nil, .int .i64 0, .int .i64 0, .str [], .slc 0 [] .nil])) hP; rw [hok] at this; exact this) ?_
  repeat (first | (with_reducible first | apply CW.seq | apply aN | apply aR | apply CW.ret) | refine CW.reg ?_ | refine RL.nil ?_ | refine CW.condT rfl ?_ | refine wS rfl ?_ | (refine RL.storeP tO rfl rfl rfl rfl rfl rfl rfl rfl rfl sSam rfl ?_; try with_reducible rw [Store.set_set]))
  exact ⟨_, _, s, resA_cellT rfl rfl sSam rfl rfl, AVle.tup (.cons zeroP_le (.one aRfl)), Store.sub_set _ _ _ hb2, rfl, rfl⟩
end Go.Proofs.YtaafacnoddjhgaaGreat

/- Contracts of the laws' own small functions, and of the example. -/
namespace Go.Proofs.YtaafacnoddjhgaaGreat
open Go.AE

def numE (n : Int) : FExp := .mk 1 n [] []
theorem num_le (n : Int) : AVle (.agg [.int .i64 1, .int .i64 n, .str [], .slc 0 [] .nil]) (numE n).av :=
 AVle.agg (.cons aRfl (.cons aRfl (.cons aRfl (.one AVle.empty))))

set_option maxRecDepth 10000 in
theorem lawName_spec (x : Str) (s : Store) : ACalls Tryz.prog 28 [.str x] s (fun o s' => o = .ret (nameE x).av ∧ s' = s) := by
 refine ACalls.of_CW tO call28 Tryz.func28 rfl rfl ?_
 repeat (first | with_reducible apply CW.seq | refine CW.reg ?_)
 refine RL.alloc tO rfl rfl rfl rfl rfl rfl rfl (fun b2 hb2 => ?_)
 repeat (first | (with_reducible first | apply CW.seq | apply aN | apply CW.ret) | refine CW.reg ?_ | refine RL.nil ?_ | refine wS rfl ?_ | (refine RL.storeP tO rfl rfl rfl rfl rfl rfl rfl rfl rfl sSam rfl ?_; try with_reducible rw [Store.set_set]))
 exact ⟨_, _, s, resA_cell rfl rfl sSam rfl, name_le _, Store.sub_set _ _ _ hb2, rfl, rfl⟩

set_option maxRecDepth 10000 in
theorem lawNum_spec (n : Int) (s : Store) : ACalls Tryz.prog 27 [.int .i64 n] s (fun o s' => o = .ret (numE n).av ∧ s' = s) := by
 refine ACalls.of_CW tO call27 Tryz.func27 rfl rfl ?_
 repeat (first | with_reducible apply CW.seq | refine CW.reg ?_)
 refine RL.alloc tO rfl rfl rfl rfl rfl rfl rfl (fun b2 hb2 => ?_)
 repeat (first | (with_reducible first | apply CW.seq | apply aN | apply CW.ret) | refine CW.reg ?_ | refine RL.nil ?_ | refine wS rfl ?_ | (refine RL.storeP tO rfl rfl rfl rfl rfl rfl rfl rfl rfl sSam rfl ?_; try with_reducible rw [Store.set_set]))
 exact ⟨_, _, s, resA_cell rfl rfl sSam rfl, num_le _, Store.sub_set _ _ _ hb2, rfl, rfl⟩

set_option maxRecDepth 10000 in
theorem lawExp_spec (o : Int) (t : Str) (ks : List FExp) (s : Store) : ACalls Tryz.prog 26 [.int .i64 o, .str t, .slc 4 (ks.map FExp.av) .fro] s (fun r s' => r = .ret (FExp.mk o 0 t ks).av ∧ s' = s) := by
 refine ACalls.of_CW tO call26 Tryz.func26 rfl rfl ?_
 repeat (first | with_reducible apply CW.seq | refine CW.reg ?_)
 refine RL.alloc tO rfl rfl rfl rfl rfl rfl rfl (fun b2 hb2 => ?_)
 repeat (first | (with_reducible first | apply CW.seq | apply aN | apply CW.ret) | refine CW.reg ?_ | refine RL.nil ?_ | refine wS rfl ?_ | (refine RL.storeP tO rfl rfl rfl rfl rfl rfl rfl rfl rfl sSam rfl ?_; try with_reducible rw [Store.set_set]))
 refine ⟨_, _, s, resA_cell rfl rfl sSam rfl, AVle.of_eq ?_, Store.sub_set _ _ _ hb2, rfl, rfl⟩
 simp only [FExp.av, FExp.cells, FExp.kav_eq]; rfl

def exA : FClass := ⟨[97], [], [[102]], [⟨[102], 7⟩]⟩
def exB : FClass := ⟨[98], [[97]], [[103]], []⟩
def exC (parents : List Str) : FClass := ⟨[99], parents, [], [⟨[102], 1⟩]⟩
def exM : FMethod := ⟨1, [115, 104, 111, 119], [[120]], .mk 2 [120] [] [97] 0 [], .mk 17 0 [] [.mk 4 0 [102] [nameE [120]]]⟩
def exN : FMethod := ⟨2, [115, 104, 111, 119], [[121]], .mk 3 [121] [[102]] [] 5 [], .mk 9 0 [122] [nameE [121], nameE [122]]⟩
def exampleP (parents : List Str) : FProg := ⟨[exA, exB, exC parents], [exM, exN], .mk 5 0 [115, 104, 111, 119] [.mk 6 0 [99] []]⟩

set_option maxRecDepth 10000 in
set_option maxHeartbeats 1000000 in
theorem example_spec (parents : List Str) (s : Store) : ACalls Tryz.prog 22 [.slc 1 (strs parents) .fro] s (fun o s' => o = .ret (exampleP parents).av ∧ s' = s) := by
 refine ACalls.of_CW tO call22 Tryz.func22 rfl rfl ?_
 repeat (first | with_reducible apply CW.seq | refine CW.reg ?_)
 refine RL.alloc tO rfl rfl rfl rfl rfl rfl rfl (fun b2 hb2 => ?_)
 repeat (first | (with_reducible first | apply CW.seq | apply aN) | refine CW.reg ?_ | refine RL.nil ?_ | refine wS rfl ?_)
 refine RL.callP rfl rfl rfl rfl rfl (lawName_spec _ _) ?_
 repeat (first | refine wS rfl ?_)
 refine RL.callP rfl rfl rfl rfl rfl (ACalls.weakArgs (.cons aRfl (.cons aRfl (.one AVle.fro))) (lawExp_spec 4 [102] [nameE [120]] _)) ?_
 repeat (first | refine wS rfl ?_)
 refine RL.callP rfl rfl rfl rfl rfl (ACalls.weakArgs (.cons aRfl (.cons aRfl (.one AVle.fro))) (lawExp_spec 17 [] [.mk 4 0 [102] [nameE [120]]] _)) ?_
 repeat (first | refine wS rfl ?_)
 refine RL.callP rfl rfl rfl rfl rfl (lawName_spec _ _) ?_
 skip
 refine RL.callP rfl rfl rfl rfl rfl (lawName_spec _ _) ?_
 repeat (first | refine wS rfl ?_)
 refine RL.callP rfl rfl rfl rfl rfl (ACalls.weakArgs (.cons aRfl (.cons aRfl (.one AVle.fro))) (lawExp_spec 9 [122] [nameE [121], nameE [122]] _)) ?_
 repeat (first | refine wS rfl ?_)
 refine RL.callP rfl rfl rfl rfl rfl (ACalls.weakArgs (.cons aRfl (.cons aRfl (.one AVle.empty))) (lawExp_spec 6 [99] [] _)) ?_
 repeat (first | refine wS rfl ?_)
 refine RL.callP rfl rfl rfl rfl rfl (ACalls.weakArgs (.cons aRfl (.cons aRfl (.one AVle.fro))) (lawExp_spec 5 [115, 104, 111, 119] [.mk 6 0 [99] []] _)) ?_
 repeat (first | (with_reducible first | apply aN | apply CW.ret) | refine RL.nil ?_ | refine wS rfl ?_ | (refine RL.storeP tO rfl rfl rfl rfl rfl rfl rfl rfl rfl sSam rfl ?_; try with_reducible rw [Store.set_set]))
 refine ⟨_, _, s, resA_cell rfl rfl sSam rfl, ?_, Store.sub_set _ _ _ hb2, rfl, rfl⟩
 repeat' (first | exact aRfl | exact AVle.empty | exact AVleL.nil | refine AVle.slc ?_ | refine AVle.agg ?_ | refine AVleL.cons ?_ ?_)
end Go.Proofs.YtaafacnoddjhgaaGreat

