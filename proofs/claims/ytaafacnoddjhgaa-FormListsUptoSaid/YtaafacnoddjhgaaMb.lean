import Derived.Test.YtaafacnoddjhgaaMa
import Derived.Laws.Append
import Derived.Laws.CopyRow
import Derived.Laws.Slices
import Derived.Laws.IdiomStrings
/- The abstract walk: the operations that turn the store: boxes, maps, owned rows; elements by computed indexes; calls. -/
namespace Go.AE

def Store.set (s : Store) (b : Nat) (o : AObj) : Store := fun b' => if b' = b then some o else s b'
def Store.del (s : Store) (b : Nat) : Store := fun b' => if b' = b then none else s b'

theorem Store.set_same (s : Store) (b : Nat) (o : AObj) : s.set b o b = some o := by simp [Store.set]
theorem Store.set_ne (s : Store) {b b' : Nat} (o : AObj) (h : b' ≠ b) : s.set b o b' = s b' := by simp [Store.set, h]
theorem Store.del_same (s : Store) (b : Nat) : s.del b b = none := by simp [Store.del]
theorem Store.del_ne (s : Store) {b b' : Nat} (h : b' ≠ b) : s.del b b' = s b' := by simp [Store.del, h]
theorem Store.set_none {s : Store} {b b' : Nat} {o : AObj} (h : s.set b o b' = none) : b' ≠ b ∧ s b' = none := by
  unfold Store.set at h; split at h
  · cases h
  · exact ⟨‹_›, h⟩
theorem Store.sub_set (s : Store) (b : Nat) (o : AObj) (h : s b = none) : Store.Sub s (s.set b o) := fun b' => by
  by_cases e : b' = b
  · subst e; exact .inr h
  · exact .inl (by rw [Store.set_ne _ _ e])
theorem Store.sub_refl (s : Store) : Store.Sub s s := fun _ => .inl rfl
theorem Store.Sub.trans {a b c : Store} (h : Store.Sub a b) (k : Store.Sub b c) : Store.Sub a c := fun x => by
  rcases h x with e | e
  · rcases k x with e' | e'
    · exact .inl (e.trans e')
    · exact .inr (e.trans e')
  · exact .inr e
theorem Store.del_set (s : Store) (b : Nat) (o : AObj) (h : s b = none) : (s.set b o).del b = s := by
  funext b'; by_cases e : b' = b
  · subst e; simp [Store.del, h]
  · simp [Store.del, Store.set, e]
theorem Store.set_set (s : Store) (b : Nat) (o o' : AObj) : (s.set b o).set b o' = s.set b o' := by
  funext b'; by_cases e : b' = b <;> simp [Store.set, e]
theorem Store.set_eq (s : Store) (b : Nat) (o : AObj) (h : s b = some o) : s.set b o = s := by
  funext b'; by_cases e : b' = b
  · subst e; simp [Store.set, h]
  · simp [Store.set, e]

theorem ObjOk.lt {w : World} {p : Prot} {b : Nat} {o : AObj} (h : ObjOk w p b o) : b < w.heap.size := by
  cases o with
  | box t cs => obtain ⟨vs, h1, -⟩ := h; exact (Array.getElem?_eq_some_iff.1 h1).1
  | row t sz n => obtain ⟨vs, h1, -⟩ := h; exact (Array.getElem?_eq_some_iff.1 h1).1
  | map es => obtain ⟨vs, c, h1, -⟩ := h; exact (Array.getElem?_eq_some_iff.1 h1).1
  | ranged es it l c => obtain ⟨_, _, _, h1, -⟩ := h; exact (Array.getElem?_eq_some_iff.1 h1).1
  | tick m => obtain ⟨_, _, _, h1⟩ := h; exact (Array.getElem?_eq_some_iff.1 h1).1
  | loop r env => exact (Array.getElem?_eq_some_iff.1 h.1).1

/-- A fresh block comes into the store. -/
theorem new_obj {w : World} {p : Prot} {s : Store} (hwf : Wf w p s) (o : Obj) (x : AObj) (hx : ∀ w' : World, w'.heap[w.heap.size]? = some o → (∀ v y, Rel w p v y → Rel w' p v y) → (∀ vs ys, RelL w p vs ys → RelL w' p vs ys) → ObjOk w' p w.heap.size x) :
    s w.heap.size = none ∧ Le w p (w.alloc o) p ∧ Kept s (s.set w.heap.size x) w p (w.alloc o) p ∧ Wf (w.alloc o) p (s.set w.heap.size x) := by
  have hn : s w.heap.size = none := by
    cases h : s w.heap.size with
    | none => rfl
    | some o' => exact absurd (hwf.obj _ _ h).lt (by omega)
  have hle : Le w p (w.alloc o) p := Le.of_heap rfl rfl rfl (by simp) (fun _ _ h => h) hwf.lt (fun b hb => heap_alloc_lt w o b hb)
  refine ⟨hn, hle, ⟨fun b hb _ => heap_alloc_lt w o b hb, fun b hb hs => by rw [Store.set_ne _ _ (by omega)]; exact hs, fun _ _ _ _ h => h⟩, ?_⟩
  have hg := hwf.grow hle (fun b hb => heap_alloc_lt w o b hb) (fun _ _ _ h => h) (fun b o hp => by have := hwf.lt b o hp; simp; omega)
  refine ⟨fun b o' hb => ?_, hg.lt⟩
  by_cases e : b = w.heap.size
  · subst e
    rw [Store.set_same] at hb; cases hb
    exact hx _ (heap_alloc_here w o) (fun _ _ h => h.mono hle) (fun _ _ h => h.mono hle)
  · rw [Store.set_ne _ _ e] at hb
    exact hg.obj b o' hb

section
variable {P : Program} {Γ : Tys} {N : Nat} {env : Env} {s : Store}

/-- What one operation's run has to show. -/
theorem OW.of_run {o : Oper} {K X : AV → Store → Prop} (hd : noDefer o = true)
    (h : ∀ ro B a w p, St N B ro env s a w p → ∃ val w' s' p' x, (execOp a.eval o).run P w = .ok (.value val) w' ∧ Le w p w' p' ∧ Kept s s' w p w' p' ∧ Wf w' p' s' ∧ K x s' ∧ Rel w' p' val x) :
    OW P N o env s K X := by
  refine ⟨hd, fun ro B a w p hst => ?_⟩
  obtain ⟨val, w', s', p', x, hr, h1, h2, h3, h4, h5⟩ := h ro B a w p hst
  rw [hr]
  exact ⟨s', p', h1, h2, h3, x, h4, h5⟩

theorem OW.of_skip {o : Oper} {K X : AV → Store → Prop} (hd : noDefer o = true)
    (h : ∀ ro B a w p, St N B ro env s a w p → ∃ w' s' p', (execOp a.eval o).run P w = .ok .skip w' ∧ Le w p w' p' ∧ Kept s s' w p w' p' ∧ Wf w' p' s' ∧ K (.tup []) s') :
    OW P N o env s K X := by
  refine ⟨hd, fun ro B a w p hst => ?_⟩
  obtain ⟨w', s', p', hr, h1, h2, h3, h4⟩ := h ro B a w p hst
  rw [hr]
  exact ⟨s', p', h1, h2, h3, _, h4, rel_undef⟩

/-! ### Boxes -/

theorem OW.alloc (hΓ : TysOk P Γ) {o : Oper} {t : TypeId} {i : TI} {z : AV} {cs : List AV} (ho : o.op = .alloc t) (ht : Γ.get? t = some i) (hz : constAV2 i.zero = some z) (hc : cellsOf z = some cs) {X : AV → Store → Prop} :
    OW P N o env s (fun x s' => ∃ b, s b = none ∧ x = .ptr b 0 ∧ s' = s.set b (.box t cs)) X := by
  refine OW.of_run (by simp [noDefer, ho]) fun ro B a w p hst => ?_
  obtain ⟨info, d, h1, h2, h3, h4, h5, h6⟩ := hΓ.parts ht
  obtain ⟨hn, hle, hk, hwf⟩ := new_obj hst.wf (.cells i.zero.cells t (0, 0)) (.box t cs) (fun w' hw' hr hrl =>
    ⟨i.zero.cells, hw', hrl _ _ (cellsOf_rel (constAV2_rel hz) hc), fun o' hp => absurd (hst.wf.lt _ _ hp) (by omega)⟩)
  refine ⟨.pointer (some ⟨w.heap.size, 0, none⟩), _, _, p, _, ?_, hle, hk, hwf, ⟨w.heap.size, hn, rfl, rfl⟩, .ptr _ _⟩
  unfold execOp
  rw [ho]
  refine run_v ?_
  simp [Instr.alloc, zeroValue, typeInfo, h1, h6, newVar, newRow]

theorem cells_of_box {w : World} {b : Nat} {vs : Array Value} {t : TypeId} {fr : Nat × Nat} (h : w.heap[b]? = some (.cells vs t fr)) (j : Nat) : w.cell? ⟨b, j, none⟩ = vs[j]? := by
  simp [World.cell?, h]

theorem OW.loadP (hΓ : TysOk P Γ) {o : Oper} {t T : TypeId} {x : Operand} {i : TI} {b off : Nat} {cs : List AV} {v : AV} (ho : o.op = .load t x) (ht : Γ.get? t = some i) (hx : ev env x = some (.ptr b off))
    (hs : s b = some (.box T cs)) (h : loadC i cs off = some v) {X : AV → Store → Prop} : OW P N o env s (fun x s' => x = v ∧ s' = s) X := by
  refine OW.of_run (by simp [noDefer, ho]) fun ro B a w p hst => ?_
  have hr := hst.ev hx
  generalize hv : a.eval x = vx at hr
  cases hr
  obtain ⟨vs, h1, h2, h3⟩ := hst.wf.obj _ _ hs
  obtain ⟨val, hrun, hrel⟩ := loadVar_ok hΓ ht (b := b) (base := 0) (vs := vs.toList) (fun j u hu => by rw [Nat.zero_add, cells_of_box h1]; simpa using hu) h2 h
  refine ⟨val, w, s, p, v, ?_, .refl w p, .refl s w p, hst.wf, ⟨rfl, rfl⟩, hrel⟩
  unfold execOp
  rw [ho]
  simp only [hv]
  refine run_v ?_
  rw [Nat.zero_add] at hrun
  simp only [Instr.loadAt, Instr.sureAddr, Sem.run_bind, Sem.run_pure, Result.andThen_ok, hrun]

/-- What becomes of a box in which cells are written from a place on. -/
theorem box_write {w : World} {p : Prot} (hwf : Wf w p s) {b : Nat} {T : TypeId} {cs : List AV} (hs : s b = some (.box T cs)) {vs' : Array Value} {cs' : List AV}
    (hsz : ∀ vs, w.heap[b]? = some (.cells vs T (0, 0)) → vs'.size = vs.size) (hr : RelL w p vs'.toList cs') (w' : World) (hw' : w' = w.setRow b vs') :
    Le w p w' p ∧ Kept s (s.set b (.box T cs')) w p w' p ∧ Wf w' p (s.set b (.box T cs')) := by
  subst hw'
  obtain ⟨vs, h1, h2, h3⟩ := hwf.obj _ _ hs
  have hlt : b < w.heap.size := (Array.getElem?_eq_some_iff.1 h1).1
  have hb' := setRow_heap w b vs vs' T (0, 0) h1
  have hoth : ∀ k, k ≠ b → (w.setRow b vs').heap[k]? = w.heap[k]? := fun k hk => setRow_other w b k vs' hk
  have hle : Le w p (w.setRow b vs') p := by
    refine ⟨rfl, rfl, rfl, by simp, fun _ _ h => h, fun b' o hp => cell_of_heap (hoth b' (fun e => h3 o (e ▸ hp))), fun b' x hx => ?_⟩
    by_cases e : b' = b
    · subst e
      have hsz' := hsz vs h1
      simp only [World.shape?, h1, hb'] at hx ⊢
      rw [hsz']; exact hx
    · rw [shape_of_heap (hoth b' e)]; exact hx
  refine ⟨hle, ⟨fun b' hb hn => hoth b' (fun e => by rw [e, hs] at hn; simp at hn), fun b' hb hn => by
    rw [Store.set_ne]
    · exact hn
    · intro e; rw [e, hs] at hn; simp at hn, fun _ _ _ _ h => h⟩, ?_, fun b' o hp => by simpa using hwf.lt b' o hp⟩
  intro b' o' hb''
  by_cases e : b' = b
  · subst e
    rw [Store.set_same] at hb''; cases hb''
    exact ⟨vs', hb', hr.mono hle, h3⟩
  · rw [Store.set_ne _ _ e] at hb''
    have ho := hwf.obj b' o' hb''
    have hh := hoth b' e
    cases o' with
    | box t c => obtain ⟨us, g1, g2, g3⟩ := ho; exact ⟨us, hh.trans g1, g2.mono hle, g3⟩
    | row t sz n => obtain ⟨cur, g1, g2, g3, g4⟩ := ho; exact ⟨cur, hh.trans g1, g2, g3, g4⟩
    | map es => obtain ⟨mes, c, g1, g2, g3⟩ := ho; exact ⟨mes, c, hh.trans g1, ⟨g2.1.mono hle, g2.2.mono hle⟩, g3⟩
    | ranged es it l c => exact ho.ranged_move hle hh (hoth it (ho.ranged_ne h1 (by simp)))
    | tick m => obtain ⟨a1, a2, a3, g1⟩ := ho; exact ⟨a1, a2, a3, hh.trans g1⟩
    | loop r env => exact ⟨hh.trans ho.1, fun t v h => (ho.2 t v h).mono hle⟩

theorem rel_oneCell {w : World} {p : Prot} {v : Value} {x : AV} {cs : List AV} (hr : Rel w p v x) (h : cellsOf x = some cs) : (∀ c, v ≠ .agg c) → (∀ c, v ≠ .tuple c) → v.oneCell' = true := by
  intro h1 h2; cases v <;> first | rfl | exact absurd rfl (h1 _) | exact absurd rfl (h2 _)

/-- Values that may lie in a cell. -/
def oneC : AV → Bool
  | .conc (.func _ _ _) => true
  | .any | .conc _ | .agg _ | .tup _ => false
  | _ => true

theorem oneC_ok {w : World} {p : Prot} {v : Value} {x : AV} (hr : Rel w p v x) (h : oneC x = true) : v.oneCell' = true := by
  cases hr with
  | conc v => cases v <;> first | rfl | (simp [oneC] at h; done)
  | _ => first | rfl | (simp [oneC] at h; done)

theorem oneC_all {w : World} {p : Prot} : ∀ {vs : List Value} {xs : List AV}, RelL w p vs xs → xs.all oneC = true → ∀ v ∈ vs, v.oneCell' = true := by
  intro vs
  induction vs with
  | nil => intro xs _ _ v hv; cases hv
  | cons u vs ih =>
    intro xs h ha v hv
    cases h with
    | cons _ x _ xs hx ht =>
    simp only [List.all_cons, Bool.and_eq_true] at ha
    rcases List.mem_cons.1 hv with rfl | hv
    · exact oneC_ok hx ha.1
    · exact ih ht ha.2 v hv

theorem setL_eq (off : Nat) : ∀ (cs xs : List AV), off + cs.length ≤ xs.length → setL off cs xs = xs.take off ++ cs ++ xs.drop (off + cs.length) := by
  intro cs
  induction cs generalizing off with
  | nil => intro xs h; simp [setL]
  | cons c cs ih =>
    intro xs h
    simp only [setL, List.length_cons] at h ⊢
    rw [ih (off + 1) _ (by simp; omega)]
    have h1 : (xs.set off c).take (off + 1) = xs.take off ++ [c] := by
      rw [List.take_succ_eq_append_getElem (by simp; omega)]
      simp [List.take_set_of_le]
    have h2 : (xs.set off c).drop (off + 1 + cs.length) = xs.drop (off + 1 + cs.length) := by
      rw [List.drop_set_of_lt (by omega)]
    rw [h1, h2]
    simp [Nat.add_assoc, Nat.add_comm 1]

theorem OW.storeP (hΓ : TysOk P Γ) {o : Oper} {t T : TypeId} {x y : Operand} {i : TI} {b off : Nat} {cs us : List AV} {v : AV} (ho : o.op = .store t x y) (ht : Γ.get? t = some i) (hx : ev env x = some (.ptr b off))
    (hy : ev env y = some v) (hv : cellsOf v = some us) (hu : Nat.beq us.length i.size = true) (h1c : us.all oneC = true) (hs : s b = some (.box T cs)) (hfit : Nat.ble (off + us.length) cs.length = true) {X : AV → Store → Prop} :
    OW P N o env s (fun _ s' => s' = s.set b (.box T (setL off us cs))) X := by
  refine OW.of_skip (by simp [noDefer, ho]) fun ro B a w p hst => ?_
  have hr := hst.ev hx
  generalize hvx : a.eval x = vx at hr
  cases hr
  have hry := hst.ev hy
  have hcr := cellsOf_rel hry hv
  obtain ⟨info, d, g1, g2, g3, g4, -⟩ := hΓ.parts ht
  obtain ⟨vs, h1, h2, h3⟩ := hst.wf.obj _ _ hs
  have hsz : (a.eval y).cells.size = info.size := by rw [g4, ← Nat.eq_of_beq_eq_true hu, ← hcr.length, Array.length_toList]
  have hfit' := Nat.le_of_ble_eq_true hfit
  have hl1 : vs.size = cs.length := by rw [← h2.length, Array.length_toList]
  have hl2 : (a.eval y).cells.toList.length = us.length := hcr.length
  have hst' := run_storeCells_at P b off T (a.eval y).cells.toList 0 vs w h1 (by rw [hl2]; omega) (oneC_all hcr h1c)
  simp only [Nat.add_zero] at hst'
  have hrel : RelL w p (vs.toList.take off ++ (a.eval y).cells.toList ++ vs.toList.drop (off + (a.eval y).cells.toList.length)) (setL off us cs) := by
    rw [setL_eq _ _ _ hfit', hl2]
    exact ((h2.take off).append hcr).append (h2.drop _)
  obtain ⟨k1, k2, k3⟩ := box_write hst.wf hs (vs' := (vs.toList.take off ++ (a.eval y).cells.toList ++ vs.toList.drop (off + (a.eval y).cells.toList.length)).toArray) (fun us' hus => by
    rw [h1] at hus; cases hus
    simp only [List.size_toArray, List.length_append, List.length_take, List.length_drop, hl2, Array.length_toList]; omega) (by simpa using hrel) _ rfl
  refine ⟨_, _, p, ?_, k1, k2, k3, rfl⟩
  unfold execOp
  rw [ho]
  simp only [hvx]
  simp only [Instr.storeAt, Instr.sureAddr, storeVar, sizeOf, typeInfo, Sem.run_bind, Sem.run_pure, Result.andThen_ok, run_program, g1, hsz, ne_eq, not_true_eq_false, if_false]
  rw [hst']
  rfl

/-- A box that will not be written any more becomes a pointer to what it holds. -/
theorem St.freeze {B : Nat} {ro : Option Nat} {a : Act} {w : World} {p : Prot} (h : St N B ro env s a w p) {t b : Nat} {T : TypeId} {cs : List AV} (ht : env.get? t = some (.ptr b 0)) (hs : s b = some (.box T cs)) :
    ∃ p', St N B ro ((t, .fptr cs 0) :: env) (s.del b) a w p' ∧ Le w p w p' ∧ Kept s (s.del b) w p w p' := by
  obtain ⟨vs, h1, h2, h3⟩ := h.wf.obj _ _ hs
  have hlt : b < w.heap.size := (Array.getElem?_eq_some_iff.1 h1).1
  have hle : Le w p w (p.also b True) := ⟨rfl, rfl, rfl, Nat.le_refl _, fun _ _ h => .inl h, fun _ _ _ => rfl, fun _ _ h => h⟩
  have hk : Kept s (s.del b) w p w (p.also b True) := ⟨fun _ _ _ => rfl, fun b' hb hn => by
    by_cases e : b' = b
    · subst e; exact Store.del_same _ _
    · rw [Store.del_ne _ e]; exact hn, fun b' o hb hn hp => by
      rcases hp with hp | ⟨rfl, _⟩
      · exact hp
      · rw [hs] at hn; cases hn⟩
  have hwf : Wf w (p.also b True) (s.del b) := by
    refine ⟨fun b' o hb => ?_, fun b' o hp => by rcases hp with hp | ⟨rfl, _⟩; exact h.wf.lt _ _ hp; exact hlt⟩
    by_cases e : b' = b
    · subst e; rw [Store.del_same] at hb; cases hb
    · rw [Store.del_ne _ e] at hb
      have ho := h.wf.obj b' o hb
      have hp' : ∀ o, p.also b True b' o ↔ p b' o := fun o => ⟨fun hp => by rcases hp with hp | ⟨e', _⟩; exact hp; exact absurd e' e, .inl⟩
      cases o with
      | box t c => obtain ⟨us, g1, g2, g3⟩ := ho; exact ⟨us, g1, g2.mono hle, fun o hp => g3 o ((hp' o).1 hp)⟩
      | row t sz n => obtain ⟨cur, g1, g2, g3, g4⟩ := ho; exact ⟨cur, g1, g2, g3, fun o => (hp' o).trans (g4 o)⟩
      | map es => obtain ⟨mes, c, g1, g2, g3⟩ := ho; exact ⟨mes, c, g1, ⟨g2.1.mono hle, g2.2.mono hle⟩, g3⟩
      | ranged es it l c => exact ho.ranged_move hle rfl rfl
      | tick m => exact ho
      | loop r env => exact ⟨ho.1, fun t v h => (ho.2 t v h).mono hle⟩
  have hst := h.step hle hk hwf
  refine ⟨_, ⟨hst.size, fun t' v hv => ?_, hst.wf, hst.defs, hst.round, hst.base⟩, hle, hk⟩
  simp only [Env.get?] at hv
  split at hv
  · rename_i he
    have := Nat.eq_of_beq_eq_true he
    subst this
    cases hv
    have hr := h.env t _ ht
    generalize a.tmps.getD t undef = vx at hr
    cases hr
    refine .fptr b 0 0 0 vs.toList cs rfl ?_ (h2.mono hle)
    intro i v hi
    refine ⟨.inr ⟨rfl, trivial⟩, ?_⟩
    rw [Nat.zero_add, cells_of_box h1]; simpa using hi
  · exact hst.env t' v hv

theorem RW.freeze {ops : Array Oper} {Q : AEx → Env → Store → Prop} {l : List Nat} (t b : Nat) {T : TypeId} {cs : List AV} (ht : env.get? t = some (.ptr b 0)) (hs : s b = some (.box T cs))
    (h : RW P N ops l Q ((t, .fptr cs 0) :: env) (s.del b)) : RW P N ops l Q env s := by
  intro ro B a w p hst
  obtain ⟨p', hst', hle, hk⟩ := hst.freeze ht hs
  exact RW.after hle hk h hst'

theorem CW.freeze {Q : AEx → Env → Store → Prop} {c : Code} (t b : Nat) {T : TypeId} {cs : List AV} (ht : env.get? t = some (.ptr b 0)) (hs : s b = some (.box T cs))
    (h : CW P N c Q ((t, .fptr cs 0) :: env) (s.del b)) : CW P N c Q env s := by
  intro fr B a w p hfn hst
  obtain ⟨p', hst', hle, hk⟩ := hst.freeze ht hs
  exact cwp_mono (h fr B a w p' hfn hst') fun _ _ _ q => q.after hle hk
end
end Go.AE

/- The abstract walk: maps; appending; elements by computed indexes. -/
namespace Go.AE

def keyEq : AV → AV → Option Bool
  | .str a, .str b => some (a == b)
  | .int k a, .int k' b => if k = k' then some (a == b) else none
  | .bool a, .bool b => some (a == b)
  | _, _ => none

def keyFits : TD → AV → Bool
  | .str, .str _ => true
  | .int _, .int _ _ => true
  | .bool, .bool _ => true
  | _, _ => false

def getA : List (AV × AV) → AV → Option (Option AV)
  | [], _ => some none
  | (k', v) :: r, k => match keyEq k k' with
    | some true => some (some v)
    | some false => getA r k
    | none => none

def putA : List (AV × AV) → AV → AV → Option (List (AV × AV))
  | [], k, v => some [(k, v)]
  | (k', v') :: r, k, v => match keyEq k k' with
    | some true => some ((k, v) :: r)
    | some false => match putA r k v with
      | some r' => some ((k', v') :: r')
      | none => none
    | none => none

theorem ba_beq (a b : ByteArray) : (a == b) = (a.data.toList == b.data.toList) := by
  cases a with | mk x => cases b with | mk y =>
  show (ByteArray.beq ⟨x⟩ ⟨y⟩) = _
  unfold ByteArray.beq
  simp

theorem same_ok {w : World} {p : Prot} {d : TypeDesc} {kv kv' : Value} {k k' : AV} {b : Bool} (h1 : Rel w p kv k) (h2 : Rel w p kv' k') (hf : keyFits (tdOf d) k = true) (h : keyEq k k' = some b) :
    Instr.sameNow d kv kv' = some b := by
  unfold keyEq at h
  split at h
  · cases h1 with | str a _ e => cases h2 with | str a' _ e' =>
    cases d <;> simp [tdOf, keyFits] at hf
    cases h
    simp [Instr.sameNow, ba_beq, e, e']
  · cases h1; cases h2
    cases d <;> simp [tdOf, keyFits] at hf
    split at h
    · cases h; rename_i hk; subst hk; simp [Instr.sameNow]
    · cases h
  · cases h1; cases h2
    cases d <;> simp [tdOf, keyFits] at hf
    cases h; simp [Instr.sameNow]
  · cases h

theorem bits_ok {w : World} {p : Prot} {kv kv' : Value} {k k' : AV} (h1 : Rel w p kv k) (h2 : Rel w p kv' k') (h : keyEq k k' = some true) : Instr.sameBits 10000 kv' kv = true := by
  unfold keyEq at h
  split at h
  · cases h1 with | str a _ e => cases h2 with | str a' _ e' =>
    have h := beq_iff_eq.1 (Option.some.inj h)
    show (a' == a) = true
    rw [ba_beq, e, e', h]; simp
  · rename_i k a k' b
    cases h1; cases h2
    split at h
    · rename_i hk
      subst hk
      have h := beq_iff_eq.1 (Option.some.inj h)
      show (k == k && b == a) = true
      rw [h]; simp
    · cases h
  · rename_i a b
    cases h1; cases h2
    have h := beq_iff_eq.1 (Option.some.inj h)
    show (b == a) = true
    rw [h]; simp
  · cases h

theorem get_ok {w : World} {p : Prot} {d : TypeDesc} {kv : Value} {k : AV} (hk : Rel w p kv k) (hf : keyFits (tdOf d) k = true) : ∀ (mes : List MapEntry) (es : List (AV × AV)) (i : Nat) (r : Option AV),
    RelM w p mes es → getA es k = some r →
    match r with
    | none => Instr.findNow d kv mes i = some none
    | some v => ∃ j val, Instr.findNow d kv mes i = some (some (j, val)) ∧ Rel w p val v := by
  intro mes
  induction mes with
  | nil =>
    intro es i r hr h
    cases es with
    | nil => cases h; rfl
    | cons e es => exact absurd hr.1.length (by simp)
  | cons m mes ih =>
    intro es i r hr h
    cases es with
    | nil => exact absurd hr.1.length (by simp)
    | cons e es =>
      obtain ⟨k', v'⟩ := e
      obtain ⟨hr1, hr2⟩ := hr
      cases hr1 with | cons _ _ _ _ hk' ht1 => cases hr2 with | cons _ _ _ _ hv' ht2 =>
      simp only [getA] at h
      split at h
      · rename_i he
        cases h
        exact ⟨i, m.val, by simp only [Instr.findNow, same_ok hk hk' hf he], hv'⟩
      · rename_i he
        have := ih es (i + 1) r ⟨ht1, ht2⟩ h
        have hs := same_ok hk hk' hf he
        cases r with
        | none => simp only [Instr.findNow, hs]; exact this
        | some v => obtain ⟨j, val, h1, h2⟩ := this; exact ⟨j, val, by simp only [Instr.findNow, hs]; exact h1, h2⟩
      · cases h

theorem put_ok {w : World} {p : Prot} {d : TypeDesc} {kv vv : Value} {k v : AV} (hk : Rel w p kv k) (hv : Rel w p vv v) (hf : keyFits (tdOf d) k = true) : ∀ (mes : List MapEntry) (es es' : List (AV × AV)) (i : Nat),
    RelM w p mes es → putA es k v = some es' →
    (Instr.findNow d kv mes i = some none ∧ ∀ n, RelM w p (mes ++ [{ key := kv, val := vv, born := n }]) es') ∨
    (∃ j val e, Instr.findNow d kv mes i = some (some (i + j, val)) ∧ mes[j]? = some e ∧ Instr.sameBits 10000 e.key kv = true ∧ RelM w p (mes.modify j fun e => { e with key := kv, val := vv }) es') := by
  intro mes
  induction mes with
  | nil =>
    intro es es' i hr h
    cases es with
    | nil => cases h; exact .inl ⟨rfl, fun n => ⟨.cons _ _ _ _ hk .nil, .cons _ _ _ _ hv .nil⟩⟩
    | cons e es => exact absurd hr.1.length (by simp)
  | cons m mes ih =>
    intro es es' i hr h
    cases es with
    | nil => exact absurd hr.1.length (by simp)
    | cons e es =>
      obtain ⟨k', v'⟩ := e
      obtain ⟨hr1, hr2⟩ := hr
      cases hr1 with | cons _ _ _ _ hk' ht1 => cases hr2 with | cons _ _ _ _ hv' ht2 =>
      simp only [putA] at h
      split at h
      · rename_i he
        cases h
        refine .inr ⟨0, m.val, m, by simp only [Instr.findNow, same_ok hk hk' hf he, Nat.add_zero], rfl, bits_ok hk hk' he, ?_⟩
        exact ⟨.cons _ _ _ _ hk ht1, .cons _ _ _ _ hv ht2⟩
      · rename_i he
        split at h
        · rename_i r' hr'
          cases h
          have hs := same_ok hk hk' hf he
          rcases ih es r' (i + 1) ⟨ht1, ht2⟩ hr' with ⟨h1, h2⟩ | ⟨j, val, e', h1, h2, h3, h4⟩
          · exact .inl ⟨by simp only [Instr.findNow, hs]; exact h1, fun n => ⟨.cons _ _ _ _ hk' (h2 n).1, .cons _ _ _ _ hv' (h2 n).2⟩⟩
          · refine .inr ⟨j + 1, val, e', by simp only [Instr.findNow, hs]; rw [h1]; congr 3; omega, by simpa using h2, h3, ?_⟩
            simp only [List.modify_succ_cons]
            exact ⟨.cons _ _ _ _ hk' h4.1, .cons _ _ _ _ hv' h4.2⟩
        · cases h
      · cases h

section
variable {P : Program} {Γ : Tys} {N : Nat} {env : Env} {s : Store}

theorem run_checkKey {d : TypeDesc} {t : TypeId} {kv : Value} {k : AV} {w : World} {p : Prot} (hu : P.underlying t = some d) (hk : Rel w p kv k) (hf : keyFits (tdOf d) k = true) (e : Bool) :
    (Instr.checkKey e 10000 t kv).run P w = .ok () w := by
  have : ∀ n, (Instr.checkKey e (n + 1) t kv).run P w = .ok () w := by
    intro n
    unfold Instr.checkKey
    simp only [Sem.run_bind, run_underlying hu, Result.andThen_ok]
    cases hk <;> simp [keyFits] at hf <;> cases d <;> simp [tdOf] at hf <;> rfl
  exact this 9999

theorem run_findKey {d : TypeDesc} {t : TypeId} {kv : Value} {es : List MapEntry} {r : Option (Nat × Value)} {w : World} (hu : P.underlying t = some d) (h : Instr.findNow d kv es 0 = some r) :
    (Instr.findKey t kv es).run P w = .ok r w := by
  unfold Instr.findKey
  simp only [Sem.run_bind, run_underlying hu, Result.andThen_ok, h, Sem.run_pure]

def notCells : Obj → Bool
  | .cells .. => false
  | _ => true

theorem run_getObj {w : World} {r : Nat} {o : Obj} (h : w.heap[r]? = some o) (hc : notCells o = true) : (getObj r).run P w = .ok o w := by
  cases o <;> first | (simp [notCells] at hc; done) | simp [getObj, Sem.run, h]

/-- What a lookup gives. -/
def gotA (ok : Bool) (zero : AV) : Option AV → AV
  | some v => if ok then .tup [v, .bool true] else v
  | none => if ok then .tup [zero, .bool false] else zero

theorem OW.lookup (hΓ : TysOk P Γ) {o : Oper} {t kt et : TypeId} {x y : Operand} {ok : Bool} {it ik ie : TI} {m : AV} {es : List (AV × AV)} {k z : AV} {r : Option AV} (ho : o.op = .lookup t x y ok)
    (ht : Γ.get? t = some it) (htd : it.td = .map kt et) (hik : Γ.get? kt = some ik) (hie : Γ.get? et = some ie) (hx : ev env x = some m) (hy : ev env y = some k)
    (hm : (∃ b, m = .map b ∧ s b = some (.map es)) ∨ (m = .mnil ∧ es = [])) (hf : keyFits ik.td k = true) (hg : getA es k = some r) (hz : constAV2 ie.zero = some z) {X : AV → Store → Prop} :
    OW P N o env s (fun x s' => x = gotA ok z r ∧ s' = s) X := by
  refine OW.of_run (by simp [noDefer, ho]) fun ro B a w p hst => ?_
  obtain ⟨info, d, h1, h2, h3, -⟩ := hΓ.parts ht
  obtain ⟨infok, dk, hk1, hk2, hk3, -⟩ := hΓ.parts hik
  obtain ⟨infoe, de, he1, he2, he3, -, -, he6⟩ := hΓ.parts hie
  have hd : d = .map kt et := by rw [htd] at h3; cases d <;> simp [tdOf] at h3; rw [h3.1, h3.2]
  subst hd
  have hr := hst.ev hx
  have hkr := hst.ev hy
  generalize hvx : a.eval x = vx at hr
  generalize hvy : a.eval y = vy at hkr
  rw [← hk3] at hf
  have hzv : (zeroValue et).run P w = .ok ie.zero w := by simp [zeroValue, typeInfo, he1, he6]
  have tail : ∀ mes : Array MapEntry, RelM w p mes.toList es → ∃ val, (do
      Instr.checkKey mes.isEmpty 10000 kt vy
      let (v, ok') ← match ← Instr.findKey kt vy mes.toList with
        | some (_, v) => pure (v, true)
        | none => do pure (← zeroValue et, false)
      pure (if ok then .tuple #[v, .bool ok'] else v) : Sem Value).run P w = .ok val w ∧ Rel w p val (gotA ok z r) := by
    intro mes hrm
    have hget := get_ok hkr hf mes.toList es 0 r hrm hg
    simp only [Sem.run_bind, run_checkKey hk2 hkr hf, Result.andThen_ok]
    cases r with
    | none =>
      simp only at hget
      simp only [run_findKey hk2 hget, Result.andThen_ok, Sem.run_bind, hzv, Sem.run_pure, gotA]
      cases ok
      · exact ⟨_, rfl, constAV2_rel hz⟩
      · exact ⟨_, rfl, .tup _ _ (.cons _ _ _ _ (constAV2_rel hz) (.cons _ _ _ _ (.bool _) .nil))⟩
    | some v =>
      obtain ⟨j, val, g1, g2⟩ := hget
      simp only [run_findKey hk2 g1, Result.andThen_ok, Sem.run_pure, gotA]
      cases ok
      · exact ⟨_, rfl, g2⟩
      · exact ⟨_, rfl, .tup _ _ (.cons _ _ _ _ g2 (.cons _ _ _ _ (.bool _) .nil))⟩
  have hgoal : ∃ val, (Instr.lookup t vx vy ok).run P w = .ok val w ∧ Rel w p val (gotA ok z r) := by
    unfold Instr.lookup
    rcases hm with ⟨b, rfl, hs⟩ | ⟨rfl, rfl⟩
    · cases hr
      obtain ⟨mes, clock, g1, g2, -⟩ := hst.wf.obj _ _ hs
      obtain ⟨val, hrun, hrel⟩ := tail mes g2
      refine ⟨val, ?_, hrel⟩
      simp only [Sem.run_bind, run_underlying h2, Result.andThen_ok, run_getObj g1 rfl, Sem.run_pure] at hrun ⊢
      exact hrun
    · cases hr
      obtain ⟨val, hrun, hrel⟩ := tail #[] ⟨.nil, .nil⟩
      refine ⟨val, ?_, hrel⟩
      simp only [Sem.run_bind, run_underlying h2, Result.andThen_ok, Sem.run_pure] at hrun ⊢
      exact hrun
  obtain ⟨val, hrun, hrel⟩ := hgoal
  refine ⟨val, w, s, p, _, ?_, .refl w p, .refl s w p, hst.wf, ⟨rfl, rfl⟩, hrel⟩
  unfold execOp
  rw [ho]
  simp only [hvx, hvy]
  exact run_v hrun

/-- What becomes of the state when a map's block is written. -/
theorem map_write {w : World} {p : Prot} (hwf : Wf w p s) {b : Nat} {es : List (AV × AV)} (hs : s b = some (.map es)) {mes' : Array MapEntry} {clock' : Nat} {es' : List (AV × AV)}
    (hr : RelM w p mes'.toList es') (hb : ∀ e ∈ mes'.toList, e.born < clock') (hnd : (mes'.toList.map (·.born)).Nodup)
    (w' : World) (hw' : w' = { w with heap := w.heap.setIfInBounds b (.map mes' clock') }) :
    Le w p w' p ∧ Kept s (s.set b (.map es')) w p w' p ∧ Wf w' p (s.set b (.map es')) := by
  subst hw'
  obtain ⟨mes, clock, h1, h2, h3, h4⟩ := hwf.obj _ _ hs
  have hlt : b < w.heap.size := (Array.getElem?_eq_some_iff.1 h1).1
  have hb' : (w.heap.setIfInBounds b (.map mes' clock'))[b]? = some (.map mes' clock') := by simp [Array.getElem?_setIfInBounds, hlt]
  have hoth : ∀ k, k ≠ b → (w.heap.setIfInBounds b (.map mes' clock'))[k]? = w.heap[k]? := fun k hk => by
    rw [Array.getElem?_setIfInBounds, if_neg (fun e => hk e.symm)]
  have hle : Le w p { w with heap := w.heap.setIfInBounds b (.map mes' clock') } p := by
    refine ⟨rfl, rfl, rfl, by simp, fun _ _ h => h, fun b' o hp => ?_, fun b' x hx => ?_⟩
    · by_cases e : b' = b
      · subst e; simp only [World.cell?, h1, hb']
      · exact cell_of_heap (hoth b' e)
    · by_cases e : b' = b
      · subst e; simp [World.shape?, h1] at hx
      · rw [shape_of_heap (hoth b' e)]; exact hx
  refine ⟨hle, ⟨fun b' hb hn => hoth b' (fun e => by rw [e, hs] at hn; simp at hn), fun b' hb hn => by
    rw [Store.set_ne]
    · exact hn
    · intro e; rw [e, hs] at hn; simp at hn, fun _ _ _ _ h => h⟩, ?_, fun b' o hp => by simpa using hwf.lt b' o hp⟩
  intro b' o' hb''
  by_cases e : b' = b
  · subst e
    rw [Store.set_same] at hb''; cases hb''
    exact ⟨mes', clock', hb', ⟨hr.1.mono hle, hr.2.mono hle⟩, hb, hnd⟩
  · rw [Store.set_ne _ _ e] at hb''
    have ho := hwf.obj b' o' hb''
    have hh := hoth b' e
    cases o' with
    | box t c => obtain ⟨us, g1, g2, g3⟩ := ho; exact ⟨us, hh.trans g1, g2.mono hle, g3⟩
    | row t sz n => obtain ⟨cur, g1, g2, g3, g4⟩ := ho; exact ⟨cur, hh.trans g1, g2, g3, g4⟩
    | map es => obtain ⟨mes, c, g1, g2, g3⟩ := ho; exact ⟨mes, c, hh.trans g1, ⟨g2.1.mono hle, g2.2.mono hle⟩, g3⟩
    | ranged es it l c => exact ho.ranged_move hle hh (hoth it (ho.ranged_ne h1 (by simp)))
    | tick m => obtain ⟨a1, a2, a3, g1⟩ := ho; exact ⟨a1, a2, a3, hh.trans g1⟩
    | loop r env => exact ⟨hh.trans ho.1, fun t v h => (ho.2 t v h).mono hle⟩

theorem run_mapUpdate {t kt et : TypeId} {dk : TypeDesc} {b : Nat} {mes : Array MapEntry} {clock : Nat} {kv vv : Value} {k : AV} {w : World} {p : Prot}
    (h2 : P.underlying t = some (.map kt et)) (hk2 : P.underlying kt = some dk) (hkr : Rel w p kv k) (hf : keyFits (tdOf dk) k = true) (g1 : w.heap[b]? = some (.map mes clock)) :
    (∀ (h : Instr.findNow dk kv mes.toList 0 = some none), (Instr.mapUpdate t (.map (some b)) kv vv).run P w = .ok () { w with heap := w.heap.setIfInBounds b (.map (mes.push { key := kv, val := vv, born := clock }) (clock + 1)) }) ∧
    (∀ j val e, Instr.findNow dk kv mes.toList 0 = some (some (j, val)) → mes[j]? = some e → Instr.sameBits 10000 e.key kv = true →
      (Instr.mapUpdate t (.map (some b)) kv vv).run P w = .ok () { w with heap := w.heap.setIfInBounds b (.map (mes.modify j fun e => { e with key := kv, val := vv }) clock) }) := by
  constructor
  · intro h
    unfold Instr.mapUpdate
    simp only [Sem.run_bind, run_underlying h2, Result.andThen_ok, run_getObj g1 rfl, run_checkKey hk2 hkr hf, run_findKey hk2 h]
    simp [setObj, Sem.run, g1]
  · intro j val e h he hb
    unfold Instr.mapUpdate
    simp only [Sem.run_bind, run_underlying h2, Result.andThen_ok, run_getObj g1 rfl, run_checkKey hk2 hkr hf, run_findKey hk2 h]
    simp [Instr.keyThatStays, he, hb, setObj, Sem.run, g1]

theorem OW.mapUpdate (hΓ : TysOk P Γ) {o : Oper} {t kt et : TypeId} {x y z : Operand} {it ik : TI} {b : Nat} {es es' : List (AV × AV)} {k v : AV} (ho : o.op = .mapUpdate t x y z ∨ o.op = .insert t x y z)
    (ht : Γ.get? t = some it) (htd : it.td = .map kt et) (hik : Γ.get? kt = some ik) (hx : ev env x = some (.map b)) (hy : ev env y = some k) (hz : ev env z = some v)
    (hs : s b = some (.map es)) (hf : keyFits ik.td k = true) (hp : putA es k v = some es') {X : AV → Store → Prop} :
    OW P N o env s (fun _ s' => s' = s.set b (.map es')) X := by
  refine OW.of_skip (by rcases ho with ho | ho <;> simp [noDefer, ho]) fun ro B a w p hst => ?_
  obtain ⟨info, d, h1, h2, h3, -⟩ := hΓ.parts ht
  obtain ⟨infok, dk, hk1, hk2, hk3, -⟩ := hΓ.parts hik
  have hd : d = .map kt et := by rw [htd] at h3; cases d <;> simp [tdOf] at h3; rw [h3.1, h3.2]
  subst hd
  rw [← hk3] at hf
  have hr := hst.ev hx
  have hkr := hst.ev hy
  have hvr := hst.ev hz
  obtain ⟨mes, clock, g1, g2, g3, g4⟩ := hst.wf.obj _ _ hs
  generalize hvx : a.eval x = vx at hr
  cases hr
  obtain ⟨r1, r2⟩ := run_mapUpdate (vv := a.eval z) h2 hk2 hkr hf g1
  have hrun : ∀ w', (Instr.mapUpdate t (.map (some b)) (a.eval y) (a.eval z)).run P w = .ok () w' → (execOp a.eval o).run P w = .ok .skip w' := by
    intro w' hw
    unfold execOp
    rcases ho with ho | ho <;> rw [ho] <;> simp only [hvx] <;> simp only [Sem.run_bind, hw, Result.andThen_ok, Sem.run_pure]
  rcases put_ok hkr hvr hf mes.toList es es' 0 g2 hp with ⟨q1, q2⟩ | ⟨j, val, e, q1, q2, q3, q4⟩
  · obtain ⟨k1, k2, k3⟩ := map_write hst.wf hs (mes' := mes.push { key := a.eval y, val := a.eval z, born := clock }) (clock' := clock + 1) (by simpa using q2 clock)
      (by intro e he; simp only [Array.toList_push, List.mem_append, List.mem_singleton] at he; rcases he with he | rfl; have := g3 e he; omega; simp)
      (by
        simp only [Array.toList_push, List.map_append, List.map_cons, List.map_nil]
        rw [List.nodup_append]
        refine ⟨g4, by simp, ?_⟩
        intro x hx y hy e
        simp only [List.mem_singleton] at hy
        obtain ⟨m, hm, rfl⟩ := List.mem_map.1 hx
        have := g3 m hm
        omega) _ rfl
    exact ⟨_, _, p, hrun _ (r1 q1), k1, k2, k3, rfl⟩
  · rw [Nat.zero_add] at q1
    have hbm : ((mes.modify j fun e => { e with key := a.eval y, val := a.eval z }).toList.map (·.born)) = mes.toList.map (·.born) := by
      rw [Array.toList_modify]
      apply List.ext_getElem?
      intro n
      simp only [List.getElem?_map, List.getElem?_modify]
      split
      · cases mes.toList[n]? <;> rfl
      · cases mes.toList[n]? <;> rfl
    obtain ⟨k1, k2, k3⟩ := map_write hst.wf hs (mes' := mes.modify j fun e => { e with key := a.eval y, val := a.eval z }) (clock' := clock) (by simpa using q4)
      (by
        intro e he
        have : e.born ∈ ((mes.modify j fun e => { e with key := a.eval y, val := a.eval z }).toList.map (·.born)) := List.mem_map.2 ⟨e, he, rfl⟩
        rw [hbm] at this
        obtain ⟨e', he', hb⟩ := List.mem_map.1 this
        rw [← hb]; exact g3 e' he')
      (by rw [hbm]; exact g4) _ rfl
    exact ⟨_, _, p, hrun _ (r2 j val e q1 (by simpa using q2) q3), k1, k2, k3, rfl⟩

theorem OW.makeMap {o : Oper} {t : TypeId} (ho : o.op = .makeMap t none) {X : AV → Store → Prop} : OW P N o env s (fun x s' => ∃ b, s b = none ∧ x = .map b ∧ s' = s.set b (.map [])) X := by
  refine OW.of_run (by simp [noDefer, ho]) fun ro B a w p hst => ?_
  obtain ⟨hn, hle, hk, hwf⟩ := new_obj hst.wf (.map #[] 0) (.map []) (fun w' hw' hr hrl => ⟨#[], 0, hw', ⟨.nil, .nil⟩, by simp, by simp⟩)
  refine ⟨.map (some w.heap.size), _, _, p, _, ?_, hle, hk, hwf, ⟨w.heap.size, hn, rfl, rfl⟩, .map _⟩
  unfold execOp
  rw [ho]
  exact run_v rfl
end
end Go.AE

/- The abstract walk: appending to slices. -/
namespace Go.AE

theorem flat_length {vs : List Value} {sz : Nat} (h : ∀ v ∈ vs, v.cells.size = sz) : (flat vs).length = vs.length * sz := by
  induction vs with
  | nil => simp [flat]
  | cons v vs ih =>
    have h' := ih (fun u hu => h u (List.mem_cons_of_mem _ hu))
    simp only [flat, List.flatMap_cons, List.length_append, Array.length_toList, List.length_cons] at h' ⊢
    rw [h v (List.mem_cons_self ..)]
    have h'' : (List.flatMap (fun v => v.cells.toList) vs).length = vs.length * sz := h'
    rw [h'', Nat.add_mul]; omega

theorem flat_append (vs us : List Value) : flat (vs ++ us) = flat vs ++ flat us := by simp [flat, List.flatMap_append]

/-- A new row of cells of which the first ones are a list of values. -/
theorem new_row {w : World} {p : Prot} {s : Store} (hwf : Wf w p s) {vs : List Value} {xs : List AV} {sz cap : Nat} {e : TypeId} {cur : Array Value} (hr : RelL w p vs xs)
    (hs : ∀ v ∈ vs, v.cells.size = sz) (hcur : cur.size = cap * sz) (htake : cur.toList.take (xs.length * sz) = flat vs) (hcap : xs.length ≤ cap) (hm : xs.length ≤ 9223372036854775807) :
    ∃ p', s w.heap.size = none ∧ Le w p (w.drew.alloc (.cells cur e)) p' ∧ Kept s (s.set w.heap.size (.row e sz xs.length)) w p (w.drew.alloc (.cells cur e)) p' ∧
      Wf (w.drew.alloc (.cells cur e)) p' (s.set w.heap.size (.row e sz xs.length)) ∧ Rel (w.drew.alloc (.cells cur e)) p' (.slice (some ⟨w.heap.size, 0, none⟩) xs.length cap) (.slc sz xs (.own w.heap.size)) := by
  have hn : s w.heap.size = none := by
    cases h : s w.heap.size with
    | none => rfl
    | some o' => exact absurd (hwf.obj _ _ h).lt (by omega)
  let p' : Prot := fun b o => p b o ∨ (b = w.heap.size ∧ o < xs.length * sz)
  have hhere : (w.drew.alloc (.cells cur e)).heap[w.heap.size]? = some (.cells cur e) := heap_alloc_here w.drew _
  have hold : ∀ b, b < w.heap.size → (w.drew.alloc (.cells cur e)).heap[b]? = w.heap[b]? := fun b hb => heap_alloc_lt w.drew _ b hb
  have hle : Le w p (w.drew.alloc (.cells cur e)) p' := Le.of_heap rfl rfl rfl (by simp) (fun _ _ h => .inl h) hwf.lt hold
  have hlen := flat_length hs
  have hmul : xs.length * sz ≤ cap * sz := Nat.mul_le_mul_right _ hcap
  refine ⟨p', hn, hle, ⟨fun b hb _ => hold b hb, fun b hb hs => by rw [Store.set_ne _ _ (by omega)]; exact hs, fun b o hb _ hp => by rcases hp with hp | ⟨rfl, _⟩; exact hp; omega⟩, ?_, ?_⟩
  · have hg : Wf (w.drew.alloc (.cells cur e)) p' s := hwf.grow hle hold (fun b o hb hp => by rcases hp with hp | ⟨rfl, _⟩; exact hp; omega) (fun b o hp => by
      rcases hp with hp | ⟨rfl, _⟩
      · have := hwf.lt b o hp; simp; omega
      · simp)
    refine ⟨fun b o hb => ?_, hg.lt⟩
    by_cases e' : b = w.heap.size
    · subst e'
      rw [Store.set_same] at hb; cases hb
      refine ⟨cur, hhere, by omega, ⟨cap, hcur⟩, fun o => ⟨fun hp => ?_, fun ho => .inr ⟨rfl, ho⟩⟩⟩
      rcases hp with hp | ⟨_, ho⟩
      · exact absurd (hwf.lt _ _ hp) (by omega)
      · exact ho
    · rw [Store.set_ne _ _ e'] at hb; exact hg.obj b o hb
  · refine .slc _ 0 _ _ _ vs _ _ (by simp) rfl ?_ (hr.mono hle) hs hm hcap (fun h => by cases h) (fun b hb => ?_)
    · intro i v hv
      have hi : i < xs.length * sz := by
        have := (List.getElem?_eq_some_iff.1 hv).1
        rw [hlen, hr.length] at this; exact this
      refine ⟨.inr ⟨rfl, by omega⟩, ?_⟩
      rw [Nat.zero_add, cells_of_box hhere]
      rw [← htake, List.getElem?_take, if_pos hi] at hv
      simpa using hv
    · cases hb
      exact ⟨rfl, rfl, e, by simp only [World.shape?, hhere, hcur]⟩

/-- An owned row into which values are written behind its last one. -/
theorem row_grow {w : World} {p : Prot} {s : Store} (hwf : Wf w p s) {b : Nat} {e : TypeId} {sz n cap : Nat} (hsb : s b = some (.row e sz n)) {cur : Array Value} (hcell : w.heap[b]? = some (.cells cur e (0, 0)))
    (hcur : cur.size = cap * sz) {vs us : List Value} {xs ys : List AV} (hn : n = xs.length) (hr : RelL w p vs xs) (hu : RelL w p us ys) (hs : ∀ v ∈ vs, v.cells.size = sz) (hs2 : ∀ v ∈ us, v.cells.size = sz)
    (htake : cur.toList.take (n * sz) = flat vs) (hcap : n + us.length ≤ cap) (hm : n + us.length ≤ 9223372036854775807) :
    ∃ p', Le w p (w.setRow b (cur.toList.take (n * sz) ++ flat us ++ cur.toList.drop (n * sz + (flat us).length)).toArray) p' ∧
      Kept s ((s.del b).set b (.row e sz (n + us.length))) w p (w.setRow b (cur.toList.take (n * sz) ++ flat us ++ cur.toList.drop (n * sz + (flat us).length)).toArray) p' ∧
      Wf (w.setRow b (cur.toList.take (n * sz) ++ flat us ++ cur.toList.drop (n * sz + (flat us).length)).toArray) p' ((s.del b).set b (.row e sz (n + us.length))) ∧
      Rel (w.setRow b (cur.toList.take (n * sz) ++ flat us ++ cur.toList.drop (n * sz + (flat us).length)).toArray) p' (.slice (some ⟨b, 0, none⟩) (n + us.length) cap) (.slc sz (xs ++ ys) (.own b)) := by
  obtain ⟨cur', h1, h2, h3, h4⟩ := hwf.obj _ _ hsb
  rw [hcell] at h1; cases h1
  have hul := flat_length hs2
  have hvl := flat_length hs
  have hmul : n * sz + us.length * sz ≤ cap * sz := by rw [← Nat.add_mul]; exact Nat.mul_le_mul_right _ hcap
  generalize hnew : (cur.toList.take (n * sz) ++ flat us ++ cur.toList.drop (n * sz + (flat us).length)).toArray = new
  have hnl : new.toList = cur.toList.take (n * sz) ++ flat us ++ cur.toList.drop (n * sz + (flat us).length) := by rw [← hnew]
  have hcl : cur.toList.length = cap * sz := by rw [Array.length_toList, hcur]
  have hnsz : new.size = cur.size := by rw [← Array.length_toList, hnl]; simp only [List.length_append, List.length_take, List.length_drop, hul, hcl, hcur]; omega
  have hlt : b < w.heap.size := (Array.getElem?_eq_some_iff.1 hcell).1
  have hb' := setRow_heap w b cur new e (0, 0) hcell
  have hoth : ∀ k, k ≠ b → (w.setRow b new).heap[k]? = w.heap[k]? := fun k hk => setRow_other w b k new hk
  have hpre : ∀ o, o < n * sz → new[o]? = cur[o]? := fun o ho => by
    have : new.toList[o]? = cur.toList[o]? := by
      rw [hnl, List.append_assoc, List.getElem?_append_left (by rw [List.length_take, hcl]; omega), List.getElem?_take, if_pos ho]
    simpa using this
  let p' : Prot := fun b' o => p b' o ∨ (b' = b ∧ o < (n + us.length) * sz)
  have hle : Le w p (w.setRow b new) p' := by
    refine ⟨rfl, rfl, rfl, by simp, fun _ _ h => .inl h, fun b' o hp => ?_, fun b' x hx => ?_⟩
    · by_cases e' : b' = b
      · subst e'
        rw [cells_of_box hb', cells_of_box hcell]; exact hpre o ((h4 o).1 hp)
      · exact cell_of_heap (hoth b' e')
    · by_cases e' : b' = b
      · subst e'
        simp only [World.shape?, hcell, hb'] at hx ⊢
        rw [hnsz]; exact hx
      · rw [shape_of_heap (hoth b' e')]; exact hx
  refine ⟨p', hle, ⟨fun b' hb hn => hoth b' (fun e' => by rw [e', hsb] at hn; simp at hn), fun b' hb hn => ?_, fun b' o hb hn hp => ?_⟩, ⟨fun b' o' hb'' => ?_, fun b' o hp => ?_⟩, ?_⟩
  · have hne : b' ≠ b := fun e' => by rw [e', hsb] at hn; simp at hn
    rw [Store.set_ne _ _ hne, Store.del_ne _ hne]; exact hn
  · rcases hp with hp | ⟨e', _⟩
    · exact hp
    · rw [e', hsb] at hn; simp at hn
  · by_cases e' : b' = b
    · subst e'
      rw [Store.set_same] at hb''; cases hb''
      refine ⟨new, hb', by rw [hnsz, hcur, Nat.add_mul]; omega, ⟨cap, by rw [hnsz, hcur]⟩, fun o => ⟨fun hp => ?_, fun ho => .inr ⟨rfl, ho⟩⟩⟩
      rcases hp with hp | ⟨_, ho⟩
      · have := (h4 o).1 hp; rw [Nat.add_mul]; omega
      · exact ho
    · rw [Store.set_ne _ _ e', Store.del_ne _ e'] at hb''
      have ho := hwf.obj b' o' hb''
      have hh := hoth b' e'
      have hpi : ∀ o, p' b' o ↔ p b' o := fun o => ⟨fun hp => by rcases hp with hp | ⟨e'', _⟩; exact hp; exact absurd e'' e', .inl⟩
      cases o' with
      | box t c => obtain ⟨us, g1, g2, g3⟩ := ho; exact ⟨us, hh.trans g1, g2.mono hle, fun o hp => g3 o ((hpi o).1 hp)⟩
      | row t sz n => obtain ⟨cur, g1, g2, g3, g4⟩ := ho; exact ⟨cur, hh.trans g1, g2, g3, fun o => (hpi o).trans (g4 o)⟩
      | map es => obtain ⟨mes, c, g1, g2, g3⟩ := ho; exact ⟨mes, c, hh.trans g1, ⟨g2.1.mono hle, g2.2.mono hle⟩, g3⟩
      | ranged es it l c => exact ho.ranged_move hle hh (hoth it (ho.ranged_ne hcell (by simp)))
      | tick m => obtain ⟨a1, a2, a3, g1⟩ := ho; exact ⟨a1, a2, a3, hh.trans g1⟩
      | loop r env => exact ⟨hh.trans ho.1, fun t v h => (ho.2 t v h).mono hle⟩
  · rcases hp with hp | ⟨rfl, _⟩
    · simpa using hwf.lt b' o hp
    · simpa using hlt
  · have hxl : (xs ++ ys).length = n + us.length := by rw [List.length_append, hn, hu.length]
    refine .slc _ 0 _ _ _ (vs ++ us) _ _ (by simp) hxl.symm ?_ ((hr.append hu).mono hle) (fun v hv => ?_) hm hcap (fun h => by cases h) (fun b0 hb0 => ?_)
    · intro i v hv
      have hfl : flat (vs ++ us) = new.toList.take ((n + us.length) * sz) := by
        rw [flat_append, hnl, ← htake, Nat.add_mul, ← hul]
        have : n * sz + (flat us).length = (cur.toList.take (n * sz) ++ flat us).length := by rw [List.length_append, List.length_take, hcl]; omega
        rw [this, List.take_left]
      have hi : i < (n + us.length) * sz := by
        have := (List.getElem?_eq_some_iff.1 hv).1
        rw [hfl, List.length_take] at this; omega
      refine ⟨.inr ⟨rfl, by omega⟩, ?_⟩
      rw [Nat.zero_add, cells_of_box hb']
      rw [hfl, List.getElem?_take, if_pos hi] at hv
      simpa using hv
    · rcases List.mem_append.1 hv with hv | hv
      · exact hs v hv
      · exact hs2 v hv
    · cases hb0
      exact ⟨rfl, rfl, e, by simp only [World.shape?, hb', hnsz, hcur]⟩

section
variable {P : Program} {Γ : Tys} {N : Nat} {env : Env} {s : Store}

theorem run_append_room2 {t t' ty e : TypeId} {d' : TypeDesc} {i : TypeInfo} (w : World) (ht : P.underlying t = some (.slice e)) (ht' : P.underlying t' = some d') (hd' : ∀ k, d' ≠ .int k) (hi : P.info? e = some i)
    (g sLen sCap : Nat) (cur : Array Value) (hg : w.heap[g]? = some (.cells cur e (0, 0))) {xv : Value} {m : Nat} {news : List Value}
    (hl : (Builtin.lenOf xv).run P w = .ok m w) (hf : (Builtin.firstCells i.size m xv).run P w = .ok news.toArray w) (h1 : ∀ u ∈ news, u.oneCell' = true)
    (hroom : sLen + m ≤ sCap) (hfit : sLen * i.size + news.length ≤ cur.size) :
    (Builtin.append_ #[t, t'] ty #[.slice (some ⟨g, 0, none⟩) sLen sCap, xv]).run P w =
      .ok (.slice (some ⟨g, 0, none⟩) (sLen + m) sCap) (w.setRow g (cur.toList.take (sLen * i.size) ++ news ++ cur.toList.drop (sLen * i.size + news.length)).toArray) := by
  have hst := run_storeCells_at P g (sLen * i.size) e news 0 cur w hg (by simpa using hfit) h1
  simp only [Nat.add_zero] at hst
  have hz : (match d' with | .int _ => true | _ => false) = false := by cases d' <;> first | rfl | exact absurd rfl (hd' _)
  simp [Builtin.append_, run_underlying ht, run_underlying ht', sizeOf, typeInfo, hi, hz, hl, hroom, hf, Addr.add_lit, hst]

theorem run_append_grow2 {t t' ty e : TypeId} {d' : TypeDesc} {i : TypeInfo} {z : Value} (w : World) (ht : P.underlying t = some (.slice e)) (ht' : P.underlying t' = some d') (hd' : ∀ k, d' ≠ .int k) (hi : P.info? e = some i) (hz : i.zero = some z)
    {base : Option Addr} {sLen sCap : Nat} {xv : Value} {m : Nat} {olds news : List Value}
    (hl : (Builtin.lenOf xv).run P w = .ok m w) (hfo : (Builtin.firstCells i.size sLen (.slice base sLen sCap)).run P w.drew = .ok olds.toArray w.drew) (hf : (Builtin.firstCells i.size m xv).run P w.drew = .ok news.toArray w.drew)
    (hg : sCap < sLen + m) (h63 : ((sLen + m : Nat) : Int) ≤ 9223372036854775807) (hfit : Builtin.nextslicecap (sLen + m) sCap * i.bytes ≤ 281474976710656) :
    (Builtin.append_ #[t, t'] ty #[.slice base sLen sCap, xv]).run P w =
      .ok (.slice (some ⟨w.heap.size, 0, none⟩) (sLen + m) (grownCap w (sLen + m) sCap e))
        (w.drew.alloc (.cells (olds ++ news ++ (Builtin.zeroCells z.cells (grownCap w (sLen + m) sCap e - (sLen + m))).toList).toArray e)) := by
  have hn : ¬ (sLen + m ≤ sCap) := by omega
  have h63' : ¬ (9223372036854775807 < ((sLen : Int) + (m : Int))) := by omega
  have h48' : ¬ (281474976710656 < Builtin.nextslicecap (sLen + m) sCap * i.bytes) := by omega
  have hzz : (match d' with | .int _ => true | _ => false) = false := by cases d' <;> first | rfl | exact absurd rfl (hd' _)
  simp [Builtin.append_, run_underlying ht, run_underlying ht', sizeOf, typeInfo, zeroValue, hi, hz, hzz, hl, hn, h63', h48', Question.forced, hf, hfo, newRow, grownCap]
  congr 2
  apply Array.ext'
  simp [List.append_assoc]

/-- An element that may be written into cells. -/
def elemOk (sz : Nat) (x : AV) : Bool := match cellsOf x with
  | some cs => Nat.beq cs.length sz && cs.all oneC
  | none => false

theorem flat_one {w : World} {p : Prot} {sz : Nat} : ∀ {vs : List Value} {xs : List AV}, RelL w p vs xs → (∀ x ∈ xs, elemOk sz x = true) → ∀ u ∈ flat vs, u.oneCell' = true := by
  intro vs
  induction vs with
  | nil => intro xs _ _ u hu; simp [flat] at hu
  | cons v vs ih =>
    intro xs h hx u hu
    cases h with
    | cons _ x _ xs hr ht =>
    simp only [flat, List.flatMap_cons, List.mem_append] at hu
    rcases hu with hu | hu
    · have := hx x (List.mem_cons_self ..)
      unfold elemOk at this
      split at this
      · rename_i cs hcs
        simp only [Bool.and_eq_true] at this
        exact oneC_all (cellsOf_rel hr hcs) this.2 u hu
      · cases this
    · exact ih ht (fun y hy => hx y (List.mem_cons_of_mem _ hy)) u hu

/-- What append's second operand holds. -/
theorem slc_parts {w : World} {p : Prot} {v : Value} {sz sz' : Nat} {xs : List AV} {own : Own} (h : Rel w p v (.slc sz xs own)) (hsz : xs = [] ∨ sz = sz') :
    ∃ vs, RelL w p vs xs ∧ (∀ u ∈ vs, u.cells.size = sz') ∧ (∀ P, (Builtin.lenOf v).run P w = .ok xs.length w) ∧
      (∀ P (w' : World), (∀ b o, p b o → w'.cell? ⟨b, o, none⟩ = w.cell? ⟨b, o, none⟩) → (Builtin.firstCells sz' xs.length v).run P w' = .ok (flat vs).toArray w') ∧
      ∃ base cap, v = .slice base xs.length cap := by
  cases h with
  | slcNil _ _ _ => exact ⟨[], .nil, by simp, fun P => rfl, fun P w' _ => rfl, _, _, rfl⟩
  | slcZ a _ _ _ => exact ⟨[], .nil, by simp, fun P => rfl, fun P w' _ => run_firstCells_some w' sz' 0 a _ _ [] (by simp) (by simp), _, _, rfl⟩
  | slc g off n cap _ vs _ _ hn hl hc hr hs hm hk hcl ho =>
    have hsv : ∀ u ∈ vs, u.cells.size = sz' := by
      rcases hsz with rfl | rfl
      · have : vs = [] := List.eq_nil_of_length_eq_zero (by rw [hr.length]; rfl)
        subst this; simp
      · exact hs
    subst hl
    refine ⟨vs, hr, hsv, fun P => rfl, fun P w' hw' => ?_, _, _, rfl⟩
    refine run_firstCells_some w' sz' xs.length ⟨g, off, none⟩ _ _ (flat vs) (by rw [flat_length hsv, hr.length]) ?_
    intro j u hu
    obtain ⟨h1, h2⟩ := hc j u hu
    rw [add_none, hw' _ _ h1]; exact h2

theorem OW.append (hΓ : TysOk P Γ) {o : Oper} {t t' e : TypeId} {x y : Operand} {it it' ie : TI} {sx sy : Nat} {xs ys : List AV} {ox oy : Own}
    (ho : o.op = .call { callee := .builtin .append, args := #[x, y], argTypes := #[t, t'] }) (ht : Γ.get? t = some it) (htd : it.td = .slc e) (ht' : Γ.get? t' = some it') (htd' : ∀ k, it'.td ≠ .int k)
    (hie : Γ.get? e = some ie) (hx : ev env x = some (.slc sx xs ox)) (hy : ev env y = some (.slc sy ys oy)) (hsx : xs = [] ∨ sx = ie.size) (hsy : ys = [] ∨ sy = ie.size)
    (hzs' : Nat.beq ie.zero.cells.size ie.size = true) (hel : ∀ y ∈ ys, elemOk ie.size y = true) (hb : (xs.length + ys.length) * ie.bytes ≤ 140737488355328) (h63 : xs.length + ys.length ≤ 9223372036854775807)
    (hox : (ox = .nil ∨ ox = .clip) ∨ ∃ b, ox = .own b ∧ sx = ie.size ∧ s b = some (.row e ie.size xs.length)) {X : AV → Store → Prop} :
    OW P N o env s (fun r s' => (ys = [] ∧ (ox = .nil ∨ ox = .clip) ∧ r = .slc ie.size xs ox ∧ s' = s) ∨
      (∃ s₁, (s₁ = s ∨ ∃ b, ox = .own b ∧ s₁ = s.del b) ∧ ∃ b, s₁ b = none ∧ r = .slc ie.size (xs ++ ys) (.own b) ∧ s' = s₁.set b (.row e ie.size (xs.length + ys.length)))) X := by
  refine OW.of_run (by simp [noDefer, ho]) fun ro B a w p hst => ?_
  obtain ⟨info, d, h1, h2, h3, -⟩ := hΓ.parts ht
  obtain ⟨info', d', g1, g2, g3, -⟩ := hΓ.parts ht'
  obtain ⟨infoe, de, k1, k2, k3, k4, k5, k6⟩ := hΓ.parts hie
  have hd : d = .slice e := by rw [htd] at h3; cases d <;> simp [tdOf] at h3; rw [h3]
  subst hd
  have hd' : ∀ k, d' ≠ .int k := fun k e' => by subst e'; exact htd' k g3.symm
  have hrx := hst.ev hx
  have hry := hst.ev hy
  have hexec : ∀ val w', (Builtin.append_ #[t, t'] o.type #[a.eval x, a.eval y]).run P w = .ok val w' → (execOp a.eval o).run P w = .ok (.value val) w' := by
    intro val w' h
    unfold execOp
    rw [ho]
    simp only [resolve, invoke, builtin, Sem.run_bind, Sem.run_pure, Result.andThen_ok, List.map_toArray, List.map_cons, List.map_nil, h]
  generalize hvx : a.eval x = vx at hrx hexec
  generalize hvy : a.eval y = vy at hry hexec
  obtain ⟨us, hu1, hu2, hu3, hu4, ub, uc, hu5⟩ := slc_parts hry hsy
  obtain ⟨vs, hv1, hv2, hv3, hv4, vb, vc, hv5⟩ := slc_parts hrx hsx
  have hone := flat_one hu1 hel
  have hzs := Nat.eq_of_beq_eq_true hzs'
  have hfu := flat_length hu2
  have hfv := flat_length hv2
  have hlu := hu1.length
  have hlv := hv1.length
  -- the way on which a new row is made
  have hgrow : ∀ s₁ : Store, (s₁ = s ∨ ∃ b, ox = .own b ∧ s₁ = s.del b) → vc < xs.length + ys.length →
      ∃ val w' s' p' x', (Builtin.append_ #[t, t'] o.type #[vx, vy]).run P w = .ok val w' ∧ Le w p w' p' ∧ Kept s s' w p w' p' ∧ Wf w' p' s' ∧
        (∃ b, s₁ b = none ∧ x' = .slc ie.size (xs ++ ys) (.own b) ∧ s' = s₁.set b (.row e ie.size (xs.length + ys.length))) ∧ Rel w' p' val x' := by
    intro s₁ hs₁ hlt
    have hsub : Store.Sub s₁ s := by
      rcases hs₁ with rfl | ⟨b, -, rfl⟩
      · exact Store.sub_refl _
      · intro b'; by_cases e' : b' = b
        · subst e'; exact .inr (Store.del_same _ _)
        · exact .inl (Store.del_ne _ e')
    have hfit := growslice_fits (need := xs.length + ys.length) (old := vc) (bytes := ie.bytes) hlt hb
    have hrun := run_append_grow2 (ty := o.type) w h2 g2 hd' k1 k6 (base := vb) (sLen := xs.length) (sCap := vc) (m := ys.length) (olds := flat vs) (news := flat us) (hu3 P)
      (by rw [← hv5, k4]; exact hv4 P w.drew (fun _ _ _ => rfl)) (by rw [k4]; exact hu4 P w.drew (fun _ _ _ => rfl)) hlt (by omega) (by rw [k5]; exact hfit)
    rw [← hv5] at hrun
    have hcge := Nat.le_trans (show xs.length + ys.length ≤ xs.length + ys.length from Nat.le_refl _) (show xs.length + ys.length ≤ grownCap w (xs.length + ys.length) vc e from by simp [grownCap, Question.cut])
    have hzl : (Builtin.zeroCells ie.zero.cells (grownCap w (xs.length + ys.length) vc e - (xs.length + ys.length))).toList.length = (grownCap w (xs.length + ys.length) vc e - (xs.length + ys.length)) * ie.zero.cells.size := by
      rw [Array.length_toList]; simp [Builtin.zeroCells]
    rw [hzs] at hzl
    have hxy : (xs ++ ys).length = xs.length + ys.length := List.length_append
    obtain ⟨p', q1, q2, q3, q4, q5⟩ := new_row (s := s₁) (hst.wf.sub hsub) (vs := vs ++ us) (xs := xs ++ ys) (sz := ie.size) (cap := grownCap w (xs.length + ys.length) vc e) (e := e)
      (cur := (flat vs ++ flat us ++ (Builtin.zeroCells ie.zero.cells (grownCap w (xs.length + ys.length) vc e - (xs.length + ys.length))).toList).toArray) (hv1.append hu1)
      (fun v hv => by rcases List.mem_append.1 hv with hv | hv; exact hv2 v hv; exact hu2 v hv)
      (by
        simp only [List.size_toArray, List.length_append, hfv, hfu, hzl, hlv, hlu, ← Nat.add_mul]
        congr 1; omega)
      (by
        have : (xs ++ ys).length * ie.size = (flat vs ++ flat us).length := by rw [hxy, List.length_append, hfv, hfu, hlv, hlu, Nat.add_mul]
        rw [this, flat_append]; simp only [List.take_left])
      (by rw [hxy]; exact hcge) (by rw [hxy]; exact h63)
    rw [hxy] at q3 q4 q5
    exact ⟨_, _, _, p', _, hrun, q2, q3.subL hsub, q4, ⟨w.heap.size, q1, rfl, rfl⟩, q5⟩
  rcases hox with hox | ⟨b, rfl, hsx', hsb⟩
  · by_cases hlt : vc < xs.length + ys.length
    · obtain ⟨val, w', s', p', x', r1, r2, r3, r4, r5, r6⟩ := hgrow s (.inl rfl) hlt
      exact ⟨val, w', s', p', x', hexec _ _ r1, r2, r3, r4, .inr ⟨s, .inl rfl, r5⟩, r6⟩
    · -- nothing is appended
      have hcap : vc = xs.length := by
        cases hrx with
        | slcNil => simp at hv5; omega
        | slcZ => simp at hv5; omega
        | slc g off n cap _ vs' _ _ hn hl hc hr hs hm hk hcl ho =>
          simp only [Value.slice.injEq] at hv5
          rcases hox with rfl | rfl
          · exact absurd rfl hn
          · rw [← hv5.2.2, hcl rfl, hl]
      have hys : ys = [] := List.eq_nil_of_length_eq_zero (by omega)
      subst hys
      have hus : us = [] := List.eq_nil_of_length_eq_zero (by simpa using hlu)
      subst hus
      refine ⟨vx, w, s, p, .slc ie.size xs ox, hexec _ _ ?_, .refl w p, .refl s w p, hst.wf, .inl ⟨rfl, hox, rfl, rfl⟩, ?_⟩
      · have hz : (match d' with | .int _ => true | _ => false) = false := by cases d' <;> first | rfl | exact absurd rfl (hd' _)
        have hle : xs.length ≤ vc := by omega
        have hfc := hu4 P w (fun _ _ _ => rfl)
        simp only [List.length_nil] at hfc hu3
        have hl0 := hu3 P
        rw [hv5]
        cases vb with
        | none => simp [Builtin.append_, run_underlying h2, run_underlying g2, sizeOf, typeInfo, k1, hz, hl0, k4, hfc, hle, flat]
        | some ad => simp [Builtin.append_, run_underlying h2, run_underlying g2, sizeOf, typeInfo, k1, hz, hl0, k4, hfc, hle, flat, storeCells]
      · rcases hsx with rfl | rfl
        · cases hrx with
          | slcNil _ _ h => exact .slcNil _ _ h
          | slcZ a _ _ h => exact .slcZ a _ _ h
          | slc g off n cap _ vs' _ _ hn hl hc hr hs hm hk hcl ho =>
            have : vs' = [] := List.eq_nil_of_length_eq_zero (by rw [hr.length]; rfl)
            subst this
            exact .slc g off n cap _ [] _ _ hn hl hc hr (by simp) hm hk hcl (fun b hb => by rcases hox with rfl | rfl <;> cases hb)
        · exact hrx
  · by_cases hlt : vc < xs.length + ys.length
    · obtain ⟨val, w', s', p', x', r1, r2, r3, r4, r5, r6⟩ := hgrow (s.del b) (.inr ⟨b, rfl, rfl⟩) hlt
      exact ⟨val, w', s', p', x', hexec _ _ r1, r2, r3, r4, .inr ⟨_, .inr ⟨b, rfl, rfl⟩, r5⟩, r6⟩
    · cases hrx with
      | slcNil _ _ h => exact absurd rfl (h b)
      | slcZ _ _ _ h => rcases h with h | h <;> cases h
      | slc g off n cap _ vs' _ _ hn hl hc hr hs hm hk hcl ho =>
        obtain ⟨rfl, rfl, e', hshape⟩ := ho b rfl
        obtain ⟨cur, c1, c2, ⟨cap', c3⟩, c4⟩ := hst.wf.obj _ _ hsb
        simp only [Value.slice.injEq] at hv5
        obtain ⟨rfl, -, rfl⟩ := hv5
        have hcur : cur.size = cap * sx := by
          simp only [World.shape?, c1] at hshape
          simpa using congrArg Prod.snd (Option.some.inj hshape)
        have hcur' : cur.size = cap * ie.size := by rw [← hsx']; exact hcur
        have htake : cur.toList.take (xs.length * ie.size) = flat vs := by
          have e1 := hv4 P w (fun _ _ _ => rfl)
          have e2 := run_firstCells_some (P := P) w ie.size xs.length ⟨b, 0, none⟩ n cap (cur.toList.take (xs.length * ie.size))
            (by have hcl : cur.toList.length = cap * ie.size := by rw [Array.length_toList, hcur']
                rw [List.length_take, hcl]; have := Nat.mul_le_mul_right ie.size (show xs.length ≤ cap by omega); omega)
            (fun j u hu => by
              rw [add_none, Nat.zero_add, cells_of_box c1]
              rw [List.getElem?_take] at hu
              split at hu
              · simpa using hu
              · cases hu)
          rw [e2] at e1
          have := Result.ok.inj e1
          simpa using this.1
        have hrun := run_append_room2 (ty := o.type) w h2 g2 hd' k1 b xs.length cap cur c1 (hu3 P) (by rw [k4]; exact hu4 P w (fun _ _ _ => rfl)) hone (by omega) (by rw [k4, hfu, hcur', hlu, ← Nat.add_mul]; exact Nat.mul_le_mul_right _ (by omega))
        rw [k4] at hrun
        obtain ⟨p', r1, r2, r3, r4⟩ := row_grow hst.wf hsb c1 hcur' rfl hv1 hu1 hv2 hu2 htake (by rw [hlu]; omega) (by rw [hlu]; exact h63)
        rw [hlu] at r2 r3 r4
        subst hl
        exact ⟨_, _, _, p', _, hexec _ _ hrun, r1, r2, r3, .inr ⟨_, .inr ⟨_, rfl, rfl⟩, _, Store.del_same _ _, rfl, rfl⟩, r4⟩
end
end Go.AE

/- The abstract walk: calls, a function's contract out of its body's walk; elements by computed indexes; panics. -/
namespace Go.AE

inductive AOut where
  | ret (v : AV)
  | panic (v : AV)

def OutRel (w : World) (p : Prot) : Ending → AOut → Prop
  | .returned v, .ret x => Rel w p v x
  | .panicked ch, .panic x => ∃ v, ch = [{ v, recovered := false }] ∧ Rel w p v x
  | _, _ => False

def APost (s : Store) (w : World) (p : Prot) (R : AOut → Store → Prop) (e : Ending) (w' : World) : Prop :=
  ∃ o s' p', OutRel w' p' e o ∧ R o s' ∧ Le w p w' p' ∧ Kept s s' w p w' p' ∧ Wf w' p' s'

/-- The call of a value. -/
def ACallV (P : Program) (fv : AV) (args : List AV) (s : Store) (R : AOut → Store → Prop) : Prop :=
  ∀ w p v vs, Wf w p s → Rel w p v fv → RelL w p vs args → ResDoes P ((do let d ← Deferred.ofValue v vs.toArray; invoke d.target d.args : Sem Next).run P w) (APost s w p R)

def Callable (P : Program) (f : FuncId) : Prop := ∀ args w, (callFunc f args).run P w = .ok (.enter f args) w

/-- The call of a function by its number: its contract. -/
def ACalls (P : Program) (f : FuncId) (args : List AV) (s : Store) (R : AOut → Store → Prop) : Prop :=
  Callable P f ∧ ∀ w p vs, Wf w p s → RelL w p vs args → CallsX P f vs.toArray w (APost s w p R)

theorem callable_of {P : Program} {f : FuncId} {fn : Func} (hf : P.funcs[f]? = some fn) (hn : (fn.name == "runtime.NumGoroutine") = false) (hb : fn.body.isNone = false) : Callable P f := by
  intro args w
  unfold callFunc
  simp only [Sem.run_bind, run_program, Result.andThen_ok, hf, hn, hb, Bool.false_eq_true, if_false, Sem.run_pure]

theorem APost.mono {s : Store} {w : World} {p : Prot} {R R' : AOut → Store → Prop} (hr : ∀ o s, R o s → R' o s) {e : Ending} {w' : World} (h : APost s w p R e w') : APost s w p R' e w' :=
  let ⟨o, s', p', h1, h2, h3⟩ := h; ⟨o, s', p', h1, hr _ _ h2, h3⟩

theorem ACallV.mono {P : Program} {fv : AV} {args : List AV} {s : Store} {R R' : AOut → Store → Prop} (h : ACallV P fv args s R) (hr : ∀ o s, R o s → R' o s) : ACallV P fv args s R' :=
  fun w p v vs h1 h2 h3 => (h w p v vs h1 h2 h3).mono fun _ _ q => q.mono hr

theorem ACalls.mono {P : Program} {f : FuncId} {args : List AV} {s : Store} {R R' : AOut → Store → Prop} (h : ACalls P f args s R) (hr : ∀ o s, R o s → R' o s) : ACalls P f args s R' :=
  ⟨h.1, fun w p vs h1 h2 => (h.2 w p vs h1 h2).mono fun _ _ q => q.mono hr⟩

theorem ACallV.of_calls {P : Program} {f : FuncId} {first cap args : List AV} {s : Store} {R : AOut → Store → Prop} (h : ACalls P f (first ++ (args ++ cap)) s R) : ACallV P (.func f first cap) args s R := by
  intro w p v vs hwf hv hvs
  cases hv with
  | func _ as cs _ _ ha hc =>
  have hrun : (do let d ← Deferred.ofValue (.func (.func f) as cs) vs.toArray; invoke d.target d.args : Sem Next).run P w = .ok (.enter f (as ++ vs.toArray ++ cs)) w := by
    simp only [Deferred.ofValue, Sem.run_bind, Sem.run_pure, Result.andThen_ok, invoke]
    exact h.1 _ _
  rw [hrun]
  have := h.2 w p (as.toList ++ (vs ++ cs.toList)) hwf (ha.append (hvs.append hc))
  have e : (as.toList ++ (vs ++ cs.toList)).toArray = as ++ vs.toArray ++ cs := by apply Array.ext'; simp
  rw [e] at this
  exact this

section
variable {P : Program} {Γ : Tys} {N : Nat} {env : Env} {s : Store}

theorem OW.call {o : Oper} {g : Operand} {as : Array Operand} {ats : Array TypeId} {fv : AV} {xs : List AV} {R : AOut → Store → Prop}
    (ho : o.op = .call { callee := .value g, args := as, argTypes := ats }) (hg : ev env g = some fv) (ha : evs env as.toList = some xs) (h : ACallV P fv xs s R) :
    OW P N o env s (fun x s' => R (.ret x) s') (fun x s' => R (.panic x) s') := by
  refine ⟨by simp [noDefer, ho], fun ro B a w p hst => ?_⟩
  have hrun := h w p (a.eval g) (as.toList.map a.eval) hst.wf (hst.ev hg) (evs_rel hst ha)
  have he : execOp a.eval o = (do let d ← Deferred.ofValue (a.eval g) (as.toList.map a.eval).toArray; invoke d.target d.args : Sem Next) := by
    unfold execOp
    rw [ho]
    simp only [resolve]
    congr 1
    congr 1
    apply Array.ext'; simp
  rw [he]
  refine hrun.mono ?_
  rintro e w' ⟨out, s', p', h1, h2, h3, h4, h5⟩
  refine ⟨s', p', h3, h4, h5, ?_⟩
  cases e <;> cases out <;> first | exact h1.elim | skip
  · exact ⟨_, h2, h1⟩
  · obtain ⟨v, h1a, h1b⟩ := h1; exact ⟨v, _, h1a, h2, h1b⟩

/-- A region's step: the call of a named function, by its contract. -/
theorem RW.call {ops : Array Oper} {Q : AEx → Env → Store → Prop} {i : Nat} {l : List Nat} {o : Oper} {d : Nat} {f : FuncId} {as : Array Operand} {ats : Array TypeId} {xs : List AV} {R : AOut → Store → Prop}
    (ho : ops[i]? = some o) (hg : guardOf ops env o = some true) (hd : o.dst = some d) (hN : Nat.blt d N = true) (hop : o.op = .call { callee := .value (.func f), args := as, argTypes := ats })
    (ha : evs env as.toList = some xs) (h : ACalls P f xs s R) (hk : ∀ x s', R (.ret x) s' → RW P N ops l Q ((d, x) :: env) s') (hx : ∀ x s', R (.panic x) s' → Q (.panic x) env s') :
    RW P N ops (i :: l) Q env s :=
  RW.op ho hg hd hN (OW.call hop (fv := .func f [] []) rfl ha (ACallV.of_calls (by simpa using h))) hk hx

/-- The call of a function value. -/
theorem RW.callV {ops : Array Oper} {Q : AEx → Env → Store → Prop} {i : Nat} {l : List Nat} {o : Oper} {d : Nat} {g : Operand} {fv : AV} {as : Array Operand} {ats : Array TypeId} {xs : List AV} {R : AOut → Store → Prop}
    (ho : ops[i]? = some o) (hg : guardOf ops env o = some true) (hd : o.dst = some d) (hN : Nat.blt d N = true) (hop : o.op = .call { callee := .value g, args := as, argTypes := ats })
    (hv : ev env g = some fv) (ha : evs env as.toList = some xs) (h : ACallV P fv xs s R) (hk : ∀ x s', R (.ret x) s' → RW P N ops l Q ((d, x) :: env) s') (hx : ∀ x s', R (.panic x) s' → Q (.panic x) env s') :
    RW P N ops (i :: l) Q env s :=
  RW.op ho hg hd hN (OW.call hop hv ha h) hk hx

/-- The method's function, where the receiver is a value of a type that is no pointer. -/
def MethodIs (P : Program) (t : TypeId) (name : String) (f : FuncId) : Prop := ∀ v w, (method (P.types.size + Made.depth) t v name).run P w = .ok (f, v) w

theorem methodIs_of {P : Program} {t : TypeId} {name : String} {f : FuncId} {info : TypeInfo} {m : Method} {d : TypeDesc} (hi : P.info? t = some info) (hm : info.methods.find? (·.name == name) = some m) (hp : m.path = #[])
    (hf : m.func = some (f, false)) (hd : P.underlying t = some d) (hnp : ∀ e, d ≠ .pointer e) (hpos : ∃ n, P.types.size + Made.depth = n + 1) : MethodIs P t name f := by
  intro v w
  obtain ⟨n, hn⟩ := hpos
  rw [hn]
  unfold method
  simp only [Sem.run_bind, typeInfo, run_program, Result.andThen_ok, hi, Sem.run_pure, hm, hp, follow, hf, receiverAt, run_underlying hd]
  cases d <;> first | exact absurd rfl (hnp _) | rfl

theorem invoke_method {name : String} {cap args : Array Value} : Go.invoke (.fn (.method name) cap) args = (match args[0]? with
    | some recv => callMethod recv name (args.extract 1 args.size)
    | none => stuck "call: a method without a receiver") := by
  cases h : args[0]? <;> simp [Go.invoke, h]

theorem OW.invoke {o : Oper} {g : Operand} {name : String} {as : Array Operand} {ats : Array TypeId} {t : TypeId} {v : AV} {f : FuncId} {xs : List AV} {R : AOut → Store → Prop}
    (ho : o.op = .call { callee := .invoke g name, args := as, argTypes := ats }) (hg : ev env g = some (.iface t v)) (ha : evs env as.toList = some xs) (hm : MethodIs P t name f) (h : ACalls P f (v :: xs) s R) :
    OW P N o env s (fun x s' => R (.ret x) s') (fun x s' => R (.panic x) s') := by
  refine ⟨by simp [noDefer, ho], fun ro B a w p hst => ?_⟩
  have hgr := hst.ev hg
  generalize hvg : a.eval g = vg at hgr
  cases hgr with
  | iface _ val _ hval =>
  have hrun : (execOp a.eval o).run P w = .ok (.enter f (#[val] ++ (as.map a.eval))) w := by
    unfold execOp
    rw [ho]
    have hex : (#[Value.iface t val] ++ as.map a.eval).extract 1 (#[Value.iface t val] ++ as.map a.eval).size = as.map a.eval := by
      apply Array.ext'; simp [Array.toList_extract, List.take_of_length_le]
    have h0 : (#[Value.iface t val] ++ as.map a.eval)[0]? = some (Value.iface t val) := by
      rw [Array.getElem?_append_left (by simp)]; rfl
    simp only [resolve, hvg, Sem.run_bind, Sem.run_pure, Result.andThen_ok]
    rw [AE.invoke_method, h0]
    simp only [hex, callMethod, Sem.run_bind, run_program, Result.andThen_ok, hm val w]
    exact h.1 _ _
  rw [hrun]
  have := h.2 w p (val :: as.toList.map a.eval) hst.wf (.cons _ _ _ _ hval (evs_rel hst ha))
  have e : (val :: as.toList.map a.eval).toArray = #[val] ++ (as.map a.eval) := by apply Array.ext'; simp
  rw [e] at this
  refine this.mono ?_
  rintro e w' ⟨out, s', p', h1, h2, h3, h4, h5⟩
  refine ⟨s', p', h3, h4, h5, ?_⟩
  cases e <;> cases out <;> first | exact h1.elim | skip
  · exact ⟨_, h2, h1⟩
  · obtain ⟨v, h1a, h1b⟩ := h1; exact ⟨v, _, h1a, h2, h1b⟩

theorem OW.panic {o : Oper} {x : Operand} {t : TypeId} {v : AV} (ho : o.op = .panic x) (hx : ev env x = some (.iface t v)) {K : AV → Store → Prop} : OW P N o env s K (fun u s' => u = .iface t v ∧ s' = s) := by
  refine ⟨by simp [noDefer, ho], fun ro B a w p hst => ?_⟩
  have hr := hst.ev hx
  generalize hv : a.eval x = vx at hr
  cases hr with
  | iface _ val _ hval =>
  have hrun : (execOp a.eval o).run P w = .halt (.panic (.iface t val)) w := by
    unfold execOp
    rw [ho]
    simp only [hv, Instr.panic, Sem.run_bind, run_goPanic, Result.andThen_halt]
  rw [hrun]
  exact ⟨s, p, .refl w p, .refl s w p, hst.wf, _, _, rfl, ⟨rfl, rfl⟩, .iface _ _ _ hval⟩

theorem flat_get {sz : Nat} : ∀ {vs : List Value} (_ : ∀ v ∈ vs, v.cells.size = sz) {j : Nat} {v : Value} (_ : vs[j]? = some v) (k : Nat) {u : Value} (_ : v.cells.toList[k]? = some u), (flat vs)[j * sz + k]? = some u := by
  intro vs
  induction vs with
  | nil => intro _ j v hv; simp at hv
  | cons x vs ih =>
    intro hs j v hv k u hu
    have hx := hs x (List.mem_cons_self ..)
    simp only [flat, List.flatMap_cons]
    cases j with
    | zero =>
      simp at hv; subst hv
      rw [Nat.zero_mul, Nat.zero_add, List.getElem?_append_left (List.getElem?_eq_some_iff.1 hu).1]; exact hu
    | succ j =>
      have hl : x.cells.toList.length = sz := by rw [Array.length_toList, hx]
      have := ih (fun v hv => hs v (List.mem_cons_of_mem _ hv)) (by simpa using hv) k hu
      rw [List.getElem?_append_right (by rw [hl, Nat.add_mul]; omega), hl]
      have he : (j + 1) * sz + k - sz = j * sz + k := by rw [Nat.add_mul]; omega
      rw [he]; exact this

theorem OW.idx (hΓ : TysOk P Γ) {o : Oper} {t e : TypeId} {x y : Operand} {it ie : TI} {xs : List AV} {own : Own} {k : IntKind} {i : Int} {j : Nat} {v : AV} {cs : List AV} (ho : o.op = .indexAddr t x y)
    (ht : Γ.get? t = some it) (htd : it.td = .slc e) (hie : Γ.get? e = some ie) (hx : ev env x = some (.slc ie.size xs own)) (hy : ev env y = some (.int k i)) (hij : i = (j : Int)) (hj : xs[j]? = some v)
    (hc : cellsOf v = some cs) {X : AV → Store → Prop} : OW P N o env s (fun r s' => r = .fptr cs 0 ∧ s' = s) X := by
  refine OW.of_run (by simp [noDefer, ho]) fun ro B a w p hst => ?_
  obtain ⟨info, d, h1, h2, h3, -⟩ := hΓ.parts ht
  obtain ⟨infoe, de, k1, k2, k3, k4, -⟩ := hΓ.parts hie
  have hd : d = .slice e := by rw [htd] at h3; cases d <;> simp [tdOf] at h3; rw [h3]
  subst hd
  have hr := hst.ev hx
  have hri := hst.ev hy
  generalize hvx : a.eval x = vx at hr
  generalize hvy : a.eval y = vy at hri
  cases hri
  subst hij
  have hjl : j < xs.length := (List.getElem?_eq_some_iff.1 hj).1
  cases hr with
  | slcNil => simp at hj
  | slcZ => simp at hj
  | slc g off n cap _ vs _ _ hn hl hcl hrl hs hm hk hclip ho' =>
  obtain ⟨u, hu, hur⟩ := hrl.get hj
  have hcr := cellsOf_rel hur hc
  refine ⟨.pointer (some ⟨g, off + j * ie.size, none⟩), w, s, p, _, ?_, .refl w p, .refl s w p, hst.wf, ⟨rfl, rfl⟩, .fptr g (off + j * ie.size) _ 0 u.cells.toList cs rfl ?_ hcr⟩
  · unfold execOp
    rw [ho]
    simp only [hvx, hvy]
    refine run_v ?_
    have hlt : (0 : Int) ≤ (j : Int) ∧ (j : Int) < (n : Int) := by omega
    simp [Instr.indexAt, asIntOf, run_underlying h2, hlt.2, sizeOf, typeInfo, k1, k4, add_none]
    intro hge; omega
  · intro i v' hv'
    have := hcl (j * ie.size + i) v' (flat_get hs hu i hv')
    rw [← Nat.add_assoc] at this
    exact this

theorem OW.strIdx (hΓ : TysOk P Γ) {o : Oper} {t : TypeId} {x y : Operand} {it : TI} {l : List UInt8} {k : IntKind} {i : Int} {j : Nat} {b : UInt8} (ho : o.op = .index t x y)
    (ht : Γ.get? t = some it) (htd : it.td = .str) (hx : ev env x = some (.str l)) (hy : ev env y = some (.int k i)) (hij : i = (j : Int)) (hj : l[j]? = some b) {X : AV → Store → Prop} :
    OW P N o env s (fun r s' => r = .int .u8 b.toNat ∧ s' = s) X := by
  refine OW.of_run (by simp [noDefer, ho]) fun ro B a w p hst => ?_
  obtain ⟨info, d, h1, h2, h3, -⟩ := hΓ.parts ht
  have hd : d = .string := by rw [htd] at h3; cases d <;> simp [tdOf] at h3; rfl
  subst hd
  have hr := hst.ev hx
  have hri := hst.ev hy
  generalize hvx : a.eval x = vx at hr
  generalize hvy : a.eval y = vy at hri
  cases hri
  subst hij
  cases hr with
  | str bb _ e =>
  have hg : bb[j]? = some b := by
    rw [← e] at hj
    have : bb.data[j]? = some b := by simpa using hj
    exact this
  refine ⟨.int .u8 b.toNat, w, s, p, _, ?_, .refl w p, .refl s w p, hst.wf, ⟨rfl, rfl⟩, .int _ _⟩
  unfold execOp
  rw [ho]
  simp only [hvx, hvy]
  refine run_v ?_
  simp [Instr.index, asIntOf, run_underlying h2, hg]
end
end Go.AE

/- The abstract walk: operations that only compute and whose side conditions are propositions: indices, parts of slices, texts, quotients. -/
namespace Go.AE

/-- The extras that are reckoned without a condition. -/
def aopX (Γ : Tys) (o : Oper) (env : Env) : Option AV :=
  match o.op with
  | .binOp .quo _ x (.const (.int k (.ofNat (n + 1)))) _ => match ev env x with
    | some (.int k' a) => if k' = k then some (.int k (k.wrap (a.tdiv (Int.ofNat (n + 1))))) else none
    | _ => none
  | .binOp .rem _ x (.const (.int k (.ofNat (n + 1)))) _ => match ev env x with
    | some (.int k' a) => if k' = k then some (.int k (a.tmod (Int.ofNat (n + 1)))) else none
    | _ => none
  | .convert s d x => match Γ.get? s, Γ.get? d with
    | some ⟨.int _, _, _, _⟩, some ⟨.int k, _, _, _⟩ => match ev env x with
      | some (.int _ n) => some (.int k (k.wrap n))
      | _ => none
    | _, _ => none
  | .call { callee := .builtin .max, args, argTypes := _ } => match args.toList with
    | [x, y] => match ev env x, ev env y with
      | some (.int k a), some (.int _ b) => some (.int k (if b > a then b else a))
      | _, _ => none
    | _ => none
  | .call { callee := .builtin .min, args, argTypes := _ } => match args.toList with
    | [x, y] => match ev env x, ev env y with
      | some (.int k a), some (.int _ b) => some (.int k (if b < a then b else a))
      | _, _ => none
    | _ => none
  | _ => none

section
variable {P : Program} {Γ : Tys} (hΓ : TysOk P Γ) {N B : Nat} {ro : Option Nat} {env : Env} {s : Store} {a : Act} {w : World} {p : Prot} (hst : St N B ro env s a w p)
theorem pure_binV {o : Oper} {op : BinOp} {t yt : TypeId} {x y : Operand} {v : Value} {r : AV} (ho : o.op = .binOp op t x y yt)
    (h1 : (eqGuard op t x y (a.eval x) (a.eval y)).run P w = .ok () w) (h2 : (binOp op t (a.eval x) (a.eval y)).run P w = .ok v w) (hr : Rel w p v r) : PureRes P o a w p r := by
  refine .same (val := v) ?_ hr
  unfold execOp
  rw [ho]
  refine run_v ?_
  rw [Sem.run_bind, h1, Result.andThen_ok, h2]

include hst
include hΓ

theorem aopX_ok {o : Oper} {v : AV} (h : aopX Γ o env = some v) : PureRes P o a w p v := by
  unfold aopX at h
  split at h
  · rename_i t x k n yt ho
    split at h
    · rename_i k' u hx
      split at h
      · rename_i hk
        cases h; subst hk
        have h1 := hst.ev hx
        generalize hv : a.eval x = vx at h1
        cases h1
        refine pure_binV (v := .int k' (k'.wrap (u.tdiv (Int.ofNat (n + 1))))) ho ?_ ?_ (.int _ _)
        · rfl
        · rw [hv]
          have hn : ¬ (Int.ofNat (n + 1) = 0) := by simp; omega
          simp only [Act.eval, binOp, Op.intDiv, ne_eq, not_true_eq_false, if_false, hn, Sem.run_pure]
      · cases h
    · cases h
  · rename_i t x k n yt ho
    split at h
    · rename_i k' u hx
      split at h
      · rename_i hk
        cases h; subst hk
        have h1 := hst.ev hx
        generalize hv : a.eval x = vx at h1
        cases h1
        refine pure_binV (v := .int k' (u.tmod (Int.ofNat (n + 1)))) ho ?_ ?_ (.int _ _)
        · rfl
        · rw [hv]
          have hn : ¬ (Int.ofNat (n + 1) = 0) := by simp; omega
          simp only [Act.eval, binOp, Op.intDiv, ne_eq, not_true_eq_false, if_false, hn, Sem.run_pure]
      · cases h
    · cases h
  · rename_i sT d x ho
    split at h
    · rename_i k0 a1 a2 a3 k b1 b2 b3 hs hd
      split at h
      · rename_i k1 n hx
        cases h
        obtain ⟨info, d1, h1, h2, h3, -⟩ := hΓ.parts hs
        obtain ⟨info', d1', h1', h2', h3', -⟩ := hΓ.parts hd
        have e1 : d1' = .int k := by cases d1' <;> simp [tdOf] at h3'; rw [h3']
        have hr := hst.ev hx
        generalize hv : a.eval x = vx at hr
        cases hr
        refine .same (val := .int k (k.wrap n)) ?_ (.int _ _)
        unfold execOp
        rw [ho]
        refine run_v ?_
        subst e1
        rw [hv]
        cases d1 <;> simp [tdOf] at h3
        simp [convert, run_underlying h2, run_underlying h2', Conv.intToInt]
      · cases h
    · cases h
  · rename_i args ts ho
    split at h
    · rename_i x y hl
      have ea : args = #[x, y] := by apply Array.ext'; simpa using hl
      subst ea
      split at h
      · rename_i k u k' v' hx hy
        cases h
        have h1 := hst.ev hx
        have h2 := hst.ev hy
        generalize hvx : a.eval x = vx at h1
        generalize hvy : a.eval y = vy at h2
        cases h1; cases h2
        refine .same (val := .int k (if v' > u then v' else u)) ?_ (.int _ _)
        unfold execOp
        rw [ho]
        simp only [resolve, invoke, builtin, Sem.run_bind, Sem.run_pure, Result.andThen_ok, List.map_toArray, List.map_cons, List.map_nil, hvx, hvy, run_max_int2]
      · cases h
    · cases h
  · rename_i args ts ho
    split at h
    · rename_i x y hl
      have ea : args = #[x, y] := by apply Array.ext'; simpa using hl
      subst ea
      split at h
      · rename_i k u k' v' hx hy
        cases h
        have h1 := hst.ev hx
        have h2 := hst.ev hy
        generalize hvx : a.eval x = vx at h1
        generalize hvy : a.eval y = vy at h2
        cases h1; cases h2
        refine .same (val := .int k (if v' < u then v' else u)) ?_ (.int _ _)
        unfold execOp
        rw [ho]
        simp only [resolve, invoke, builtin, Sem.run_bind, Sem.run_pure, Result.andThen_ok, List.map_toArray, List.map_cons, List.map_nil, hvx, hvy, run_min_int2]
      · cases h
    · cases h
  · cases h

omit hst hΓ in
theorem aopX_noDefer {o : Oper} {v : AV} (h : aopX Γ o env = some v) : noDefer o = true := by
  unfold noDefer
  cases ho : o.op <;> first | rfl | (unfold aopX at h; rw [ho] at h; cases h)

omit hΓ in
theorem pure_cat {o : Oper} {t yt : TypeId} {x y : Operand} {u v : List UInt8} (ho : o.op = .binOp .add t x y yt) (hx : ev env x = some (.str u)) (hy : ev env y = some (.str v)) (hl : u.length + v.length ≤ 9223372036854775807) :
    PureRes P o a w p (.str (u ++ v)) := by
  have h1 := hst.ev hx
  have h2 := hst.ev hy
  generalize hvx : a.eval x = vx at h1
  generalize hvy : a.eval y = vy at h2
  cases h1 with | str b1 _ e1 => cases h2 with | str b2 _ e2 =>
  refine pure_binV (v := .string (b1 ++ b2)) ho ?_ ?_ ?_
  · exact rfl
  · rw [hvx, hvy]
    have hs : ¬ ((b1.size + b2.size : Nat) : Int) > IntKind.i64.max := by
      have a1 : b1.size = u.length := by rw [← e1]; simp
      have a2 : b2.size = v.length := by rw [← e2]; simp
      have : IntKind.i64.max = 9223372036854775807 := by decide
      rw [a1, a2, this]; omega
    simp only [binOp, Op.stringOp, if_neg hs, Sem.run_pure]
  · exact .str _ _ (by rw [← e1, ← e2]; simp [ByteArray.data_append])

theorem pure_idx {o : Oper} {t e : TypeId} {x y : Operand} {it ie : TI} {sz : Nat} {xs : List AV} {own : Own} {k : IntKind} {i : Int} {j : Nat} {v : AV} {cs : List AV} (ho : o.op = .indexAddr t x y)
    (ht : Γ.get? t = some it) (htd : it.td = .slc e) (hie : Γ.get? e = some ie) (hx : ev env x = some (.slc sz xs own)) (hsz : sz = ie.size) (hy : ev env y = some (.int k i)) (hij : i = (j : Int)) (hj : xs[j]? = some v)
    (hc : cellsOf v = some cs) : PureRes P o a w p (.fptr cs 0) := by
  subst hsz
  obtain ⟨info, d, h1, h2, h3, -⟩ := hΓ.parts ht
  obtain ⟨infoe, de, k1, k2, k3, k4, -⟩ := hΓ.parts hie
  have hd : d = .slice e := by rw [htd] at h3; cases d <;> simp [tdOf] at h3; rw [h3]
  subst hd
  have hr := hst.ev hx
  have hri := hst.ev hy
  generalize hvx : a.eval x = vx at hr
  generalize hvy : a.eval y = vy at hri
  cases hri
  subst hij
  have hjl : j < xs.length := (List.getElem?_eq_some_iff.1 hj).1
  cases hr with
  | slcNil => simp at hj
  | slcZ => simp at hj
  | slc g off n cap _ vs _ _ hn hl hcl hrl hs hm hk hclip ho' =>
  obtain ⟨u, hu, hur⟩ := hrl.get hj
  have hcr := cellsOf_rel hur hc
  refine .same (val := .pointer (some ⟨g, off + j * ie.size, none⟩)) ?_ (.fptr g (off + j * ie.size) _ 0 u.cells.toList cs rfl ?_ hcr)
  · unfold execOp
    rw [ho]
    simp only [hvx, hvy]
    refine run_v ?_
    have hlt : (0 : Int) ≤ (j : Int) ∧ (j : Int) < (n : Int) := by omega
    simp [Instr.indexAt, asIntOf, run_underlying h2, hlt.2, sizeOf, typeInfo, k1, k4, add_none]
    intro hge; omega
  · intro i v' hv'
    have := hcl (j * ie.size + i) v' (flat_get hs hu i hv')
    rw [← Nat.add_assoc] at this
    exact this

theorem pure_strIdx {o : Oper} {t : TypeId} {x y : Operand} {it : TI} {l : List UInt8} {k : IntKind} {i : Int} {j : Nat} {b : UInt8} (ho : o.op = .index t x y)
    (ht : Γ.get? t = some it) (htd : it.td = .str) (hx : ev env x = some (.str l)) (hy : ev env y = some (.int k i)) (hij : i = (j : Int)) (hj : l[j]? = some b) :
    PureRes P o a w p (.int .u8 b.toNat) := by
  obtain ⟨info, d, h1, h2, h3, -⟩ := hΓ.parts ht
  have hd : d = .string := by rw [htd] at h3; cases d <;> simp [tdOf] at h3; rfl
  subst hd
  have hr := hst.ev hx
  have hri := hst.ev hy
  generalize hvx : a.eval x = vx at hr
  generalize hvy : a.eval y = vy at hri
  cases hri
  subst hij
  cases hr with
  | str bb _ e =>
  have hg : bb[j]? = some b := by
    rw [← e] at hj
    have : bb.data[j]? = some b := by simpa using hj
    exact this
  refine .same (val := .int .u8 b.toNat) ?_ (.int _ _)
  unfold execOp
  rw [ho]
  simp only [hvx, hvy]
  refine run_v ?_
  simp [Instr.index, asIntOf, run_underlying h2, hg]

omit hst hΓ in
theorem flat_drop {sz : Nat} : ∀ {vs : List Value} (_ : ∀ v ∈ vs, v.cells.size = sz) (l : Nat) (i : Nat), l ≤ vs.length → (flat (vs.drop l))[i]? = (flat vs)[l * sz + i]? := by
  intro vs
  induction vs with
  | nil => intro _ l i hl; have : l = 0 := by simpa using hl
           subst this; simp
  | cons v vs ih =>
    intro hs l i hl
    cases l with
    | zero => simp
    | succ l =>
      have hv := hs v (List.mem_cons_self ..)
      rw [List.drop_succ_cons, ih (fun v hv => hs v (List.mem_cons_of_mem _ hv)) l i (by simpa using hl)]
      simp only [flat, List.flatMap_cons]
      rw [List.getElem?_append_right (by rw [Array.length_toList, hv, Nat.add_mul]; omega), Array.length_toList, hv]
      congr 1
      rw [Nat.add_mul]; omega

omit hst hΓ in
theorem flat_take_get {vs : List Value} (h : Nat) {i : Nat} {u : Value} (hu : (flat (vs.take h))[i]? = some u) : (flat vs)[i]? = some u := by
  have : flat vs = flat (vs.take h) ++ flat (vs.drop h) := by rw [← flat_append, List.take_append_drop]
  rw [this, List.getElem?_append_left (List.getElem?_eq_some_iff.1 hu).1]; exact hu

/-- An operand of a part, if there is one. -/
def boundA (env : Env) (o : Option Operand) (n : Nat) : Prop := match o with
  | none => True
  | some y => ∃ k, ev env y = some (.int k (n : Int))

theorem pure_slice {o : Oper} {t e : TypeId} {x : Operand} {lo hi mx : Option Operand} {it ie : TI} {sz : Nat} {xs : List AV} {own own' : Own} {l h : Nat} (ho : o.op = .slice t x lo hi mx)
    (ht : Γ.get? t = some it) (htd : it.td = .slc e) (hie : Γ.get? e = some ie) (hx : ev env x = some (.slc sz xs own)) (hsz : xs = [] ∨ sz = ie.size)
    (hlo : (lo = none ∧ l = 0) ∨ ∃ y k, lo = some y ∧ ev env y = some (.int k (l : Int))) (hhi : (hi = none ∧ mx = none ∧ h = xs.length) ∨ ∃ y k, hi = some y ∧ ev env y = some (.int k (h : Int)))
    (hmx : (mx = none ∧ own' = .fro) ∨ (∃ y k, mx = some y ∧ ev env y = some (.int k (h : Int)) ∧ own' = .clip)) (hl : l ≤ h) (hh : h ≤ xs.length) : PureRes P o a w p (.slc sz ((xs.take h).drop l) own') := by
  obtain ⟨info, d, h1, h2, h3, -⟩ := hΓ.parts ht
  obtain ⟨infoe, de, k1, k2, k3, k4, -⟩ := hΓ.parts hie
  have hd : d = .slice e := by rw [htd] at h3; cases d <;> simp [tdOf] at h3; rw [h3]
  subst hd
  have hnb : ∀ b, own' ≠ .own b := by rcases hmx with ⟨-, rfl⟩ | ⟨_, _, -, -, rfl⟩ <;> simp
  have hnn : own' ≠ .nil := by rcases hmx with ⟨-, rfl⟩ | ⟨_, _, -, -, rfl⟩ <;> simp
  have hev : ∀ {y k} {n : Nat}, ev env y = some (.int k (n : Int)) → a.eval y = .int k (n : Int) := fun he => by
    have := hst.ev he
    generalize a.eval _ = v at this ⊢
    cases this; rfl
  -- the bounds
  have hbounds : ∀ (cap : Nat), xs.length ≤ cap → ∃ m, (Instr.sliceBounds true xs.length cap (lo.map a.eval) (hi.map a.eval) (mx.map a.eval)).run P w = .ok (l, h, m) w ∧ h ≤ m ∧ m ≤ cap ∧ (own' = .clip → m = h) := by
    intro cap hcap
    have hn : ∀ n : Nat, (0 : Int) ≤ (n : Int) := fun n => by omega
    have hlh : (l : Int) ≤ (h : Int) := by omega
    have hhc : (h : Int) ≤ (cap : Int) := by omega
    rcases hmx with ⟨rfl, rfl⟩ | ⟨ym, km, rfl, hym, rfl⟩
    · rcases hhi with ⟨rfl, -, rfl⟩ | ⟨yh, kh, rfl, hyh⟩
      · refine ⟨cap, ?_, hcap, Nat.le_refl _, by simp⟩
        rcases hlo with ⟨rfl, rfl⟩ | ⟨yl, kl, rfl, hyl⟩
        · simp [Instr.sliceBounds]
        · simp [Instr.sliceBounds, hev hyl, run_sliceBound, hn, hlh]
      · refine ⟨cap, ?_, by omega, Nat.le_refl _, by simp⟩
        rcases hlo with ⟨rfl, rfl⟩ | ⟨yl, kl, rfl, hyl⟩
        · simp [Instr.sliceBounds, hev hyh, run_sliceBound, hn, hhc]
        · simp [Instr.sliceBounds, hev hyh, hev hyl, run_sliceBound, hn, hlh, hhc]
    · rcases hhi with ⟨-, h0, -⟩ | ⟨yh, kh, rfl, hyh⟩
      · cases h0
      · refine ⟨h, ?_, Nat.le_refl _, by omega, fun _ => rfl⟩
        rcases hlo with ⟨rfl, rfl⟩ | ⟨yl, kl, rfl, hyl⟩
        · simp [Instr.sliceBounds, hev hyh, hev hym, run_sliceBound, hn, hhc]
        · simp [Instr.sliceBounds, hev hyh, hev hyl, hev hym, run_sliceBound, hn, hlh, hhc]
  have hexec : ∀ base cap val, a.eval x = .slice base xs.length cap → xs.length ≤ cap → (∀ m, h ≤ m → m ≤ cap → (own' = .clip → m = h) → Rel w p (.slice (if m = l then base else base.map (·.add (l * ie.size))) (h - l) (m - l)) val) → PureRes P o a w p val := by
    intro base cap val hvx hcap hrel
    obtain ⟨m, hb, hm1, hm2, hm3⟩ := hbounds cap hcap
    refine .same ?_ (hrel m hm1 hm2 hm3)
    unfold execOp
    rw [ho]
    simp only [hvx]
    refine run_v ?_
    simp only [Instr.sliceAt, Instr.slice, Sem.run_bind, run_underlying h2, Result.andThen_ok, hb, sizeOf, typeInfo, run_program, k1, Sem.run_pure, k4]
  have hr := hst.ev hx
  generalize hvx : a.eval x = vx at hr
  cases hr with
  | slcNil _ _ _ =>
    refine hexec none 0 _ hvx (Nat.le_refl _) (fun m h1 h2 h3 => ?_)
    have e1 : h = 0 := by simpa using hh
    have e2 : l = 0 := by omega
    have e3 : m = 0 := by omega
    subst e1; subst e2; subst e3
    simp only [if_true, List.take_nil, List.drop_nil]
    exact .slcNil _ _ hnb
  | slcZ a _ _ _ =>
    refine hexec (some a) 0 _ hvx (Nat.le_refl _) (fun m h1 h2 h3 => ?_)
    have e1 : h = 0 := by simpa using hh
    have e2 : l = 0 := by omega
    have e3 : m = 0 := by omega
    subst e1; subst e2; subst e3
    simp only [if_true, List.take_nil, List.drop_nil]
    refine .slcZ a _ _ ?_
    cases own' with
    | fro => exact .inl rfl
    | clip => exact .inr rfl
    | nil => exact absurd rfl hnn
    | own b => exact absurd rfl (hnb b)
  | slc g off n cap _ vs _ _ hn hln hcl hrl hs hm hk hclip ho' =>
    subst hln
    refine hexec _ cap _ hvx hk (fun m h1 h2 h3 => ?_)
    have hlen : h - l = ((xs.take h).drop l).length := by simp; omega
    have hvl := hrl.length
    have hbase : ∃ off', (if m = l then (some ⟨g, off, none⟩ : Option Addr) else (some ⟨g, off, none⟩ : Option Addr).map (·.add (l * ie.size))) = some ⟨g, off', none⟩ ∧ (m ≠ l → off' = off + l * ie.size) := by
      by_cases e : m = l
      · exact ⟨off, by simp [e], fun h => absurd e h⟩
      · exact ⟨off + l * ie.size, by simp [e, add_none], fun _ => rfl⟩
    obtain ⟨off', hoff, hoff2⟩ := hbase
    rw [hoff]
    refine .slc g off' _ _ sz ((vs.take h).drop l) _ own' hnn hlen ?_ ((hrl.take h).drop l) (fun v hv => hs v (List.mem_of_mem_take (List.mem_of_mem_drop hv))) (by omega) (by omega) (fun hc => by have := h3 hc; omega) (fun b hb => absurd hb (hnb b))
    intro i u hu
    by_cases e : m = l
    · have : (vs.take h).drop l = [] := by apply List.drop_eq_nil_of_le; rw [List.length_take]; omega
      rw [this] at hu; simp [flat] at hu
    · rw [hoff2 e]
      have hsv : ∀ v ∈ vs.take h, v.cells.size = ie.size := by
        rcases hsz with rfl | rfl
        · have : vs = [] := List.eq_nil_of_length_eq_zero (by rw [hvl]; rfl)
          subst this; simp
        · exact fun v hv => hs v (List.mem_of_mem_take hv)
      rw [flat_drop hsv l i (by rw [List.length_take]; omega)] at hu
      have := hcl _ _ (flat_take_get h hu)
      rw [← Nat.add_assoc] at this
      exact this
end

/-- A row of bytes. -/
def bts (l : List UInt8) : List AV := l.map fun b => .int .u8 b.toNat

theorem bts_length (l : List UInt8) : (bts l).length = l.length := by simp [bts]

theorem relL_bts {w : World} {p : Prot} : ∀ (l : List UInt8), RelL w p (l.map fun b => Value.int .u8 b.toNat) (bts l)
  | [] => .nil
  | b :: l => .cons _ _ _ _ (.int _ _) (relL_bts l)

theorem rel_bts {w : World} {p : Prot} : ∀ {l : List UInt8} {vs : List Value}, RelL w p vs (bts l) → vs = l.map fun b => Value.int .u8 b.toNat
  | [], _, h => by cases h; rfl
  | b :: l, _, h => by
    cases h with | cons v _ vs _ h1 h2 =>
    cases h1
    rw [rel_bts h2]; rfl

section
variable {P : Program} {Γ : Tys} (hΓ : TysOk P Γ) {N B : Nat} {ro : Option Nat} {env : Env} {s : Store} {a : Act} {w : World} {p : Prot} (hst : St N B ro env s a w p)
include hst hΓ

omit hst hΓ in
theorem flat_bts : ∀ (l : List UInt8), flat (l.map fun b => Value.int .u8 b.toNat) = l.map fun b => Value.int .u8 b.toNat := by
  intro l
  induction l with
  | nil => rfl
  | cons b l ih => simp only [flat, List.map_cons, List.flatMap_cons, Value.cells] at ih ⊢; rw [ih]; rfl

theorem pure_toStr {o : Oper} {sT d e : TypeId} {x : Operand} {is id ie : TI} {sz : Nat} {l : List UInt8} {own : Own} (ho : o.op = .convert sT d x) (hs : Γ.get? sT = some is) (hd : Γ.get? d = some id) (hsd : is.td = .slc e) (hdd : id.td = .str)
    (he : Γ.get? e = some ie) (hed : ie.td = .int .u8) (hx : ev env x = some (.slc sz (bts l) own)) : PureRes P o a w p (.str l) := by
  obtain ⟨i1, d1, a1, a2, a3, -⟩ := hΓ.parts hs
  obtain ⟨i2, d2, b1, b2, b3, -⟩ := hΓ.parts hd
  obtain ⟨i3, d3, c1, c2, c3, -⟩ := hΓ.parts he
  have e1 : d1 = .slice e := by rw [hsd] at a3; cases d1 <;> simp [tdOf] at a3; rw [a3]
  have e2 : d2 = .string := by rw [hdd] at b3; cases d2 <;> simp [tdOf] at b3; rfl
  have e3 : d3 = .int .u8 := by rw [hed] at c3; cases d3 <;> simp [tdOf] at c3; rw [c3]
  subst e1; subst e2; subst e3
  have hexec : ∀ v, (convert sT d (a.eval x)).run P w = .ok v w → (execOp a.eval o).run P w = .ok (.value v) w := fun v h => by
    unfold execOp
    rw [ho]
    exact run_v h
  have hr := hst.ev hx
  generalize hv : a.eval x = vx at hr hexec
  generalize hbl : bts l = bl at hr
  cases hr with
  | slcNil =>
    have hl : l = [] := by cases l with | nil => rfl | cons b l => simp [bts] at hbl
    subst hl
    refine .same (val := .string ByteArray.empty) (hexec _ ?_) (.str _ _ rfl)
    rw [run_convert_bytes_string w sT d e none 0 0 a2 c2 b2]
    rfl
  | slcZ a' _ _ _ =>
    have hl : l = [] := by cases l with | nil => rfl | cons b l => simp [bts] at hbl
    subst hl
    exact .same (val := .string ⟨#[]⟩) (hexec _ (run_convert_bytes_back w sT d e a' 0 [] a2 c2 b2 (fun j hj => by simp at hj))) (.str _ _ rfl)
  | slc g off n cap _ vs _ _ hn hl hc hrl hsz hm hk hcl ho' =>
    subst hbl
    have hvs := rel_bts hrl
    subst hvs
    rw [bts_length] at hl
    subst hl
    refine .same (val := .string ⟨l.toArray⟩) (hexec _ ?_) (.str _ _ (by simp))
    refine run_convert_bytes_back w sT d e ⟨g, off, none⟩ cap l a2 c2 b2 (fun j hj => ?_)
    rw [add_none]
    refine (hc j _ ?_).2
    rw [flat_bts]; simp [List.getElem?_eq_getElem hj]

theorem pure_toBytes {o : Oper} {sT d e : TypeId} {x : Operand} {is id ie : TI} {l : List UInt8} (ho : o.op = .convert sT d x) (hs : Γ.get? sT = some is) (hd : Γ.get? d = some id) (hsd : is.td = .str) (hdd : id.td = .slc e)
    (he : Γ.get? e = some ie) (hed : ie.td = .int .u8) (hx : ev env x = some (.str l)) (hl63 : l.length ≤ 9223372036854775807) : PureRes P o a w p (.slc 1 (bts l) .fro) := by
  obtain ⟨i1, d1, a1, a2, a3, -⟩ := hΓ.parts hs
  obtain ⟨i2, d2, b1, b2, b3, -⟩ := hΓ.parts hd
  obtain ⟨i3, d3, c1, c2, c3, -⟩ := hΓ.parts he
  have e1 : d1 = .string := by rw [hsd] at a3; cases d1 <;> simp [tdOf] at a3; rfl
  have e2 : d2 = .slice e := by rw [hdd] at b3; cases d2 <;> simp [tdOf] at b3; rw [b3]
  have e3 : d3 = .int .u8 := by rw [hed] at c3; cases d3 <;> simp [tdOf] at c3; rw [c3]
  subst e1; subst e2; subst e3
  have hr := hst.ev hx
  generalize hv : a.eval x = vx at hr
  cases hr with
  | str bb _ hbb =>
  have hsz : bb.size = l.length := by rw [← hbb]; simp
  have hrun := run_bytes_of_string (P := P) w sT d e bb a2 b2 c2
  generalize hcap : grownCap w bb.size 0 e = cap at hrun
  have hcge : bb.size ≤ cap := by rw [← hcap]; simp [grownCap, Question.cut]
  have hrow : (bytesRow bb cap).toList = (l.map fun b => Value.int .u8 b.toNat) ++ List.replicate (cap - bb.size) (.int .u8 0) := by
    simp [bytesRow, ← hbb]
  generalize hcells : Obj.cells (bytesRow bb cap) e ((bytesRow bb cap).size, (bytesRow bb cap).size + 1) = ob at hrun
  have hle : Le w p (w.drew.alloc ob) (p.also w.heap.size True) := Le.trans drew_le (alloc_le (w := w.drew) (fun b o h => hst.wf.lt b o h) ob True)
  refine ⟨.slice (some ⟨w.heap.size, 0, none⟩) bb.size cap, _, _, ?_, ?_, hle, fun s' hs' => ⟨?_, ?_⟩⟩
  · unfold execOp
    rw [ho]
    simp only [hv]
    exact run_v hrun
  · refine .slc w.heap.size 0 _ cap 1 (l.map fun b => Value.int .u8 b.toNat) (bts l) .fro (by simp) (by rw [bts_length, hsz]) ?_ (relL_bts l) (by simp [Value.cells]) (by omega) hcge (by simp) (by simp)
    rw [flat_bts]
    intro i v hvi
    refine ⟨.inr ⟨rfl, trivial⟩, ?_⟩
    have hh : (w.drew.alloc ob).heap[w.heap.size]? = some ob := heap_alloc_here w.drew ob
    rw [← hcells] at hh ⊢
    simp only [World.cell?, hh, Option.isSome_none, Bool.false_eq_true, if_false, Nat.zero_add]
    have : (bytesRow bb cap).toList[i]? = some v := by
      rw [hrow, List.getElem?_append_left (List.getElem?_eq_some_iff.1 hvi).1]; exact hvi
    simpa using this
  · exact Kept.trans (s₁ := s') (w₁ := w.drew) (p₁ := p) (Nat.le_refl _) drew_kept (alloc_kept (w := w.drew) ob True)
  · exact alloc_wf (w := w.drew) (drew_wf hs') ob True
end

/-- What an operation computes that leaves the store as it is. -/
inductive APure (Γ : Tys) (o : Oper) (env : Env) : AV → Prop
  | a {v : AV} (h : aop Γ o env = some v) : APure Γ o env v
  | x {v : AV} (h : aopX Γ o env = some v) : APure Γ o env v
  | cat {t yt : TypeId} {x y : Operand} {u v : List UInt8} (ho : o.op = .binOp .add t x y yt) (hx : ev env x = some (.str u)) (hy : ev env y = some (.str v)) (hl : u.length + v.length ≤ 9223372036854775807) : APure Γ o env (.str (u ++ v))
  | toStr {sT d e : TypeId} {x : Operand} {is id ie : TI} {sz : Nat} {l : List UInt8} {own : Own} (ho : o.op = .convert sT d x) (hs : Γ.get? sT = some is) (hd : Γ.get? d = some id) (hsd : is.td = .slc e) (hdd : id.td = .str)
      (he : Γ.get? e = some ie) (hed : ie.td = .int .u8) (hx : ev env x = some (.slc sz (bts l) own)) : APure Γ o env (.str l)
  | toBytes {sT d e : TypeId} {x : Operand} {is id ie : TI} {l : List UInt8} (ho : o.op = .convert sT d x) (hs : Γ.get? sT = some is) (hd : Γ.get? d = some id) (hsd : is.td = .str) (hdd : id.td = .slc e)
      (he : Γ.get? e = some ie) (hed : ie.td = .int .u8) (hx : ev env x = some (.str l)) (hl63 : l.length ≤ 9223372036854775807) : APure Γ o env (.slc 1 (bts l) .fro)
  | idx {t e : TypeId} {x y : Operand} {it ie : TI} {sz : Nat} {xs : List AV} {own : Own} {k : IntKind} {i : Int} (j : Nat) {v : AV} {cs : List AV} (ho : o.op = .indexAddr t x y)
      (ht : Γ.get? t = some it) (htd : it.td = .slc e) (hie : Γ.get? e = some ie) (hx : ev env x = some (.slc sz xs own)) (hsz : sz = ie.size) (hy : ev env y = some (.int k i)) (hij : i = (j : Int)) (hj : xs[j]? = some v)
      (hc : cellsOf v = some cs) : APure Γ o env (.fptr cs 0)
  | sidx {t : TypeId} {x y : Operand} {it : TI} {l : List UInt8} {k : IntKind} {i : Int} (j : Nat) {b : UInt8} (ho : o.op = .index t x y)
      (ht : Γ.get? t = some it) (htd : it.td = .str) (hx : ev env x = some (.str l)) (hy : ev env y = some (.int k i)) (hij : i = (j : Int)) (hj : l[j]? = some b) : APure Γ o env (.int .u8 b.toNat)
  | slice {t e : TypeId} {x : Operand} {lo hi mx : Option Operand} {it ie : TI} {sz : Nat} {xs : List AV} {own own' : Own} (l h : Nat) (ho : o.op = .slice t x lo hi mx)
      (ht : Γ.get? t = some it) (htd : it.td = .slc e) (hie : Γ.get? e = some ie) (hx : ev env x = some (.slc sz xs own)) (hsz : xs = [] ∨ sz = ie.size)
      (hlo : (lo = none ∧ l = 0) ∨ ∃ y k, lo = some y ∧ ev env y = some (.int k (l : Int))) (hhi : (hi = none ∧ mx = none ∧ h = xs.length) ∨ ∃ y k, hi = some y ∧ ev env y = some (.int k (h : Int)))
      (hmx : (mx = none ∧ own' = .fro) ∨ (∃ y k, mx = some y ∧ ev env y = some (.int k (h : Int)) ∧ own' = .clip)) (hl : l ≤ h) (hh : h ≤ xs.length) : APure Γ o env (.slc sz ((xs.take h).drop l) own')

theorem APure.ok {P : Program} {Γ : Tys} (hΓ : TysOk P Γ) {N B : Nat} {ro : Option Nat} {env : Env} {s : Store} {a : Act} {w : World} {p : Prot} (hst : St N B ro env s a w p) {o : Oper} {v : AV} (h : APure Γ o env v) : PureRes P o a w p v := by
  cases h with
  | a h => exact aop_ok hΓ hst h
  | x h => exact aopX_ok hΓ hst h
  | cat ho hx hy hl => exact pure_cat hst ho hx hy hl
  | toStr ho hs hd hsd hdd he hed hx => exact pure_toStr hΓ hst ho hs hd hsd hdd he hed hx
  | toBytes ho hs hd hsd hdd he hed hx hl => exact pure_toBytes hΓ hst ho hs hd hsd hdd he hed hx hl
  | idx j ho ht htd hie hx hsz hy hij hj hc => exact pure_idx hΓ hst ho ht htd hie hx hsz hy hij hj hc
  | sidx j ho ht htd hx hy hij hj => exact pure_strIdx hΓ hst ho ht htd hx hy hij hj
  | slice l h ho ht htd hie hx hsz hlo hhi hmx hl hh => exact pure_slice hΓ hst ho ht htd hie hx hsz hlo hhi hmx hl hh

theorem APure.noDefer {Γ : Tys} {env : Env} {o : Oper} {v : AV} (h : APure Γ o env v) : AE.noDefer o = true := by
  cases h with
  | a h => exact aop_noDefer h
  | x h => exact aopX_noDefer h
  | cat ho => simp [AE.noDefer, ho]
  | toStr ho => simp [AE.noDefer, ho]
  | toBytes ho => simp [AE.noDefer, ho]
  | idx j ho => simp [AE.noDefer, ho]
  | sidx j ho => simp [AE.noDefer, ho]
  | slice l h ho => simp [AE.noDefer, ho]

theorem OW.pure {P : Program} {Γ : Tys} (hΓ : TysOk P Γ) {N : Nat} {env : Env} {s : Store} {o : Oper} {v : AV} (h : APure Γ o env v) : OW P N o env s (fun x s' => x = v ∧ s' = s) (fun _ _ => False) :=
  OW.ofPure h.noDefer fun _ _ _ _ _ hst => h.ok hΓ hst
end Go.AE

/- The abstract walk: a function's contract out of the walk of its body. -/
namespace Go.AE

def envOf : Nat → List AV → Env
  | _, [] => []
  | k, v :: vs => (k, v) :: envOf (k + 1) vs

/-- What the results of a function are, at its end. -/
def resOne (Γ : Tys) (env : Env) (s : Store) : ResultVar → Option AV
  | .tmp t => env.get? t
  | .cell a t => match env.get? a, Γ.get? t with
    | some (.ptr b o), some i => match s b with
      | some (.box _ cs) => loadC i cs o
      | _ => none
    | some (.fptr cs o), some i => loadC i cs o
    | _, _ => none

def resAll (Γ : Tys) (env : Env) (s : Store) : List ResultVar → Option (List AV)
  | [] => some []
  | r :: rs => match resOne Γ env s r with
    | some v => match resAll Γ env s rs with
      | some vs => some (v :: vs)
      | none => none
    | none => none

def resA (Γ : Tys) (env : Env) (s : Store) (rs : List ResultVar) : Option AV :=
  match resAll Γ env s rs with
  | some [v] => some v
  | some vs => some (.tup vs)
  | none => none

section
variable {P : Program} {Γ : Tys}

theorem resOne_ok (hΓ : TysOk P Γ) {N B : Nat} {ro : Option Nat} {env : Env} {s : Store} {a : Act} {w w' : World} {p : Prot} (hst : St N B ro env s a w p)
    (hw : ∀ b o v, w.cell? ⟨b, o, none⟩ = some v → w'.cell? ⟨b, o, none⟩ = some v) (hr' : ∀ v x, Rel w p v x → Rel w' p v x) {r : ResultVar} {v : AV} (h : resOne Γ env s r = some v) :
    ∃ val, ((match r with
      | .tmp t => pure (a.tmps.getD t undef)
      | .cell b t => do loadVar t (← asAddr (a.tmps.getD b undef))) : Sem Value).run P w' = .ok val w' ∧ Rel w' p val v := by
  cases r with
  | tmp t => exact ⟨_, rfl, hr' _ _ (hst.env t v h)⟩
  | cell b t =>
    simp only [resOne] at h
    split at h
    · rename_i b' o i hb hi
      split at h
      · rename_i T cs hs
        have hr := hst.env b _ hb
        generalize hv : a.tmps.getD b undef = vb at hr
        cases hr
        obtain ⟨vs, h1, h2, h3⟩ := hst.wf.obj _ _ hs
        have hrl : RelL w' p vs.toList cs := by
          have : ∀ us xs, RelL w p us xs → RelL w' p us xs := by
            intro us
            induction us with
            | nil => intro xs h; cases h; exact .nil
            | cons u us ih => intro xs h; cases h with | cons _ x _ xs hx ht => exact .cons _ _ _ _ (hr' _ _ hx) (ih _ ht)
          exact this _ _ h2
        obtain ⟨val, hrun, hrel⟩ := loadVar_ok hΓ hi (b := b') (base := 0) (vs := vs.toList) (w := w') (fun j u hu => by
          rw [Nat.zero_add]; refine hw _ _ _ ?_; rw [cells_of_box h1]; simpa using hu) hrl h
        rw [Nat.zero_add] at hrun
        exact ⟨val, by simp only [hv, asAddr, Sem.run_bind, Sem.run_pure, Result.andThen_ok, hrun], hrel⟩
      · cases h
    · rename_i cs o i hb hi
      have hr := hr' _ _ (hst.env b _ hb)
      generalize hv : a.tmps.getD b undef = vb at hr
      cases hr with
      | fptr bb base oo _ vs _ hoo hc hrl =>
      subst hoo
      obtain ⟨val, hrun, hrel⟩ := loadVar_ok hΓ hi (b := bb) (base := base) (fun j u hu => (hc j u hu).2) hrl h
      exact ⟨val, by simp only [hv, asAddr, Sem.run_bind, Sem.run_pure, Result.andThen_ok, hrun], hrel⟩
    · cases h

theorem resAll_ok (hΓ : TysOk P Γ) {N B : Nat} {ro : Option Nat} {env : Env} {s : Store} {a : Act} {w w' : World} {p : Prot} (hst : St N B ro env s a w p)
    (hw : ∀ b o v, w.cell? ⟨b, o, none⟩ = some v → w'.cell? ⟨b, o, none⟩ = some v) (hr' : ∀ v x, Rel w p v x → Rel w' p v x) : ∀ {rs : List ResultVar} {xs : List AV} (_ : resAll Γ env s rs = some xs),
    ∃ vals, (rs.mapM fun r => ((match r with
      | .tmp t => pure (a.tmps.getD t undef)
      | .cell b t => do loadVar t (← asAddr (a.tmps.getD b undef))) : Sem Value)).run P w' = .ok vals w' ∧ RelL w' p vals xs := by
  intro rs
  induction rs with
  | nil => intro xs h; cases h; exact ⟨[], by simp, .nil⟩
  | cons r rs ih =>
    intro xs h
    simp only [resAll] at h
    split at h
    · rename_i v hv
      split at h
      · rename_i vs hvs
        cases h
        obtain ⟨val, h1, h2⟩ := resOne_ok hΓ hst hw hr' hv
        obtain ⟨vals, h3, h4⟩ := ih hvs
        exact ⟨val :: vals, by simp only [List.mapM_cons, Sem.run_bind, h1, Result.andThen_ok, h3, Sem.run_pure], .cons _ _ _ _ h2 h4⟩
      · cases h
    · cases h

theorem resA_ok (hΓ : TysOk P Γ) {N B : Nat} {ro : Option Nat} {env : Env} {s : Store} {a : Act} {w w' : World} {p : Prot} (hst : St N B ro env s a w p)
    (hw : ∀ b o v, w.cell? ⟨b, o, none⟩ = some v → w'.cell? ⟨b, o, none⟩ = some v) (hr' : ∀ v x, Rel w p v x → Rel w' p v x) {fn : Func} {v : AV} (h : resA Γ env s fn.results.toList = some v) :
    ∃ val, (results fn a.tmps).run P w' = .ok val w' ∧ Rel w' p val v := by
  unfold resA at h
  have key : ∀ xs, resAll Γ env s fn.results.toList = some xs → ∃ vals, (results fn a.tmps).run P w' = .ok (if h : vals.length = 1 then vals[0] else .tuple vals.toArray) w' ∧ RelL w' p vals xs := by
    intro xs hxs
    obtain ⟨vals, h1, h2⟩ := resAll_ok hΓ hst hw hr' hxs
    refine ⟨vals, ?_, h2⟩
    unfold results
    rw [Array.mapM_eq_mapM_toList]
    simp only [Sem.run_bind, Sem.run_map]
    erw [h1]
    simp only [Result.andThen_ok, Sem.run_pure]
    by_cases hl : vals.length = 1
    · simp [hl]
    · simp [hl]
  split at h
  · rename_i v' hv
    cases h
    obtain ⟨vals, h1, h2⟩ := key _ hv
    cases h2 with
    | cons u _ us _ hu ht => cases ht; exact ⟨u, by simpa using h1, hu⟩
  · rename_i vs hne hv
    cases h
    obtain ⟨vals, h1, h2⟩ := key _ hv
    have hl : vals.length ≠ 1 := by
      rw [h2.length]
      intro hl
      obtain ⟨x, hx⟩ := List.length_eq_one_iff.1 hl
      exact hne x hx
    rw [dif_neg hl] at h1
    exact ⟨_, h1, .tup _ _ (by simpa using h2)⟩
  · cases h

/-- The blocks of the ranges over functions, emptied: nothing that is looked at turns. -/
theorem emptied_ok {s : Store} {p : Prot} : ∀ (ds : List Nat) (w : World), Wf w p s → (∀ d ∈ ds, ∃ x, w.heap[d]? = some (.deferred x)) →
    Le w p (emptied w ds) p ∧ Wf (emptied w ds) p s ∧ (∀ b, b ∉ ds → (emptied w ds).heap[b]? = w.heap[b]?) ∧ (∀ b o v, w.cell? ⟨b, o, none⟩ = some v → (emptied w ds).cell? ⟨b, o, none⟩ = some v) := by
  intro ds
  induction ds with
  | nil => intro w hwf _; exact ⟨.refl w p, hwf, fun _ _ => rfl, fun _ _ _ h => h⟩
  | cons d ds ih =>
    intro w hwf hd
    obtain ⟨x, hx⟩ := hd d (List.mem_cons_self ..)
    have hlt : d < w.heap.size := (Array.getElem?_eq_some_iff.1 hx).1
    let w₁ : World := { w with heap := w.heap.setIfInBounds d (.deferred none) }
    have hhere : w₁.heap[d]? = some (.deferred none) := by simp [w₁, Array.getElem?_setIfInBounds, hlt]
    have hoth : ∀ k, k ≠ d → w₁.heap[k]? = w.heap[k]? := fun k hk => by
      show (w.heap.setIfInBounds d (.deferred none))[k]? = _
      rw [Array.getElem?_setIfInBounds, if_neg (fun e => hk e.symm)]
    have hcell : ∀ b o, w₁.cell? ⟨b, o, none⟩ = w.cell? ⟨b, o, none⟩ := fun b o => by
      by_cases e : b = d
      · subst e; simp only [World.cell?, hhere, hx]
      · exact cell_of_heap (hoth b e)
    have hle : Le w p w₁ p := ⟨rfl, rfl, rfl, by simp [w₁], fun _ _ h => h, fun b o _ => hcell b o, fun b y hy => by
      by_cases e : b = d
      · subst e; simp [World.shape?, hx] at hy
      · rw [shape_of_heap (hoth b e)]; exact hy⟩
    have hwf₁ : Wf w₁ p s := by
      refine ⟨fun b o hb => ?_, fun b o hp => by simpa [w₁] using hwf.lt b o hp⟩
      have ho := hwf.obj b o hb
      have hne : b ≠ d := by
        intro e; subst e
        cases o with
        | box t c => obtain ⟨us, g1, -⟩ := ho; rw [hx] at g1; cases g1
        | row t sz n => obtain ⟨us, g1, -⟩ := ho; rw [hx] at g1; cases g1
        | map es => obtain ⟨us, c, g1, -⟩ := ho; rw [hx] at g1; cases g1
        | ranged es it l c => obtain ⟨_, _, _, g1, -⟩ := ho; rw [hx] at g1; cases g1
        | tick m => obtain ⟨_, _, _, g1⟩ := ho; rw [hx] at g1; cases g1
        | loop r env => have ho' := ho.1; rw [hx] at ho'; cases ho'
      have hh := hoth b hne
      cases o with
      | box t c => obtain ⟨us, g1, g2, g3⟩ := ho; exact ⟨us, hh.trans g1, g2.mono hle, g3⟩
      | row t sz n => obtain ⟨cur, g1, g2, g3, g4⟩ := ho; exact ⟨cur, hh.trans g1, g2, g3, g4⟩
      | map es => obtain ⟨mes, c, g1, g2, g3⟩ := ho; exact ⟨mes, c, hh.trans g1, ⟨g2.1.mono hle, g2.2.mono hle⟩, g3⟩
      | ranged es it l c => exact ho.ranged_move hle hh (hoth it (ho.ranged_ne hx (by simp)))
      | tick m => obtain ⟨a1, a2, a3, g1⟩ := ho; exact ⟨a1, a2, a3, hh.trans g1⟩
      | loop r env => exact ⟨hh.trans ho.1, fun t v h => (ho.2 t v h).mono hle⟩
    obtain ⟨i1, i2, i3, i4⟩ := ih w₁ hwf₁ (fun d' hd' => by
      by_cases e : d' = d
      · subst e; exact ⟨none, hhere⟩
      · obtain ⟨y, hy⟩ := hd d' (List.mem_cons_of_mem _ hd'); exact ⟨y, (hoth d' e).trans hy⟩)
    refine ⟨hle.trans i1, i2, fun b hb => ?_, fun b o v hv => i4 b o v ((hcell b o).trans hv)⟩
    have h1 : b ≠ d := fun e => hb (e ▸ List.mem_cons_self ..)
    have h2 : b ∉ ds := fun e => hb (List.mem_cons_of_mem _ e)
    exact (i3 b h2).trans (hoth b h1)

/-- What a function's body has to come to. -/
def Fin (Γ : Tys) (rs : List ResultVar) (R : AOut → Store → Prop) : AEx → Env → Store → Prop
  | .normal, env, s | .ret, env, s => ∃ r r' s', resA Γ env s rs = some r ∧ AVle r r' ∧ Store.Sub s' s ∧ R (.ret r') s'
  | .panic v, _, s => ∃ v' s', AVle v v' ∧ Store.Sub s' s ∧ R (.panic v') s'
  | .exit _, _, _ => False

theorem envOf_rel {w : World} {p : Prot} : ∀ (k : Nat) (args : List AV) (vs pre : List Value), pre.length = k → RelL w p vs args → ∀ t v, (envOf k args).get? t = some v → ∃ u, (pre ++ vs)[t]? = some u ∧ Rel w p u v := by
  intro k args
  induction args generalizing k with
  | nil => intro vs pre _ _ t v h; simp [envOf, Env.get?] at h
  | cons x xs ih =>
    intro vs pre hk hr t v h
    cases hr with
    | cons u _ us _ hu ht =>
    simp only [envOf, Env.get?] at h
    split at h
    · rename_i he
      have := Nat.eq_of_beq_eq_true he
      subst this; cases h
      exact ⟨u, by rw [List.getElem?_append_right (by omega)]; simp [hk], hu⟩
    · obtain ⟨u', h1, h2⟩ := ih (k + 1) us (pre ++ [u]) (by simp [hk]) ht t v h
      exact ⟨u', by simpa using h1, h2⟩

theorem Kept.sub {s s' s'' : Store} {w w' : World} {p p' : Prot} (h : Kept s s' w p w' p') (hs : Store.Sub s'' s') : Kept s s'' w p w' p' :=
  ⟨h.heap, fun b hb hn => hs.none (h.dom b hb hn), h.prot⟩

theorem ACalls.of_CW (hΓ : TysOk P Γ) {f : FuncId} {fn : Func} {c : Code} {args : List AV} {s : Store} {R : AOut → Store → Prop} (hc : Callable P f) (hf : P.funcs[f]? = some fn) (hb : fn.body = some c)
    (hN : Nat.ble args.length fn.ntmps = true) (h : CW P fn.ntmps c (Fin Γ fn.results.toList R) (envOf 0 args) s) : ACalls P f args s R := by
  refine ⟨hc, fun w p vs hwf hvs => calls_of_cwp hf hb fun b hb0 hfn => ?_⟩
  have hle := Nat.le_of_ble_eq_true hN
  have hl := hvs.length
  have hsz : (vs.toArray ++ Array.replicate (fn.ntmps - vs.toArray.size) undef).size = fn.ntmps := by simp; omega
  have hst : St fn.ntmps w.heap.size b.roundOf (envOf 0 args) s { tmps := vs.toArray ++ Array.replicate (fn.ntmps - vs.toArray.size) undef, defers := [] } w p := by
    refine ⟨hsz, fun t v hv => ?_, hwf, ⟨[], rfl, by simp, by simp⟩, fun l hl => (by rw [hb0] at hl; cases hl), Nat.le_refl _⟩
    obtain ⟨u, hu, hr⟩ := envOf_rel 0 args vs [] rfl hvs t v hv
    simp only [List.nil_append] at hu
    have hlt := (List.getElem?_eq_some_iff.1 hu).1
    have : (vs.toArray ++ Array.replicate (fn.ntmps - vs.toArray.size) undef).getD t undef = u := by
      rw [Array.getD_eq_getD_getElem?, Array.getElem?_append_left (by simpa using hlt)]
      simp [hu]
    rw [this]; exact hr
  refine cwp_mono (h b w.heap.size _ w p hfn hst) ?_
  rintro e a' w' ⟨x, env', s', p', hx, hq, hst', hle', hk⟩
  obtain ⟨ds, hds, hnd, hD⟩ := hst'.defs
  obtain ⟨e1, e2, e3, e4⟩ := emptied_ok ds w' hst'.wf (fun d hd => ⟨_, (hD d hd).2.1⟩)
  have hK : Kept s s' w p (emptied w' ds) p' := ⟨fun b' hb' hn => (e3 b' (fun hm => by have := (hD b' hm).1; omega)).trans (hk.heap b' hb' hn), hk.dom, hk.prot⟩
  have hL : Le w p (emptied w' ds) p' := hle'.trans e1
  have fin : (∃ r r' s'', resA Γ env' s' fn.results.toList = some r ∧ AVle r r' ∧ Store.Sub s'' s' ∧ R (.ret r') s'') →
      ∃ ds, a'.defers = marksOf ds ∧ ds.Nodup ∧ (∀ d ∈ ds, w'.heap[d]? = some (.deferred (some []))) ∧ ∃ v, (results fn a'.tmps).run P (emptied w' ds) = .ok v (emptied w' ds) ∧ APost s w p R (.returned v) (emptied w' ds) := by
    rintro ⟨r, r', s'', hr, hle2, hsub, hR⟩
    obtain ⟨val, hrun, hrel⟩ := resA_ok hΓ hst' e4 (fun v x h => h.mono e1) hr
    exact ⟨ds, hds, hnd, fun d hd => (hD d hd).2.1, val, hrun, .ret r', s'', p', hle2 _ _ _ hrel, hR, hL, hK.sub hsub, e2.sub hsub⟩
  cases hx with
  | normal => exact fin hq
  | ret => exact fin hq
  | exit id => exact hq.elim
  | panic v x hv =>
    obtain ⟨v', s'', hle2, hsub, hR⟩ := hq
    exact ⟨ds, hds, hnd, fun d hd => (hD d hd).2.1, .panic v', s'', p', ⟨v, rfl, hle2 _ _ _ (hv.mono e1)⟩, hR, hL, hK.sub hsub, e2.sub hsub⟩
end
end Go.AE

/- The abstract walk: regions, list by list: the rules that proofs use. -/
namespace Go.AE

/-- The rest of a region's operations. -/
def RL (P : Program) (N : Nat) (ops : Array Oper) (l : List Oper) (Q : AEx → Env → Store → Prop) (env : Env) (s : Store) : Prop :=
  ∀ k, (∀ j x, l[j]? = some x → ops[k + j]? = some x) → RW P N ops (List.range' k l.length) Q env s

section
variable {P : Program} {Γ : Tys} {N : Nat} {ops : Array Oper} {Q : AEx → Env → Store → Prop} {env : Env} {s : Store} {l : List Oper} {o : Oper} {d : Nat}

theorem CW.reg {id : Nat} {l : List Oper} (h : RL P N l.toArray l Q env s) : CW P N (.region id l.toArray false) Q env s := by
  refine CW.region ?_
  have := h 0 (by simp)
  rw [List.range_eq_range']
  simpa using this

theorem RL.nil (h : Q .normal env s) : RL P N ops [] Q env s := fun _ _ => RW.nil h

theorem RL.cons (h : ∀ k, ops[k]? = some o → RL P N ops l Q env s ∨ True → (∀ j x, l[j]? = some x → ops[k + 1 + j]? = some x) → RW P N ops (k :: List.range' (k + 1) l.length) Q env s) : RL P N ops (o :: l) Q env s := by
  intro k hk
  have h0 : ops[k]? = some o := hk 0 o rfl
  have ht : ∀ j x, l[j]? = some x → ops[k + 1 + j]? = some x := fun j x hx => by have := hk (j + 1) x (by simpa using hx); simpa [Nat.add_assoc, Nat.add_comm 1 j] using this
  rw [List.length_cons, List.range'_succ]
  exact h k h0 (.inr trivial) ht

theorem RL.op {K X : AV → Store → Prop} (hg : guardOf ops env o = some true) (hd : o.dst = some d) (hN : Nat.blt d N = true) (h : OW P N o env s K X)
    (hk : ∀ x s', K x s' → RL P N ops l Q ((d, x) :: env) s') (hx : ∀ x s', X x s' → Q (.panic x) env s') : RL P N ops (o :: l) Q env s :=
  RL.cons fun k h0 _ ht => RW.op h0 hg hd hN h (fun x s' hK => hk x s' hK (k + 1) ht) hx

theorem RL.opN {K X : AV → Store → Prop} (hg : guardOf ops env o = some true) (hd : o.dst = none) (h : OW P N o env s K X)
    (hk : ∀ x s', K x s' → RL P N ops l Q env s') (hx : ∀ x s', X x s' → Q (.panic x) env s') : RL P N ops (o :: l) Q env s :=
  RL.cons fun k h0 _ ht => RW.opN h0 hg hd h (fun x s' hK => hk x s' hK (k + 1) ht) hx

theorem RL.skip (hg : guardOf ops env o = some false) (hd : o.dst = some d) (hN : Nat.blt d N = true) (h : RL P N ops l Q ((d, .tup []) :: env) s) : RL P N ops (o :: l) Q env s :=
  RL.cons fun k h0 _ ht => RW.skip h0 hg hd hN (h (k + 1) ht)

theorem RL.skipN (hg : guardOf ops env o = some false) (hd : o.dst = none) (h : RL P N ops l Q env s) : RL P N ops (o :: l) Q env s :=
  RL.cons fun k h0 _ ht => RW.skipN h0 hg hd (h (k + 1) ht)

theorem RL.step (hΓ : TysOk P Γ) {v : AV} (hg : guardOf ops env o = some true) (hd : o.dst = some d) (hN : Nat.blt d N = true) (hv : aop Γ o env = some v) (h : RL P N ops l Q ((d, v) :: env) s) :
    RL P N ops (o :: l) Q env s :=
  RL.op hg hd hN (OW.aop hΓ hv) (fun x s' ⟨h1, h2⟩ => by subst h1; subst h2; exact h) (fun _ _ h => h.elim)

theorem RL.pure (hΓ : TysOk P Γ) {v : AV} (hg : guardOf ops env o = some true) (hd : o.dst = some d) (hN : Nat.blt d N = true) (hv : APure Γ o env v) (h : RL P N ops l Q ((d, v) :: env) s) :
    RL P N ops (o :: l) Q env s :=
  RL.op hg hd hN (OW.pure hΓ hv) (fun x s' ⟨h1, h2⟩ => by subst h1; subst h2; exact h) (fun _ _ h => h.elim)

theorem RL.stepX (hΓ : TysOk P Γ) {v : AV} (hg : guardOf ops env o = some true) (hd : o.dst = some d) (hN : Nat.blt d N = true) (hv : aopX Γ o env = some v) (h : RL P N ops l Q ((d, v) :: env) s) :
    RL P N ops (o :: l) Q env s := RL.pure hΓ hg hd hN (.x hv) h

/-- A step whose value is given in another form. -/
theorem RL.stepAs (hΓ : TysOk P Γ) {v : AV} (v' : AV) (hg : guardOf ops env o = some true) (hd : o.dst = some d) (hN : Nat.blt d N = true) (hv : aop Γ o env = some v) (he : v = v') (h : RL P N ops l Q ((d, v') :: env) s) :
    RL P N ops (o :: l) Q env s := RL.step hΓ hg hd hN hv (he ▸ h)

/-- A test that is known to say yes, or no. -/
theorem RL.stepT (hΓ : TysOk P Γ) {b : Bool} (hg : guardOf ops env o = some true) (hd : o.dst = some d) (hN : Nat.blt d N = true) (hv : aop Γ o env = some (.bool b)) (hb : b = true) (h : RL P N ops l Q ((d, .bool true) :: env) s) :
    RL P N ops (o :: l) Q env s := by subst hb; exact RL.step hΓ hg hd hN hv h
theorem RL.stepF (hΓ : TysOk P Γ) {b : Bool} (hg : guardOf ops env o = some true) (hd : o.dst = some d) (hN : Nat.blt d N = true) (hv : aop Γ o env = some (.bool b)) (hb : b = false) (h : RL P N ops l Q ((d, .bool false) :: env) s) :
    RL P N ops (o :: l) Q env s := by subst hb; exact RL.step hΓ hg hd hN hv h

theorem RL.call {f : FuncId} {as : Array Operand} {ats : Array TypeId} {xs : List AV} {R : AOut → Store → Prop} (hg : guardOf ops env o = some true) (hd : o.dst = some d) (hN : Nat.blt d N = true)
    (hop : o.op = .call { callee := .value (.func f), args := as, argTypes := ats }) (ha : evs env as.toList = some xs) (h : ACalls P f xs s R)
    (hk : ∀ x s', R (.ret x) s' → RL P N ops l Q ((d, x) :: env) s') (hx : ∀ x s', R (.panic x) s' → Q (.panic x) env s') : RL P N ops (o :: l) Q env s :=
  RL.op hg hd hN (OW.call hop (fv := .func f [] []) rfl ha (ACallV.of_calls (by simpa using h))) hk hx

/-- A call that returns one value and leaves the store. -/
theorem RL.callP {f : FuncId} {as : Array Operand} {ats : Array TypeId} {xs : List AV} {v : AV} (hg : guardOf ops env o = some true) (hd : o.dst = some d) (hN : Nat.blt d N = true)
    (hop : o.op = .call { callee := .value (.func f), args := as, argTypes := ats }) (ha : evs env as.toList = some xs) (h : ACalls P f xs s (fun out s' => out = .ret v ∧ s' = s))
    (hk : RL P N ops l Q ((d, v) :: env) s) : RL P N ops (o :: l) Q env s :=
  RL.call hg hd hN hop ha h (fun x s' ⟨h1, h2⟩ => by cases h1; subst h2; exact hk) (fun x s' ⟨h1, _⟩ => by cases h1)

theorem RL.callV {g : Operand} {fv : AV} {as : Array Operand} {ats : Array TypeId} {xs : List AV} {R : AOut → Store → Prop} (hg : guardOf ops env o = some true) (hd : o.dst = some d) (hN : Nat.blt d N = true)
    (hop : o.op = .call { callee := .value g, args := as, argTypes := ats }) (hv : ev env g = some fv) (ha : evs env as.toList = some xs) (h : ACallV P fv xs s R)
    (hk : ∀ x s', R (.ret x) s' → RL P N ops l Q ((d, x) :: env) s') (hx : ∀ x s', R (.panic x) s' → Q (.panic x) env s') : RL P N ops (o :: l) Q env s :=
  RL.op hg hd hN (OW.call hop hv ha h) hk hx

theorem RL.idx (hΓ : TysOk P Γ) {t e : TypeId} {x y : Operand} {it ie : TI} {sz : Nat} {xs : List AV} {own : Own} {k : IntKind} {i : Int} {v : AV} {cs : List AV} (j : Nat) (hg : guardOf ops env o = some true) (hd : o.dst = some d)
    (hN : Nat.blt d N = true) (ho : o.op = .indexAddr t x y) (ht : Γ.get? t = some it) (htd : it.td = .slc e) (hie : Γ.get? e = some ie) (hx : ev env x = some (.slc sz xs own)) (hsz : sz = ie.size) (hy : ev env y = some (.int k i))
    (hij : i = (j : Int)) (hj : xs[j]? = some v) (hc : cellsOf v = some cs) (h : RL P N ops l Q ((d, .fptr cs 0) :: env) s) : RL P N ops (o :: l) Q env s :=
  RL.pure hΓ hg hd hN (.idx j ho ht htd hie hx hsz hy hij hj hc) h

theorem RL.sidx (hΓ : TysOk P Γ) {t : TypeId} {x y : Operand} {it : TI} {cs : List UInt8} {k : IntKind} {i : Int} {b : UInt8} (j : Nat) (hg : guardOf ops env o = some true) (hd : o.dst = some d)
    (hN : Nat.blt d N = true) (ho : o.op = .index t x y) (ht : Γ.get? t = some it) (htd : it.td = .str) (hx : ev env x = some (.str cs)) (hy : ev env y = some (.int k i))
    (hij : i = (j : Int)) (hj : cs[j]? = some b) (h : RL P N ops l Q ((d, .int .u8 b.toNat) :: env) s) : RL P N ops (o :: l) Q env s :=
  RL.pure hΓ hg hd hN (.sidx j ho ht htd hx hy hij hj) h

theorem RL.cat (hΓ : TysOk P Γ) {t yt : TypeId} {x y : Operand} {u v : List UInt8} (hg : guardOf ops env o = some true) (hd : o.dst = some d) (hN : Nat.blt d N = true) (ho : o.op = .binOp .add t x y yt)
    (hx : ev env x = some (.str u)) (hy : ev env y = some (.str v)) (hl : u.length + v.length ≤ 9223372036854775807) (h : RL P N ops l Q ((d, .str (u ++ v)) :: env) s) : RL P N ops (o :: l) Q env s :=
  RL.pure hΓ hg hd hN (.cat ho hx hy hl) h

theorem RL.toStr (hΓ : TysOk P Γ) {sT dT e : TypeId} {x : Operand} {is id ie : TI} {sz : Nat} {u : List UInt8} {own : Own} (hg : guardOf ops env o = some true) (hd : o.dst = some d) (hN : Nat.blt d N = true) (ho : o.op = .convert sT dT x)
    (hs : Γ.get? sT = some is) (hdt : Γ.get? dT = some id) (hsd : is.td = .slc e) (hdd : id.td = .str) (he : Γ.get? e = some ie) (hed : ie.td = .int .u8) (hx : ev env x = some (.slc sz (bts u) own))
    (h : RL P N ops l Q ((d, .str u) :: env) s) : RL P N ops (o :: l) Q env s := RL.pure hΓ hg hd hN (.toStr ho hs hdt hsd hdd he hed hx) h

theorem RL.toBytes (hΓ : TysOk P Γ) {sT dT e : TypeId} {x : Operand} {is id ie : TI} {u : List UInt8} (hg : guardOf ops env o = some true) (hd : o.dst = some d) (hN : Nat.blt d N = true) (ho : o.op = .convert sT dT x)
    (hs : Γ.get? sT = some is) (hdt : Γ.get? dT = some id) (hsd : is.td = .str) (hdd : id.td = .slc e) (he : Γ.get? e = some ie) (hed : ie.td = .int .u8) (hx : ev env x = some (.str u)) (hl63 : u.length ≤ 9223372036854775807)
    (h : RL P N ops l Q ((d, .slc 1 (bts u) .fro) :: env) s) : RL P N ops (o :: l) Q env s := RL.pure hΓ hg hd hN (.toBytes ho hs hdt hsd hdd he hed hx hl63) h

theorem RL.slice (hΓ : TysOk P Γ) {t e : TypeId} {x : Operand} {lo hi mx : Option Operand} {it ie : TI} {sz : Nat} {xs : List AV} {own own' : Own} (a b : Nat) (hg : guardOf ops env o = some true) (hd : o.dst = some d)
    (hN : Nat.blt d N = true) (ho : o.op = .slice t x lo hi mx)
    (ht : Γ.get? t = some it) (htd : it.td = .slc e) (hie : Γ.get? e = some ie) (hx : ev env x = some (.slc sz xs own)) (hsz : xs = [] ∨ sz = ie.size)
    (hlo : (lo = none ∧ a = 0) ∨ ∃ y k, lo = some y ∧ ev env y = some (.int k (a : Int))) (hhi : (hi = none ∧ mx = none ∧ b = xs.length) ∨ ∃ y k, hi = some y ∧ ev env y = some (.int k (b : Int)))
    (hmx : (mx = none ∧ own' = .fro) ∨ (∃ y k, mx = some y ∧ ev env y = some (.int k (b : Int)) ∧ own' = .clip)) (hl : a ≤ b) (hh : b ≤ xs.length) (h : RL P N ops l Q ((d, .slc sz ((xs.take b).drop a) own') :: env) s) : RL P N ops (o :: l) Q env s :=
  RL.pure hΓ hg hd hN (.slice a b ho ht htd hie hx hsz hlo hhi hmx hl hh) h

theorem RL.freeze (t b : Nat) {T : TypeId} {cs : List AV} (ht : env.get? t = some (.ptr b 0)) (hs : s b = some (.box T cs)) (h : RL P N ops l Q ((t, .fptr cs 0) :: env) (s.del b)) : RL P N ops l Q env s :=
  fun k hk => RW.freeze t b ht hs (h k hk)

/-- Ways out of a walk of code. -/
theorem andThen_normal {next : Env → Store → Prop} (h : next env s) : AEx.andThen next Q .normal env s := h
end
end Go.AE

