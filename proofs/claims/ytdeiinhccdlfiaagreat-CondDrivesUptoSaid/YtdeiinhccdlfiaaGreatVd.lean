import Derived.Test.YtdeiinhccdlfiaaGreatVc
import Derived.Shelf.Sort.Plain
import Derived.KernelRfl
set_option linter.unusedVariables false
set_option linter.unusedSimpArgs false
/- The abstract walk: slices that are known to the last bit; rows of cells that grow, are sorted in place, and are handed on. -/
namespace Go.AE

def cslc (b n cap : Nat) : AV := .conc (.slice (some ⟨b, 0, none⟩) n cap)

theorem RelL.anys {w : World} {p : Prot} : ∀ vs : List Value, RelL w p vs (vs.map fun _ => .any)
 | [] => .nil
 | v :: vs => .cons v .any vs _ (.any v) (RelL.anys vs)
theorem oneCell_cells {v : Value} (h : v.oneCell' = true) : v.cells = #[v] := by
 cases v <;> first | rfl | (simp [Value.oneCell'] at h; done)
theorem flat_ones : ∀ {vs : List Value}, (∀ v ∈ vs, v.oneCell' = true) → flat vs = vs
  | [], _ => rfl
  | v :: vs, h => by
    have h1 := flat_ones (vs := vs) fun u hu => h u (List.mem_cons_of_mem _ hu)
    unfold flat at h1 ⊢
    rw [List.flatMap_cons, h1, oneCell_cells (h v List.mem_cons_self)]; rfl

section
variable {P : Program} {Γ : Tys} {N : Nat} {ops : Array Oper} {Q : AEx → Env → Store → Prop} {env : Env} {s : Store} {l : List Oper} {o : Oper} {d : Nat} {L R : LS}

def Grown (s : Store) (R : LS) (e : TypeId) (n : Nat) (xs : List AV) (r : AV) (s' : Store) : Prop :=
 ∃ b' cap' cs', r = cslc b' n cap' ∧ s' = sto s ((.own b', .box e cs') :: R) ∧ Ok s ((.own b', .box e cs') :: R) ∧ cs'.length = cap' ∧ n ≤ cap' ∧ cs'.take n = xs

theorem grow_new (hΓ : TysOk P Γ) {w : World} {p : Prot} {S : Store} (hwf : Wf w p S) {t t' e ty : TypeId} {it it' ie : TI} {sy : Nat} {olds : List Value} {xs : List AV} {v : AV} {oy : Own} {base : Option Addr} {n cap : Nat} {uy : Value}
  (ht : Γ.get? t = some it) (htd : it.td = .slc e) (ht' : Γ.get? t' = some it') (htd' : ∀ k, it'.td ≠ .int k) (hie : Γ.get? e = some ie) (h1 : ie.size = 1) (hzs' : Nat.beq ie.zero.cells.size ie.size = true)
  (hr : RelL w p olds xs) (hn : n = xs.length) (hfo : (Builtin.firstCells 1 n (.slice base n cap)).run P w.drew = .ok olds.toArray w.drew) (hy : Rel w p uy (.slc sy [v] oy)) (hsy : sy = 1) (hel : oneC v = true)
  (hlt : cap < n + 1) (hb : (n + 1) * ie.bytes ≤ 140737488355328) (h63 : n + 1 ≤ 9223372036854775807) :
  ∃ b' cap' cs' w', (Builtin.append_ #[t, t'] ty #[.slice base n cap, uy]).run P w = .ok (.slice (some ⟨b', 0, none⟩) (n + 1) cap') w' ∧ S b' = none ∧ Le w p w' p ∧ Kept S (S.set b' (.box e cs')) w p w' p ∧ Wf w' p (S.set b' (.box e cs')) ∧
   cs'.length = cap' ∧ n + 1 ≤ cap' ∧ cs'.take (n + 1) = xs ++ [v] := by
 obtain ⟨info, d, g1, g2, g3, -⟩ := hΓ.parts ht
 obtain ⟨info', d', q1, q2, q3, -⟩ := hΓ.parts ht'
 obtain ⟨infoe, de, k1, k2, k3, k4, k5, k6⟩ := hΓ.parts hie
 have hd : d = .slice e := by rw [htd] at g3; cases d <;> simp [tdOf] at g3; rw [g3]
 subst hd
 have hd' : ∀ k, d' ≠ .int k := fun k e' => by subst e'; exact htd' k q3.symm
 obtain ⟨us, hu1, hu2, hu3, hu4, ub, uc, hu5⟩ := slc_parts hy (.inr hsy)
 have hlu := hu1.length
 cases hu1 with
 | cons u _ us' _ hu ht0 =>
 cases ht0
 subst hsy
 have huc : flat [u] = [u] := flat_ones (by intro x hx; rw [List.mem_singleton] at hx; subst hx; exact oneC_ok hu hel)
 have hfit := growslice_fits (need := n + 1) (old := cap) (bytes := ie.bytes) hlt hb
 have hrun := run_append_grow2 (ty := ty) w g2 q2 hd' k1 k6 (base := base) (sLen := n) (sCap := cap) (m := 1) (olds := olds) (news := [u]) (hu3 P)
  (by rw [k4, h1]; exact hfo) (by rw [k4, h1, ← huc]; exact hu4 P w.drew (fun _ _ _ => rfl)) hlt (by omega) (by rw [k5]; exact hfit)
 have hcge : n + 1 ≤ grownCap w (n + 1) cap e := by simp [grownCap, Question.cut]
 have hol : olds.length = n := by rw [hr.length, hn]
 have hzs := Nat.eq_of_beq_eq_true hzs'
 generalize hzz : (Builtin.zeroCells ie.zero.cells (grownCap w (n + 1) cap e - (n + 1))).toList = zs at hrun
 have hzl : zs.length = grownCap w (n + 1) cap e - (n + 1) := by
  rw [← hzz, Array.length_toList]; simp [Builtin.zeroCells, hzs, h1]
 generalize grownCap w (n + 1) cap e = G at hrun hcge hzl
 have hwd := drew_wf hwf
 obtain ⟨hs, hle, hk, hwf'⟩ := new_obj hwd (.cells (olds ++ [u] ++ zs).toArray e (0, 0)) (.box e (xs ++ [v] ++ zs.map fun _ => .any)) (fun w' hw' hv hvl => ⟨_, hw', by
  refine RelL.append (RelL.append (hvl _ _ (show RelL w.drew p olds xs from hr.mono drew_le)) (hvl _ _ (.cons _ _ _ _ (hu.mono drew_le) .nil))) (RelL.anys zs), fun o hp => absurd (hwf.lt _ _ hp) (by show ¬ w.heap.size < w.heap.size; omega)⟩)
 rw [show w.drew.heap.size = w.heap.size from rfl] at hs hk hwf'
 refine ⟨w.heap.size, G, xs ++ [v] ++ zs.map (fun _ => AV.any), _, hrun, hs, drew_le.trans hle, (drew_kept (w := w) (p := p)).trans (drew_le (w := w) (p := p)).size hk, hwf', ?_, hcge, ?_⟩
 ·simp only [List.length_append, List.length_map, List.length_singleton, hzl]; omega
 ·rw [List.take_append_of_le_length (by simp; omega), List.take_of_length_le (by simp; omega)]

theorem append_exec {t t' : TypeId} {x y : Operand} {a : Act} {val : Value} {w w' : World} (ho : o.op = .call { callee := .builtin .append, args := #[x, y], argTypes := #[t, t'] }) (h : (Builtin.append_ #[t, t'] o.type #[a.eval x, a.eval y]).run P w = .ok val w') :
  (execOp a.eval o).run P w = .ok (.value val) w' := by
 unfold execOp
 rw [ho]
 simp only [resolve, invoke, builtin, Sem.run_bind, Sem.run_pure, Result.andThen_ok, List.map_toArray, List.map_cons, List.map_nil, h]

theorem OW.append0C (hΓ : TysOk P Γ) (hok : Ok s L) {t t' e : TypeId} {x y : Operand} {it it' ie : TI} {sx sy : Nat} {v : AV} {oy : Own}
  (ho : o.op = .call { callee := .builtin .append, args := #[x, y], argTypes := #[t, t'] }) (ht : Γ.get? t = some it) (htd : it.td = .slc e) (ht' : Γ.get? t' = some it') (htd' : ∀ k, it'.td ≠ .int k)
  (hie : Γ.get? e = some ie) (h1 : ie.size = 1) (hzs' : Nat.beq ie.zero.cells.size ie.size = true) (hx : ev env x = some (.slc sx [] .nil)) (hy : ev env y = some (.slc sy [v] oy)) (hsy : sy = 1) (hel : oneC v = true) (hb : 1 * ie.bytes ≤ 140737488355328)
  {X : AV → Store → Prop} : OW P N o env (sto s L) (fun r s' => Grown s L e 1 [v] r s') X := by
 refine OW.of_run (by simp [noDefer, ho]) fun ro B a w p hst => ?_
 have hrx := hst.ev hx
 have hry := hst.ev hy
 have hexec := fun val w' => append_exec (P := P) (a := a) (val := val) (w := w) (w' := w') ho
 generalize hvx : a.eval x = vx at hrx hexec
 generalize hvy : a.eval y = vy at hry hexec
 have hvx0 : vx = .slice none 0 0 := by
  cases hrx with
  | slcNil => rfl
  | slcZ a _ _ h => rcases h with h | h <;> cases h
  | slc g off n cap _ vs _ _ hn => exact absurd rfl hn
 subst hvx0
 obtain ⟨b', cap', cs', w', r1, r2, r3, r4, r5, r6, r7, r8⟩ := grow_new (ty := o.type) hΓ hst.wf (base := none) (n := 0) (cap := 0) (olds := []) (xs := []) ht htd ht' htd' hie h1 hzs' .nil rfl (by
  have := run_firstCells_none (P := P) w.drew 1 0 0 0
  simpa using this) hry hsy hel (by omega) (by simpa using hb) (by omega)
 exact ⟨_, w', _, p, _, hexec _ _ r1, r3, r4, r5, ⟨b', cap', cs', rfl, rfl, ⟨r2, hok⟩, r6, r7, by simpa using r8⟩, .conc _⟩

theorem OW.appendC (hΓ : TysOk P Γ) (hok : Ok s L) {t t' e : TypeId} {x y : Operand} {it it' ie : TI} {b n cap sy : Nat} {cs : List AV} {v : AV} {oy : Own}
    (ho : o.op = .call { callee := .builtin .append, args := #[x, y], argTypes := #[t, t'] }) (ht : Γ.get? t = some it) (htd : it.td = .slc e) (ht' : Γ.get? t' = some it') (htd' : ∀ k, it'.td ≠ .int k)
    (hie : Γ.get? e = some ie) (h1 : ie.size = 1) (hzs' : Nat.beq ie.zero.cells.size ie.size = true) (hx : ev env x = some (cslc b n cap)) (hs : Sel L (.own b) (.box e cs) R) (hcl : cs.length = cap) (hn : n ≤ cap) (hone : (cs.take n).all oneC = true)
    (hy : ev env y = some (.slc sy [v] oy)) (hsy : sy = 1) (hel : oneC v = true) (hb : (n + 1) * ie.bytes ≤ 140737488355328) (h63 : n + 1 ≤ 9223372036854775807)
    {X : AV → Store → Prop} : OW P N o env (sto s L) (fun r s' => Grown s R e (n + 1) (cs.take n ++ [v]) r s') X := by
  obtain ⟨e1, e2, e3⟩ := hs.perm hok
  refine OW.of_run (by simp [noDefer, ho]) fun ro B a w p hst => ?_
  have hrx := hst.ev hx
  have hry := hst.ev hy
  have hexec := fun val w' => append_exec (P := P) (a := a) (val := val) (w := w) (w' := w') ho
  generalize hvx : a.eval x = vx at hrx hexec
  generalize hvy : a.eval y = vy at hry hexec
  cases hrx
  obtain ⟨vs, c1, c2, c3⟩ := hst.wf.obj _ _ (hs.get hok)
  have hvl : vs.toList.length = cap := by rw [c2.length, hcl]
  have htk := c2.take n
  have hvone := oneC_all htk hone
  have hfc : ∀ w' : World, (∀ j, w'.cell? ⟨b, j, none⟩ = w.cell? ⟨b, j, none⟩) → (Builtin.firstCells 1 n (.slice (some ⟨b, 0, none⟩) n cap)).run P w' = .ok (vs.toList.take n).toArray w' := by
    intro w' hw'
    refine run_firstCells_some (P := P) w' 1 n ⟨b, 0, none⟩ n cap (vs.toList.take n) (by rw [List.length_take, hvl]; omega) (fun j u hu => ?_)
    rw [add_none, Nat.zero_add, hw', cells_of_box c1]
    rw [List.getElem?_take] at hu
    split at hu
    · simpa using hu
    · cases hu
  by_cases hlt : cap < n + 1
  · obtain ⟨b', cap', cs', w', r1, r2, r3, r4, r5, r6, r7, r8⟩ := grow_new (ty := o.type) hΓ hst.wf (base := some ⟨b, 0, none⟩) (n := n) (cap := cap) (olds := vs.toList.take n) (xs := cs.take n) ht htd ht' htd' hie h1 hzs' htk (by rw [List.length_take, hcl]; omega)
      (hfc w.drew fun _ => rfl) hry hsy hel hlt hb h63
    have hsub : Store.Sub ((sto s R).set b' (.box e cs')) ((sto s L).set b' (.box e cs')) := by
      refine ent_sub (k := .own b') ?_
      rw [e1]; exact sub_ent (k := .own b) (Store.sub_refl _) e2
    have hg : sto s R b' = none := by
      have h := r2
      rw [e1] at h
      exact (Store.set_none h).2
    exact ⟨_, w', _, p, _, hexec _ _ r1, r3, r4.sub hsub, r5.sub hsub, ⟨b', cap', cs', rfl, rfl, ⟨hg, e3⟩, r6, r7, r8⟩, .conc _⟩
  · obtain ⟨info, d, g1, g2, g3, -⟩ := hΓ.parts ht
    obtain ⟨info', d', q1, q2, q3, -⟩ := hΓ.parts ht'
    obtain ⟨infoe, de, k1, k2, k3, k4, k5, k6⟩ := hΓ.parts hie
    have hd : d = .slice e := by rw [htd] at g3; cases d <;> simp [tdOf] at g3; rw [g3]
    subst hd
    have hd' : ∀ k, d' ≠ .int k := fun k e' => by subst e'; exact htd' k q3.symm
    subst hsy
    obtain ⟨us, hu1, hu2, hu3, hu4, ub, uc, hu5⟩ := slc_parts (sz' := 1) hry (.inr rfl)
    cases hu1 with
    | cons u _ us' _ hu ht0 =>
    cases ht0
    have huo : ∀ x ∈ [u], x.oneCell' = true := by intro x hx; rw [List.mem_singleton] at hx; subst hx; exact oneC_ok hu hel
    have huc : flat [u] = [u] := flat_ones huo
    have hvs : vs.size = cap := by rw [← Array.length_toList]; exact hvl
    have hrun := run_append_room2 (ty := o.type) (P := P) w g2 q2 hd' k1 b n cap vs c1 (xv := vy) (m := 1) (news := [u]) (hu3 P) (by rw [k4, h1, ← huc]; exact hu4 P w (fun _ _ _ => rfl)) huo (by omega) (by rw [k4, h1, hvs]; simp; omega)
    rw [k4, h1, Nat.mul_one] at hrun
    have hrl : RelL w p (vs.toList.take n ++ [u] ++ vs.toList.drop (n + [u].length)) (cs.take n ++ [v] ++ cs.drop (n + 1)) := RelL.append (RelL.append htk (.cons _ _ _ _ hu .nil)) (c2.drop _)
    have hS : (sto s L) b = some (.box e cs) := hs.get hok
    obtain ⟨w1, w2, w3⟩ := box_write hst.wf hS (vs' := (vs.toList.take n ++ [u] ++ vs.toList.drop (n + [u].length)).toArray) (cs' := cs.take n ++ [v] ++ cs.drop (n + 1)) (fun vs0 h0 => by
      rw [c1] at h0; cases h0
      simp only [List.size_toArray, List.length_append, List.length_take, List.length_drop, List.length_singleton, hvl]
      rw [hvs]; omega) (by simpa using hrl) _ rfl
    obtain ⟨f1, f2⟩ := hs.put (.box e (cs.take n ++ [v] ++ cs.drop (n + 1))) hok
    refine ⟨_, _, _, p, _, hexec _ _ hrun, w1, w2, w3, ⟨b, cap, cs.take n ++ [v] ++ cs.drop (n + 1), rfl, f1, f2, ?_, by omega, ?_⟩, .conc _⟩
    · simp only [List.length_append, List.length_take, List.length_drop, List.length_singleton, hcl]; omega
    · have : (cs.take n ++ [v]).length = n + 1 := by simp [hcl]; omega
      rw [List.take_append_of_le_length (by omega), List.take_of_length_le (by omega)]

theorem RL.append0C (hΓ : TysOk P Γ) (hok : Ok s L) {t t' e : TypeId} {x y : Operand} {it it' ie : TI} {sx sy : Nat} {v : AV} {oy : Own} (hg : guardOf ops env o = some true) (hd : o.dst = some d) (hN : Nat.blt d N = true)
  (ho : o.op = .call { callee := .builtin .append, args := #[x, y], argTypes := #[t, t'] }) (ht : Γ.get? t = some it) (htd : it.td = .slc e) (ht' : Γ.get? t' = some it') (htd' : ∀ k, it'.td ≠ .int k)
  (hie : Γ.get? e = some ie) (h1 : ie.size = 1) (hzs' : Nat.beq ie.zero.cells.size ie.size = true) (hx : ev env x = some (.slc sx [] .nil)) (hy : ev env y = some (.slc sy [v] oy)) (hsy : sy = 1) (hel : oneC v = true) (hb : 1 * ie.bytes ≤ 140737488355328)
  (h : ∀ b' cap' cs', cs'.length = cap' → 1 ≤ cap' → cs'.take 1 = [v] → Ok s ((.own b', .box e cs') :: L) → RL P N ops l Q ((d, cslc b' 1 cap') :: env) (sto s ((.own b', .box e cs') :: L))) : RL P N ops (o :: l) Q env (sto s L) := by
 refine RL.op hg hd hN (OW.append0C hΓ hok ho ht htd ht' htd' hie h1 hzs' hx hy hsy hel hb (X := fun _ _ => False)) ?_ (fun _ _ h => h.elim)
 rintro r s' ⟨b', cap', cs', rfl, rfl, h2, h3, h4, h5⟩
 exact h b' cap' cs' h3 h4 h5 h2
theorem RL.appendC (hΓ : TysOk P Γ) (hok : Ok s L) {t t' e : TypeId} {x y : Operand} {it it' ie : TI} {b n cap sy : Nat} {cs : List AV} {v : AV} {oy : Own} (hg : guardOf ops env o = some true) (hd : o.dst = some d) (hN : Nat.blt d N = true)
  (ho : o.op = .call { callee := .builtin .append, args := #[x, y], argTypes := #[t, t'] }) (ht : Γ.get? t = some it) (htd : it.td = .slc e) (ht' : Γ.get? t' = some it') (htd' : ∀ k, it'.td ≠ .int k)
  (hie : Γ.get? e = some ie) (h1 : ie.size = 1) (hzs' : Nat.beq ie.zero.cells.size ie.size = true) (hx : ev env x = some (cslc b n cap)) (hs : Sel L (.own b) (.box e cs) R) (hcl : cs.length = cap) (hn : n ≤ cap) (hone : (cs.take n).all oneC = true)
  (hy : ev env y = some (.slc sy [v] oy)) (hsy : sy = 1) (hel : oneC v = true) (hb : (n + 1) * ie.bytes ≤ 140737488355328) (h63 : n + 1 ≤ 9223372036854775807)
  (h : ∀ b' cap' cs', cs'.length = cap' → n + 1 ≤ cap' → cs'.take (n + 1) = cs.take n ++ [v] → Ok s ((.own b', .box e cs') :: R) → RL P N ops l Q ((d, cslc b' (n + 1) cap') :: env) (sto s ((.own b', .box e cs') :: R))) : RL P N ops (o :: l) Q env (sto s L) := by
 refine RL.op hg hd hN (OW.appendC hΓ hok ho ht htd ht' htd' hie h1 hzs' hx hs hcl hn hone hy hsy hel hb h63 (X := fun _ _ => False)) ?_ (fun _ _ h => h.elim)
 rintro r s' ⟨b', cap', cs', rfl, rfl, h2, h3, h4, h5⟩
 exact h b' cap' cs' h3 h4 h5 h2

theorem St.freezeC {B : Base} {ro : Option Nat} {a : Act} {w : World} {p : Prot} (h : St N B ro env s a w p) {t b n cap : Nat} {T : TypeId} {cs : List AV} (ht : env.get? t = some (cslc b n cap)) (hs : s b = some (.box T cs)) (hcl : cs.length = cap) (hn : n ≤ cap) (hm : n ≤ 9223372036854775807)
  (hone : (cs.take n).all oneC = true) : ∃ p', St N B ro ((t, .slc 1 (cs.take n) .fro) :: env) (s.del b) a w p' ∧ Le w p w p' ∧ Kept s (s.del b) w p w p' := by
 have hst0 : St N B ro ((a.tmps.size, .any) :: []) s a w p := h.restrict _ (fun t v hv => by
  simp only [Env.get?] at hv
  split at hv
  ·cases hv; exact .any _
  ·cases hv)
 obtain ⟨vs, h1, h2, h3⟩ := h.wf.obj _ _ hs
 have hlt : b < w.heap.size := (Array.getElem?_eq_some_iff.1 h1).1
 have hle : Le w p w (p.also b True) := ⟨rfl, rfl, rfl, Nat.le_refl _, fun _ _ h => .inl h, fun _ _ _ => rfl, fun _ _ h => h⟩
 have hk : Kept s (s.del b) w p w (p.also b True) := ⟨fun _ _ _ => rfl, fun b' hb hn => by
  by_cases e : b' = b
  ·subst e; exact Store.del_same _ _
  ·rw [Store.del_ne _ e]; exact hn, fun b' o hb hn hp => by
   rcases hp with hp | ⟨rfl, _⟩
   ·exact hp
   ·rw [hs] at hn; cases hn⟩
 have hwf : Wf w (p.also b True) (s.del b) := by
  refine ⟨fun b' o hb => ?_, fun b' o hp => by rcases hp with hp | ⟨rfl, _⟩; exact h.wf.lt _ _ hp; exact hlt⟩
  by_cases e : b' = b
  ·subst e; rw [Store.del_same] at hb; cases hb
  ·rw [Store.del_ne _ e] at hb
   have ho := h.wf.obj b' o hb
   have hp' : ∀ o, p.also b True b' o ↔ p b' o := fun o => ⟨fun hp => by rcases hp with hp | ⟨e', _⟩; exact hp; exact absurd e' e, .inl⟩
   cases o with
   | box t c => obtain ⟨us, g1, g2, g3⟩ := ho; exact ⟨us, g1, g2.mono hle, fun o hp => g3 o ((hp' o).1 hp)⟩
   | row t sz n => obtain ⟨cur, g1, g2, g3, g4⟩ := ho; exact ⟨cur, g1, g2, g3, fun o => (hp' o).trans (g4 o)⟩
   | map es => obtain ⟨mes, c, g1, g2, g3⟩ := ho; exact ⟨mes, c, g1, ⟨g2.1.mono hle, g2.2.mono hle⟩, g3⟩
   | ranged es it l c => exact ho.ranged_move hle rfl rfl
   | tick m => exact ho
   | loop r env => exact ⟨ho.1, fun t v h => (ho.2 t v h).mono hle⟩
 have hst := h.step hle hk hwf
 refine ⟨_, ⟨hst.size, fun t' v hv => ?_, hst.wf, hst.defs, hst.round, hst.base⟩, hle, hk⟩
 simp only [Env.get?] at hv
 split at hv
 ·rename_i he
  have := Nat.eq_of_beq_eq_true he
  subst this
  cases hv
  have hr := h.env t _ ht
  generalize a.tmps.getD t undef = vx at hr
  cases hr
  have htk := h2.take n
  have hvone := oneC_all htk hone
  have hfl := flat_ones hvone
  refine .slc b 0 n cap 1 (vs.toList.take n) (cs.take n) .fro (by simp) (by rw [List.length_take, hcl]; omega) ?_ (htk.mono hle) (fun v hv => by rw [oneCell_cells (hvone v hv)]; rfl) hm hn (fun h => by cases h) (fun b h => by cases h)
  rw [hfl]
  intro i v hi
  refine ⟨.inr ⟨rfl, trivial⟩, ?_⟩
  rw [Nat.zero_add, cells_of_box h1]
  rw [List.getElem?_take] at hi
  split at hi
  ·simpa using hi
  ·cases hi
 ·exact hst.env t' v hv
theorem CW.freezeC {c : Code} (hok : Ok s L) (t b : Nat) {n cap : Nat} {T : TypeId} {cs : List AV} (ht : env.get? t = some (cslc b n cap)) (hs : Sel L (.own b) (.box T cs) R) (hcl : cs.length = cap) (hn : n ≤ cap) (hm : n ≤ 9223372036854775807) (hone : (cs.take n).all oneC = true)
  (h : Ok s R → CW P N c Q ((t, .slc 1 (cs.take n) .fro) :: env) (sto s R)) : CW P N c Q env (sto s L) := by
 obtain ⟨h1, h2⟩ := hs.del hok
 intro bf B a w p hfn hst
 obtain ⟨p', h3, h4, h5⟩ := hst.freezeC ht (hs.get hok) hcl hn hm hone
 rw [h1] at h3 h5
 exact cwp_mono (h h2 bf B a w p' hfn h3) fun _ _ _ q => q.after h4 h5
end

/-! ### Sorting in place -/
section
open Go.Sort
variable {P : Program} {α : Type}

theorem ahead_le {w : World} {p : Prot} (k : Nat) : Le w p (Sort.ahead w k) p := ⟨rfl, rfl, rfl, Nat.le_refl _, fun _ _ h => h, fun _ _ _ => rfl, fun _ _ h => h⟩
theorem ahead_wf {w : World} {p : Prot} {s : Store} (k : Nat) (h : Wf w p s) : Wf (Sort.ahead w k) p s := h.grow (ahead_le k) (fun _ _ => rfl) (fun _ _ _ h => h) h.lt
theorem ahead_kept {w : World} {p : Prot} {s : Store} (k : Nat) : Kept s s w p (Sort.ahead w k) p := ⟨fun _ _ _ => rfl, fun _ _ h => h, fun _ _ _ _ h => h⟩
theorem heap_grow_lt (w : World) (os : Array Obj) (b : Nat) (h : b < w.heap.size) : (grow w os).heap[b]? = w.heap[b]? := by
 show (w.heap ++ os)[b]? = _
 rw [Array.getElem?_append_left h]
theorem grow_le {w : World} {p : Prot} (hlt : ∀ b o, p b o → b < w.heap.size) (os : Array Obj) : Le w p (grow w os) p :=
 Le.of_heap rfl rfl rfl (by show w.heap.size ≤ (w.heap ++ os).size; simp) (fun _ _ h => h) hlt (fun b hb => heap_grow_lt w os b hb)
theorem grow_wf {w : World} {p : Prot} {s : Store} (h : Wf w p s) (os : Array Obj) : Wf (grow w os) p s :=
 h.grow (grow_le h.lt os) (fun b hb => heap_grow_lt w os b hb) (fun _ _ _ h => h) (fun b o hp => Nat.lt_of_lt_of_le (h.lt b o hp) (by show w.heap.size ≤ (w.heap ++ os).size; simp))
theorem grow_kept {w : World} {p : Prot} {s : Store} (os : Array Obj) : Kept s s w p (grow w os) p := ⟨fun b hb _ => heap_grow_lt w os b hb, fun _ _ h => h, fun _ _ _ _ h => h⟩

theorem relL_enc {w : World} {p : Prot} {enc : α → Value} {encA : α → AV} (h2 : ∀ w p a, Rel w p (enc a) (encA a)) : ∀ l : List α, RelL w p (l.map enc) (l.map encA)
 | [] => .nil
 | a :: l => .cons _ _ _ _ (h2 w p a) (relL_enc h2 l)
theorem enc_relL {w : World} {p : Prot} {enc : α → Value} {encA : α → AV} (h1 : ∀ w p v a, Rel w p v (encA a) → v = enc a) : ∀ {l : List α} {vs : List Value}, RelL w p vs (l.map encA) → vs = l.map enc
  | [], vs, h => by cases h; rfl
  | a :: l, vs, h => by
    cases h with
    | cons v _ vs' _ hv ht => rw [h1 _ _ _ _ hv, enc_relL h1 ht]; rfl

variable [Inhabited α]
theorem LCalls.sort {f : FuncId} {enc : α → Value} {encA : α → AV} {le : α → α → Bool} {e : TypeId} (hc : Callable P f) (h1 : ∀ w p v a, Rel w p v (encA a) → v = enc a) (h2 : ∀ w p a, Rel w p (enc a) (encA a))
  (hsort : ∀ (blk off cap : Nat) (ss : List α) (w : World), Holds enc w blk off ss.toArray → blk < w.heap.size → ss.length < 4611686018427387904 → Calls P f #[.slice (some ⟨blk, off, none⟩) ss.length cap] w fun e w' => e = .returned (.tuple #[]) ∧ ∃ n os, w' = grow (putRow enc (Sort.ahead w n) blk off (ss.mergeSort le).toArray) os)
  (b cap : Nat) (ss : List α) (rest : List AV) (hl : ss.length < 4611686018427387904) :
  LCalls P f [cslc b ss.length cap] [(.own b, .box e (ss.map encA ++ rest))] (fun o K => o = .ret (.tup []) ∧ K = [(.own b, .box e ((ss.mergeSort le).map encA ++ rest))]) := by
 intro s hok
 refine ⟨hc, fun w p vs hwf hrel => ?_⟩
 cases hrel with
 | cons v _ vs' _ hv ht =>
 cases ht
 cases hv
 obtain ⟨cur, c1, c2, c3⟩ := hwf.obj b _ (Store.set_same _ _ _)
 have hlt : b < w.heap.size := (Array.getElem?_eq_some_iff.1 c1).1
 have hcl : cur.toList = ss.map enc ++ cur.toList.drop ss.length := by
  have h3 := c2.take ss.length
  rw [List.take_append_of_le_length (by simp), List.take_of_length_le (l := ss.map encA) (by simp)] at h3
  rw [← enc_relL h1 h3, List.take_append_drop]
 have hcs : ss.length ≤ cur.size := by
  have := c2.length
  rw [Array.length_toList] at this
  rw [this]; simp
 have hH : Holds enc w b 0 ss.toArray := by
  intro j hj
  have hj' : j < ss.length := by simpa using hj
  refine ⟨?_, by simp [World.frozen?, c1]⟩
  rw [Nat.zero_add, cells_of_box c1, ← Array.getElem?_toList, hcl, List.getElem?_append_left (by simpa using hj'), List.getElem?_map, List.getElem?_eq_getElem hj']
  simp [hj']
 refine Calls.mono (hsort b 0 cap ss w hH hlt hl) ?_
 rintro en w' ⟨rfl, k, os, rfl⟩
 refine ⟨by simp, .ret (.tup []), sto s [(.own b, .box e ((ss.mergeSort le).map encA ++ rest))], p, .tup #[] [] .nil, ⟨_, rfl, hok, rfl, rfl⟩, ?_⟩
 have hms : (ss.mergeSort le).length = ss.length := List.length_mergeSort ss
 have hput : putRow enc (Sort.ahead w k) b 0 (ss.mergeSort le).toArray = (Sort.ahead w k).setRow b ((ss.mergeSort le).map enc ++ cur.toList.drop ss.length).toArray := by
  unfold putRow mapBlock World.setRow
  congr 1
  refine Array.ext_getElem? fun i => ?_
  rw [Array.getElem?_modify, Array.getElem?_modify]
  by_cases e : b = i
  ·subst e
   rw [if_pos rfl, if_pos rfl]
   show (w.heap[b]?).map _ = (w.heap[b]?).map _
   rw [c1]
   simp only [Option.map_some, onCells]
   congr 2
   refine Array.ext_getElem? fun j => ?_
   simp only [putCells, Array.getElem?_mapIdx, Nat.zero_le, true_and, Nat.zero_add, List.size_toArray, hms, Nat.sub_zero]
   rw [← Array.getElem?_toList, ← Array.getElem?_toList]
   by_cases hj : j < ss.length
   ·rw [List.getElem?_append_left (by rw [List.length_map, hms]; exact hj), List.getElem?_map, List.getElem?_eq_getElem (l := ss.mergeSort le) (by rw [hms]; exact hj)]
    have : j < cur.toList.length := by rw [Array.length_toList]; omega
    rw [List.getElem?_eq_getElem this]
    simp [hj, hms]
   ·rw [List.getElem?_append_right (by rw [List.length_map, hms]; omega), List.length_map, hms, List.getElem?_drop]
    rw [show ss.length + (j - ss.length) = j by omega]
    cases cur.toList[j]? with
    | none => rfl
    | some y => simp [hj]
  ·rw [if_neg e, if_neg e]
 rw [hput]
 have hrl : RelL w p (((ss.mergeSort le).map enc ++ cur.toList.drop ss.length).toArray).toList ((ss.mergeSort le).map encA ++ rest) := by
  refine RelL.append (relL_enc h2 _) ?_
  have := c2.drop ss.length
  rwa [List.drop_append_of_le_length (by simp), List.drop_of_length_le (l := ss.map encA) (by simp), List.nil_append] at this
 have a1 := ahead_wf k hwf
 have hS : (sto s [(.own b, .box e (ss.map encA ++ rest))]) b = some (.box e (ss.map encA ++ rest)) := Store.set_same _ _ _
 obtain ⟨w1, w2, w3⟩ := box_write a1 hS (vs' := ((ss.mergeSort le).map enc ++ cur.toList.drop ss.length).toArray) (cs' := (ss.mergeSort le).map encA ++ rest) (fun vs0 h0 => by
  have h0' : w.heap[b]? = some (.cells vs0 e (0, 0)) := h0
  rw [c1] at h0'; cases h0'
  simp only [List.size_toArray, List.length_append, List.length_map, hms, List.length_drop, Array.length_toList]
  omega) (hrl.mono (ahead_le k)) _ rfl
 rw [show (sto s [(.own b, .box e (ss.map encA ++ rest))]).set b (.box e ((ss.mergeSort le).map encA ++ rest)) = sto s [(.own b, .box e ((ss.mergeSort le).map encA ++ rest))] from Store.set_set _ _ _ _] at w2 w3
 refine ⟨((ahead_le k).trans w1).trans (grow_le w3.lt os), ((ahead_kept k).trans (ahead_le (p := p) k).size w2).trans ((ahead_le k).trans w1).size (grow_kept os), grow_wf w3 os⟩
end

/-! ### Ranges over maps -/
section
variable {P : Program} {Γ : Tys} {N : Nat} {ops : Array Oper} {Q : AEx → Env → Store → Prop} {env : Env} {s : Store} {l : List Oper} {o : Oper} {d : Nat} {L R R' : LS}
end
end Go.AE

/- The abstract walk: chains of frozen boxes that are known by their blocks. -/
namespace Go.AE

def chainA : List (Nat × Int) → AV
 | [] => .pnil
 | (b, n) :: r => .kptr b [chainA r, .int .i64 n]
theorem chain_prot {w : World} {p : Prot} : ∀ {l : List (Nat × Int)} {v : Value}, Rel w p v (chainA l) → ∀ q ∈ l, p q.1 0
  | [], _, _, _, hq => by cases hq
  | (b, n) :: r, v, h, q, hq => by
    cases h with
    | kptr _ vs _ hn hs hc hr =>
      rcases List.mem_cons.1 hq with rfl | hq
      · obtain ⟨u, us, rfl⟩ := List.exists_cons_of_ne_nil hn
        have := (hc 0 u rfl).1
        simpa using this
      · cases hr with
        | cons u _ us _ hu _ => exact chain_prot hu q hq

section
variable {P : Program} {N : Nat} {ops : Array Oper} {Q : AEx → Env → Store → Prop} {env : Env} {s : Store} {l : List Oper} {L R : LS}
theorem OW.boxK {o : Oper} {t : TypeId} {x : Operand} {c : List (Nat × Int)} {n : Int} (ho : o.op = .box t x) (hx : ev env x = some (.agg [chainA c, .int .i64 n])) {X : AV → Store → Prop} :
  OW P N o env s (fun r s' => ∃ b, (∀ q ∈ c, q.1 ≠ b) ∧ r = chainA ((b, n) :: c) ∧ s' = s) X := by
 refine OW.of_run (by simp [noDefer, ho]) fun ro B a w p hst => ?_
 have hr := hst.ev hx
 have hexec : (execOp a.eval o).run P w = .ok (.value (.pointer (some ⟨w.heap.size, 0, none⟩))) (w.alloc (.cells (a.eval x).cells t)) := by
  unfold execOp
  rw [ho]
  exact run_v rfl
 generalize hvx : a.eval x = vx at hr hexec
 cases hr with
 | agg us _ hl =>
 have hl0 := hl
 generalize hvl : us.toList = ul at hl
 cases hl with
 | cons u _ us' _ hu ht =>
 have hlt := hst.wf.lt
 refine ⟨_, _, s, p.also w.heap.size True, chainA ((w.heap.size, n) :: c), hexec, alloc_le hlt _ _, alloc_kept _ _, alloc_wf hst.wf _ _, ⟨w.heap.size, fun q hq e => ?_, rfl, rfl⟩, ?_⟩
 ·have := hlt _ _ (chain_prot hu q hq)
  omega
 ·have hcl : (Value.agg us).cells = us := rfl
  rw [hcl]
  refine .kptr _ us.toList _ ?_ ⟨(t, us.size), ?_⟩ ?_ (hl0.mono (alloc_le hlt (.cells us t) True))
  ·rw [hvl]; simp
  ·unfold World.shp?; rw [heap_alloc_here]; rfl
  ·have := alloc_cells (w := w) (p := p) us.toList t
   simpa using this
theorem RL.boxK {o : Oper} {d : Nat} {t : TypeId} {x : Operand} {c : List (Nat × Int)} {n : Int} (hg : guardOf ops env o = some true) (hd : o.dst = some d) (hN : Nat.blt d N = true) (ho : o.op = .box t x) (hx : ev env x = some (.agg [chainA c, .int .i64 n]))
  (h : ∀ b, (∀ q ∈ c, q.1 ≠ b) → RL P N ops l Q ((d, chainA ((b, n) :: c)) :: env) s) : RL P N ops (o :: l) Q env s := by
 refine RL.op hg hd hN (OW.boxK ho hx (X := fun _ _ => False)) ?_ (fun _ _ h => h.elim)
 rintro _ _ ⟨b, h1, rfl, rfl⟩
 exact h b h1
end
end Go.AE

/- The abstract walk: rows that are copied and grow, in drawn regions (out of l1/XLeA, XLdW). -/
namespace Go.AE
section
variable {P : Program} {Γ : Tys} {N : Nat} {env : Env} {s : Store}
variable {ops : Array Oper} {l : List Oper} {Q : AEx → Env → Store → Prop} {o : Oper} {d m : Nat}
end
theorem RD.knowT {P : Program} {Γ : Tys} {N : Nat} {ops : Array Oper} {Q : AEx → Env → Store → Prop} {D : Nat → Bool} {env : Env} {s : Store} (t : Nat) {b : Bool} (hv : env.get? t = some (.bool b)) (he : b = true)
  (h : RD P Γ N ops Q D ((t, .bool true) :: env) s) : RD P Γ N ops Q D env s := by
 subst he
 refine RD.congr _ (fun x => ?_) h
 show (if Nat.beq t x then _ else _) = _
 split
 ·rename_i hx
  rw [← hv, Nat.eq_of_beq_eq_true hx]
 ·rfl
theorem RD.knowF {P : Program} {Γ : Tys} {N : Nat} {ops : Array Oper} {Q : AEx → Env → Store → Prop} {D : Nat → Bool} {env : Env} {s : Store} (t : Nat) {b : Bool} (hv : env.get? t = some (.bool b)) (he : b = false)
  (h : RD P Γ N ops Q D ((t, .bool false) :: env) s) : RD P Γ N ops Q D env s := by
 subst he
 refine RD.congr _ (fun x => ?_) h
 show (if Nat.beq t x then _ else _) = _
 split
 ·rename_i hx
  rw [← hv, Nat.eq_of_beq_eq_true hx]
 ·rfl

section
variable {P : Program} {Γ : Tys} {N : Nat} {Q : AEx → Env → Store → Prop} {env : Env} {s : Store} {l : List Oper} {m : Nat}
theorem RD.appendR (hΓ : TysOk P Γ) {i : Nat} {o : Oper} {d : Nat} {t t' e : TypeId} {x y : Operand} {it it' ie : TI} {sx sy n : Nat} {xs ys : List AV} {own oy : Own} (hr : readyL l.toArray m (idxs 0 l) = [i]) (ho : l.toArray[i]? = some o) (hd : o.dst = some d) (hN : Nat.blt d N = true)
  (hg : guardOf l.toArray (pickE env (looks l.toArray o)) o = some true) (hop : o.op = .call { callee := .builtin .append, args := #[x, y], argTypes := #[t, t'] }) (ht : Γ.get? t = some it) (htd : it.td = .slc e) (ht' : Γ.get? t' = some it') (htd' : ∀ k, it'.td ≠ .int k)
  (hie : Γ.get? e = some ie) (hx : ev (pickE env (looks l.toArray o)) x = some (.slc sx xs own)) (hy : ev (pickE env (looks l.toArray o)) y = some (.slc sy ys oy)) (hsx : sx = ie.size) (hsy : ys = [] ∨ sy = ie.size)
  (hzs' : Nat.beq ie.zero.cells.size ie.size = true) (hel : ∀ y ∈ ys, elemOk ie.size y = true) (hb : (xs.length + ys.length) * ie.bytes ≤ 140737488355328) (h63 : xs.length + ys.length ≤ 9223372036854775807) (hn : n = xs.length)
  {s₀ : Store} (hs : s₀ = rowOf s e ie.size n own) (hok : OwnOk s n own)
  (h : ∀ own', OwnOk s (xs.length + ys.length) own' → RD P Γ N l.toArray Q (dn (m ||| 2 ^ i)) ((d, .slc ie.size (xs ++ ys) own') :: env) (rowOf s e ie.size (xs.length + ys.length) own')) : RD P Γ N l.toArray Q (dn m) env s₀ := by
 subst hs
 subst hn
 refine RD.one hr ho hd hN hg (OW.appendR hΓ hop ht htd ht' htd' hie hx hy hsx hsy hzs' hel hb h63 rfl hok (X := fun _ _ => False)) ?_ (fun _ _ h => h.elim)
 rintro r s' ⟨own', h1, -, -, rfl, rfl⟩
 exact h own' h1
end
theorem ACalls.args {P : Program} {f : FuncId} {xs ys : List AV} {s : Store} {R : AOut → Store → Prop} (hl : AVleL xs ys) (h : ACalls P f ys s R) : ACalls P f xs s R :=
 ⟨h.1, fun w p vs hwf hr => h.2 w p vs hwf (hl.rel hr)⟩
theorem LCalls.args {P : Program} {f : FuncId} {xs ys : List AV} {K : LS} {C : AOut → LS → Prop} (h : AVleL xs ys) (k : LCalls P f ys K C) : LCalls P f xs K C := fun s hok => ACalls.args h (k s hok)
theorem PCalls.args {P : Program} {f : FuncId} {xs ys : List AV} {v : AV} (h : AVleL xs ys) (k : PCalls P f ys v) : PCalls P f xs v := fun s => ACalls.args h (k s)
theorem resA_cell {Γ : Tys} {env : Env} {s : Store} {a b : Nat} {t T : TypeId} {i : TI} {cs : List AV} {v : AV} (he : env.get? a = some (.ptr b 0)) (hi : Γ.get? t = some i) (hs : s b = some (.box T cs)) (hl : loadC i cs 0 = some v) :
  resA Γ env s [.cell a t] = some v := by simp [resA, resAll, resOne, he, hi, hs, hl]
theorem resA_cellT {Γ : Tys} {env : Env} {s : Store} {a b c : Nat} {t T : TypeId} {i : TI} {cs : List AV} {v u : AV} (he : env.get? a = some (.ptr b 0)) (hi : Γ.get? t = some i) (hs : s b = some (.box T cs)) (hl : loadC i cs 0 = some v) (hc : env.get? c = some u) :
  resA Γ env s [.cell a t, .tmp c] = some (.tup [v, u]) := by simp [resA, resAll, resOne, he, hi, hs, hl, hc]
theorem RL.phantom {P : Program} {N : Nat} {ops : Array Oper} {Q : AEx → Env → Store → Prop} {env : Env} {s : Store} {l : List Oper} {L : LS} (hok : Ok s L) (e : TypeId) (sz n : Nat) (h : Ok s ((.nil, .row e sz n) :: L) → RL P N ops l Q env (sto s ((.nil, .row e sz n) :: L))) : RL P N ops l Q env (sto s L) := h ⟨trivial, hok⟩
theorem CW.phantom {P : Program} {N : Nat} {Q : AEx → Env → Store → Prop} {env : Env} {s : Store} {c : Code} {L : LS} (hok : Ok s L) (e : TypeId) (sz n : Nat) (h : Ok s ((.nil, .row e sz n) :: L) → CW P N c Q env (sto s ((.nil, .row e sz n) :: L))) : CW P N c Q env (sto s L) := h ⟨trivial, hok⟩
end Go.AE

/- The abstract walk: ranges over functions, their objects told as lists. -/
namespace Go.AE

def YieldsL (P : Program) {α : Type} (av : α → AV) (l : Nat) (Go : List α → LS → Prop) (Done : LS → Prop) (Pan : AV → LS → Prop) : Prop :=
 ∀ x rem K, Go (x :: rem) K → LCallV P (yieldV l) [av x] K (fun o K' => (o = .ret (.bool true) ∧ Go rem K') ∨ (o = .ret (.bool false) ∧ Done K') ∨ ∃ v, o = .panic v ∧ Pan v K')
def IterL (P : Program) (f : FuncId) (first cap : List AV) (K₀ : LS) {α : Type} (av : α → AV) (xs : List α) : Prop :=
 ∀ (l : Nat) (Go : List α → LS → Prop) (Done : LS → Prop) (Pan : AV → LS → Prop), YieldsL P av l Go Done Pan → ∀ K, Go xs K →
  LCalls P f (first ++ ([yieldV l] ++ cap)) (K₀ ++ K) (fun o K' => (o = .ret (.tup []) ∧ (Go [] K' ∨ Done K')) ∨ ∃ v, o = .panic v ∧ Pan v K')

theorem Sels.allZ : ∀ L : LS, Sels L L []
 | [] => .nil
 | (_, _) :: L => .cons .here (Sels.allZ L)
theorem Sels.there {L K R : LS} {e : Own × AObj} (h : Sels L K R) : Sels (e :: L) K (e :: R) := by
 induction h with
 | nil => exact .nil
 | cons h t ih => exact .cons (.there h) ih
theorem Sels.app {L K R K' R' : LS} (h : Sels L K R) (h' : Sels R K' R') : Sels L (K ++ K') R' := by
 induction h with
 | nil => exact h'
 | cons h t ih => exact .cons h (ih h')
theorem Sel.app {L R : LS} {k : Own} {o : AObj} : ∀ (K : LS), Sel L k o R → Sel (K ++ L) k o (K ++ R)
 | [], h => h
 | _ :: K, h => .there (Sel.app K h)
theorem Sel.appL {L R : LS} {k : Own} {o : AObj} (h : Sel L k o R) (M : LS) : Sel (L ++ M) k o (R ++ M) := by
 induction h with
 | here => exact .here
 | there h ih => exact .there ih
theorem Sels.appR {L K R' R : LS} (h : Sels L K R') : Sels (L ++ R) K (R' ++ R) := by
 induction h with
 | nil => exact .nil
 | cons h t ih => exact .cons (h.appL _) ih
def At (s : Store) (I : LS → Prop) (s' : Store) : Prop := ∃ L K R, s' = sto s L ∧ Ok s L ∧ Sels L K R ∧ I K
theorem At.mk {s : Store} {I : LS → Prop} {L R : LS} (K : LS) (hok : Ok s L) (hs : Sels L K R) (hI : I K) : At s I (sto s L) := ⟨L, K, R, rfl, hok, hs, hI⟩
theorem ACallV.less {P : Program} {fv : AV} {args : List AV} {s : Store} {R R' : AOut → Store → Prop} (h : ACallV P fv args s R) (hr : ∀ o s', R o s' → ∃ s'', Store.Sub s'' s' ∧ R' o s'') : ACallV P fv args s R' := by
 intro w p v vs hwf hv hvs
 refine (h w p v vs hwf hv hvs).mono ?_
 rintro e w' ⟨o, s', p', h1, h2, h3, h4, h5⟩
 obtain ⟨s'', k1, k2⟩ := hr o s' h2
 exact ⟨o, s'', p', h1, k2, h3, h4.sub k1, h5.sub k1⟩

section
variable {P : Program} {N : Nat} {Q : AEx → Env → Store → Prop} {env : Env} {s : Store} {L R : LS}
theorem CW.rangeFL {α : Type} {av : α → AV} {xs : List α} {t : Tmp} {g : Operand} {asg body : Code} {f : FuncId} {first cap : List AV} {K₀ : LS} (hok : Ok s L) (hg : ev env g = some (.func f first cap)) (hN : t < N)
  (hit : IterL P f first cap K₀ av xs) (hs : Sels L K₀ R) (I : List α → LS → Prop) (J : Code → LS → Prop) (Pn : AV → LS → Prop) (h0 : I xs R)
  (hbody : ∀ s x rem K, I (x :: rem) K → Ok s K → CW P N asg (AEx.andThen (CW P N body (RoundQ (At s (I rem)) (fun j => At s (J j)) (fun v => At s (Pn v)))) (fun _ _ _ => False)) ((t, av x) :: env) (sto s K))
  (hn : ∀ K, I [] K → Ok s K → Q .normal env (sto s K))
  (hj : ∀ j K, J j K → Ok s K → CW P N j Q env (sto s K))
  (hx : ∀ v K, Pn v K → Ok s K → Q (.panic v) env (sto s K)) : CW P N (.rangeFunc g #[t] asg body) Q env (sto s L) := by
 refine CW.rangeF hg (by intro t' ht'; simp at ht'; subst ht'; exact hN) fun l r hl hyield => ?_
 have hok1 : Ok s ((.own l, .loop r env) :: L) := ⟨hl, hok⟩
 have hY : YieldsL P av l (fun rem K => ∃ K', K = (.own l, .loop r env) :: K' ∧ I rem K') (fun K => ∃ j K', K = (.own l, .loop (over r j) env) :: K' ∧ J j K') (fun v K => ∃ K', K = (.own l, .loop (busy r) env) :: K' ∧ Pn v K') := by
  rintro x rem _ ⟨K, rfl, hI⟩ s' hokK
  refine (hyield [av x] _ (At s' (I rem)) (fun j => At s' (J j)) (fun v => At s' (Pn v)) (Store.set_same _ _ _) rfl ?_).less ?_
  ·have := Store.del_set (sto s' K) l (.loop r env) hokK.1
   show CW P N asg _ _ (((sto s' K).set l (.loop r env)).del l)
   rw [this]
   exact hbody s' x rem K hI hokK.2
  ·have key : ∀ {L K R : LS} {o : AObj}, sto s' L l = none → Ok s' L → Sels L K R → Store.Sub (sto s' ((.own l, o) :: K)) ((sto s' L).set l o) ∧ Ok s' ((.own l, o) :: K) := by
    intro L K R o h1 h2 h3
    exact (Sels.cons Sel.here h3).sub (L := (.own l, o) :: L) ⟨h1, h2⟩
   rintro o s'' (⟨rfl, s₂, h1, rfl, L, K', R, rfl, h2, h4, h3⟩ | ⟨rfl, j, s₂, h1, rfl, L, K', R, rfl, h2, h4, h3⟩ | ⟨v, s₂, rfl, h1, rfl, L, K', R, rfl, h2, h4, h3⟩)
   ·obtain ⟨k1, k2⟩ := key h1 h2 h4 (o := .loop r env)
    exact ⟨_, k1, (.own l, .loop r env) :: K', rfl, k2, .inl ⟨rfl, K', rfl, h3⟩⟩
   ·obtain ⟨k1, k2⟩ := key h1 h2 h4 (o := .loop (over r j) env)
    exact ⟨_, k1, (.own l, .loop (over r j) env) :: K', rfl, k2, .inr (.inl ⟨rfl, j, K', rfl, h3⟩)⟩
   ·obtain ⟨k1, k2⟩ := key h1 h2 h4 (o := .loop (busy r) env)
    exact ⟨_, k1, (.own l, .loop (busy r) env) :: K', rfl, k2, .inr (.inr ⟨v, rfl, K', rfl, h3⟩)⟩
 have hcall := (hit l _ _ _ hY _ ⟨R, rfl, h0⟩).at hok1 ((hs.there (e := (.own l, .loop r env))).app (Sels.allZ _))
 refine hcall.mono ?_
 rintro o s'' ⟨M, rfl, hokM, K', rfl, h⟩
 rw [List.append_nil] at hokM ⊢
 rcases h with ⟨rfl, ⟨K₂, rfl, h⟩ | ⟨j, K₂, rfl, h⟩⟩ | ⟨v, rfl, K₂, rfl, h⟩
 ·exact .inl ⟨sto s K₂, hokM.1, rfl, hn K₂ h hokM.2⟩
 ·exact .inr ⟨j, sto s K₂, hokM.1, rfl, hj j K₂ h hokM.2⟩
 ·exact ⟨sto s K₂, _, hokM.1, rfl, hx v K₂ h hokM.2⟩
end
section
variable {P : Program} {Γ : Tys} {N : Nat} {l : List Oper} {Q : AEx → Env → Store → Prop} {env : Env} {s : Store} {m d : Nat} {o : Oper} {L K R : LS} {C : AOut → LS → Prop}
theorem RD.callL (i : Nat) {f : FuncId} {ar : Array Operand} {ats : Array TypeId} {xs : List AV} (hr : readyL l.toArray m (idxs 0 l) = [i]) (ho : l.toArray[i]? = some o) (hd : o.dst = some d) (hN : Nat.blt d N = true)
  (hg : guardOf l.toArray (pickE env (looks l.toArray o)) o = some true) (hop : o.op = .call { callee := .value (.func f), args := ar, argTypes := ats }) (ha : evs (pickE env (looks l.toArray o)) ar.toList = some xs) (h : LCalls P f xs K C) (hok : Ok s L) (hs : Sels L K R)
  (hk : ∀ x K', C (.ret x) K' → Ok s (K' ++ R) → RD P Γ N l.toArray Q (dn (m ||| 2 ^ i)) ((d, x) :: env) (sto s (K' ++ R))) (hx : ∀ x K', C (.panic x) K' → Ok s (K' ++ R) → Q (.panic x) [] (sto s (K' ++ R))) : RD P Γ N l.toArray Q (dn m) env (sto s L) :=
 RJ.callL hr ho hd hN hg hop ha h hok hs (fun _ _ _ _ => .inl trivial) hk hx
theorem RJ.loadS {J : Store → Prop} (i : Nat) (hΓ : TysOk P Γ) (hJ : J s) {t : TypeId} {x : Operand} {ti : TI} {b off : Nat} {v : AV} (hr : readyB l.toArray m i = true) (ho : l.toArray[i]? = some o) (hd : o.dst = some d) (hN : Nat.blt d N = true)
  (hg : guardOf l.toArray (pickE env (looks l.toArray o)) o = some true) (hop : o.op = .load t x) (ht : Γ.get? t = some ti) (hx : ev (pickE env (looks l.toArray o)) x = some (.ptr b off)) (hs : ∀ s, J s → ∃ T cs, s b = some (.box T cs) ∧ loadC ti cs off = some v)
  (h : RJ J P Γ N l.toArray Q (dn (m ||| 2 ^ i)) ((d, v) :: env) s) : RJ J P Γ N l.toArray Q (dn m) env s :=
 RJ.calmJ hJ hr ho hd hN hg (fun s hs' => by obtain ⟨T, cs, h1, h2⟩ := hs s hs'; exact OW.loadP hΓ hop ht hx h1 h2) h
end
section
variable {P : Program} {N : Nat} {Q : AEx → Env → Store → Prop} {env : Env} {s : Store} {L : LS}
def CutX {σ : Type} (s : Store) (E : σ → Env) (K : σ → LS) (I : σ → Prop) (Q : AEx → Env → Store → Prop) : AEx → Env → Store → Prop
 | .normal, env', s' => ∃ y L' R', I y ∧ Env.Sub (E y) env' ∧ s' = sto s L' ∧ Ok s L' ∧ Sels L' (K y) R'
 | e, env', s' => Q e env' s'
theorem CutX.mk {σ : Type} {E : σ → Env} {K : σ → LS} {I : σ → Prop} (y : σ) {R' : LS} (hok : Ok s L) (hI : I y) (hE : Env.Sub (E y) env) (hS : Sels L (K y) R') : CutX s E K I Q .normal env (sto s L) := ⟨y, L, R', hI, hE, rfl, hok, hS⟩
theorem CW.atCutX {σ : Type} {x y : Code} {Q' : AEx → Env → Store → Prop} (E : σ → Env) (K : σ → LS) (I : σ → Prop) (h₁ : CW P N x (CutX s E K I Q') env (sto s L)) (h₂ : ∀ z, I z → Ok s (K z) → CW P N y Q (E z) (sto s (K z))) :
  CW P N x (AEx.andThen (CW P N y Q) Q') env (sto s L) := by
 refine h₁.mono ?_
 intro e env' s' h
 cases e with
 | normal =>
  obtain ⟨z, L', R', g1, g2, rfl, g3, g4⟩ := h
  obtain ⟨k1, k2⟩ := g4.sub g3
  exact CW.sub _ g2 (CW.drop _ k1 (h₂ z g1 k2))
 | exit id => exact h
 | ret => exact h
 | panic v => exact h
end
section
variable {P : Program} {N : Nat} {ops : Array Oper} {Q : AEx → Env → Store → Prop} {env : Env} {s : Store} {l : List Oper} {o : Oper} {d : Nat}
theorem OW.rem {t yt : TypeId} {x y : Operand} {k : IntKind} {a b r : Int} (ho : o.op = .binOp .rem t x y yt) (hx : ev env x = some (.int k a)) (hy : ev env y = some (.int k b)) (hb : b ≠ 0) (hr : a.tmod b = r) :
  OW P N o env s (fun x s' => x = .int k r ∧ s' = s) (fun _ _ => False) := by
 refine OW.ofPure (by simp [noDefer, ho]) fun ro B a' w p hst => ?_
 have h1 := hst.ev hx
 have h2 := hst.ev hy
 generalize hvx : a'.eval x = vx at h1
 generalize hvy : a'.eval y = vy at h2
 cases h1
 cases h2
 refine pure_binV (v := .int k r) ho ?_ ?_ (.int _ _)
 ·rw [hvx, hvy]; unfold eqGuard; simp
 ·rw [hvx, hvy]
  simp only [binOp, ne_eq, not_true_eq_false, if_false, Op.intDiv, hb, hr]
  rfl
theorem RL.rem {t yt : TypeId} {x y : Operand} {k : IntKind} {a b r : Int} (hg : guardOf ops env o = some true) (hd : o.dst = some d) (hN : Nat.blt d N = true) (ho : o.op = .binOp .rem t x y yt) (hx : ev env x = some (.int k a)) (hy : ev env y = some (.int k b)) (hb : b ≠ 0) (hr : a.tmod b = r)
  (h : RL P N ops l Q ((d, .int k r) :: env) s) : RL P N ops (o :: l) Q env s :=
 RL.op hg hd hN (OW.rem ho hx hy hb hr) (fun x s' ⟨h1, h2⟩ => by subst h1; subst h2; exact h) (fun _ _ h => h.elim)
end
end Go.AE

/- The abstract walk: functions that defer a call. -/
namespace Go.AE

theorem unwind_tail {P : Program} {cs : List Frame} (T : List Deferred) : ∀ (ds : List Nat) (fr : Frame) (w : World), fr.mode ≠ .run → fr.defers = marksOf ds ++ T →
  (∀ d ∈ ds, w.heap[d]? = some (.deferred (some []))) → ds.Nodup → Steps P (lone fr cs w) (lone { fr with defers := T } cs (emptied w ds)) := by
 intro ds
 induction ds with
 | nil =>
  intro fr w _ hd _ _
  have : ({ fr with defers := T } : Frame) = fr := by cases fr; simp_all [marksOf]
  rw [this]; exact .refl P _
 | cons d ds ih =>
  intro fr w hm hd hb hn
  have hd0 : w.heap[d]? = some (.deferred (some [])) := hb d (List.mem_cons_self ..)
  have ht : (Instr.takeDeferred d).run P w = .ok [] { w with heap := w.heap.setIfInBounds d (.deferred none) } := by
   unfold Instr.takeDeferred
   simp only [Sem.run_bind, getObj, setObj, Sem.run, hd0, Result.andThen]
   rfl
  have h1 : step P (lone fr cs w) = .next (lone { fr with defers := marksOf ds ++ T } cs { w with heap := w.heap.setIfInBounds d (.deferred none) }) := by
   refine step_lone_go ?_
   cases hmode : fr.mode with
   | run => exact absurd hmode hm
   | returning => simp [stepG, unwind, hmode, hd, marksOf, Sem.runT_eq, ht]
   | panicking chain => simp [stepG, unwind, hmode, hd, marksOf, Sem.runT_eq, ht]
  have hnd := List.nodup_cons.1 hn
  refine .head h1 (ih { fr with defers := marksOf ds ++ T } _ hm rfl ?_ hnd.2)
  intro d' hd'
  have hne : d ≠ d' := fun e => hnd.1 (e ▸ hd')
  simp only [Array.getElem?_setIfInBounds, hne, if_false]
  exact hb d' (List.mem_cons_of_mem _ hd')

def endPostT (P : Program) (fn : Func) (R : Ending → World → Prop) (T : List Deferred) : CEx → Act → World → Prop
 | .normal, a, w | .ret, a, w => ∃ ds, a.defers = marksOf ds ++ T ∧ ds.Nodup ∧ (∀ d ∈ ds, w.heap[d]? = some (.deferred (some []))) ∧ Leaves P fn a.tmps R T .returning (emptied w ds)
 | .panic ch, a, w => ∃ ds, a.defers = marksOf ds ++ T ∧ ds.Nodup ∧ (∀ d ∈ ds, w.heap[d]? = some (.deferred (some []))) ∧ Leaves P fn a.tmps R T (.panicking ch) (emptied w ds)
 | .exit _, _, _ => False

theorem calls_of_defer {P : Program} {f : FuncId} {fn : Func} {r0 r1 rest : Code} {args : Array Value} {w : World} {R : Ending → World → Prop} {T : List Deferred}
  (hf : P.funcs[f]? = some fn) (hb : fn.body = some (.seq r0 (.seq r1 rest)))
  (h : r0.wp P (fun e a w => e = .normal ∧ r1.wp P (fun e a w => e = .normal ∧ ∀ b : Frame, b.roundOf = none → b.fn = f → cwp P b rest (endPostT P fn R T) a w) a w) { tmps := args ++ Array.replicate (fn.ntmps - args.size) undef, defers := [] } w) :
  Calls P f args w R := by
 intro cs
 let b : Frame := { (default : Frame) with fn := f, kind := .normal, roundOf := none }
 have henter : Frame.enter P f args .normal =
   b.at { tmps := args ++ Array.replicate (fn.ntmps - args.size) undef, defers := [] } [.code (.seq r0 (.seq r1 rest))] := by
  simp [Frame.enter, Frame.at, hf, hb, b]
 obtain ⟨e0, a0, w0, ⟨rfl, h1⟩, s0⟩ := h b [.code (.seq r1 rest)] cs
 obtain ⟨e1, a1, w1, ⟨rfl, h2⟩, s1⟩ := h1 b [.code rest] cs
 have s0' : Steps P (lone (b.at { tmps := args ++ Array.replicate (fn.ntmps - args.size) undef, defers := [] } [.code r0, .code (.seq r1 rest)]) cs w) (lone (b.at a0 [.code (.seq r1 rest)]) cs w0) := s0
 have s1' : Steps P (lone (b.at a0 [.code r1, .code rest]) cs w0) (lone (b.at a1 [.code rest]) cs w1) := s1
 have hpre : Steps P (lone (Frame.enter P f args .normal) cs w) (lone (b.atR a1 [.code rest]) cs w1) := by
  rw [henter, Frame.atR_of_none rfl]
  exact .head step_seq (s0'.trans (.head step_seq s1'))
 obtain ⟨e, a', w', hq, harr⟩ := h2 b rfl rfl [] cs
 cases e with
 | normal =>
  obtain ⟨ds, hd, hn, hbl, hL⟩ := hq
  have hs := Steps.trans (Steps.trans hpre harr) (Steps.trans (.one (stepR_end rfl)) (unwind_tail T ds { b.atR a' [] with mode := .returning } w' (by simp) hd hbl hn))
  obtain ⟨e', w'', fr', hR, hs', hfn, hl⟩ := leaves_steps T .returning _ { b.atR a' [] with mode := .returning, defers := T } cs rfl rfl rfl hf rfl hL
  exact ⟨e', w'', fr', hR, Comes.of_steps hs hs', hfn, hl⟩
 | ret =>
  obtain ⟨ds, hd, hn, hbl, hL⟩ := hq
  obtain ⟨k₁, hs⟩ := harr
  have hs := Steps.trans (Steps.trans hpre hs) (Steps.trans (.one (stepR_ret rfl)) (unwind_tail T ds { b.atR a' (.code .ret :: k₁) with mode := .returning } w' (by simp) hd hbl hn))
  obtain ⟨e', w'', fr', hR, hs', hfn, hl⟩ := leaves_steps T .returning _ { b.atR a' (.code .ret :: k₁) with mode := .returning, defers := T } cs rfl rfl rfl hf rfl hL
  exact ⟨e', w'', fr', hR, Comes.of_steps hs hs', hfn, hl⟩
 | panic ch =>
  obtain ⟨ds, hd, hn, hbl, hL⟩ := hq
  obtain ⟨k₁, hs⟩ := harr
  have hs := Steps.trans (Steps.trans hpre hs) (unwind_tail T ds { b.atR a' k₁ with mode := .panicking ch } w' (by simp) hd hbl hn)
  obtain ⟨e', w'', fr', hR, hs', hfn, hl⟩ := leaves_steps T (.panicking ch) _ { b.atR a' k₁ with mode := .panicking ch, defers := T } cs rfl rfl rfl hf rfl hL
  exact ⟨e', w'', fr', hR, Comes.of_steps hs hs', hfn, hl⟩
 | exit id => exact hq.elim
end Go.AE

/- The abstract walk: maps and function values in drawn regions. -/
namespace Go.AE
section
variable {P : Program} {Γ : Tys} {N : Nat} {l : List Oper} {Q : AEx → Env → Store → Prop} {env : Env} {s : Store} {m d : Nat} {o : Oper} {L K R : LS} {C : AOut → LS → Prop}
theorem RD.lookupL (i : Nat) (hΓ : TysOk P Γ) (hok : Ok s L) {t kt et : TypeId} {x y : Operand} {ok : Bool} {it ik ie : TI} {mb : Nat} {es : List (AV × AV)} {k z : AV} {r : Option AV} (hr : readyL l.toArray m (idxs 0 l) = [i]) (ho : l.toArray[i]? = some o) (hd : o.dst = some d) (hN : Nat.blt d N = true)
  (hg : guardOf l.toArray (pickE env (looks l.toArray o)) o = some true) (hop : o.op = .lookup t x y ok) (ht : Γ.get? t = some it) (htd : it.td = .map kt et) (hik : Γ.get? kt = some ik) (hie : Γ.get? et = some ie) (hx : ev (pickE env (looks l.toArray o)) x = some (.map mb)) (hy : ev (pickE env (looks l.toArray o)) y = some k) (hs : Sel L (.own mb) (.map es) R)
  (hf : keyFits ik.td k = true) (hr' : getA es k = some r) (hz : constAV2 ie.zero = some z) (h : RD P Γ N l.toArray Q (dn (m ||| 2 ^ i)) ((d, gotA ok z r) :: env) (sto s L)) : RD P Γ N l.toArray Q (dn m) env (sto s L) :=
 RD.one hr ho hd hN hg (OW.lookupL hΓ hok hop ht htd hik hie hx hy hs hf hr' hz (X := fun _ _ => False)) (fun x s' ⟨h1, h2⟩ => by subst h1; subst h2; exact h) (fun _ _ h => h.elim)
theorem RD.callVL (i : Nat) {g : Operand} {fv : AV} {ar : Array Operand} {ats : Array TypeId} {xs : List AV} (hr : readyL l.toArray m (idxs 0 l) = [i]) (ho : l.toArray[i]? = some o) (hd : o.dst = some d) (hN : Nat.blt d N = true)
  (hg : guardOf l.toArray (pickE env (looks l.toArray o)) o = some true) (hop : o.op = .call { callee := .value g, args := ar, argTypes := ats }) (hv : ev (pickE env (looks l.toArray o)) g = some fv) (ha : evs (pickE env (looks l.toArray o)) ar.toList = some xs) (h : LCallV P fv xs K C) (hok : Ok s L) (hs : Sels L K R)
  (hk : ∀ x K', C (.ret x) K' → Ok s (K' ++ R) → RD P Γ N l.toArray Q (dn (m ||| 2 ^ i)) ((d, x) :: env) (sto s (K' ++ R))) (hx : ∀ x K', C (.panic x) K' → Ok s (K' ++ R) → Q (.panic x) [] (sto s (K' ++ R))) : RD P Γ N l.toArray Q (dn m) env (sto s L) :=
 RJ.callVL hr ho hd hN hg hop hv ha h hok hs (fun _ _ _ _ => .inl trivial) hk hx
end
end Go.AE

/- The abstract walk: rows that a function writes anew in place. -/
namespace Go.AE
section
open Go.Sort
variable {P : Program} {α : Type} [Inhabited α]
theorem LCalls.rewrite {f : FuncId} {enc : α → Value} {encA : α → AV} {e : TypeId} {out : Nat → Nat → Value} {outA : Nat → Nat → AV} (hc : Callable P f) (h1 : ∀ w p v a, Rel w p v (encA a) → v = enc a) (h2 : ∀ w p a, Rel w p (enc a) (encA a))
  (b cap : Nat) (ss new : List α) (rest : List AV) (hms : new.length = ss.length) (hout : ∀ w p, Rel w p (out b cap) (outA b cap))
  (hcall : ∀ (w : World), Holds enc w b 0 ss.toArray → b < w.heap.size → Calls P f #[.slice (some ⟨b, 0, none⟩) ss.length cap] w fun e w' => e = .returned (out b cap) ∧ ∃ n os, w' = grow (putRow enc (Sort.ahead w n) b 0 new.toArray) os) :
  LCalls P f [cslc b ss.length cap] [(.own b, .box e (ss.map encA ++ rest))] (fun o K => o = .ret (outA b cap) ∧ K = [(.own b, .box e (new.map encA ++ rest))]) := by
 intro s hok
 refine ⟨hc, fun w p vs hwf hrel => ?_⟩
 cases hrel with
 | cons v _ vs' _ hv ht =>
 cases ht
 cases hv
 obtain ⟨cur, c1, c2, c3⟩ := hwf.obj b _ (Store.set_same _ _ _)
 have hlt : b < w.heap.size := (Array.getElem?_eq_some_iff.1 c1).1
 have hcl : cur.toList = ss.map enc ++ cur.toList.drop ss.length := by
  have h3 := c2.take ss.length
  rw [List.take_append_of_le_length (by simp), List.take_of_length_le (l := ss.map encA) (by simp)] at h3
  rw [← enc_relL h1 h3, List.take_append_drop]
 have hcs : ss.length ≤ cur.size := by
  have := c2.length
  rw [Array.length_toList] at this
  rw [this]; simp
 have hH : Holds enc w b 0 ss.toArray := by
  intro j hj
  have hj' : j < ss.length := by simpa using hj
  refine ⟨?_, by simp [World.frozen?, c1]⟩
  rw [Nat.zero_add, cells_of_box c1, ← Array.getElem?_toList, hcl, List.getElem?_append_left (by simpa using hj'), List.getElem?_map, List.getElem?_eq_getElem hj']
  simp [hj']
 refine Calls.mono (hcall w hH hlt) ?_
 rintro en w' ⟨rfl, k, os, rfl⟩
 refine ⟨by simp, .ret (outA b cap), sto s [(.own b, .box e (new.map encA ++ rest))], p, hout _ _, ⟨_, rfl, hok, rfl, rfl⟩, ?_⟩
 have hput : putRow enc (Sort.ahead w k) b 0 new.toArray = (Sort.ahead w k).setRow b (new.map enc ++ cur.toList.drop ss.length).toArray := by
  unfold putRow mapBlock World.setRow
  congr 1
  refine Array.ext_getElem? fun i => ?_
  rw [Array.getElem?_modify, Array.getElem?_modify]
  by_cases e : b = i
  ·subst e
   rw [if_pos rfl, if_pos rfl]
   show (w.heap[b]?).map _ = (w.heap[b]?).map _
   rw [c1]
   simp only [Option.map_some, onCells]
   congr 2
   refine Array.ext_getElem? fun j => ?_
   simp only [putCells, Array.getElem?_mapIdx, Nat.zero_le, true_and, Nat.zero_add, List.size_toArray, hms, Nat.sub_zero]
   rw [← Array.getElem?_toList, ← Array.getElem?_toList]
   by_cases hj : j < ss.length
   ·rw [List.getElem?_append_left (by rw [List.length_map, hms]; exact hj), List.getElem?_map, List.getElem?_eq_getElem (l := new) (by rw [hms]; exact hj)]
    have : j < cur.toList.length := by rw [Array.length_toList]; omega
    rw [List.getElem?_eq_getElem this]
    simp [hj, hms]
   ·rw [List.getElem?_append_right (by rw [List.length_map, hms]; omega), List.length_map, hms, List.getElem?_drop]
    rw [show ss.length + (j - ss.length) = j by omega]
    cases cur.toList[j]? with
    | none => rfl
    | some y => simp [hj]
  ·rw [if_neg e, if_neg e]
 rw [hput]
 have hrl : RelL w p ((new.map enc ++ cur.toList.drop ss.length).toArray).toList (new.map encA ++ rest) := by
  refine RelL.append (relL_enc h2 _) ?_
  have := c2.drop ss.length
  rwa [List.drop_append_of_le_length (by simp), List.drop_of_length_le (l := ss.map encA) (by simp), List.nil_append] at this
 have a1 := ahead_wf k hwf
 have hS : (sto s [(.own b, .box e (ss.map encA ++ rest))]) b = some (.box e (ss.map encA ++ rest)) := Store.set_same _ _ _
 obtain ⟨w1, w2, w3⟩ := box_write a1 hS (vs' := (new.map enc ++ cur.toList.drop ss.length).toArray) (cs' := new.map encA ++ rest) (fun vs0 h0 => by
  have h0' : w.heap[b]? = some (.cells vs0 e (0, 0)) := h0
  rw [c1] at h0'; cases h0'
  simp only [List.size_toArray, List.length_append, List.length_map, hms, List.length_drop, Array.length_toList]
  omega) (hrl.mono (ahead_le k)) _ rfl
 rw [show (sto s [(.own b, .box e (ss.map encA ++ rest))]).set b (.box e (new.map encA ++ rest)) = sto s [(.own b, .box e (new.map encA ++ rest))] from Store.set_set _ _ _ _] at w2 w3
 refine ⟨((ahead_le k).trans w1).trans (grow_le w3.lt os), ((ahead_kept k).trans (ahead_le (p := p) k).size w2).trans ((ahead_le k).trans w1).size (grow_kept os), grow_wf w3 os⟩
end
end Go.AE

/- The abstract walk: elements of arrays behind pointers. -/
namespace Go.AE
section
variable {P : Program} {Γ : Tys} {N : Nat} {ops : Array Oper} {Q : AEx → Env → Store → Prop} {env : Env} {s : Store} {l : List Oper} {o : Oper} {d : Nat}
theorem OW.idxArr {t e : TypeId} {x y : Operand} {k : IntKind} {b len sz j : Nat} {i : Int} {info : TypeInfo} (hu : P.underlying t = some (.array len e)) (hi : P.info? e = some info) (hsz : info.size = sz) (ho : o.op = .indexAddr t x y) (hx : ev env x = some (.ptr b 0)) (hy : ev env y = some (.int k i)) (hij : i = (j : Int)) (hj : j < len) :
  OW P N o env s (fun x s' => x = .ptr b (j * sz) ∧ s' = s) (fun _ _ => False) := by
 refine OW.ofPure (by simp [noDefer, ho]) fun ro B a w p hst => ?_
 have h1 := hst.ev hx
 have h2 := hst.ev hy
 generalize hvx : a.eval x = vx at h1
 generalize hvy : a.eval y = vy at h2
 cases h1
 cases h2
 subst hij
 refine .same (val := .pointer (some ⟨b, j * sz, none⟩)) ?_ (.ptr b _)
 unfold execOp
 rw [ho]
 simp only [hvx, hvy]
 refine run_v ?_
 simp [Instr.indexAt, asIntOf, run_underlying hu, hj, sizeOf, typeInfo, hi, hsz, add_none, Instr.sureAddr]
theorem RL.idxArr {t e : TypeId} {x y : Operand} {k : IntKind} {b len sz : Nat} (j : Nat) {i : Int} {info : TypeInfo} (hg : guardOf ops env o = some true) (hd : o.dst = some d) (hN : Nat.blt d N = true) (hu : P.underlying t = some (.array len e)) (hi : P.info? e = some info) (hsz : info.size = sz) (ho : o.op = .indexAddr t x y) (hx : ev env x = some (.ptr b 0)) (hy : ev env y = some (.int k i)) (hij : i = (j : Int)) (hj : j < len)
  (h : RL P N ops l Q ((d, .ptr b (j * sz)) :: env) s) : RL P N ops (o :: l) Q env s :=
 RL.op hg hd hN (OW.idxArr hu hi hsz ho hx hy hij hj) (fun x s' ⟨h1, h2⟩ => by subst h1; subst h2; exact h) (fun _ _ h => h.elim)
end
end Go.AE

/- The abstract walk: a row that is known, handed on within a region. -/
namespace Go.AE
section
variable {P : Program} {N : Nat} {ops : Array Oper} {Q : AEx → Env → Store → Prop} {env : Env} {s : Store} {l : List Oper} {L R : LS}
theorem RW.freezeC {is : List Nat} (t b : Nat) {n cap : Nat} {T : TypeId} {cs : List AV} (ht : env.get? t = some (cslc b n cap)) (hs : s b = some (.box T cs)) (hcl : cs.length = cap) (hn : n ≤ cap) (hm : n ≤ 9223372036854775807) (hone : (cs.take n).all oneC = true)
  (h : RW P N ops is Q ((t, .slc 1 (cs.take n) .fro) :: env) (s.del b)) : RW P N ops is Q env s := by
 intro ro B a w p hst
 obtain ⟨p', hst', hle, hk⟩ := hst.freezeC ht hs hcl hn hm hone
 exact RW.after hle hk h hst'
theorem RL.freezeC (hok : Ok s L) (t b : Nat) {n cap : Nat} {T : TypeId} {cs : List AV} (ht : env.get? t = some (cslc b n cap)) (hs : Sel L (.own b) (.box T cs) R) (hcl : cs.length = cap) (hn : n ≤ cap) (hm : n ≤ 9223372036854775807) (hone : (cs.take n).all oneC = true)
  (h : Ok s R → RL P N ops l Q ((t, .slc 1 (cs.take n) .fro) :: env) (sto s R)) : RL P N ops l Q env (sto s L) := by
 obtain ⟨h1, h2⟩ := hs.del hok
 intro k hk
 refine RW.freezeC t b ht (hs.get hok) hcl hn hm hone ?_
 rw [h1]
 exact h h2 k hk
theorem OW.allocZ {o : Oper} {t : TypeId} {info : TypeInfo} {zv : Value} {z : AV} {cs : List AV} (ho : o.op = .alloc t) (hi : P.info? t = some info) (h0 : info.zero = some zv) (hz : constAV2 zv = some z) (hc : cellsOf z = some cs) {X : AV → Store → Prop} :
  OW P N o env s (fun x s' => ∃ b, s b = none ∧ x = .ptr b 0 ∧ s' = s.set b (.box t cs)) X := by
 refine OW.of_run (by simp [noDefer, ho]) fun ro B a w p hst => ?_
 obtain ⟨hn, hle, hk, hwf⟩ := new_obj hst.wf (.cells zv.cells t (0, 0)) (.box t cs) (fun w' hw' hr hrl =>
  ⟨zv.cells, hw', hrl _ _ (cellsOf_rel (constAV2_rel hz) hc), fun o' hp => absurd (hst.wf.lt _ _ hp) (by omega)⟩)
 refine ⟨.pointer (some ⟨w.heap.size, 0, none⟩), _, _, p, _, ?_, hle, hk, hwf, ⟨w.heap.size, hn, rfl, rfl⟩, .ptr _ _⟩
 unfold execOp
 rw [ho]
 refine run_v ?_
 simp [Instr.alloc, zeroValue, typeInfo, hi, h0, newVar, newRow]
theorem RL.allocZ (hok : Ok s L) {o : Oper} {d : Nat} {t : TypeId} {info : TypeInfo} {zv : Value} {z : AV} {cs : List AV} (hg : guardOf ops env o = some true) (hd : o.dst = some d) (hN : Nat.blt d N = true) (ho : o.op = .alloc t) (hi : P.info? t = some info) (h0 : info.zero = some zv) (hz : constAV2 zv = some z) (hc : cellsOf z = some cs)
  (h : ∀ b, Ok s ((.own b, .box t cs) :: L) → RL P N ops l Q ((d, .ptr b 0) :: env) (sto s ((.own b, .box t cs) :: L))) : RL P N ops (o :: l) Q env (sto s L) :=
 RL.op hg hd hN (OW.allocZ ho hi h0 hz hc (X := fun _ _ => False)) (fun x s' ⟨b, h1, h2, h3⟩ => by subst h2; subst h3; exact h b ⟨h1, hok⟩) (fun _ _ h => h.elim)
end
end Go.AE

/- Conditions and restarts, in plain Lean: expressions, runs. -/
namespace Go.Cond

inductive CExp where
 | int (n : Int)
 | hand
 | add (a b : CExp)
 | say (a : CExp)
 | seq (a b : CExp)
 | test (a b c : CExp)
 | call (n : Nat) (a : CExp)
 | handle (n : Int) (a b : CExp)
 | signal (n : Int) (a : CExp)
 | fails (n : Int) (a : CExp)
 | restart (n : Int) (a b : CExp)
 | again (n : Int) (a : CExp)
 | choose (n : Int) (a : CExp)
 | find (n : Int)
 | guard (a b : CExp)
 deriving DecidableEq, Inhabited

structure Hd where
 n : Int
 body : CExp
structure Sc where
 hand : Int
 hs : List Hd
 rs : List Int
structure Ev where
 deed : Int
 n : Int
 val : Int
 hs : List Int
 rs : List Int
 deriving DecidableEq
structure St where
 evs : List Ev
 fuel : Nat
 picks : List Int
inductive End where
 | lost
 | none
 | spent
 deriving DecidableEq
def End.num : End → Int
 | .lost => 2
 | .none => 3
 | .spent => 4
inductive Out where
 | val (v : Int)
 | leave (d : Nat) (v : Int)
 | stop (e : End)
 deriving DecidableEq
abbrev Res := Out × St
abbrev Eval := CExp → Sc → St → Res

def most : Int := 1000000000
def clamp (n : Int) : Int := if n < -most then -most else if n > most then most else n
def Sc.names (s : Sc) : List Int := s.hs.map Hd.n
def Sc.ev (s : Sc) (deed n val : Int) : Ev := ⟨deed, n, val, s.names, s.rs⟩
def St.tell (st : St) (e : Ev) : St := { st with evs := st.evs ++ [e] }
def St.burn (st : St) : St := { st with fuel := st.fuel - 1 }
def Sc.with (s : Sc) (v : Int) : Sc := { s with hand := v }
def Sc.under (s : Sc) (n : Int) (b : CExp) : Sc := { s with hs := ⟨n, b⟩ :: s.hs }
def Sc.offer (s : Sc) (n : Int) : Sc := { s with rs := n :: s.rs }

def andThen (r : Res) (f : Int → St → Res) : Res := match r with
 | (.val v, st) => f v st
 | r => r
def onLeave (r : Res) (d : Nat) (f : Int → St → Res) : Res := match r with
 | (.leave e v, st) => if e = d then f v st else (.leave e v, st)
 | r => r
def behind (r : Res) (left : Ev) (f : St → Res) : Res := match r with
 | (.val v, st) => andThen (f st) fun _ st => (.val v, st)
 | (.leave d v, st) => andThen (f (st.tell left)) fun _ st => (.leave d v, st)
 | r => r

def raiseL (ev : Eval) (rs : List Int) (n v : Int) : List Hd → St → Res
 | [], st => (.val 0, st)
 | h :: outer, st =>
  if h.n = n ∨ h.n = -1 then andThen (ev h.body ⟨v, outer, rs⟩ (st.tell (Sc.ev ⟨v, outer, rs⟩ 3 h.n v))) fun _ st => raiseL ev rs n v outer st
  else raiseL ev rs n v outer st
def raise (ev : Eval) (s : Sc) (n v : Int) (st : St) : Res := raiseL ev s.rs n v s.hs (st.tell (s.ev 2 n v))
def choose (s : Sc) (i : Nat) (v : Int) (st : St) : Res := (.leave (s.rs.length - 1 - i) v, st.tell (s.ev 4 (s.rs.getD i 0) v))
def lost (s : Sc) (v : Int) (st : St) : Res := match st.picks with
 | [] => (.stop .lost, st)
 | p :: ps => if s.rs = [] then (.stop .lost, st) else choose s (p % s.rs.length).toNat v { st with picks := ps }
def again (ev : Eval) (n : Int) (a : CExp) (s : Sc) : Nat → Int → St → Res
 | 0, _, st => (.stop .spent, st)
 | k + 1, v, st => onLeave (ev a ((s.with v).offer n) st) s.rs.length fun v st => again ev n a s k v st

def step (P : List CExp) (ev : Eval) (k : Nat) (s : Sc) (st : St) : CExp → Res
  | .int n => (.val n, st)
  | .hand => (.val s.hand, st)
  | .add a b => andThen (ev a s st) fun v st => andThen (ev b s st) fun u st => (.val (clamp (v + u)), st)
  | .say a => andThen (ev a s st) fun v st => (.val v, st.tell (s.ev 1 0 v))
  | .seq a b => andThen (ev a s st) fun _ st => ev b s st
  | .test a b c => andThen (ev a s st) fun v st => if v = 0 then ev c s st else ev b s st
  | .call n a => andThen (ev a s st) fun v st => ev (P.getD n default) (s.with v) st
  | .handle n a b => ev a (s.under n b) st
  | .signal n a => andThen (ev a s st) fun v st => raise ev s n v st
  | .fails n a => andThen (ev a s st) fun v st => andThen (raise ev s n v st) fun _ st => lost s v st
  | .restart n a b => onLeave (ev a (s.offer n) st) s.rs.length fun v st => ev b (s.with v) st
  | .again n a => again ev n a s k s.hand st
  | .choose n a => andThen (ev a s st) fun v st => match s.rs.findIdx? (· == n) with
    | some i => choose s i v st
    | none => (.stop .none, st)
  | .find n => (.val (if s.rs.contains n then 1 else 0), st)
  | .guard a b => behind (ev a s st) (s.ev 5 0 0) fun st => ev b s st

def eval (P : List CExp) : Nat → Eval
 | 0 => fun _ _ st => (.stop .spent, st)
 | m + 1 => fun x s st => if st.fuel = 0 then (.stop .spent, st) else step P (eval P m) m s st.burn x

structure Run where
 fin : Int
 val : Int
 evs : List Ev
 fuel : Nat
 deriving DecidableEq
def Run.of : Res → Run
 | (.val v, st) => ⟨1, v, st.evs, st.fuel⟩
 | (.leave _ _, st) => ⟨0, 0, st.evs, st.fuel⟩
 | (.stop e, st) => ⟨e.num, 0, st.evs, st.fuel⟩
def drive (P : List CExp) (hand : Int) (picks : List Int) (fuel : Nat) : Run :=
 Run.of (eval P (fuel + 1) (P.getD 0 default) ⟨hand, [], []⟩ ⟨[], fuel, picks⟩)

/-! ### Rules of runs -/
section
variable {R : St → St → Prop}
structure Grows (R : St → St → Prop) : Prop where
 refl : ∀ a, R a a
 trans : ∀ {a b c}, R a b → R b c → R a c
 tell : ∀ a e, R a (St.tell a e)
 pick : ∀ a ps p, a.picks = p :: ps → R a { a with picks := ps }
 burn : ∀ a, a.fuel ≠ 0 → R a a.burn
variable (hR : Grows R)
include hR
theorem andThen_grows {st : St} {r : Res} {f : Int → St → Res} (h : R st r.2) (hf : ∀ v st', R st' (f v st').2) : R st (andThen r f).2 := by
 obtain ⟨o, st'⟩ := r
 cases o with
 | val v => exact hR.trans h (hf v st')
 | leave d v => exact h
 | stop e => exact h
theorem onLeave_grows {st : St} {r : Res} {d : Nat} {f : Int → St → Res} (h : R st r.2) (hf : ∀ v st', R st' (f v st').2) : R st (onLeave r d f).2 := by
 obtain ⟨o, st'⟩ := r
 cases o with
 | val v => exact h
 | leave e v =>
  rw [onLeave]
  split
  ·exact hR.trans h (hf v st')
  ·exact h
 | stop e => exact h
theorem behind_grows {st : St} {r : Res} {l : Ev} {f : St → Res} (h : R st r.2) (hf : ∀ st', R st' (f st').2) : R st (behind r l f).2 := by
 obtain ⟨o, st'⟩ := r
 cases o with
 | val v => exact hR.trans h (andThen_grows hR (hf st') fun _ _ => hR.refl _)
 | leave e v => exact hR.trans h (hR.trans (hR.tell st' l) (andThen_grows hR (hf _) fun _ _ => hR.refl _))
 | stop e => exact h
variable {ev : Eval} (hev : ∀ x s st, R st (ev x s st).2)
include hev
theorem raiseL_grows (rs : List Int) (n v : Int) : ∀ (hs : List Hd) (st : St), R st (raiseL ev rs n v hs st).2
  | [], st => hR.refl st
  | h :: outer, st => by
    rw [raiseL]
    split
    · exact andThen_grows hR (hR.trans (hR.tell ..) (hev ..)) fun _ st' => raiseL_grows rs n v outer st'
    · exact raiseL_grows rs n v outer st
theorem raise_grows (s : Sc) (n v : Int) (st : St) : R st (raise ev s n v st).2 := hR.trans (hR.tell ..) (raiseL_grows hR hev ..)
omit hev in
theorem lost_grows (s : Sc) (v : Int) (st : St) : R st (lost s v st).2 := by
 unfold lost
 split
 ·exact hR.refl st
 ·rename_i p ps hp
  split
  ·exact hR.refl st
  ·exact hR.trans (hR.pick _ _ _ hp) (hR.tell ..)
theorem again_grows (n : Int) (a : CExp) (s : Sc) : ∀ (k : Nat) (v : Int) (st : St), R st (again ev n a s k v st).2
 | 0, _, st => hR.refl st
 | k + 1, _, _ => onLeave_grows hR (hev ..) fun v st => again_grows n a s k v st
theorem step_grows (P : List CExp) (k : Nat) (x : CExp) (s : Sc) (st : St) : R st (step P ev k s st x).2 := by
 cases x with
 | int n => exact hR.refl st
 | hand => exact hR.refl st
 | add a b => exact andThen_grows hR (hev ..) fun _ _ => andThen_grows hR (hev ..) fun _ _ => hR.refl _
 | say a => exact andThen_grows hR (hev ..) fun _ _ => hR.tell ..
 | seq a b => exact andThen_grows hR (hev ..) fun _ _ => hev ..
 | test a b c =>
  refine andThen_grows hR (hev ..) fun _ _ => ?_
  split <;> exact hev ..
 | call n a => exact andThen_grows hR (hev ..) fun _ _ => hev ..
 | handle n a b => exact hev ..
 | signal n a => exact andThen_grows hR (hev ..) fun _ _ => raise_grows hR hev ..
 | fails n a => exact andThen_grows hR (hev ..) fun _ _ => andThen_grows hR (raise_grows hR hev ..) fun _ _ => lost_grows hR ..
 | restart n a b => exact onLeave_grows hR (hev ..) fun _ _ => hev ..
 | again n a => exact again_grows hR hev ..
 | choose n a =>
  refine andThen_grows hR (hev ..) fun _ _ => ?_
  split
  ·exact hR.tell ..
  ·exact hR.refl _
 | find n => exact hR.refl st
 | guard a b => exact behind_grows hR (hev ..) fun _ => hev ..
omit hev in
theorem eval_grows (P : List CExp) : ∀ (m : Nat) (x : CExp) (s : Sc) (st : St), R st (eval P m x s st).2
  | 0, _, _, st => hR.refl st
  | m + 1, x, s, st => by
    rw [eval]
    dsimp only
    split
    · exact hR.refl st
    · rename_i h
      exact hR.trans (hR.burn st h) (step_grows hR (eval_grows P m) P m x s _)
end

theorem fuel_grows : Grows fun a b => b.fuel ≤ a.fuel where
 refl _ := Nat.le_refl _
 trans h k := Nat.le_trans k h
 tell _ _ := Nat.le_refl _
 pick _ _ _ _ := Nat.le_refl _
 burn _ _ := Nat.sub_le ..
theorem evs_grows : Grows fun a b => ∃ l, b.evs = a.evs ++ l where
 refl _ := ⟨[], by simp⟩
 trans h k := by
  obtain ⟨l, h⟩ := h
  obtain ⟨l', k⟩ := k
  exact ⟨l ++ l', by rw [k, h, List.append_assoc]⟩
 tell _ e := ⟨[e], rfl⟩
 pick _ _ _ _ := ⟨[], by simp⟩
 burn _ _ := ⟨[], by simp [St.burn]⟩
theorem eval_fuel (P : List CExp) (m : Nat) (x : CExp) (s : Sc) (st : St) : (eval P m x s st).2.fuel ≤ st.fuel := eval_grows fuel_grows P m x s st
/-! ### The number does not matter, where it is greater than the fuel -/
def Agree (f : Nat) (ev ev' : Eval) : Prop := ∀ x s st, st.fuel < f → ev x s st = ev' x s st
section
variable {f : Nat} {ev ev' : Eval} (ha : Agree f ev ev')
include ha
theorem onLeave_agree {x : CExp} {s : Sc} {st : St} {d : Nat} {g g' : Int → St → Res} (h : st.fuel < f) (hg : ∀ v st', ev x s st = (.leave d v, st') → g v st' = g' v st') : onLeave (ev x s st) d g = onLeave (ev' x s st) d g' := by
 rw [← ha x s st h]
 generalize ev x s st = r at hg
 obtain ⟨o, st'⟩ := r
 cases o with
 | val v => rfl
 | leave e v =>
  rw [onLeave, onLeave]
  split
  ·rename_i h; subst h; exact hg v st' rfl
  ·rfl
 | stop e => rfl
theorem again_agree (hb : ∀ x s st d v st', ev x s st = (.leave d v, st') → st'.fuel < st.fuel) (n : Int) (a : CExp) (s : Sc) : ∀ (k k' : Nat) (v : Int) (st : St), st.fuel < f → st.fuel < k → st.fuel < k' → again ev n a s k v st = again ev' n a s k' v st
  | 0, _, _, _, _, h, _ => absurd h (Nat.not_lt_zero _)
  | _, 0, _, _, _, _, h => absurd h (Nat.not_lt_zero _)
  | k + 1, k' + 1, v, st, hl, h1, h2 => by
    rw [again, again]
    refine onLeave_agree ha hl fun v' st' hr => ?_
    have := hb _ _ _ _ _ _ hr
    exact again_agree hb n a s k k' v' st' (by omega) (by omega) (by omega)
variable (hf : ∀ x s st, (ev x s st).2.fuel ≤ st.fuel)
include hf
theorem andThen_agree {x : CExp} {s : Sc} {st : St} {g g' : Int → St → Res} (h : st.fuel < f) (hg : ∀ v st', st'.fuel < f → g v st' = g' v st') : andThen (ev x s st) g = andThen (ev' x s st) g' := by
 rw [← ha x s st h]
 have := hf x s st
 generalize ev x s st = r at this
 obtain ⟨o, st'⟩ := r
 cases o with
 | val v => exact hg v st' (Nat.lt_of_le_of_lt this h)
 | leave d v => rfl
 | stop e => rfl
theorem behind_agree {x : CExp} {s : Sc} {st : St} {l : Ev} {g g' : St → Res} (h : st.fuel < f) (hg : ∀ st', st'.fuel < f → g st' = g' st') : behind (ev x s st) l g = behind (ev' x s st) l g' := by
 rw [← ha x s st h]
 have := hf x s st
 generalize ev x s st = r at this
 obtain ⟨o, st'⟩ := r
 have hlt := Nat.lt_of_le_of_lt this h
 cases o with
 | val v => rw [behind, behind, hg st' hlt]
 | leave d v => rw [behind, behind, hg _ (show (st'.tell l).fuel < f from hlt)]
 | stop e => rfl
theorem raiseL_agree (rs : List Int) (n v : Int) : ∀ (hs : List Hd) (st : St), st.fuel < f → raiseL ev rs n v hs st = raiseL ev' rs n v hs st
  | [], _, _ => rfl
  | h :: outer, st, hl => by
    rw [raiseL, raiseL]
    split
    · exact andThen_agree ha hf hl fun _ st' hl' => raiseL_agree rs n v outer st' hl'
    · exact raiseL_agree rs n v outer st hl
theorem step_agree (hb : ∀ x s st d v st', ev x s st = (.leave d v, st') → st'.fuel < st.fuel) (P : List CExp) {k k' : Nat} (x : CExp) (s : Sc) (st : St) (h : st.fuel < f) (hk : st.fuel < k) (hk' : st.fuel < k') : step P ev k s st x = step P ev' k' s st x := by
 cases x with
 | int n => rfl
 | hand => rfl
 | add a b => exact andThen_agree ha hf h fun _ _ h => andThen_agree ha hf h fun _ _ _ => rfl
 | say a => exact andThen_agree ha hf h fun _ _ _ => rfl
 | seq a b => exact andThen_agree ha hf h fun _ _ h => ha _ _ _ h
 | test a b c =>
  refine andThen_agree ha hf h fun _ _ h => ?_
  split <;> exact ha _ _ _ h
 | call n a => exact andThen_agree ha hf h fun _ _ h => ha _ _ _ h
 | handle n a b => exact ha _ _ _ h
 | signal n a => exact andThen_agree ha hf h fun _ _ h => raiseL_agree ha hf _ _ _ _ _ h
 | fails n a =>
  refine andThen_agree ha hf h fun _ _ h => ?_
  rw [raise, raise, raiseL_agree ha hf _ _ _ _ _ (by exact h)]
 | restart n a b =>
  refine onLeave_agree ha h fun v st' hr => ha _ _ _ ?_
  have := hb _ _ _ _ _ _ hr
  omega
 | again n a => exact again_agree ha hb n a s k k' _ st h hk hk'
 | choose n a => exact andThen_agree ha hf h fun _ _ _ => rfl
 | find n => rfl
 | guard a b => exact behind_agree ha hf h fun _ h => ha _ _ _ h
end

theorem eval_burns (P : List CExp) (m : Nat) (x : CExp) (s : Sc) (st : St) {o : Out} {st' : St} (h : eval P m x s st = (o, st')) (ho : ∀ e, o ≠ .stop e) : st'.fuel < st.fuel := by
 cases m with
 | zero =>
  rw [eval] at h
  exact absurd (congrArg Prod.fst h).symm (ho .spent)
 | succ m =>
  rw [eval] at h
  dsimp only at h
  split at h
  ·exact absurd (congrArg Prod.fst h).symm (ho .spent)
  ·have := step_grows fuel_grows (ev := eval P m) (fun x s st => eval_fuel P m x s st) P m x s st.burn
   rw [h] at this
   have h2 : st.burn.fuel = st.fuel - 1 := rfl
   simp only at this
   omega

theorem eval_agree (P : List CExp) : ∀ (f m m' : Nat), f ≤ m → f ≤ m' → Agree f (eval P m) (eval P m')
  | 0, _, _, _, _ => fun _ _ _ h => absurd h (Nat.not_lt_zero _)
  | f + 1, 0, _, h, _ => absurd h (by omega)
  | f + 1, _, 0, _, h => absurd h (by omega)
  | f + 1, m + 1, m' + 1, h, h' => fun x s st hl => by
    rw [eval, eval]
    dsimp only
    split
    · rfl
    · have h2 : st.burn.fuel = st.fuel - 1 := rfl
      exact step_agree (eval_agree P f m m' (by omega) (by omega)) (eval_fuel P m) (fun x s st d v st' e => eval_burns P m x s st e (by simp)) P x s _ (by omega) (by omega) (by omega)

def run (P : List CExp) : Eval := fun x s st => eval P (st.fuel + 1) x s st
theorem eval_run (P : List CExp) {m : Nat} (x : CExp) (s : Sc) (st : St) (h : st.fuel < m) : eval P m x s st = run P x s st :=
 eval_agree P (st.fuel + 1) m (st.fuel + 1) h (Nat.le_refl _) x s st (Nat.lt_succ_self _)
theorem run_fuel (P : List CExp) (x : CExp) (s : Sc) (st : St) : (run P x s st).2.fuel ≤ st.fuel := eval_fuel ..
theorem run_burns (P : List CExp) (x : CExp) (s : Sc) (st : St) {o : Out} {st' : St} (h : run P x s st = (o, st')) (ho : ∀ e, o ≠ .stop e) : st'.fuel < st.fuel := eval_burns P _ x s st h ho
theorem run_eq (P : List CExp) (x : CExp) (s : Sc) (st : St) : run P x s st = if st.fuel = 0 then (.stop .spent, st) else step P (run P) st.fuel s st.burn x := by
 rw [run, eval]
 dsimp only
 split
 ·rfl
 ·rename_i h
  have h2 : st.burn.fuel = st.fuel - 1 := rfl
  refine step_agree (f := st.fuel) (fun x s st' hl => eval_run P x s st' hl) (eval_fuel P _) (fun x s st d v st' e => eval_burns P _ x s st e (by simp)) P x s _ (by omega) (by omega) (by omega)
theorem run_spent (P : List CExp) (x : CExp) (s : Sc) (st : St) (h : st.fuel = 0) : run P x s st = (.stop .spent, st) := by rw [run_eq, if_pos h]
theorem run_step (P : List CExp) (x : CExp) (s : Sc) (st : St) (h : st.fuel ≠ 0) : run P x s st = step P (run P) st.fuel s st.burn x := by rw [run_eq, if_neg h]
theorem again_run (P : List CExp) (n : Int) (a : CExp) (s : Sc) (v : Int) (st : St) {k k' : Nat} (h : st.fuel < k) (h' : st.fuel < k') : again (run P) n a s k v st = again (run P) n a s k' v st :=
 again_agree (f := st.fuel + 1) (fun _ _ _ _ => rfl) (fun x s st d v st' e => run_burns P x s st e (by simp)) n a s k k' v st (Nat.lt_succ_self _) h h'
def agains (P : List CExp) (n : Int) (a : CExp) (s : Sc) (v : Int) (st : St) : Res := again (run P) n a s (st.fuel + 1) v st
theorem agains_eq (P : List CExp) (n : Int) (a : CExp) (s : Sc) (v : Int) (st : St) : agains P n a s v st = onLeave (run P a ((s.with v).offer n) st) s.rs.length fun v st => agains P n a s v st := by
 rw [agains, again]
 refine onLeave_agree (f := st.fuel + 1) (fun _ _ _ _ => rfl) (Nat.lt_succ_self _) fun v' st' hr => ?_
 have := run_burns P _ _ _ hr (by simp)
 exact again_run P n a s v' st' this (Nat.lt_succ_self _)
end Go.Cond

/- Conditions and restarts, in plain Lean: two runs side by side. -/
namespace Go.Cond

def Adds (a b : St) : Prop := ∃ l, b.evs = a.evs ++ l
theorem Adds.refl (a : St) : Adds a a := ⟨[], by simp⟩
theorem Adds.trans {a b c : St} (h : Adds a b) (k : Adds b c) : Adds a c := evs_grows.trans h k
theorem andThen_adds {st : St} {r : Res} {f : Int → St → Res} (h : Adds st r.2) (hf : ∀ v st', Adds st' (f v st').2) : Adds st (andThen r f).2 := andThen_grows evs_grows h hf
structure Pair where
 S : St → St → Prop
 e : End
 Pre : St → St → Prop
 T : St → St → Prop := fun _ _ => False
 pre : ∀ {a b c}, Pre a b → Adds b c → Pre a c
def Pair.Z (p : Pair) (r r' : Res) : Prop := (r.1 = .stop p.e ∧ p.Pre r.2 r'.2) ∨ (r.1 = r'.1 ∧ p.S r.2 r'.2) ∨ ∃ c, r.1 = .stop c ∧ r'.1 = .stop c ∧ p.T r.2 r'.2

section
variable {p : Pair}
theorem Pair.Z.one {o : Out} {st st' : St} (h : p.S st st') : p.Z (o, st) (o, st') := .inr (.inl ⟨rfl, h⟩)
theorem Pair.Z.andThen {r r' : Res} {f f' : Int → St → Res} (h : p.Z r r') (hf : ∀ v st st', p.S st st' → p.Z (f v st) (f' v st')) (ha : ∀ v st, Adds st (f' v st).2) : p.Z (andThen r f) (andThen r' f') := by
 obtain ⟨o, st⟩ := r
 obtain ⟨o', st'⟩ := r'
 rcases h with ⟨h1, h2⟩ | ⟨h1, h2⟩ | ⟨c, h1, h3, h2⟩
 ·simp only at h1 h2
  subst h1
  exact .inl ⟨rfl, p.pre h2 (andThen_adds (st := st') (r := (o', st')) (Adds.refl _) ha)⟩
 ·simp only at h1 h2
  subst h1
  cases o with
  | val v => exact hf v st st' h2
  | leave d v => exact .one h2
  | stop e => exact .one h2
 ·simp only at h1 h3 h2
  subst h1 h3
  exact .inr (.inr ⟨c, rfl, rfl, h2⟩)
theorem Pair.Z.onLeave {r r' : Res} {d : Nat} {f f' : Int → St → Res} (h : p.Z r r') (hf : ∀ v st st', r = (.leave d v, st) → p.S st st' → p.Z (f v st) (f' v st')) (ha : ∀ v st, Adds st (f' v st).2) : p.Z (onLeave r d f) (onLeave r' d f') := by
 obtain ⟨o, st⟩ := r
 obtain ⟨o', st'⟩ := r'
 rcases h with ⟨h1, h2⟩ | ⟨h1, h2⟩ | ⟨c, h1, h3, h2⟩
 ·simp only at h1 h2
  subst h1
  exact .inl ⟨rfl, p.pre h2 (onLeave_grows evs_grows (st := st') (r := (o', st')) (Adds.refl _) ha)⟩
 ·simp only at h1 h2
  subst h1
  cases o with
  | val v => exact .one h2
  | leave e v =>
   rw [Cond.onLeave, Cond.onLeave]
   split
   ·rename_i he; subst he; exact hf v st st' rfl h2
   ·exact .one h2
  | stop e => exact .one h2
 ·simp only at h1 h3 h2
  subst h1 h3
  exact .inr (.inr ⟨c, rfl, rfl, h2⟩)
theorem Pair.Z.behind {r r' : Res} {l l' : Ev} {f f' : St → Res} (h : p.Z r r') (hf : ∀ st st', st.fuel = r.2.fuel → p.S st st' → p.Z (f st) (f' st')) (hl : ∀ st st', p.S st st' → p.S (st.tell l) (st'.tell l')) (ha : ∀ st, Adds st (f' st).2) : p.Z (behind r l f) (behind r' l' f') := by
 obtain ⟨o, st⟩ := r
 obtain ⟨o', st'⟩ := r'
 rcases h with ⟨h1, h2⟩ | ⟨h1, h2⟩ | ⟨c, h1, h3, h2⟩
 ·simp only at h1 h2
  subst h1
  exact .inl ⟨rfl, p.pre h2 (behind_grows evs_grows (st := st') (r := (o', st')) (Adds.refl _) ha)⟩
 ·simp only at h1 h2
  subst h1
  cases o with
  | val v => exact (hf st st' rfl h2).andThen (fun _ _ _ h => .one h) fun _ _ => Adds.refl _
  | leave e v => exact (hf (st.tell l) (st'.tell l') rfl (hl st st' h2)).andThen (fun _ _ _ h => .one h) fun _ _ => Adds.refl _
  | stop e => exact .one h2
 ·simp only at h1 h3 h2
  subst h1 h3
  exact .inr (.inr ⟨c, rfl, rfl, h2⟩)
end

inductive HL (X : CExp → CExp → Prop) : List Hd → List Hd → Prop
 | nil : HL X [] []
 | cons {h h' : Hd} {t t' : List Hd} : h.n = h'.n → X h.body h'.body → HL X t t' → HL X (h :: t) (h' :: t')
theorem HL.names {X : CExp → CExp → Prop} {l l' : List Hd} (h : HL X l l') : l.map Hd.n = l'.map Hd.n := by
 induction h with
 | nil => rfl
 | cons h1 _ _ ih => rw [List.map_cons, List.map_cons, h1, ih]
structure CS (X : CExp → CExp → Prop) (s s' : Sc) : Prop where
 hand : s.hand = s'.hand
 rs : s.rs = s'.rs
 hs : HL X s.hs s'.hs
theorem CS.ev {X : CExp → CExp → Prop} {s s' : Sc} (h : CS X s s') (d n v : Int) : s.ev d n v = s'.ev d n v := by
 rw [Sc.ev, Sc.ev, Sc.names, Sc.names, h.hs.names, h.rs]
theorem CS.with {X : CExp → CExp → Prop} {s s' : Sc} (h : CS X s s') (v : Int) : CS X (s.with v) (s'.with v) := ⟨rfl, h.rs, h.hs⟩
theorem CS.offer {X : CExp → CExp → Prop} {s s' : Sc} (h : CS X s s') (n : Int) : CS X (s.offer n) (s'.offer n) := ⟨h.hand, congrArg (n :: ·) h.rs, h.hs⟩
theorem CS.under {X : CExp → CExp → Prop} {s s' : Sc} (h : CS X s s') (n : Int) {b b' : CExp} (hb : X b b') : CS X (s.under n b) (s'.under n b') := ⟨h.hand, h.rs, .cons rfl hb h.hs⟩

inductive Node (X : CExp → CExp → Prop) : CExp → CExp → Prop
 | int (n) : Node X (.int n) (.int n)
 | hand : Node X .hand .hand
 | add {a a' b b'} : X a a' → X b b' → Node X (.add a b) (.add a' b')
 | say {a a'} : X a a' → Node X (.say a) (.say a')
 | seq {a a' b b'} : X a a' → X b b' → Node X (.seq a b) (.seq a' b')
 | test {a a' b b' c c'} : X a a' → X b b' → X c c' → Node X (.test a b c) (.test a' b' c')
 | call (n) {a a'} : X a a' → Node X (.call n a) (.call n a')
 | handle (n) {a a' b b'} : X a a' → X b b' → Node X (.handle n a b) (.handle n a' b')
 | signal (n) {a a'} : X a a' → Node X (.signal n a) (.signal n a')
 | fails (n) {a a'} : X a a' → Node X (.fails n a) (.fails n a')
 | restart (n) {a a' b b'} : X a a' → X b b' → Node X (.restart n a b) (.restart n a' b')
 | again (n) {a a'} : X a a' → Node X (.again n a) (.again n a')
 | choose (n) {a a'} : X a a' → Node X (.choose n a) (.choose n a')
 | find (n) : Node X (.find n) (.find n)
 | guard {a a' b b'} : X a a' → X b b' → Node X (.guard a b) (.guard a' b')
theorem Node.same {X : CExp → CExp → Prop} (hX : ∀ x, X x x) (x : CExp) : Node X x x := by
 cases x <;> constructor <;> exact hX _

def Below (p : Pair) (X : CExp → CExp → Prop) (P P' : List CExp) (f : Nat) : Prop := ∀ x x' s s' st st', X x x' → CS X s s' → p.S st st' → st.fuel < f → p.Z (run P x s st) (run P' x' s' st')
theorem Below.bind {p : Pair} {X : CExp → CExp → Prop} {P P' : List CExp} {f : Nat} (ih : Below p X P P' f) {x x' : CExp} {s s' : Sc} {st st' : St} {g g' : Int → St → Res} (hx : X x x') (hc : CS X s s') (h : p.S st st') (hf : st.fuel < f) (hg : ∀ v q q', p.S q q' → q.fuel < f → p.Z (g v q) (g' v q')) (ha : ∀ v q, Adds q (g' v q).2) : p.Z (andThen (run P x s st) g) (andThen (run P' x' s' st') g') := by
 have hz := ih _ _ _ _ _ _ hx hc h hf
 have hfu := run_fuel P x s st
 generalize run P x s st = r at hz hfu
 generalize run P' x' s' st' = r' at hz
 obtain ⟨o, q⟩ := r
 obtain ⟨o', q'⟩ := r'
 rcases hz with ⟨e1, e2⟩ | ⟨e1, e2⟩ | ⟨c, e1, e3, e2⟩
 ·simp only at e1 e2
  subst e1
  exact .inl ⟨rfl, p.pre e2 (andThen_adds (st := q') (r := (o', q')) (Adds.refl _) ha)⟩
 ·simp only at e1 e2
  subst e1
  cases o with
  | val v => exact hg v q q' e2 (Nat.lt_of_le_of_lt hfu hf)
  | leave d v => exact .one e2
  | stop e => exact .one e2
 ·simp only at e1 e3 e2
  subst e1 e3
  exact .inr (.inr ⟨c, rfl, rfl, e2⟩)

section
variable {p : Pair} {X : CExp → CExp → Prop} {P P' : List CExp}
variable {f : Nat} (ih : Below p X P P' f) (hS : ∀ st st' e, p.S st st' → p.S (st.tell e) (st'.tell e))
include ih hS
variable (hlost : ∀ s s' v st st', CS X s s' → p.S st st' → p.Z (lost s v st) (lost s' v st')) (hP : ∀ n, X (P.getD n default) (P'.getD n default))
include hlost hP
end
end Go.Cond

/- Conditions and restarts, in plain Lean: the theorems of fuel and of choices. -/
namespace Go.Cond

theorem CS.of_eq {s s' : Sc} (h : CS Eq s s') : s = s' := by
 obtain ⟨hand, hs, rs⟩ := s
 obtain ⟨hand', hs', rs'⟩ := s'
 obtain ⟨h1, h2, h3⟩ := h
 simp only at h1 h2 h3
 subst h1 h2
 have : hs = hs' := by
  induction h3 with
  | nil => rfl
  | @cons h h' t t' e1 e2 _ ih =>
   obtain ⟨a, b⟩ := h
   obtain ⟨a', b'⟩ := h'
   simp only at e1 e2
   rw [e1, e2, ih]
 rw [this]
theorem HL.refl (l : List Hd) : HL Eq l l := by
 induction l with
 | nil => exact .nil
 | cons h t ih => exact .cons rfl rfl ih
theorem CS.refl (s : Sc) : CS Eq s s := ⟨rfl, rfl, HL.refl _⟩
theorem drive_run (P : List CExp) (hand : Int) (picks : List Int) (fuel : Nat) : drive P hand picks fuel = Run.of (run P (P.getD 0 default) ⟨hand, [], []⟩ ⟨[], fuel, picks⟩) := rfl
inductive SeqX : CExp → CExp → Prop
 | same (x) : SeqX x x
 | turn (a b c) : SeqX (.seq (.seq a b) c) (.seq a (.seq b c))
end Go.Cond

/- Conditions and restarts, in plain Lean: what is so of all runs; an outermost handler. -/
namespace Go.Cond

structure Told (I : St → Prop) : Prop where
 said : ∀ st s v, I st → I (st.tell (Sc.ev s 1 0 v))
 raised : ∀ st s n v, I st → I (st.tell (Sc.ev s 2 n v))
 handled : ∀ st pre h outer n v rs, I st → (⟨2, n, v, (pre ++ h :: outer).map Hd.n, rs⟩ : Ev) ∈ st.evs → (h.n = n ∨ h.n = -1) → I (st.tell ⟨3, h.n, v, outer.map Hd.n, rs⟩)
 chosen : ∀ st s i v, I st → i < s.rs.length → I (st.tell (Sc.ev s 4 (s.rs.getD i 0) v))
 left : ∀ st s, I st → I (st.tell (Sc.ev s 5 0 0))
 pick : ∀ st p ps, I st → st.picks = p :: ps → I { st with picks := ps }
 burn : ∀ st, I st → I st.burn

section
variable {I : St → Prop}
variable (hI : Told I) {P : List CExp} {f : Nat} (ih : ∀ x s st, I st → st.fuel < f → I (run P x s st).2)
include hI ih
end
/-! ### Events -/
def asked (y x : Ev) : Prop := y.deed = 2 ∧ y.val = x.val ∧ y.rs = x.rs ∧ (x.n = y.n ∨ x.n = -1) ∧ ∃ pre, y.hs = pre ++ x.n :: x.hs
def FineEv (before : List Ev) (x : Ev) : Prop :=
 (x.deed = 4 ∧ x.n ∈ x.rs) ∨ (x.deed = 3 ∧ ∃ y ∈ before, asked y x) ∨ (x.deed = 1 ∧ x.n = 0) ∨ x.deed = 2 ∨ (x.deed = 5 ∧ x.n = 0 ∧ x.val = 0)
def FineEvs (l : List Ev) : Prop := ∀ i x, l[i]? = some x → FineEv (l.take i) x
theorem FineEvs.snoc {l : List Ev} (h : FineEvs l) {e : Ev} (he : FineEv l e) : FineEvs (l ++ [e]) := by
 intro i x hx
 rcases Nat.lt_trichotomy i l.length with hi | hi | hi
 ·rw [List.getElem?_append_left hi] at hx
  rw [List.take_append_of_le_length (Nat.le_of_lt hi)]
  exact h i x hx
 ·subst hi
  rw [List.getElem?_append_right (Nat.le_refl _), Nat.sub_self] at hx
  cases hx
  rw [List.take_append_of_le_length (Nat.le_refl _), List.take_length]; exact he
 ·rw [List.getElem?_eq_none (by simp; omega)] at hx; cases hx
/-! ### An outermost handler that handles all -/
def catcher : Hd := ⟨-1, .choose 7 .hand⟩
def Under (s : Sc) : Prop := (∃ l, s.hs = l ++ [catcher]) ∧ (7 : Int) ∈ s.rs
def NotLost (r : Res) : Prop := r.1 ≠ .stop .lost
theorem NotLost.andThen {r : Res} {f : Int → St → Res} (h : NotLost r) (hf : ∀ v st, r = (.val v, st) → NotLost (f v st)) : NotLost (andThen r f) := by
 obtain ⟨o, st⟩ := r
 cases o with
 | val v => exact hf v st rfl
 | leave d v => exact h
 | stop e => exact h
theorem NotLost.onLeave {r : Res} {d : Nat} {f : Int → St → Res} (h : NotLost r) (hf : ∀ v st, r = (.leave d v, st) → NotLost (f v st)) : NotLost (onLeave r d f) := by
 obtain ⟨o, st⟩ := r
 cases o with
 | val v => exact h
 | leave e v =>
  rw [Cond.onLeave]
  split
  ·rename_i he; subst he; exact hf v st rfl
  ·exact h
 | stop e => exact h
theorem NotLost.val (v : Int) (st : St) : NotLost (.val v, st) := fun h => by cases h
section
variable {P : List CExp} {f : Nat} (ih : ∀ x s st, Under s → st.fuel < f → NotLost (run P x s st))
include ih
end
end Go.Cond

/- Conditions and restarts, in plain Lean: what an expression reaches; which errors are lost; plain programs. -/
namespace Go.Cond

def CExp.kids : CExp → List CExp
 | .int _ => []
 | .hand => []
 | .add a b => [a, b]
 | .say a => [a]
 | .seq a b => [a, b]
 | .test a b c => [a, b, c]
 | .call _ a => [a]
 | .handle _ a b => [a, b]
 | .signal _ a => [a]
 | .fails _ a => [a]
 | .restart _ a b => [a, b]
 | .again _ a => [a]
 | .choose _ a => [a]
 | .find _ => []
 | .guard a b => [a, b]
inductive Reach (P : List CExp) : CExp → CExp → Prop
 | refl (x) : Reach P x x
 | kid {x y z} : y ∈ x.kids → Reach P y z → Reach P x z
 | call {n a z} : Reach P (P.getD n default) z → Reach P (.call n a) z
theorem Reach.trans {P : List CExp} {x y z : CExp} (h : Reach P x y) (k : Reach P y z) : Reach P x z := by
 induction h with
 | refl _ => exact k
 | kid h _ ih => exact .kid h (ih k)
 | call _ ih => exact .call (ih k)

/-! ### Lost errors -/
def LostOk (E : Int → Prop) (r : Res) : Prop := r.1 = .stop .lost → ∃ e ∈ r.2.evs, e.deed = 2 ∧ E e.n
section
variable {E : Int → Prop}
theorem LostOk.andThen {r : Res} {f : Int → St → Res} (h : LostOk E r) (hf : ∀ v st, r = (.val v, st) → LostOk E (f v st)) : LostOk E (andThen r f) := by
 obtain ⟨o, st⟩ := r
 cases o with
 | val v => exact hf v st rfl
 | leave d v => exact h
 | stop e => exact h
theorem LostOk.onLeave {r : Res} {d : Nat} {f : Int → St → Res} (h : LostOk E r) (hf : ∀ v st, r = (.leave d v, st) → LostOk E (f v st)) : LostOk E (onLeave r d f) := by
 obtain ⟨o, st⟩ := r
 cases o with
 | val v => exact h
 | leave e v =>
  rw [Cond.onLeave]
  split
  ·rename_i he; subst he; exact hf v st rfl
  ·exact h
 | stop e => exact h
theorem LostOk.val (v : Int) (st : St) : LostOk E (.val v, st) := fun h => by cases h
theorem LostOk.leave (d : Nat) (v : Int) (st : St) : LostOk E (.leave d v, st) := fun h => by cases h
variable {P : List CExp}
def OkX (E : Int → Prop) (P : List CExp) (x : CExp) : Prop := ∀ n a, Reach P x (.fails n a) → E n
def OkS (E : Int → Prop) (P : List CExp) (s : Sc) : Prop := ∀ h ∈ s.hs, OkX E P h.body
theorem OkX.kid {x y : CExp} (h : OkX E P x) (hy : y ∈ x.kids) : OkX E P y := fun n a hr => h n a (.kid hy hr)
theorem OkX.call {n : Nat} {a : CExp} (h : OkX E P (.call n a)) : OkX E P (P.getD n default) := fun m b hr => h m b (.call hr)
variable {f : Nat} (ih : ∀ x s st, OkX E P x → OkS E P s → st.fuel < f → LostOk E (run P x s st))
include ih
end
/-! ### Plain programs -/
def hits : CExp → Int → Bool
 | .signal m _, d => decide (d < 0) || m == d
 | .fails m _, d => decide (d < 0) || m == d
 | _, _ => false
def Quiet (P : List CExp) (x : CExp) (d : Int) : Prop := ∀ y, Reach P x y → hits y d = false
def plain (may : CExp → Int → Bool) : CExp → CExp
 | .int n => .int n
 | .hand => .hand
 | .add a b => .add (plain may a) (plain may b)
 | .say a => .say (plain may a)
 | .seq a b => .seq (plain may a) (plain may b)
 | .test a b c => .test (plain may a) (plain may b) (plain may c)
 | .call n a => .call n (plain may a)
 | .handle n a b => if may a n then .handle n (plain may a) (plain may b) else plain may a
 | .signal n a => .signal n (plain may a)
 | .fails n a => .fails n (plain may a)
 | .restart n a b => .restart n (plain may a) (plain may b)
 | .again n a => .again n (plain may a)
 | .choose n a => .choose n (plain may a)
 | .find n => .find n
 | .guard a b => .guard (plain may a) (plain may b)
def Ev.mask (e : Ev) : Ev := { e with hs := [] }
def plainPair : Pair where
 S a b := a.evs.map Ev.mask = b.evs.map Ev.mask ∧ a.picks = b.picks ∧ a.fuel ≤ b.fuel
 e := .spent
 Pre _ _ := True
 pre _ _ := trivial
inductive PL (P : List CExp) (may : CExp → Int → Bool) : List Hd → List Hd → List Int → Prop
 | nil : PL P may [] [] []
 | keep {h : Hd} {t t' : List Hd} {D : List Int} : (∀ d ∈ D, Quiet P h.body d) → PL P may t t' D → PL P may (h :: t) (⟨h.n, plain may h.body⟩ :: t') D
 | drop {h : Hd} {t t' : List Hd} {D : List Int} : PL P may t t' D → PL P may (h :: t) t' (h.n :: D)
structure PC (P : List CExp) (may : CExp → Int → Bool) (s s' : Sc) (D : List Int) : Prop where
 hand : s.hand = s'.hand
 rs : s.rs = s'.rs
 hs : PL P may s.hs s'.hs D
section
variable {P : List CExp} {may : CExp → Int → Bool}
theorem Quiet.kid {x y : CExp} {d : Int} (h : Quiet P x d) (hy : y ∈ x.kids) : Quiet P y d := fun z hz => h z (.kid hy hz)
theorem Quiet.call {n : Nat} {a : CExp} {d : Int} (h : Quiet P (.call n a) d) : Quiet P (P.getD n default) d := fun z hz => h z (.call hz)
theorem PC.with {s s' : Sc} {D : List Int} (h : PC P may s s' D) (v : Int) : PC P may (s.with v) (s'.with v) D := ⟨rfl, h.rs, h.hs⟩
theorem PC.offer {s s' : Sc} {D : List Int} (h : PC P may s s' D) (n : Int) : PC P may (s.offer n) (s'.offer n) D := ⟨h.hand, congrArg (n :: ·) h.rs, h.hs⟩
def PBelow (P : List CExp) (may : CExp → Int → Bool) (f : Nat) : Prop := ∀ x s s' D st st', (∀ d ∈ D, Quiet P x d) → PC P may s s' D → plainPair.S st st' → st.fuel < f → plainPair.Z (run P x s st) (run (P.map (plain may)) (plain may x) s' st')
variable {f : Nat} (ih : PBelow P may f)
include ih
theorem PBelow.bind {x : CExp} {s s' : Sc} {D : List Int} {st st' : St} {g g' : Int → St → Res} (hx : ∀ d ∈ D, Quiet P x d) (hc : PC P may s s' D) (h : plainPair.S st st') (hf : st.fuel < f) (hg : ∀ v q q', plainPair.S q q' → q.fuel < f → plainPair.Z (g v q) (g' v q')) : plainPair.Z (andThen (run P x s st) g) (andThen (run (P.map (plain may)) (plain may x) s' st') g') := by
 have hz := ih _ _ _ _ _ _ hx hc h hf
 have hfu := run_fuel P x s st
 generalize run P x s st = r at hz hfu
 generalize run (P.map (plain may)) (plain may x) s' st' = r' at hz
 obtain ⟨o, q⟩ := r
 obtain ⟨o', q'⟩ := r'
 rcases hz with ⟨e1, e2⟩ | ⟨e1, e2⟩ | ⟨_, _, _, e2⟩
 ·simp only at e1 e2
  subst e1
  exact .inl ⟨rfl, trivial⟩
 ·simp only at e1 e2
  subst e1
  cases o with
  | val v => exact hg v q q' e2 (Nat.lt_of_le_of_lt hfu hf)
  | leave d v => exact .one e2
  | stop e => exact .one e2
 ·exact e2.elim
end
end Go.Cond

/- Chapter 19, plain: a run that is spent has no fuel left. -/
namespace Go.Cond

def SpentOk (r : Res) : Prop := r.1 = .stop .spent → r.2.fuel = 0
theorem SpentOk.andThen {r : Res} {f : Int → St → Res} (h : SpentOk r) (hf : ∀ v st, r = (.val v, st) → SpentOk (f v st)) : SpentOk (andThen r f) := by
 obtain ⟨o, st⟩ := r
 cases o with
 | val v => exact hf v st rfl
 | leave d v => exact h
 | stop e => exact h
theorem SpentOk.onLeave {r : Res} {d : Nat} {f : Int → St → Res} (h : SpentOk r) (hf : ∀ v st, r = (.leave d v, st) → SpentOk (f v st)) : SpentOk (onLeave r d f) := by
 obtain ⟨o, st⟩ := r
 cases o with
 | val v => exact h
 | leave e v =>
  rw [Cond.onLeave]
  split
  ·rename_i he; subst he; exact hf v st rfl
  ·exact h
 | stop e => exact h
theorem SpentOk.val (v : Int) (st : St) : SpentOk (.val v, st) := fun h => by cases h
theorem SpentOk.leave (d : Nat) (v : Int) (st : St) : SpentOk (.leave d v, st) := fun h => by cases h
section
variable {P : List CExp} {f : Nat} (ih : ∀ x s st, st.fuel < f → SpentOk (run P x s st))
include ih
end
end Go.Cond

/- Conditions and restarts, in plain Lean: guards that say when their Kids begin. -/
namespace Go.Cond

def mark : Int := 900000000
def tag (m : Int) (y : CExp) : CExp := .seq (.say (.int m)) y
def marked : CExp → Nat → CExp × Nat
 | .int n, k => (.int n, k)
 | .hand, k => (.hand, k)
 | .add a b, k => (.add (marked a k).1 (marked b (marked a k).2).1, (marked b (marked a k).2).2)
 | .say a, k => (.say (marked a k).1, (marked a k).2)
 | .seq a b, k => (.seq (marked a k).1 (marked b (marked a k).2).1, (marked b (marked a k).2).2)
 | .test a b c, k => (.test (marked a k).1 (marked b (marked a k).2).1 (marked c (marked b (marked a k).2).2).1, (marked c (marked b (marked a k).2).2).2)
 | .call n a, k => (.call n (marked a k).1, (marked a k).2)
 | .handle n a b, k => (.handle n (marked a k).1 (marked b (marked a k).2).1, (marked b (marked a k).2).2)
 | .signal n a, k => (.signal n (marked a k).1, (marked a k).2)
 | .fails n a, k => (.fails n (marked a k).1, (marked a k).2)
 | .restart n a b, k => (.restart n (marked a k).1 (marked b (marked a k).2).1, (marked b (marked a k).2).2)
 | .again n a, k => (.again n (marked a k).1, (marked a k).2)
 | .choose n a, k => (.choose n (marked a k).1, (marked a k).2)
 | .find n, k => (.find n, k)
 | .guard a b, k => (.guard (tag (mark + 2 * k) (marked a (k + 1)).1) (tag (mark + 2 * k + 1) (marked b (marked a (k + 1)).2).1), (marked b (marked a (k + 1)).2).2)
theorem marked_le : ∀ (x : CExp) (k : Nat), k ≤ (marked x k).2
 | .int _, _ => Nat.le_refl _
 | .hand, _ => Nat.le_refl _
 | .add a b, k => Nat.le_trans (marked_le a k) (marked_le b _)
 | .say a, k => marked_le a k
 | .seq a b, k => Nat.le_trans (marked_le a k) (marked_le b _)
 | .test a b c, k => Nat.le_trans (marked_le a k) (Nat.le_trans (marked_le b _) (marked_le c _))
 | .call _ a, k => marked_le a k
 | .handle _ a b, k => Nat.le_trans (marked_le a k) (marked_le b _)
 | .signal _ a, k => marked_le a k
 | .fails _ a, k => marked_le a k
 | .restart _ a b, k => Nat.le_trans (marked_le a k) (marked_le b _)
 | .again _ a, k => marked_le a k
 | .choose _ a, k => marked_le a k
 | .find _, _ => Nat.le_refl _
 | .guard a b, k => Nat.le_trans (Nat.le_trans (Nat.le_succ k) (marked_le a _)) (marked_le b _)
def Mk (N : Nat) (x' x : CExp) : Prop := ∃ k, x' = (marked x k).1 ∧ (marked x k).2 ≤ N
theorem Mk.node {N : Nat} {x' x : CExp} (h : Mk N x' x) : Node (Mk N) x' x ∨ ∃ k a' a b' b, k < N ∧ x' = .guard (tag (mark + 2 * k) a') (tag (mark + 2 * k + 1) b') ∧ x = .guard a b ∧ Mk N a' a ∧ Mk N b' b := by
 obtain ⟨k, rfl, h⟩ := h
 have one : ∀ {a : CExp} {k : Nat}, (marked a k).2 ≤ N → Mk N (marked a k).1 a := fun h => ⟨_, rfl, h⟩
 have two : ∀ {a b : CExp} {k : Nat}, (marked b (marked a k).2).2 ≤ N → Mk N (marked a k).1 a ∧ Mk N (marked b (marked a k).2).1 b := fun h => ⟨⟨_, rfl, Nat.le_trans (marked_le _ _) h⟩, ⟨_, rfl, h⟩⟩
 cases x with
 | int n => exact .inl (.int n)
 | hand => exact .inl .hand
 | add a b => exact .inl (.add (two h).1 (two h).2)
 | say a => exact .inl (.say (one h))
 | seq a b => exact .inl (.seq (two h).1 (two h).2)
 | test a b c => exact .inl (.test (two (Nat.le_trans (marked_le c _) h)).1 (two (Nat.le_trans (marked_le c _) h)).2 ⟨_, rfl, h⟩)
 | call n a => exact .inl (.call n (one h))
 | handle n a b => exact .inl (.handle n (two h).1 (two h).2)
 | signal n a => exact .inl (.signal n (one h))
 | fails n a => exact .inl (.fails n (one h))
 | restart n a b => exact .inl (.restart n (two h).1 (two h).2)
 | again n a => exact .inl (.again n (one h))
 | choose n a => exact .inl (.choose n (one h))
 | find n => exact .inl (.find n)
 | guard a b =>
  have h' : (marked b (marked a (k + 1)).2).2 ≤ N := h
  refine .inr ⟨k, _, a, _, b, ?_, rfl, rfl, (two h').1, (two h').2⟩
  have h1 := marked_le a (k + 1)
  have h2 := marked_le b (marked a (k + 1)).2
  omega

inductive Mix (N : Nat) : List Ev → List Ev → List Nat → Prop
 | nil : Mix N [] [] []
 | own {la lb σ} (e : Ev) : Mix N la lb σ → Mix N (la ++ [e]) (lb ++ [e]) σ
 | push {la lb σ n} (e : Ev) : Mix N la lb σ → n < N → e.deed = 1 → e.val = mark + 2 * n → Mix N (la ++ [e]) lb (n :: σ)
 | pop {la lb σ n} (e : Ev) : Mix N la lb (n :: σ) → n < N → e.deed = 1 → e.val = mark + 2 * n + 1 → Mix N (la ++ [e]) lb σ
def guardPair (N : Nat) (σ : List Nat) : Pair where
 S a b := Mix N a.evs b.evs σ ∧ a.picks = b.picks ∧ a.fuel ≤ b.fuel
 e := .spent
 Pre a b := ∃ l lb t, Mix N a.evs lb (l ++ σ) ∧ b.evs = lb ++ t
 pre h k := by
  obtain ⟨l, lb, t, h1, h2⟩ := h
  obtain ⟨t', k⟩ := k
  exact ⟨l, lb, t ++ t', h1, by rw [k, h2, List.append_assoc]⟩
 T a b := ∃ l, Mix N a.evs b.evs (l ++ σ)
section
variable {N : Nat} {P' P : List CExp} {f : Nat} (ih : ∀ σ, Below (guardPair N σ) (Mk N) P' P f)
include ih
end
def look (N : Nat) (o : Option (List Nat)) (e : Ev) : Option (List Nat) :=
 match o with
 | none => none
 | some σ =>
  let n := e.val - mark
  if e.deed ≠ 1 ∨ n < 0 ∨ n ≥ 2 * N then some σ
  else if n % 2 = 0 then some ((n / 2).toNat :: σ)
  else match σ with
   | [] => none
   | k :: σ => if (k : Int) = n / 2 then some σ else none
def looks (N : Nat) (l : List Ev) : Option (List Nat) := l.foldl (look N) (some [])
end Go.Cond

/- Chapter 19, plain: how many events a run may have. -/
namespace Go.Cond

def phi (st : St) : Int := st.evs.length + 3 * st.fuel
theorem phi_tell (st : St) (e : Ev) : phi (st.tell e) = phi st + 1 := by
 unfold phi St.tell
 simp only [List.length_append, List.length_cons, List.length_nil]
 omega
theorem phi_burn (st : St) (h : st.fuel ≠ 0) : phi st.burn = phi st - 3 := by
 unfold phi St.burn
 simp only
 omega
def PB (n : Int) (r : Res) : Prop := match r.1 with
 | .stop _ => phi r.2 ≤ n + 1
 | _ => phi r.2 ≤ n
theorem PB.mono {n m : Int} {r : Res} (h : PB n r) (hm : n ≤ m) : PB m r := by
 obtain ⟨o, st⟩ := r
 cases o <;> (unfold PB at *; simp only at *; omega)
theorem PB.andThen {n m : Int} {r : Res} {f : Int → St → Res} (h : PB n r) (hm : n ≤ m) (hf : ∀ v st, r = (.val v, st) → phi st ≤ n → PB m (f v st)) : PB m (Cond.andThen r f) := by
 obtain ⟨o, st⟩ := r
 cases o with
 | val v => exact hf v st rfl h
 | leave d v => exact h.mono hm
 | stop e => exact h.mono hm
theorem PB.onLeave {n m : Int} {r : Res} {d : Nat} {f : Int → St → Res} (h : PB n r) (hm : n ≤ m) (hf : ∀ v st, r = (.leave d v, st) → phi st ≤ n → PB m (f v st)) : PB m (Cond.onLeave r d f) := by
 obtain ⟨o, st⟩ := r
 cases o with
 | val v => exact h.mono hm
 | leave e v =>
  rw [Cond.onLeave]
  split
  ·rename_i he; subst he; exact hf v st rfl h
  ·exact h.mono hm
 | stop e => exact h.mono hm
section
variable {P : List CExp} {f : Nat} (ih : ∀ x s st, st.fuel < f → PB (phi st - 1) (run P x s st))
include ih
theorem raiseL_phi {rs : List Int} {m v : Int} : ∀ (l : List Hd) (st : St), st.fuel < f → PB (phi st) (raiseL (run P) rs m v l st)
  | [], _, _ => Int.le_refl _
  | h :: outer, st, hf => by
    rw [raiseL]
    split
    · have h0 := phi_tell st (Sc.ev ⟨v, outer, rs⟩ 3 h.n v)
      refine PB.andThen (ih h.body ⟨v, outer, rs⟩ (st.tell (Sc.ev ⟨v, outer, rs⟩ 3 h.n v)) hf) (by omega) fun u q hr hq => ?_
      have h3 := run_fuel P h.body ⟨v, outer, rs⟩ (st.tell (Sc.ev ⟨v, outer, rs⟩ 3 h.n v))
      rw [hr] at h3
      have h3' : q.fuel ≤ st.fuel := h3
      exact (raiseL_phi outer q (by omega)).mono (by omega)
    · exact raiseL_phi outer st hf
theorem raise_phi (s : Sc) (n v : Int) (st : St) (hf : st.fuel < f) : PB (phi st + 1) (raise (run P) s n v st) := by
 have := raiseL_phi ih (rs := s.rs) (m := n) (v := v) s.hs (st.tell (s.ev 2 n v)) hf
 rw [phi_tell] at this
 exact this
theorem agains_phi {m : Int} {a : CExp} {s : Sc} : ∀ (k : Nat) {v : Int} {st : St}, st.fuel ≤ k → st.fuel < f → PB (phi st - 1) (agains P m a s v st)
  | k, v, st, hk, hf => by
    rw [agains_eq]
    refine PB.onLeave (ih a ((s.with v).offer m) st hf) (Int.le_refl _) fun u q hr hq => ?_
    have hb := run_burns P _ _ _ hr (by simp)
    cases k with
    | zero => omega
    | succ k => exact (agains_phi k (by omega) (by omega)).mono (by omega)
omit ih in
theorem lost_phi (s : Sc) (v : Int) (st : St) : PB (phi st + 1) (lost s v st) := by
 unfold lost
 split
 ·show phi st ≤ _; omega
 ·split
  ·show phi st ≤ _; omega
  ·rename_i p ps hp hr
   show phi (St.tell { st with picks := ps } _) ≤ _
   rw [phi_tell]
   exact Int.le_refl _
theorem step_phi (x : CExp) (s : Sc) (st : St) {k : Nat} (hf : st.fuel < f) (hk : st.fuel < k) : PB (phi st + 2) (Cond.step P (run P) k s st x) := by
 have bind : ∀ {x : CExp} {s : Sc} {st : St} {g : Int → St → Res} {m : Int}, st.fuel < f → phi st ≤ m → (∀ v q, phi q ≤ phi st - 1 → q.fuel < f → PB m (g v q)) → PB m (Cond.andThen (run P x s st) g) := by
  intro x s st g m hf hm hg
  refine PB.andThen (ih x s st hf) (by omega) fun v q hr hq => hg v q hq ?_
  have := run_fuel P x s st
  rw [hr] at this
  exact Nat.lt_of_le_of_lt this hf
 cases x with
 | int m => show phi st ≤ _; omega
 | hand => show phi st ≤ _; omega
 | add x y => exact bind hf (by omega) fun _ q h1 hf => bind hf (by omega) fun _ q' h2 _ => by show phi q' ≤ _; omega
 | say x => exact bind hf (by omega) fun v q h1 _ => by show phi (St.tell _ _) ≤ _; rw [phi_tell]; omega
 | seq x y => exact bind hf (by omega) fun _ q h1 hf => (ih _ _ _ hf).mono (by omega)
 | test x y z =>
  refine bind hf (by omega) fun _ q h1 hf => ?_
  split
  ·exact (ih _ _ _ hf).mono (by omega)
  ·exact (ih _ _ _ hf).mono (by omega)
 | call m x => exact bind hf (by omega) fun v q h1 hf => (ih _ _ _ hf).mono (by omega)
 | handle m x y => exact (ih x (s.under m y) _ hf).mono (by omega)
 | signal m x => exact bind hf (by omega) fun v q h1 hf => (raise_phi ih _ _ _ _ hf).mono (by omega)
 | fails m x =>
  exact bind hf (by omega) fun v q h1 hf => PB.andThen (raise_phi ih _ _ _ _ hf) (by omega) fun u q' _ h2 => (lost_phi s v q').mono (by omega)
 | restart m x y =>
  refine PB.onLeave (ih x (s.offer m) st hf) (by omega) fun v q hr hq => ?_
  have := run_burns P _ _ _ hr (by simp)
  exact (ih y (s.with v) _ (by omega)).mono (by omega)
 | again m x =>
  show PB _ (again (run P) m x s k s.hand st)
  rw [again_run P m x s _ st hk (Nat.lt_succ_self _)]
  exact (agains_phi ih _ (Nat.le_refl _) hf).mono (by omega)
 | choose m x =>
  refine bind hf (by omega) fun v q h1 _ => ?_
  split
  ·show phi (St.tell _ _) ≤ _
   rw [phi_tell]; omega
  ·show phi q ≤ _; omega
 | find m => show phi st ≤ _; omega
 | guard x y =>
  have h1 := ih x s st hf
  have h2 := run_fuel P x s st
  show PB _ (behind (run P x s st) _ _)
  generalize run P x s st = r at h1 h2
  obtain ⟨o, q⟩ := r
  have h3 : q.fuel < f := Nat.lt_of_le_of_lt h2 hf
  cases o with
  | val v =>
   have h4 : phi q ≤ phi st - 1 := h1
   exact PB.andThen (ih y s q h3) (by omega) fun _ q' _ h5 => by show phi q' ≤ _; omega
  | leave d v =>
   have h4 : phi q ≤ phi st - 1 := h1
   have h5 := phi_tell q (s.ev 5 0 0)
   exact PB.andThen (ih y s (q.tell _) h3) (by omega) fun _ q' _ h6 => by show phi q' ≤ _; omega
  | stop e =>
   exact h1.mono (by omega)
end
theorem run_phi (P : List CExp) : ∀ (f : Nat) (x : CExp) (s : Sc) (st : St), st.fuel < f → PB (phi st - 1) (run P x s st)
  | 0, _, _, _, h => absurd h (Nat.not_lt_zero _)
  | f + 1, x, s, st, hf => by
    by_cases h0 : st.fuel = 0
    · rw [run_spent P x s st h0]
      show phi st ≤ _; omega
    · rw [run_step P x s st h0]
      have h2 : st.burn.fuel = st.fuel - 1 := rfl
      have h3 := phi_burn st h0
      exact (step_phi (run_phi P f) x s st.burn (k := st.fuel) (by omega) (by omega)).mono (by omega)

theorem picks_grows : Grows fun a b => ∃ l, a.picks = l ++ b.picks where
 refl _ := ⟨[], rfl⟩
 trans h k := by
  obtain ⟨l, h⟩ := h
  obtain ⟨l', k⟩ := k
  exact ⟨l ++ l', by rw [h, k, List.append_assoc]⟩
 tell _ _ := ⟨[], rfl⟩
 pick _ ps p h := ⟨[p], h⟩
 burn _ _ := ⟨[], rfl⟩
theorem run_picks (P : List CExp) (x : CExp) (s : Sc) (st : St) : ∃ l, st.picks = l ++ (run P x s st).2.picks := eval_grows picks_grows P _ x s st
end Go.Cond

/- Conditions and restarts, in plain Lean: a walk through all that an expression reaches, each block once. -/
namespace Go.Cond

def CExp.target : CExp → Option Nat
 | .call n _ => some n
 | _ => none
mutual
def CExp.size : CExp → Nat
 | .int _ => 1
 | .hand => 1
 | .add a b => 1 + (a.size + b.size)
 | .say a => 1 + a.size
 | .seq a b => 1 + (a.size + b.size)
 | .test a b c => 1 + (a.size + (b.size + c.size))
 | .call _ a => 1 + a.size
 | .handle _ a b => 1 + (a.size + b.size)
 | .signal _ a => 1 + a.size
 | .fails _ a => 1 + a.size
 | .restart _ a b => 1 + (a.size + b.size)
 | .again _ a => 1 + a.size
 | .choose _ a => 1 + a.size
 | .find _ => 1
 | .guard a b => 1 + (a.size + b.size)
end
def sizesE : List CExp → Nat
 | [] => 0
 | x :: r => x.size + sizesE r
theorem size_kids (x : CExp) : x.size = 1 + sizesE x.kids := by cases x <;> simp [CExp.size, CExp.kids, sizesE] <;> omega
theorem mem_sizesE {x : CExp} : ∀ {l : List CExp}, x ∈ l → x.size ≤ sizesE l
  | y :: r, h => by
    rw [sizesE]
    rcases List.mem_cons.1 h with rfl | h
    · omega
    · have := mem_sizesE h; omega
abbrev Walked := List CExp × List Nat
def evL (w : CExp → List Nat → Walked) : List CExp → List Nat → Walked
 | [], m => ([], m)
 | y :: r, m => ((w y m).1 ++ (evL w r (w y m).2).1, (evL w r (w y m).2).2)
def evW (P : List CExp) : Nat → CExp → List Nat → Walked
  | 0, _, m => ([], m)
  | k + 1, x, m => match x.target with
    | none => (x :: (evL (evW P k) x.kids m).1, (evL (evW P k) x.kids m).2)
    | some n => if (evL (evW P k) x.kids m).2.contains n then (x :: (evL (evW P k) x.kids m).1, (evL (evW P k) x.kids m).2)
      else (x :: ((evL (evW P k) x.kids m).1 ++ (evW P k (P.getD n default) (n :: (evL (evW P k) x.kids m).2)).1), (evW P k (P.getD n default) (n :: (evL (evW P k) x.kids m).2)).2)

def unmet (m : List Nat) : Nat → Nat
 | 0 => 0
 | N + 1 => unmet m N + if N ∈ m then 0 else 1
theorem unmet_mono {m m' : List Nat} (h : ∀ n ∈ m, n ∈ m') : ∀ N, unmet m' N ≤ unmet m N
  | 0 => Nat.le_refl _
  | N + 1 => by
    have := unmet_mono h N
    rw [unmet, unmet]
    by_cases h1 : N ∈ m
    · rw [if_pos h1, if_pos (h N h1)]; omega
    · rw [if_neg h1]; split <;> omega
theorem unmet_cons {m : List Nat} {n : Nat} (hm : n ∉ m) : ∀ {N}, n < N → unmet (n :: m) N + 1 ≤ unmet m N
  | 0, h => absurd h (Nat.not_lt_zero _)
  | N + 1, h => by
    rw [unmet, unmet]
    by_cases e : N = n
    · subst e
      have := unmet_mono (m := m) (m' := N :: m) (fun k hk => List.mem_cons_of_mem _ hk) N
      rw [if_pos List.mem_cons_self, if_neg hm]; omega
    · have := unmet_cons hm (N := N) (by omega)
      by_cases h1 : N ∈ m
      · rw [if_pos h1, if_pos (List.mem_cons_of_mem _ h1)]; omega
      · rw [if_neg h1, if_neg (by simp [e, h1])]; omega
theorem unmet_nil : ∀ N, unmet [] N = N
 | 0 => rfl
 | N + 1 => by rw [unmet, unmet_nil N]; simp

structure Whole (P : List CExp) (S : Nat) (xs : List CExp) (m : List Nat) (sz : Nat) (r : Walked) : Prop where
 sub : ∀ n ∈ m, n ∈ r.2
 all : ∀ x ∈ xs, x ∈ r.1
 kid : ∀ y ∈ r.1, ∀ z ∈ y.kids, z ∈ r.1
 call : ∀ n a, CExp.call n a ∈ r.1 → n ∈ r.2
 met : ∀ n ∈ r.2, n ∈ m ∨ P.getD n default ∈ r.1
 reach : ∀ y ∈ r.1, ∃ x ∈ xs, Reach P x y
 few : r.1.length + unmet r.2 P.length * S ≤ unmet m P.length * S + sz

def OkC (P : List CExp) (x : CExp) : Prop := ∀ n a, Reach P x (.call n a) → n < P.length
theorem OkC.kid {P : List CExp} {x y : CExp} (h : OkC P x) (hy : y ∈ x.kids) : OkC P y := fun n a hr => h n a (.kid hy hr)
theorem OkC.call {P : List CExp} {n : Nat} {a : CExp} (h : OkC P (.call n a)) : OkC P (P.getD n default) := fun m b hr => h m b (.call hr)

theorem evL_whole {P : List CExp} {S : Nat} {w : CExp → List Nat → Walked} {k : Nat} (hw : ∀ x m, OkC P x → unmet m P.length * S + x.size ≤ k → Whole P S [x] m x.size (w x m)) :
    ∀ (l : List CExp) (m : List Nat), (∀ x ∈ l, OkC P x) → unmet m P.length * S + sizesE l ≤ k → Whole P S l m (sizesE l) (evL w l m)
  | [], m, _, _ => ⟨fun _ h => h, fun _ h => (nomatch h), fun _ h => (nomatch h), fun _ _ h => (nomatch h), fun _ h => .inl h, fun _ h => (nomatch h), by simp [evL, sizesE]⟩
  | x :: r, m, hl, hk => by
    rw [sizesE] at hk ⊢
    have h1 := hw x m (hl x List.mem_cons_self) (by omega)
    have hm := Nat.mul_le_mul_right S (unmet_mono h1.sub P.length)
    have h2 := evL_whole hw r (w x m).2 (fun y hy => hl y (List.mem_cons_of_mem _ hy)) (by omega)
    rw [evL]
    refine ⟨fun n hn => h2.sub n (h1.sub n hn), fun y hy => ?_, fun y hy z hz => ?_, fun n a hy => ?_, fun n hn => ?_, fun y hy => ?_, ?_⟩
    · rcases List.mem_cons.1 hy with rfl | hy
      · exact List.mem_append_left _ (h1.all y List.mem_cons_self)
      · exact List.mem_append_right _ (h2.all y hy)
    · rcases List.mem_append.1 hy with hy | hy
      · exact List.mem_append_left _ (h1.kid y hy z hz)
      · exact List.mem_append_right _ (h2.kid y hy z hz)
    · rcases List.mem_append.1 hy with hy | hy
      · exact h2.sub n (h1.call n a hy)
      · exact h2.call n a hy
    · rcases h2.met n hn with h | h
      · rcases h1.met n h with h | h
        · exact .inl h
        · exact .inr (List.mem_append_left _ h)
      · exact .inr (List.mem_append_right _ h)
    · rcases List.mem_append.1 hy with hy | hy
      · obtain ⟨x', hx', hr⟩ := h1.reach y hy
        obtain rfl : x' = x := by simpa using hx'
        exact ⟨x', List.mem_cons_self, hr⟩
      · obtain ⟨x', hx', hr⟩ := h2.reach y hy
        exact ⟨x', List.mem_cons_of_mem _ hx', hr⟩
    · have f1 := h1.few
      have f2 := h2.few
      simp only [List.length_append]
      omega
theorem target_some {x : CExp} {n : Nat} (h : x.target = some n) : ∃ a, x = .call n a := by
 cases x <;> simp [CExp.target] at h
 subst h; exact ⟨_, rfl⟩
theorem evW_whole {P : List CExp} {S : Nat} (hS : ∀ n, (P.getD n default).size ≤ S) : ∀ (k : Nat) (x : CExp) (m : List Nat), OkC P x → unmet m P.length * S + x.size ≤ k → Whole P S [x] m x.size (evW P k x m)
  | 0, x, m, _, h => by have := size_kids x; omega
  | k + 1, x, m, hx, h => by
    have hs := size_kids x
    have h1 := evL_whole (evW_whole hS k) x.kids m (fun y hy => hx.kid hy) (by omega)
    have hm := Nat.mul_le_mul_right S (unmet_mono h1.sub P.length)
    have f1 := h1.few
    generalize hA : evL (evW P k) x.kids m = A at h1 hm f1
    have base : (∀ n, x.target = some n → n ∈ A.2) → Whole P S [x] m x.size (x :: A.1, A.2) := fun ht => by
      refine ⟨h1.sub, fun y hy => ?_, fun y hy z hz => ?_, fun n a hy => ?_, fun n hn => ?_, fun y hy => ?_, ?_⟩
      · obtain rfl : y = x := by simpa using hy
        exact List.mem_cons_self
      · rcases List.mem_cons.1 hy with rfl | hy
        · exact List.mem_cons_of_mem _ (h1.all z hz)
        · exact List.mem_cons_of_mem _ (h1.kid y hy z hz)
      · rcases List.mem_cons.1 hy with hy | hy
        · exact ht n (by rw [← hy]; rfl)
        · exact h1.call n a hy
      · rcases h1.met n hn with h | h
        · exact .inl h
        · exact .inr (List.mem_cons_of_mem _ h)
      · rcases List.mem_cons.1 hy with rfl | hy
        · exact ⟨y, List.mem_cons_self, .refl _⟩
        · obtain ⟨x', hx', hr⟩ := h1.reach y hy
          exact ⟨x, List.mem_cons_self, .kid hx' hr⟩
      · simp only [List.length_cons]; omega
    cases ht : x.target with
    | none =>
      have : evW P (k + 1) x m = (x :: A.1, A.2) := by rw [evW, ht]; simp only [hA]
      rw [this]
      exact base fun n hn => by rw [ht] at hn; cases hn
    | some n =>
      by_cases hc : n ∈ A.2
      · have : evW P (k + 1) x m = (x :: A.1, A.2) := by rw [evW, ht]; simp only [hA]; rw [if_pos (by simpa using hc)]
        rw [this]
        exact base fun n' hn => by rw [ht] at hn; cases hn; exact hc
      · have : evW P (k + 1) x m = (x :: (A.1 ++ (evW P k (P.getD n default) (n :: A.2)).1), (evW P k (P.getD n default) (n :: A.2)).2) := by
          rw [evW, ht]; simp only [hA]; rw [if_neg (by simpa using hc)]
        rw [this]
        obtain ⟨a, rfl⟩ := target_some ht
        have hlt := hx n a (.refl _)
        have hu := Nat.mul_le_mul_right S (unmet_cons hc hlt)
        rw [Nat.add_mul, Nat.one_mul] at hu
        have hb := hS n
        have h2 := evW_whole hS k (P.getD n default) (n :: A.2) hx.call (by omega)
        have f2 := h2.few
        generalize evW P k (P.getD n default) (n :: A.2) = B at h2 f2
        refine ⟨fun n' hn => h2.sub n' (List.mem_cons_of_mem _ (h1.sub n' hn)), fun y hy => ?_, fun y hy z hz => ?_, fun n' a' hy => ?_, fun n' hn => ?_, fun y hy => ?_, ?_⟩
        · obtain rfl : y = .call n a := by simpa using hy
          exact List.mem_cons_self
        · refine List.mem_cons_of_mem _ ?_
          rcases List.mem_cons.1 hy with rfl | hy
          · exact List.mem_append_left _ (h1.all z hz)
          · rcases List.mem_append.1 hy with hy | hy
            · exact List.mem_append_left _ (h1.kid y hy z hz)
            · exact List.mem_append_right _ (h2.kid y hy z hz)
        · rcases List.mem_cons.1 hy with hy | hy
          · cases hy; exact h2.sub n List.mem_cons_self
          · rcases List.mem_append.1 hy with hy | hy
            · exact h2.sub n' (List.mem_cons_of_mem _ (h1.call n' a' hy))
            · exact h2.call n' a' hy
        · rcases h2.met n' hn with h | h
          · rcases List.mem_cons.1 h with rfl | h
            · exact .inr (List.mem_cons_of_mem _ (List.mem_append_right _ (h2.all _ List.mem_cons_self)))
            · rcases h1.met n' h with h | h
              · exact .inl h
              · exact .inr (List.mem_cons_of_mem _ (List.mem_append_left _ h))
          · exact .inr (List.mem_cons_of_mem _ (List.mem_append_right _ h))
        · refine ⟨.call n a, List.mem_cons_self, ?_⟩
          rcases List.mem_cons.1 hy with rfl | hy
          · exact .refl _
          · rcases List.mem_append.1 hy with hy | hy
            · obtain ⟨x', hx', hr⟩ := h1.reach y hy
              exact .kid hx' hr
            · obtain ⟨x', hx', hr⟩ := h2.reach y hy
              obtain rfl : x' = _ := by simpa using hx'
              exact .call hr
        · simp only [List.length_cons, List.length_append]; omega
theorem whole_reach {P : List CExp} {S sz : Nat} {x : CExp} {r : Walked} (h : Whole P S [x] [] sz r) (z : CExp) : z ∈ r.1 ↔ Reach P x z := by
 constructor
 ·intro hz
  obtain ⟨x', hx', hr⟩ := h.reach z hz
  obtain rfl : x' = x := by simpa using hx'
  exact hr
 ·have : ∀ y, Reach P y z → y ∈ r.1 → z ∈ r.1 := by
   intro y hy
   induction hy with
   | refl _ => exact id
   | kid h1 _ ih => exact fun h2 => ih (h.kid _ h2 _ h1)
   | call _ ih =>
    intro h2
    rcases h.met _ (h.call _ _ h2) with h3 | h3
    ·cases h3
    ·exact ih h3
  exact fun hz => this x hz (h.all x List.mem_cons_self)
end Go.Cond

/- Chapter 19: raw expressions; contracts: in, whole, what kinds of nodes have. -/
namespace Go.Proofs.YtdeiinhccdlfiaaGreat
open Go.AE

def big : Nat := 1099511627776
theorem take_succ_map {α β : Type} (f : α → β) {l : List α} {j : Nat} {x : α} (h : l[j]? = some x) : (l.take j).map f ++ [f x] = (l.take (j + 1)).map f := by
 rw [List.take_add_one, h]; simp
theorem elem_at {α : Type} {f : α → AV} {l : List α} {j : Nat} (h : j < l.length) : ∃ x, l[j]? = some x ∧ (l.map f)[j]? = some (f x) :=
 ⟨l[j], List.getElem?_eq_getElem h, by simp [h]⟩
def ints (l : List Int) : List AV := l.map fun n => .int .i64 n
@[simp] theorem ints_length (l : List Int) : (ints l).length = l.length := by simp [ints]

inductive CRaw where
 | mk (op n : Int) (kids : List CRaw)
namespace CRaw
def op : CRaw → Int | .mk o _ _ => o
def n : CRaw → Int | .mk _ n _ => n
def kids : CRaw → List CRaw | .mk _ _ k => k
mutual
def size : CRaw → Nat
 | .mk _ _ ks => 1 + sizes ks
def sizes : List CRaw → Nat
 | [] => 0
 | k :: r => k.size + sizes r
end
mutual
def av : CRaw → AV
 | .mk o n ks => .agg [.int .i64 o, .int .i64 n, .slc 3 (avs ks) .fro]
def avs : List CRaw → List AV
 | [] => []
 | k :: r => k.av :: avs r
end
theorem avs_map : ∀ l : List CRaw, avs l = l.map av
 | [] => rfl
 | k :: r => by rw [avs, List.map_cons, avs_map r]
def cells (x : CRaw) : List AV := [.int .i64 x.op, .int .i64 x.n, .slc 3 (x.kids.map av) .fro]
theorem av_eq (x : CRaw) : x.av = .agg x.cells := by cases x; rw [av, avs_map]; rfl
theorem size_eq (x : CRaw) : x.size = 1 + sizes x.kids := by cases x; rw [size]; rfl
theorem mem_sizes : ∀ {l : List CRaw} {x : CRaw}, x ∈ l → x.size ≤ sizes l
  | k :: r, x, h => by
    rw [sizes]
    rcases List.mem_cons.1 h with rfl | h
    · omega
    · have := mem_sizes h; omega
theorem length_sizes : ∀ l : List CRaw, l.length ≤ sizes l
 | [] => Nat.le_refl _
 | k :: r => by have := length_sizes r; rw [sizes, List.length_cons, size_eq]; omega
end CRaw

def nodeL (blocks : Int) : List (Int × Int × Int × Int) :=
 [(1, 0, -1000000000, 1000000000), (2, 0, 0, 0), (3, 2, 0, 0), (4, 1, 0, 0), (5, 2, 0, 0), (6, 3, 0, 0), (7, 1, 0, blocks - 1), (8, 2, -1, 7), (9, 1, 0, 7), (10, 1, 0, 7), (11, 2, 0, 7), (12, 1, 0, 7), (13, 1, 0, 7), (14, 0, 0, 7), (15, 2, 0, 0)]
def nodeA (l : List (Int × Int × Int × Int)) : List (AV × AV) := l.map fun r => (.int .i64 r.1, .agg [.int .i64 r.2.1, .int .i64 r.2.2.1, .int .i64 r.2.2.2])
def nodeOf (blocks op : Int) : Option (Int × Int × Int) := ((nodeL blocks).find? fun r => op == r.1).map (·.2)
def nodeV (r : Int × Int × Int) : AV := .agg [.int .i64 r.1, .int .i64 r.2.1, .int .i64 r.2.2]
theorem getA_node (l : List (Int × Int × Int × Int)) (op : Int) : getA (nodeA l) (.int .i64 op) = some (((l.find? (fun r => op == r.1)).map (·.2)).map nodeV) := by
 induction l with
 | nil => rfl
 | cons r l ih =>
  simp only [nodeA, List.map_cons, getA, keyEq, if_true, List.find?_cons]
  cases h : op == r.1 with
  | true => simp [nodeV]
  | false => simp only [nodeA] at ih; exact ih

def inB (n low high : Int) : Bool := decide (n ≥ low) && decide (n ≤ high)
set_option maxRecDepth 10000 in
theorem in_spec (n low high : Int) : PCalls Tryz.prog 28 [.int .i64 n, .int .i64 low, .int .i64 high] (.bool (inB n low high)) := by
 refine fun s => ACalls.of_CW tO call28 Tryz.func28 rfl rfl ?_
 repeat' (first | (with_reducible first | apply CW.seq | apply aN | apply CW.ret) | refine wR rfl ?_ | refine CW.reg ?_ | refine RL.nil ?_ | refine wS rfl ?_ | refine RL.skip rfl rfl rfl ?_ | refine RL.gstepT tO rfl rfl rfl rfl rfl rfl rfl (fun _ => ?_) (fun _ => ?_))
 all_goals refine ⟨_, _, _, rfl, aRfl, sSub, ?_, rfl⟩
 all_goals first | (simp_all [inB]; done) | (simp_all [inB]; omega)
set_option maxRecDepth 10000 in
theorem whole_spec (n : Int) : PCalls Tryz.prog 27 [.int .i64 n] (.bool (inB n (-1000000000) 1000000000)) := by
 refine PCalls.of_CW tO call27 Tryz.func27 rfl rfl fun s hok => ?_
 repeat (first | (with_reducible first | apply CW.seq | apply aN) | refine wR rfl ?_ | refine CW.reg ?_ | refine wS rfl ?_)
 refine RL.callPP rfl rfl rfl rfl rfl (in_spec n (-1000000000) 1000000000) ?_
 repeat (first | (with_reducible first | apply aN | apply CW.ret) | refine RL.nil ?_ | refine wS rfl ?_)
 exact Fin.retP hok rfl aRfl

set_option maxRecDepth 10000 in
set_option maxHeartbeats 1000000 in
theorem nodes_spec (blocks : Int) (h1 : 0 ≤ blocks) (h2 : blocks < 1000) : LCalls Tryz.prog 45 [.int .i64 blocks] [] (fun o K => ∃ m, o = .ret (.map m) ∧ K = [(.own m, .map (nodeA (nodeL blocks)))]) := by
 have hw : IntKind.wrap .i64 (blocks - 1) = blocks - 1 := i64_wrap (by omega) (by omega)
 refine LCalls.of_CW tO call45 Tryz.func45 rfl rfl fun s hok => ?_
 repeat (first | (with_reducible first | apply CW.seq | apply aN) | refine wR rfl ?_ | refine CW.reg ?_)
 refine RL.makeMapL hok rfl rfl rfl rfl (fun mb hok => ?_)
 repeat (first | refine wS rfl ?_)
 refine RL.mapUpdateL tO hok rfl rfl (.inr rfl) rfl rfl rfl rfl rfl rfl (by repeat (first | exact Sel.here | apply Sel.there)) rfl (by exact rfl) (fun hok => ?_)
 repeat (first | refine wS rfl ?_)
 refine RL.mapUpdateL tO hok rfl rfl (.inr rfl) rfl rfl rfl rfl rfl rfl (by repeat (first | exact Sel.here | apply Sel.there)) rfl (by exact rfl) (fun hok => ?_)
 repeat (first | refine wS rfl ?_)
 refine RL.mapUpdateL tO hok rfl rfl (.inr rfl) rfl rfl rfl rfl rfl rfl (by repeat (first | exact Sel.here | apply Sel.there)) rfl (by exact rfl) (fun hok => ?_)
 repeat (first | refine wS rfl ?_)
 refine RL.mapUpdateL tO hok rfl rfl (.inr rfl) rfl rfl rfl rfl rfl rfl (by repeat (first | exact Sel.here | apply Sel.there)) rfl (by exact rfl) (fun hok => ?_)
 repeat (first | refine wS rfl ?_)
 refine RL.mapUpdateL tO hok rfl rfl (.inr rfl) rfl rfl rfl rfl rfl rfl (by repeat (first | exact Sel.here | apply Sel.there)) rfl (by exact rfl) (fun hok => ?_)
 repeat (first | refine wS rfl ?_)
 refine RL.mapUpdateL tO hok rfl rfl (.inr rfl) rfl rfl rfl rfl rfl rfl (by repeat (first | exact Sel.here | apply Sel.there)) rfl (by exact rfl) (fun hok => ?_)
 repeat (first | refine wS rfl ?_)
 refine RL.mapUpdateL tO hok rfl rfl (.inr rfl) rfl rfl rfl rfl rfl rfl (by repeat (first | exact Sel.here | apply Sel.there)) rfl (by exact rfl) (fun hok => ?_)
 repeat (first | refine wS rfl ?_)
 refine RL.mapUpdateL tO hok rfl rfl (.inr rfl) rfl rfl rfl rfl rfl rfl (by repeat (first | exact Sel.here | apply Sel.there)) rfl (by exact rfl) (fun hok => ?_)
 repeat (first | refine wS rfl ?_)
 refine RL.mapUpdateL tO hok rfl rfl (.inr rfl) rfl rfl rfl rfl rfl rfl (by repeat (first | exact Sel.here | apply Sel.there)) rfl (by exact rfl) (fun hok => ?_)
 repeat (first | refine wS rfl ?_)
 refine RL.mapUpdateL tO hok rfl rfl (.inr rfl) rfl rfl rfl rfl rfl rfl (by repeat (first | exact Sel.here | apply Sel.there)) rfl (by exact rfl) (fun hok => ?_)
 repeat (first | refine wS rfl ?_)
 refine RL.mapUpdateL tO hok rfl rfl (.inr rfl) rfl rfl rfl rfl rfl rfl (by repeat (first | exact Sel.here | apply Sel.there)) rfl (by exact rfl) (fun hok => ?_)
 repeat (first | refine wS rfl ?_)
 refine RL.mapUpdateL tO hok rfl rfl (.inr rfl) rfl rfl rfl rfl rfl rfl (by repeat (first | exact Sel.here | apply Sel.there)) rfl (by exact rfl) (fun hok => ?_)
 repeat (first | refine wS rfl ?_)
 refine RL.mapUpdateL tO hok rfl rfl (.inr rfl) rfl rfl rfl rfl rfl rfl (by repeat (first | exact Sel.here | apply Sel.there)) rfl (by exact rfl) (fun hok => ?_)
 repeat (first | refine wS rfl ?_)
 refine RL.mapUpdateL tO hok rfl rfl (.inr rfl) rfl rfl rfl rfl rfl rfl (by repeat (first | exact Sel.here | apply Sel.there)) rfl (by exact rfl) (fun hok => ?_)
 repeat (first | refine wS rfl ?_)
 refine RL.mapUpdateL tO hok rfl rfl (.inr rfl) rfl rfl rfl rfl rfl rfl (by repeat (first | exact Sel.here | apply Sel.there)) rfl (by exact rfl) (fun hok => ?_)
 repeat (first | (with_reducible first | apply aN | apply CW.ret) | refine RL.nil ?_ | refine wS rfl ?_)
 rw [hw] at hok ⊢
 exact Fin.retL hok rfl aRfl (by repeat (first | exact Sels.nil | (apply Sels.cons; · repeat (first | exact Sel.here | apply Sel.there)))) ⟨mb, rfl, rfl⟩
end Go.Proofs.YtdeiinhccdlfiaaGreat

/- Chapter 19: contracts: which programs are formed. -/
namespace Go.AE
theorem Sels.all : ∀ L : LS, Sels L L []
 | [] => .nil
 | (_, _) :: L => .cons .here (Sels.all L)
end Go.AE
namespace Go.Proofs.YtdeiinhccdlfiaaGreat
open Go.AE

mutual
def cntR (b : Int) (d : Nat) (k : Int) : CRaw → Bool × Int
  | .mk o n ks => match nodeOf b o with
    | none => (false, k - 1)
    | some r => if (decide (k - 1 < 0) || decide (d > 12)) || (decide ((ks.length : Int) ≠ r.1) || !inB n r.2.1 r.2.2) then (false, k - 1) else cntsR b (d + 1) (k - 1) ks
def cntsR (b : Int) (d : Nat) (k : Int) : List CRaw → Bool × Int
 | [] => (true, k)
 | x :: r => if (cntR b d k x).1 then cntsR b d (cntR b d k x).2 r else (false, (cntR b d k x).2)
end
def goodP (p : List CRaw) : Bool := inB p.length 1 6 && (cntsR p.length 1 80 p).1

set_option maxRecDepth 10000 in
set_option maxHeartbeats 1000000 in
theorem idxExp_spec (fv : AV) (xs : List CRaw) (T : Nat → LS) (bs : Nat → Bool) (hl : xs.length < big) (h : ∀ j x, xs[j]? = some x → (∀ i, i < j → bs i = false) → LCallV Tryz.prog fv [x.av] (T j) (fun o K => o = .ret (.bool (bs j)) ∧ K = T (j + 1))) :
  LCalls Tryz.prog 80 [.slc 3 (xs.map CRaw.av) .fro, fv] (T 0)
   (fun o K => (o = .ret (.int .i64 (-1)) ∧ K = T xs.length ∧ ∀ i, i < xs.length → bs i = false) ∨ ∃ j, j < xs.length ∧ bs j = true ∧ (∀ i, i < j → bs i = false) ∧ o = .ret (.int .i64 (j : Int)) ∧ K = T (j + 1)) := by
 have hb : big = 1099511627776 := rfl
 refine LCalls.of_CW tO call80 Tryz.func80 rfl rfl fun s hok => ?_
 repeat (first | (with_reducible first | apply CW.seq | apply aN | apply CW.block) | refine wR rfl ?_)
 refine CW.loopL hok (σ := Nat) (fun j => [(0, .slc 3 (xs.map CRaw.av) .fro), (1, fv), (7, .int .i64 xs.length), (8, .int .i64 (j : Int))]) T (fun j => j ≤ xs.length ∧ ∀ i, i < j → bs i = false) (fun j => xs.length - j) 0 ⟨by omega, fun i hi => by omega⟩ (by repeat (first | exact trivial | refine ⟨⟨_, rfl, aRfl⟩, ?_⟩ | refine ⟨⟨_, rfl, AVle.of_eq (by simp)⟩, ?_⟩)) (Sels.all _) ?_
 rintro j ⟨hj, hI⟩ hok
 repeat (first | (with_reducible first | apply CW.seq | apply aN) | refine wR rfl ?_)
 refine CW.cond rfl (fun hlt => ?_) (fun hge => ?_)
 ·have hlt : j < xs.length := by simpa using hlt
  obtain ⟨x, hx, hx'⟩ := elem_at (f := CRaw.av) hlt
  have hv := h j x hx hI
  rw [CRaw.av_eq] at hx' hv
  repeat (first | (with_reducible first | apply CW.seq | apply aN | apply CW.skip | apply CW.block) | refine wR rfl ?_ | refine CW.reg ?_ | refine wS rfl ?_ | refine RL.idx tO _ rfl rfl rfl rfl rfl rfl rfl rfl rfl rfl rfl (by assumption) rfl ?_)
  refine RL.callVL rfl rfl rfl rfl rfl rfl hv hok (Sels.all _) ?_ (fun _ _ ⟨h, _⟩ _ => by cases h)
  rintro _ _ ⟨⟨⟩, rfl⟩ hok
  rw [List.append_nil] at hok ⊢
  cases hbj : bs j with
  | true =>
   repeat (first | (with_reducible first | apply CW.seq | apply aN | apply aR | apply iR | apply CW.ret) | refine wR rfl ?_ | refine RL.nil ?_ | refine CW.condT rfl ?_)
   exact Fin.retL hok rfl aRfl (Sels.all _) (.inr ⟨j, hlt, hbj, hI, rfl, rfl⟩)
  | false =>
   repeat (first | (with_reducible first | apply aN | apply iN | apply CW.skip) | refine wR rfl ?_ | refine RL.nil ?_ | refine CW.condF rfl ?_)
   exact NextL.mk (j + 1) hok ⟨hlt, fun i hi => by
    rcases Nat.lt_succ_iff_lt_or_eq.1 hi with hi | rfl
    ·exact hI i hi
    ·exact hbj⟩ (by repeat (first | exact trivial | refine ⟨⟨_, rfl, aRfl⟩, ?_⟩ | refine ⟨⟨_, rfl, AVle.of_eq (by (rw [i64_succ (by omega)]))⟩, ?_⟩)) (Sels.all _) (by show xs.length - (j + 1) < xs.length - j; omega)
 ·have hge : j = xs.length := by
   have : xs.length ≤ j := by simpa using hge
   omega
  subst hge
  repeat (first | (with_reducible first | apply CW.seq | apply aN | apply aX | apply iH | apply CW.ret | apply CW.exit) | refine wR rfl ?_)
  exact Fin.retL hok rfl aRfl (Sels.all _) (.inl ⟨rfl, rfl, hI⟩)

set_option maxRecDepth 10000 in
theorem anyExp_spec (fv : AV) (xs : List CRaw) (T : Nat → LS) (bs : Nat → Bool) (hl : xs.length < big) (h : ∀ j x, xs[j]? = some x → (∀ i, i < j → bs i = false) → LCallV Tryz.prog fv [x.av] (T j) (fun o K => o = .ret (.bool (bs j)) ∧ K = T (j + 1))) :
  LCalls Tryz.prog 47 [.slc 3 (xs.map CRaw.av) .fro, fv] (T 0)
   (fun o K => (o = .ret (.bool false) ∧ K = T xs.length ∧ ∀ i, i < xs.length → bs i = false) ∨ ∃ j, j < xs.length ∧ bs j = true ∧ (∀ i, i < j → bs i = false) ∧ o = .ret (.bool true) ∧ K = T (j + 1)) := by
 refine LCalls.of_CW tO call47 Tryz.func47 rfl rfl fun s hok => ?_
 repeat (first | (with_reducible first | apply CW.seq | apply aN) | refine wR rfl ?_ | refine CW.reg ?_ | refine wS rfl ?_)
 refine RL.callL rfl rfl rfl rfl rfl (idxExp_spec fv xs T bs hl h) hok (Sels.all _) ?_ (fun _ _ h _ => by rcases h with ⟨h, _⟩ | ⟨_, _, _, _, h, _⟩ <;> cases h)
 rintro _ _ (⟨⟨⟩, rfl, h1⟩ | ⟨j, h1, h2, h3, ⟨⟩, rfl⟩) hok
 all_goals rw [List.append_nil] at hok ⊢
 ·repeat (first | (with_reducible first | apply aN | apply CW.ret) | refine RL.nil ?_ | refine wS rfl ?_)
  exact Fin.retL hok rfl aRfl (Sels.all _) (.inl ⟨rfl, rfl, h1⟩)
 ·repeat (first | (with_reducible first | apply aN | apply CW.ret) | refine RL.nil ?_ | refine wS rfl ?_)
  exact Fin.retL hok rfl (by simp; exact aRfl) (Sels.all _) (.inr ⟨j, h1, h2, h3, rfl, rfl⟩)
end Go.Proofs.YtdeiinhccdlfiaaGreat

/- Chapter 19: contracts: which programs are formed (Check). -/
namespace Go.Proofs.YtdeiinhccdlfiaaGreat
open Go.AE

def walkF (b3 b4 b5 : Nat) : AV := .func 46 [] [.ptr b3 0, .ptr b4 0, .ptr b5 0]
def wL (blocks : Int) (b3 mb b4 b5 : Nat) (k : Int) : LS :=
 [(.own b3, .box 90 [.map mb]), (.own mb, .map (nodeA (nodeL blocks))), (.own b4, .box 3 [.int .i64 k]), (.own b5, .box 92 [walkF b3 b4 b5])]

def leftR (b : Int) (d : Nat) (k : Int) (ks : List CRaw) : Nat → Int
  | 0 => k
  | j + 1 => match ks[j]? with
    | some x => (cntR b d (leftR b d k ks j) x).2
    | none => leftR b d k ks j
theorem leftR_cons (b : Int) (d : Nat) (k : Int) (x : CRaw) (r : List CRaw) : ∀ j, leftR b d k (x :: r) (j + 1) = leftR b d (cntR b d k x).2 r j
  | 0 => by simp [leftR]
  | j + 1 => by
    rw [leftR, leftR_cons b d k x r j, List.getElem?_cons_succ]
    rfl
theorem cntsR_all (b : Int) (d : Nat) : ∀ (ks : List CRaw) (k : Int),
    (∀ j x, ks[j]? = some x → (cntR b d (leftR b d k ks j) x).1 = true) → cntsR b d k ks = (true, leftR b d k ks ks.length)
  | [], _, _ => by rw [cntsR]; rfl
  | x :: r, k, h => by
    have h0 : (cntR b d k x).1 = true := h 0 x rfl
    rw [cntsR, if_pos h0, cntsR_all b d r _ (fun j y hj => by rw [← leftR_cons]; exact h (j + 1) y (by simpa using hj)), List.length_cons, leftR_cons]
theorem cntsR_one (b : Int) (d : Nat) : ∀ (ks : List CRaw) (k : Int) (j : Nat) (x : CRaw), ks[j]? = some x → (∀ i y, i < j → ks[i]? = some y → (cntR b d (leftR b d k ks i) y).1 = true) → (cntR b d (leftR b d k ks j) x).1 = false →
    cntsR b d k ks = (false, leftR b d k ks (j + 1))
  | [], _, _, _, h, _, _ => by simp at h
  | y :: r, k, 0, x, h, _, hx => by
    obtain rfl : y = x := by simpa using h
    have hx' : (cntR b d k y).1 = false := hx
    rw [cntsR, if_neg (by rw [hx']; simp), leftR_cons]; rfl
  | y :: r, k, j + 1, x, h, hi, hx => by
    have h0 : (cntR b d k y).1 = true := hi 0 y (Nat.succ_pos _) rfl
    rw [cntsR, if_pos h0, leftR_cons]
    rw [leftR_cons] at hx
    exact cntsR_one b d r _ j x (by simpa using h) (fun i z hij hz => by rw [← leftR_cons]; exact hi (i + 1) z (by omega) (by simpa using hz)) hx
mutual
theorem cntR_bound : ∀ (x : CRaw) (b : Int) (d : Nat) (k : Int), (cntR b d k x).1 = true → 0 ≤ (cntR b d k x).2 ∧ (cntR b d k x).2 ≤ k
  | .mk o n ks, b, d, k, h => by
    rw [cntR] at h ⊢
    cases hq : nodeOf b o with
    | none => rw [hq] at h; cases h
    | some r =>
      rw [hq] at h
      simp only at h ⊢
      split at h
      · cases h
      · rename_i hc
        rw [if_neg hc]
        simp only [Bool.or_eq_true, decide_eq_true_eq, not_or] at hc
        have := cntsR_bound ks b (d + 1) (k - 1) h (by omega)
        omega
theorem cntsR_bound : ∀ (ks : List CRaw) (b : Int) (d : Nat) (k : Int), (cntsR b d k ks).1 = true → 0 ≤ k → 0 ≤ (cntsR b d k ks).2 ∧ (cntsR b d k ks).2 ≤ k
  | [], b, d, k, _, h0 => by rw [cntsR]; exact ⟨h0, Int.le_refl _⟩
  | x :: r, b, d, k, h, h0 => by
    rw [cntsR] at h ⊢
    split at h
    · rename_i hx
      rw [if_pos hx]
      have h1 := cntR_bound x b d k hx
      have h2 := cntsR_bound r b d _ h h1.1
      omega
    · cases h
end
theorem leftR_bound {b : Int} {d : Nat} {ks : List CRaw} {k : Int} (h0 : 0 ≤ k) : ∀ (j : Nat), (∀ i y, i < j → ks[i]? = some y → (cntR b d (leftR b d k ks i) y).1 = true) → 0 ≤ leftR b d k ks j ∧ leftR b d k ks j ≤ k
  | 0, _ => ⟨h0, Int.le_refl _⟩
  | j + 1, h => by
    have h1 := leftR_bound h0 j fun i y hi hy => h i y (by omega) hy
    rw [leftR]
    cases hx : ks[j]? with
    | none => exact h1
    | some x =>
      have h2 := cntR_bound x b d _ (h j x (Nat.lt_succ_self _) hx)
      simp only
      omega

set_option maxRecDepth 10000 in
set_option maxHeartbeats 1000000 in
theorem kid_spec (blocks : Int) (b3 mb b4 b5 : Nat) (y : CRaw) (d : Nat) (k : Int) (hd : d ≤ 13)
  (h : LCalls Tryz.prog 46 [y.av, .int .i64 ((d + 1 : Nat) : Int), .ptr b3 0, .ptr b4 0, .ptr b5 0] (wL blocks b3 mb b4 b5 k) (fun o K => o = .ret (.bool (cntR blocks (d + 1) k y).1) ∧ K = wL blocks b3 mb b4 b5 (cntR blocks (d + 1) k y).2)) :
  LCallV Tryz.prog (.func 48 [] [.ptr b5 0, .fptr [.int .i64 (d : Int)] 0]) [y.av] (wL blocks b3 mb b4 b5 k) (fun o K => o = .ret (.bool (!(cntR blocks (d + 1) k y).1)) ∧ K = wL blocks b3 mb b4 b5 (cntR blocks (d + 1) k y).2) := by
 refine LCallV.of_calls (first := []) (cap := [.ptr b5 0, .fptr [.int .i64 (d : Int)] 0]) ?_
 refine LCalls.of_CW tO call48 Tryz.func48 rfl rfl fun s hok => ?_
 have hw : IntKind.wrap .i64 ((d : Int) + 1) = ((d + 1 : Nat) : Int) := i64_succ (by omega)
 rw [CRaw.av_eq] at h ⊢
 unfold wL at hok ⊢
 repeat (first | (with_reducible first | apply CW.seq | apply aN) | refine wR rfl ?_ | refine CW.reg ?_ | refine wS rfl ?_ | refine RL.loadL tO hok rfl rfl rfl rfl rfl rfl (by repeat (first | exact Sel.here | apply Sel.there)) (by exact rfl) ?_)
 rw [hw]
 refine RL.callVL rfl rfl rfl rfl rfl rfl (LCallV.of_calls (first := []) (cap := [.ptr b3 0, .ptr b4 0, .ptr b5 0]) h) hok (by simp only [wL]; repeat (first | exact Sels.nil | (apply Sels.cons; · repeat (first | exact Sel.here | apply Sel.there)))) ?_ (fun _ _ ⟨h, _⟩ _ => by cases h)
 rintro _ _ ⟨⟨⟩, rfl⟩ hok
 rw [List.append_nil] at hok ⊢
 repeat (first | (with_reducible first | apply aN | apply CW.ret) | refine RL.nil ?_ | refine wS rfl ?_)
 exact Fin.retL hok rfl aRfl (Sels.all _) ⟨rfl, rfl⟩

set_option maxRecDepth 10000 in
set_option maxHeartbeats 2000000 in
theorem walk_spec (blocks : Int) (b3 mb b4 b5 : Nat) : ∀ (n : Nat) (x : CRaw) (d : Nat) (k : Int), x.size ≤ n → n < big → d ≤ 13 → 0 ≤ k → k ≤ big →
    LCalls Tryz.prog 46 [x.av, .int .i64 (d : Int), .ptr b3 0, .ptr b4 0, .ptr b5 0] (wL blocks b3 mb b4 b5 k) (fun o K => o = .ret (.bool (cntR blocks d k x).1) ∧ K = wL blocks b3 mb b4 b5 (cntR blocks d k x).2) := by
  have hb : big = 1099511627776 := rfl
  intro n
  induction n with
  | zero => intro x d k h; have := x.size_eq; omega
  | succ n ih =>
    intro x d k hn hnb hd hk1 hk2
    have hw : IntKind.wrap .i64 (k - 1) = k - 1 := i64_wrap (by omega) (by omega)
    refine LCalls.of_CW tO call46 Tryz.func46 rfl rfl fun s hok => ?_
    rw [CRaw.av_eq]
    unfold wL at hok ⊢
    repeat (first | (with_reducible first | apply CW.seq | apply aN) | refine wR rfl ?_ | refine CW.reg ?_ | refine wS rfl ?_ | refine RL.loadL tO hok rfl rfl rfl rfl rfl rfl (by repeat (first | exact Sel.here | apply Sel.there)) (by exact rfl) ?_)
    refine RL.lookupL tO hok rfl rfl rfl rfl rfl rfl rfl rfl rfl rfl (by repeat (first | exact Sel.here | apply Sel.there)) rfl (getA_node _ _) rfl ?_
    have hf : ((nodeL blocks).find? fun r => x.op == r.1).map (·.2) = nodeOf blocks x.op := rfl
    rw [hf]
    rcases x with ⟨o, m, ks⟩
    cases hq : nodeOf blocks o with
    | none =>
      have hc : cntR blocks d k (.mk o m ks) = (false, k - 1) := by rw [cntR, hq]
      rw [hc]
      simp only [CRaw.op, CRaw.n, CRaw.kids, hq] at hok ⊢
      repeat (first | refine wS rfl ?_)
      refine RL.newBox tO rfl rfl rfl rfl rfl rfl rfl (fun _ => rfl) rfl rfl (fun _ => rfl) rfl rfl rfl rfl ?_
      repeat (first | (with_reducible first | apply CW.seq | apply aN) | refine CW.reg ?_ | refine RL.nil ?_ | refine wS rfl ?_ | refine RL.loadL tO hok rfl rfl rfl rfl rfl rfl (by repeat (first | exact Sel.here | apply Sel.there)) (by exact rfl) ?_ | refine RL.storeL tO hok rfl rfl rfl rfl rfl rfl rfl rfl rfl (by repeat (first | exact Sel.here | apply Sel.there)) (by exact rfl) (fun hok => ?_))
      rw [hw] at hok ⊢
      cases h1 : decide (k - 1 < 0) with
      | true =>
        repeat (first | (with_reducible first | apply CW.seq | apply aN | apply aR | apply CW.ret) | refine wR rfl ?_ | refine RL.nil ?_ | refine CW.condT rfl ?_ | refine wS rfl ?_ | refine RL.skip rfl rfl rfl ?_)
        exact Fin.retL (K := wL blocks b3 mb b4 b5 (k - 1)) hok rfl aRfl (by simp only [wL]; repeat (first | exact Sels.nil | (apply Sels.cons; · repeat (first | exact Sel.here | apply Sel.there)))) ⟨rfl, rfl⟩
      | false =>
        repeat (first | refine wS rfl ?_)
        cases h2 : decide ((d : Int) > 12)
        all_goals
          repeat (first | (with_reducible first | apply CW.seq | apply aN | apply aR | apply CW.ret) | refine wR rfl ?_ | refine RL.nil ?_ | refine CW.condT rfl ?_ | refine wS rfl ?_ | refine RL.skip rfl rfl rfl ?_)
          exact Fin.retL (K := wL blocks b3 mb b4 b5 (k - 1)) hok rfl aRfl (by simp only [wL]; repeat (first | exact Sels.nil | (apply Sels.cons; · repeat (first | exact Sel.here | apply Sel.there)))) ⟨rfl, rfl⟩
    | some r =>
      obtain ⟨kd, lo, hi⟩ := r
      have hkl : (((CRaw.mk o m ks).kids.map CRaw.av).length : Int) = ks.length := by simp [CRaw.kids]
      simp only [CRaw.op, CRaw.n, CRaw.kids, hq] at hok ⊢
      repeat (first | refine wS rfl ?_)
      refine RL.newBox tO rfl rfl rfl rfl rfl rfl rfl (fun _ => rfl) rfl rfl (fun _ => rfl) rfl rfl rfl rfl ?_
      repeat (first | (with_reducible first | apply CW.seq | apply aN) | refine CW.reg ?_ | refine RL.nil ?_ | refine wS rfl ?_ | refine RL.loadL tO hok rfl rfl rfl rfl rfl rfl (by repeat (first | exact Sel.here | apply Sel.there)) (by exact rfl) ?_ | refine RL.storeL tO hok rfl rfl rfl rfl rfl rfl rfl rfl rfl (by repeat (first | exact Sel.here | apply Sel.there)) (by exact rfl) (fun hok => ?_))
      rw [hw] at hok ⊢
      have hc0 : cntR blocks d k (.mk o m ks) = if (decide (k - 1 < 0) || decide (d > 12)) || (decide ((ks.length : Int) ≠ kd) || !inB m lo hi) then (false, k - 1) else cntsR blocks (d + 1) (k - 1) ks := by rw [cntR, hq]
      cases h1 : decide (k - 1 < 0) with
      | true =>
        rw [hc0, h1]
        simp only [Bool.true_or, if_true]
        repeat (first | (with_reducible first | apply CW.seq | apply aN | apply aR | apply CW.ret) | refine wR rfl ?_ | refine RL.nil ?_ | refine CW.condT rfl ?_ | refine wS rfl ?_ | refine RL.skip rfl rfl rfl ?_)
        exact Fin.retL (K := wL blocks b3 mb b4 b5 (k - 1)) hok rfl aRfl (by simp only [wL]; repeat (first | exact Sels.nil | (apply Sels.cons; · repeat (first | exact Sel.here | apply Sel.there)))) ⟨rfl, rfl⟩
      | false =>
        repeat (first | refine wS rfl ?_)
        cases h2 : decide ((d : Int) > 12) with
        | true =>
          have h2' : decide (d > 12) = true := by simp at h2 ⊢; omega
          rw [hc0, h1, h2']
          simp only [Bool.or_true, Bool.true_or, if_true]
          repeat (first | (with_reducible first | apply CW.seq | apply aN | apply aR | apply CW.ret) | refine wR rfl ?_ | refine RL.nil ?_ | refine CW.condT rfl ?_ | refine wS rfl ?_ | refine RL.skip rfl rfl rfl ?_)
          exact Fin.retL (K := wL blocks b3 mb b4 b5 (k - 1)) hok rfl aRfl (by simp only [wL]; repeat (first | exact Sels.nil | (apply Sels.cons; · repeat (first | exact Sel.here | apply Sel.there)))) ⟨rfl, rfl⟩
        | false =>
          have h2' : decide (d > 12) = false := by simp at h2 ⊢; omega
          rw [hc0, h1, h2']
          simp only [Bool.false_or]
          repeat (first | refine wS rfl ?_)
          cases h3 : ((((CRaw.mk o m ks).kids.map CRaw.av).length : Int) != kd) with
          | true =>
            have h3' : decide ((ks.length : Int) ≠ kd) = true := by rw [hkl] at h3; simpa using h3
            rw [h3']
            simp only [Bool.true_or, if_true]
            repeat (first | (with_reducible first | apply CW.seq | apply aN | apply aR | apply CW.ret) | refine wR rfl ?_ | refine RL.nil ?_ | refine CW.condT rfl ?_ | refine wS rfl ?_ | refine RL.skip rfl rfl rfl ?_)
            exact Fin.retL (K := wL blocks b3 mb b4 b5 (k - 1)) hok rfl aRfl (by simp only [wL]; repeat (first | exact Sels.nil | (apply Sels.cons; · repeat (first | exact Sel.here | apply Sel.there)))) ⟨rfl, rfl⟩
          | false =>
            have h3' : decide ((ks.length : Int) ≠ kd) = false := by rw [hkl] at h3; simpa using h3
            rw [h3']
            simp only [Bool.false_or]
            repeat (first | refine wS rfl ?_)
            refine RL.callPP rfl rfl rfl rfl rfl (in_spec m lo hi) ?_
            cases h4 : inB m lo hi with
            | false =>
              simp only [Bool.not_false, if_true]
              repeat (first | (with_reducible first | apply CW.seq | apply aN | apply aR | apply CW.ret) | refine wR rfl ?_ | refine RL.nil ?_ | refine CW.condT rfl ?_ | refine wS rfl ?_)
              exact Fin.retL (K := wL blocks b3 mb b4 b5 (k - 1)) hok rfl aRfl (by simp only [wL]; repeat (first | exact Sels.nil | (apply Sels.cons; · repeat (first | exact Sel.here | apply Sel.there)))) ⟨rfl, rfl⟩
            | true =>
              simp only [Bool.not_true, Bool.false_eq_true, if_false]
              simp at h1 h2
              have hsz : CRaw.sizes ks ≤ n := by rw [CRaw.size] at hn; omega
              have hlen := CRaw.length_sizes ks
              have hkid := anyExp_spec (.func 48 [] [.ptr b5 0, .fptr [.int .i64 (d : Int)] 0]) ks (fun j => wL blocks b3 mb b4 b5 (leftR blocks (d + 1) (k - 1) ks j)) (fun j => match ks[j]? with | some x => !(cntR blocks (d + 1) (leftR blocks (d + 1) (k - 1) ks j) x).1 | none => false) (by omega) (fun j x hx hi => by
                have hb1 := leftR_bound (b := blocks) (d := d + 1) (ks := ks) (k := k - 1) (by omega) j (fun i y hij hy => by have := hi i hij; simp only [hy] at this; simpa using this)
                have hm := CRaw.mem_sizes (List.mem_of_getElem? hx)
                have := kid_spec blocks b3 mb b4 b5 x d (leftR blocks (d + 1) (k - 1) ks j) hd (ih x (d + 1) _ (by omega) (by omega) (by omega) hb1.1 (by omega))
                simp only [leftR, hx]
                exact this)
              repeat (first | (with_reducible first | apply CW.seq | apply aN | apply CW.skip) | refine CW.reg ?_ | refine RL.nil ?_ | refine CW.condF rfl ?_ | refine wS rfl ?_)
              refine RL.callL rfl rfl rfl rfl rfl hkid hok (by simp only [wL, leftR]; repeat (first | exact Sels.nil | (apply Sels.cons; · repeat (first | exact Sel.here | apply Sel.there)))) ?_ (fun _ _ h _ => by rcases h with ⟨h, _⟩ | ⟨_, _, _, _, h, _⟩ <;> cases h)
              rintro _ _ (⟨⟨⟩, rfl, g1⟩ | ⟨j, g1, g2, g3, ⟨⟩, rfl⟩) hok
              · have := cntsR_all blocks (d + 1) ks (k - 1) (fun j x hx => by have := g1 j (List.getElem?_eq_some_iff.1 hx).1; simp only [hx] at this; simpa using this)
                rw [this]
                repeat (first | (with_reducible first | apply aN | apply CW.ret) | refine RL.nil ?_ | refine wS rfl ?_)
                exact Fin.retL (K := wL blocks b3 mb b4 b5 _) hok rfl aRfl (by simp only [wL, List.cons_append, List.nil_append]; repeat (first | exact Sels.nil | (apply Sels.cons; · repeat (first | exact Sel.here | apply Sel.there)))) ⟨rfl, rfl⟩
              · obtain ⟨x, hx, -⟩ := elem_at (f := CRaw.av) g1
                simp only [hx] at g2
                have := cntsR_one blocks (d + 1) ks (k - 1) j x hx (fun i y hij hy => by have := g3 i hij; simp only [hy] at this; simpa using this) (by simpa using g2)
                rw [this]
                repeat (first | (with_reducible first | apply aN | apply CW.ret) | refine RL.nil ?_ | refine wS rfl ?_)
                exact Fin.retL (K := wL blocks b3 mb b4 b5 _) hok rfl aRfl (by simp only [wL, List.cons_append, List.nil_append]; repeat (first | exact Sels.nil | (apply Sels.cons; · repeat (first | exact Sel.here | apply Sel.there)))) ⟨rfl, rfl⟩
end Go.Proofs.YtdeiinhccdlfiaaGreat

/- Chapter 19: contracts: which programs are formed (Check). -/
namespace Go.Proofs.YtdeiinhccdlfiaaGreat
open Go.AE

set_option maxRecDepth 10000 in
set_option maxHeartbeats 1000000 in
theorem block_spec (blocks : Int) (b3 mb b4 b5 : Nat) (y : CRaw) (k : Int)
  (h : LCalls Tryz.prog 46 [y.av, .int .i64 ((1 : Nat) : Int), .ptr b3 0, .ptr b4 0, .ptr b5 0] (wL blocks b3 mb b4 b5 k) (fun o K => o = .ret (.bool (cntR blocks 1 k y).1) ∧ K = wL blocks b3 mb b4 b5 (cntR blocks 1 k y).2)) :
  LCallV Tryz.prog (.func 49 [] [.ptr b5 0]) [y.av] (wL blocks b3 mb b4 b5 k) (fun o K => o = .ret (.bool (!(cntR blocks 1 k y).1)) ∧ K = wL blocks b3 mb b4 b5 (cntR blocks 1 k y).2) := by
 refine LCallV.of_calls (first := []) (cap := [.ptr b5 0]) ?_
 refine LCalls.of_CW tO call49 Tryz.func49 rfl rfl fun s hok => ?_
 rw [CRaw.av_eq] at h ⊢
 unfold wL at hok ⊢
 repeat (first | (with_reducible first | apply CW.seq | apply aN) | refine wR rfl ?_ | refine CW.reg ?_ | refine wS rfl ?_ | refine RL.loadL tO hok rfl rfl rfl rfl rfl rfl (by repeat (first | exact Sel.here | apply Sel.there)) (by exact rfl) ?_)
 refine RL.callVL rfl rfl rfl rfl rfl rfl (LCallV.of_calls (first := []) (cap := [.ptr b3 0, .ptr b4 0, .ptr b5 0]) h) hok (by simp only [wL]; repeat (first | exact Sels.nil | (apply Sels.cons; · repeat (first | exact Sel.here | apply Sel.there)))) ?_ (fun _ _ ⟨h, _⟩ _ => by cases h)
 rintro _ _ ⟨⟨⟩, rfl⟩ hok
 rw [List.append_nil] at hok ⊢
 repeat (first | (with_reducible first | apply aN | apply CW.ret) | refine RL.nil ?_ | refine wS rfl ?_)
 exact Fin.retL hok rfl aRfl (Sels.all _) ⟨rfl, rfl⟩

set_option maxRecDepth 10000 in
set_option maxHeartbeats 1000000 in
theorem fine_spec (p : List CRaw) (hp : CRaw.sizes p + 1 < big) : PCalls Tryz.prog 26 [.slc 3 (p.map CRaw.av) .fro] (.bool (goodP p)) := by
  have hb : big = 1099511627776 := rfl
  have hlen := CRaw.length_sizes p
  have hpl : ((p.map CRaw.av).length : Int) = p.length := by simp
  refine PCalls.of_CW tO call26 Tryz.func26 rfl rfl fun s hok => ?_
  have hin := in_spec ((p.map CRaw.av).length : Int) 1 6
  rw [hpl] at hin
  unfold goodP
  repeat (first | (with_reducible first | apply CW.seq | apply aN) | refine wR rfl ?_ | refine CW.reg ?_ | refine wS rfl ?_)
  rw [hpl]
  refine RL.callPP rfl rfl rfl rfl rfl hin ?_
  cases h1 : inB p.length 1 6 with
  | false =>
    repeat (first | (with_reducible first | apply CW.seq | apply aN | apply aR | apply CW.ret) | refine wR rfl ?_ | refine RL.nil ?_ | refine CW.condT rfl ?_ | refine wS rfl ?_)
    exact Fin.retP hok rfl aRfl
  | true =>
    have hl6 : (p.length : Int) ≤ 6 := by
      unfold inB at h1
      simp only [Bool.and_eq_true, decide_eq_true_eq] at h1
      exact h1.2
    rw [Bool.true_and]
    repeat (first | (with_reducible first | apply CW.seq | apply aN | apply CW.skip) | refine CW.reg ?_ | refine RL.nil ?_ | refine CW.condF rfl ?_ | refine wS rfl ?_)
    rw [hpl]
    refine RL.callL rfl rfl rfl rfl rfl (nodes_spec p.length (by omega) (by omega)) hok (by repeat (first | exact Sels.nil | (apply Sels.cons; · repeat (first | exact Sel.here | apply Sel.there)))) ?_ (fun _ _ ⟨_, h, _⟩ _ => by cases h)
    rintro _ _ ⟨mb, ⟨⟩, rfl⟩ hok
    skip
    refine RL.allocL tO hok rfl rfl rfl rfl rfl rfl rfl (fun b3 hok => ?_)
    skip
    refine RL.allocL tO hok rfl rfl rfl rfl rfl rfl rfl (fun b4 hok => ?_)
    repeat (first | (with_reducible first | apply CW.seq | apply aN) | refine CW.reg ?_ | refine RL.nil ?_ | refine RL.storeL tO hok rfl rfl rfl rfl rfl rfl rfl rfl rfl (by repeat (first | exact Sel.here | apply Sel.there)) (by exact rfl) (fun hok => ?_))
    refine RL.allocL tO hok rfl rfl rfl rfl rfl rfl rfl (fun b5 hok => ?_)
    repeat (first | (with_reducible first | apply CW.seq | apply aN) | refine CW.reg ?_ | refine RL.nil ?_ | refine wS rfl ?_ | refine RL.storeL tO hok rfl rfl rfl rfl rfl rfl rfl rfl rfl (by repeat (first | exact Sel.here | apply Sel.there)) (by exact rfl) (fun hok => ?_))
    have hkid := anyExp_spec (.func 49 [] [.ptr b5 0]) p (fun j => wL p.length b3 mb b4 b5 (leftR p.length 1 80 p j)) (fun j => match p[j]? with | some x => !(cntR p.length 1 (leftR p.length 1 80 p j) x).1 | none => false) (by omega) (fun j x hx hi => by
      have hb1 := leftR_bound (b := p.length) (d := 1) (ks := p) (k := 80) (by omega) j (fun i y hij hy => by have := hi i hij; simp only [hy] at this; simpa using this)
      have hm := CRaw.mem_sizes (List.mem_of_getElem? hx)
      have := block_spec p.length b3 mb b4 b5 x (leftR p.length 1 80 p j) (walk_spec p.length b3 mb b4 b5 x.size x 1 _ (Nat.le_refl _) (by omega) (by omega) hb1.1 (by omega))
      simp only [leftR, hx]
      exact this)
    refine RL.callL rfl rfl rfl rfl rfl hkid hok (by simp only [wL, leftR]; repeat (first | exact Sels.nil | (apply Sels.cons; · repeat (first | exact Sel.here | apply Sel.there)))) ?_ (fun _ _ h _ => by rcases h with ⟨h, _⟩ | ⟨_, _, _, _, h, _⟩ <;> cases h)
    rintro _ _ (⟨⟨⟩, rfl, g1⟩ | ⟨j, g1, g2, g3, ⟨⟩, rfl⟩) hok
    · have := cntsR_all p.length 1 p 80 (fun j x hx => by have := g1 j (List.getElem?_eq_some_iff.1 hx).1; simp only [hx] at this; simpa using this)
      rw [this]
      repeat (first | (with_reducible first | apply aN | apply CW.ret) | refine RL.nil ?_ | refine wS rfl ?_)
      exact Fin.retP hok rfl aRfl
    · obtain ⟨x, hx, -⟩ := elem_at (f := CRaw.av) g1
      simp only [hx] at g2
      have := cntsR_one p.length 1 p 80 j x hx (fun i y hij hy => by have := g3 i hij; simp only [hy] at this; simpa using this) (by simpa using g2)
      rw [this]
      repeat (first | (with_reducible first | apply aN | apply CW.ret) | refine RL.nil ?_ | refine wS rfl ?_)
      exact Fin.retP hok rfl aRfl

end Go.Proofs.YtdeiinhccdlfiaaGreat

/- Chapter 19: contracts of the reference: how many Kids nodes have, which numbers they may have. -/
namespace Go.Proofs.YtdeiinhccdlfiaaGreat
open Go.AE

def ops : List Int := [1, 2, 3, 4, 5, 6, 7, 8, 9, 10, 11, 12, 13, 14, 15]
theorem nodeOf_none {b o : Int} (h : o ∉ ops) : nodeOf b o = none := by
 simp only [ops, List.mem_cons, List.not_mem_nil, or_false, not_or] at h
 simp [nodeOf, nodeL, h]
def kidsN (o : Int) : Int := match nodeOf 0 o with
 | some r => r.1
 | none => -1
theorem kidsN_of {b o : Int} {r : Int × Int × Int} (h : nodeOf b o = some r) : kidsN o = r.1 := by
 by_cases ho : o ∈ ops
 ·simp only [ops, List.mem_cons, List.not_mem_nil, or_false] at ho
  rcases ho with rfl | rfl | rfl | rfl | rfl | rfl | rfl | rfl | rfl | rfl | rfl | rfl | rfl | rfl | rfl <;> simp [nodeOf, nodeL] at h <;> subst h <;> rfl
 ·rw [nodeOf_none ho] at h; cases h
def numberB (b : Int) (o n : Int) : Bool := match nodeOf b o with
 | some r => inB n r.2.1 r.2.2
 | none => n == 0

set_option maxRecDepth 10000 in
set_option maxHeartbeats 1000000 in
theorem refKids_spec (o : Int) : PCalls Tryz.prog 68 [.int .i64 o] (.int .i64 (kidsN o)) := by
 refine PCalls.of_CW tO call68 Tryz.func68 rfl rfl fun s hok => ?_
 by_cases ho : o ∈ ops
 ·simp only [ops, List.mem_cons, List.not_mem_nil, or_false] at ho
  rcases ho with rfl | rfl | rfl | rfl | rfl | rfl | rfl | rfl | rfl | rfl | rfl | rfl | rfl | rfl | rfl
  all_goals
   repeat (first | (with_reducible first | apply CW.seq | apply aN | apply aR | apply iR | apply CW.ret | apply CW.skip | apply CW.block) | refine wR rfl ?_ | refine CW.condT rfl ?_ | refine CW.condF rfl ?_)
   exact Fin.retP hok rfl aRfl
 ·have hk : kidsN o = -1 := by unfold kidsN; rw [nodeOf_none ho]
  rw [hk]
  simp only [ops, List.mem_cons, List.not_mem_nil, or_false, not_or] at ho
  repeat (first | (with_reducible first | apply CW.seq | apply aN | apply CW.block) | refine wR rfl ?_)
  refine CW.cond rfl (fun h => absurd h (by simp [CRaw.op] <;> omega)) (fun _ => ?_)
  repeat (first | (with_reducible first | apply CW.seq | apply aN) | refine wR rfl ?_)
  refine CW.cond rfl (fun h => absurd h (by simp [CRaw.op] <;> omega)) (fun _ => ?_)
  repeat (first | with_reducible apply aN | refine wR rfl ?_)
  refine CW.cond rfl (fun h => absurd h (by simp [CRaw.op] <;> omega)) (fun _ => ?_)
  repeat (first | (with_reducible first | apply CW.seq | apply aN) | refine wR rfl ?_)
  refine CW.cond rfl (fun h => absurd h (by simp [CRaw.op] <;> omega)) (fun _ => ?_)
  repeat (first | (with_reducible first | apply CW.seq | apply aN) | refine wR rfl ?_)
  refine CW.cond rfl (fun h => absurd h (by simp [CRaw.op] <;> omega)) (fun _ => ?_)
  repeat (first | (with_reducible first | apply CW.seq | apply aN) | refine wR rfl ?_)
  refine CW.cond rfl (fun h => absurd h (by simp [CRaw.op] <;> omega)) (fun _ => ?_)
  repeat (first | (with_reducible first | apply CW.seq | apply aN) | refine wR rfl ?_)
  refine CW.cond rfl (fun h => absurd h (by simp [CRaw.op] <;> omega)) (fun _ => ?_)
  repeat (first | (with_reducible first | apply CW.seq | apply aN) | refine wR rfl ?_)
  refine CW.cond rfl (fun h => absurd h (by simp [CRaw.op] <;> omega)) (fun _ => ?_)
  repeat (first | with_reducible apply aN | refine wR rfl ?_)
  refine CW.cond rfl (fun h => absurd h (by simp [CRaw.op] <;> omega)) (fun _ => ?_)
  repeat (first | (with_reducible first | apply CW.seq | apply aN) | refine wR rfl ?_)
  refine CW.cond rfl (fun h => absurd h (by simp [CRaw.op] <;> omega)) (fun _ => ?_)
  repeat (first | (with_reducible first | apply CW.seq | apply aN) | refine wR rfl ?_)
  refine CW.cond rfl (fun h => absurd h (by simp [CRaw.op] <;> omega)) (fun _ => ?_)
  repeat (first | (with_reducible first | apply CW.seq | apply aN) | refine wR rfl ?_)
  refine CW.cond rfl (fun h => absurd h (by simp [CRaw.op] <;> omega)) (fun _ => ?_)
  repeat (first | (with_reducible first | apply CW.seq | apply aN) | refine wR rfl ?_)
  refine CW.cond rfl (fun h => absurd h (by simp [CRaw.op] <;> omega)) (fun _ => ?_)
  repeat (first | with_reducible apply aN | refine wR rfl ?_)
  refine CW.cond rfl (fun h => absurd h (by simp [CRaw.op] <;> omega)) (fun _ => ?_)
  repeat (first | (with_reducible first | apply CW.seq | apply aN) | refine wR rfl ?_)
  refine CW.cond rfl (fun h => absurd h (by simp [CRaw.op] <;> omega)) (fun _ => ?_)
  repeat (first | (with_reducible first | apply CW.seq | apply aN | apply iN | apply CW.ret | apply CW.skip) | refine wR rfl ?_)
  exact Fin.retP hok rfl aRfl

set_option maxRecDepth 10000 in
theorem refIn_spec (n : Int) : PCalls Tryz.prog 38 [.int .i64 n] (.bool (inB n (-1000000000) 1000000000)) := by
 refine fun s => ACalls.of_CW tO call38 Tryz.func38 rfl rfl ?_
 repeat' (first | (with_reducible first | apply CW.seq | apply aN | apply CW.ret) | refine wR rfl ?_ | refine CW.reg ?_ | refine RL.nil ?_ | refine wS rfl ?_ | refine RL.skip rfl rfl rfl ?_ | refine RL.gstepT tO rfl rfl rfl rfl rfl rfl rfl (fun _ => ?_) (fun _ => ?_))
 all_goals refine ⟨_, _, _, rfl, aRfl, sSub, ?_, rfl⟩
 all_goals first | (simp_all [inB]; done) | (simp_all [inB]; omega)

theorem numberB_7 (b n : Int) : numberB b 7 n = (decide (n ≥ 0) && decide (n < b)) := by
 have : numberB b 7 n = inB n 0 (b - 1) := rfl
 rw [this, inB, Bool.eq_iff_iff]; simp only [Bool.and_eq_true, decide_eq_true_eq]; omega
theorem numberB_8 (b n : Int) : numberB b 8 n = (decide (n ≥ -1) && decide (n < 8)) := by
 have : numberB b 8 n = inB n (-1) 7 := rfl
 rw [this, inB, Bool.eq_iff_iff]; simp only [Bool.and_eq_true, decide_eq_true_eq]; omega
theorem inB_8 (n : Int) : inB n 0 7 = (decide (n ≥ 0) && decide (n < 8)) := by
 rw [inB, Bool.eq_iff_iff]; simp only [Bool.and_eq_true, decide_eq_true_eq]; omega
theorem inB_0 (n : Int) : inB n 0 0 = (n == 0) := by
 rw [inB, Bool.eq_iff_iff]; simp only [Bool.and_eq_true, decide_eq_true_eq, beq_iff_eq]; omega
theorem numberB_name {b o : Int} (n : Int) (h : o ∈ [9, 10, 11, 12, 13, 14]) : numberB b o n = (decide (n ≥ 0) && decide (n < 8)) := by
 rw [← inB_8]
 simp only [List.mem_cons, List.not_mem_nil, or_false] at h
 rcases h with rfl | rfl | rfl | rfl | rfl | rfl <;> rfl
theorem numberB_zero {b o : Int} (n : Int) (h : o ∈ [2, 3, 4, 5, 6, 15]) : numberB b o n = (n == 0) := by
 rw [← inB_0]
 simp only [List.mem_cons, List.not_mem_nil, or_false] at h
 rcases h with rfl | rfl | rfl | rfl | rfl | rfl <;> rfl

set_option maxRecDepth 10000 in
set_option maxHeartbeats 2000000 in
theorem refNumber_spec (o n b : Int) (ks : List CRaw) (hb : b < 1000) : PCalls Tryz.prog 69 [(CRaw.mk o n ks).av, .int .i64 b] (.bool (numberB b o n)) := by
 rw [CRaw.av_eq]
 by_cases ho : o ∈ ops
 ·simp only [ops, List.mem_cons, List.not_mem_nil, or_false] at ho
  refine fun s => ACalls.of_CW tO call69 Tryz.func69 rfl rfl ?_
  rcases ho with rfl | rfl | rfl | rfl | rfl | rfl | rfl | rfl | rfl | rfl | rfl | rfl | rfl | rfl | rfl
  all_goals first | rw [numberB_7] | rw [numberB_8] | rw [numberB_name n (by decide)] | rw [numberB_zero n (by decide)] | rw [show numberB b 1 n = inB n (-1000000000) 1000000000 from rfl]
  all_goals
   repeat' (first | (with_reducible first | apply CW.seq | apply aN | apply aR | apply iN | apply iR | apply CW.ret | apply CW.skip | apply CW.block) | refine wR rfl ?_ | refine CW.reg ?_ | refine RL.nil ?_ | refine CW.condT rfl ?_ | refine CW.condF rfl ?_ | refine wS rfl ?_ | refine RL.skip rfl rfl rfl ?_ | refine RL.gstepT tO rfl rfl rfl rfl rfl rfl rfl (fun _ => ?_) (fun _ => ?_) | refine RL.callP rfl rfl rfl rfl rfl (refIn_spec n s) ?_)
  all_goals refine ⟨_, _, _, rfl, AVle.of_eq ?_, sSub, rfl, rfl⟩
  all_goals first | rfl | (simp_all [CRaw.op, CRaw.n]; done) | (simp_all [CRaw.op, CRaw.n]; first | exact decide_eq_decide.2 Iff.rfl | (intros; omega))
 ·have hk : numberB b o n = (n == 0) := by unfold numberB; rw [nodeOf_none ho]
  rw [hk]
  refine PCalls.of_CW tO call69 Tryz.func69 rfl rfl fun s hok => ?_
  simp only [ops, List.mem_cons, List.not_mem_nil, or_false, not_or] at ho
  repeat (first | (with_reducible first | apply CW.seq | apply aN | apply CW.block) | refine wR rfl ?_)
  refine CW.cond rfl (fun h => absurd h (by simp [CRaw.op] <;> omega)) (fun _ => ?_)
  repeat (first | (with_reducible first | apply CW.seq | apply aN) | refine wR rfl ?_)
  refine CW.cond rfl (fun h => absurd h (by simp [CRaw.op] <;> omega)) (fun _ => ?_)
  repeat (first | (with_reducible first | apply CW.seq | apply aN) | refine wR rfl ?_)
  refine CW.cond rfl (fun h => absurd h (by simp [CRaw.op] <;> omega)) (fun _ => ?_)
  repeat (first | (with_reducible first | apply CW.seq | apply aN) | refine wR rfl ?_)
  refine CW.cond rfl (fun h => absurd h (by simp [CRaw.op] <;> omega)) (fun _ => ?_)
  repeat (first | (with_reducible first | apply CW.seq | apply aN) | refine wR rfl ?_)
  refine CW.cond rfl (fun h => absurd h (by simp [CRaw.op] <;> omega)) (fun _ => ?_)
  repeat (first | (with_reducible first | apply CW.seq | apply aN) | refine wR rfl ?_)
  refine CW.cond rfl (fun h => absurd h (by simp [CRaw.op] <;> omega)) (fun _ => ?_)
  repeat (first | (with_reducible first | apply CW.seq | apply aN) | refine wR rfl ?_)
  refine CW.cond rfl (fun h => absurd h (by simp [CRaw.op] <;> omega)) (fun _ => ?_)
  repeat (first | (with_reducible first | apply CW.seq | apply aN) | refine wR rfl ?_)
  refine CW.cond rfl (fun h => absurd h (by simp [CRaw.op] <;> omega)) (fun _ => ?_)
  repeat (first | with_reducible apply aN | refine wR rfl ?_)
  refine CW.cond rfl (fun h => absurd h (by simp [CRaw.op] <;> omega)) (fun _ => ?_)
  repeat (first | (with_reducible first | apply CW.seq | apply aN | apply iN | apply CW.ret | apply CW.skip) | refine wR rfl ?_)
  exact Fin.retP hok rfl aRfl
end Go.Proofs.YtdeiinhccdlfiaaGreat

/- Chapter 19: contracts of the reference: which programs are formed. -/
namespace Go.Proofs.YtdeiinhccdlfiaaGreat
open Go.AE

def countL (nb : Nat) (k : Int) : LS := [(.own nb, .box 3 [.int .i64 (80 - k)])]

set_option maxRecDepth 10000 in
set_option maxHeartbeats 2000000 in
theorem refNode_spec (b : Int) (nb : Nat) (hbl : b < 1000) : ∀ (n : Nat) (x : CRaw) (d : Nat) (k : Int), x.size ≤ n → n < big → d ≤ 13 → 0 ≤ k → k ≤ 80 →
  LCalls Tryz.prog 35 [x.av, .int .i64 b, .int .i64 (d : Int), .ptr nb 0] (countL nb k) (fun o K => o = .ret (.bool (cntR b d k x).1) ∧ K = countL nb (cntR b d k x).2) := by
 have hb : big = 1099511627776 := rfl
 intro n
 induction n with
 | zero => intro x d k h; have := x.size_eq; omega
 | succ n ih =>
  intro x d k hn hnb hd hk1 hk2
  have hw : IntKind.wrap .i64 ((80 - k) + 1) = 80 - (k - 1) := by rw [i64_wrap (by omega) (by omega)]; omega
  obtain ⟨o, m, ks⟩ := x
  have hkl : (((CRaw.mk o m ks).kids.map CRaw.av).length : Int) = ks.length := by simp [CRaw.kids]
  have hnum := refNumber_spec o m b ks hbl
  rw [CRaw.av_eq] at hnum
  refine LCalls.of_CW tO call35 Tryz.func35 rfl rfl fun s hok => ?_
  rw [CRaw.av_eq]
  unfold countL at hok ⊢
  repeat (first | (with_reducible first | apply CW.seq | apply aN) | refine wR rfl ?_ | refine CW.reg ?_ | refine RL.nil ?_ | refine wS rfl ?_ | refine RL.loadL tO hok rfl rfl rfl rfl rfl rfl (by repeat (first | exact Sel.here | apply Sel.there)) (by exact rfl) ?_ | refine RL.storeL tO hok rfl rfl rfl rfl rfl rfl rfl rfl rfl (by repeat (first | exact Sel.here | apply Sel.there)) (by exact rfl) (fun hok => ?_))
  rw [hw] at hok ⊢
  refine CW.atCutL (σ := Unit) (fun _ => [(1, .int .i64 b), (2, .int .i64 (d : Int)), (3, .ptr nb 0), (4, .fptr (CRaw.mk o m ks).cells 0), (38, .bool ((decide (k - 1 < 0) || decide (d > 12)) || (decide ((ks.length : Int) ≠ kidsN o) || !numberB b o m)))]) (fun _ => [(.own nb, .box 3 [.int .i64 (80 - (k - 1))])]) (fun _ => True) ?_ ?_
  ·refine CW.drwJ (JS [(nb, _)]) tO mixed rfl (RJ.run (JS.one (Sel.get (by repeat (first | exact Sel.here | apply Sel.there)) hok)) rfl ?_)
   refine RJ.loadA 2 tO (JS.one (Sel.get (by repeat (first | exact Sel.here | apply Sel.there)) hok)) rfl rfl rfl rfl rfl rfl rfl rfl (fun _ h => JS.fst h) (by exact rfl) ?_
   refine RJ.runs (is := [3, 4]) (JS.one (Sel.get (by repeat (first | exact Sel.here | apply Sel.there)) hok)) rfl ?_
   rw [show decide (k - 1 < 0) = decide (80 - (k - 1) > 80) from decide_eq_decide.2 (by omega), show decide (d > 12) = decide ((d : Int) > 12) from decide_eq_decide.2 (by omega), show decide ((ks.length : Int) ≠ kidsN o) = ((((CRaw.mk o m ks).kids.map CRaw.av).length : Int) != kidsN o) by rw [hkl, Bool.eq_iff_iff]; simp]
   cases h1 : decide (80 - (k - 1) > 80) with
   | true =>
    refine RJ.run (JS.one (Sel.get (by repeat (first | exact Sel.here | apply Sel.there)) hok)) rfl ?_
    refine RD.done rfl ?_
    exact CutL.mk () hok trivial (wE rfl) (by repeat (first | exact Sels.nil | (apply Sels.cons; · repeat (first | exact Sel.here | apply Sel.there))))
   | false =>
    refine RJ.runs (is := [5, 6, 7, 8]) (JS.one (Sel.get (by repeat (first | exact Sel.here | apply Sel.there)) hok)) rfl ?_
    cases h2 : decide ((d : Int) > 12) with
    | true =>
     refine RJ.run (JS.one (Sel.get (by repeat (first | exact Sel.here | apply Sel.there)) hok)) rfl ?_
     refine RD.done rfl ?_
     exact CutL.mk () hok trivial (wE rfl) (by repeat (first | exact Sels.nil | (apply Sels.cons; · repeat (first | exact Sel.here | apply Sel.there))))
    | false =>
     refine RJ.runs (is := [9, 10, 11, 12, 13]) (JS.one (Sel.get (by repeat (first | exact Sel.here | apply Sel.there)) hok)) rfl ?_
     refine RJ.calmPP (i := 14) (JS.one (Sel.get (by repeat (first | exact Sel.here | apply Sel.there)) hok)) rfl rfl rfl rfl rfl rfl rfl (refKids_spec o) ?_
     refine RJ.runs (is := [15, 16, 17]) (JS.one (Sel.get (by repeat (first | exact Sel.here | apply Sel.there)) hok)) rfl ?_
     cases h3 : ((((CRaw.mk o m ks).kids.map CRaw.av).length : Int) != kidsN o) with
     | true =>
      refine RJ.run (JS.one (Sel.get (by repeat (first | exact Sel.here | apply Sel.there)) hok)) rfl ?_
      refine RD.done rfl ?_
      exact CutL.mk () hok trivial (wE rfl) (by repeat (first | exact Sels.nil | (apply Sels.cons; · repeat (first | exact Sel.here | apply Sel.there))))
     | false =>
      refine RJ.runs (is := [18, 19]) (JS.one (Sel.get (by repeat (first | exact Sel.here | apply Sel.there)) hok)) rfl ?_
      refine RJ.calmPP (i := 20) (JS.one (Sel.get (by repeat (first | exact Sel.here | apply Sel.there)) hok)) rfl rfl rfl rfl rfl rfl rfl hnum ?_
      refine RJ.run (JS.one (Sel.get (by repeat (first | exact Sel.here | apply Sel.there)) hok)) rfl ?_
      refine RD.done rfl ?_
      exact CutL.mk () hok trivial (wE rfl) (by repeat (first | exact Sels.nil | (apply Sels.cons; · repeat (first | exact Sel.here | apply Sel.there))))
  ·rintro _ _ hok
   have hc0 : cntR b d k (.mk o m ks) = if (decide (k - 1 < 0) || decide (d > 12)) || (decide ((ks.length : Int) ≠ kidsN o) || !numberB b o m) then (false, k - 1) else cntsR b (d + 1) (k - 1) ks := by
    rw [cntR]
    cases hq : nodeOf b o with
    | none =>
     have ho : o ∉ ops := fun ho => by
      simp only [ops, List.mem_cons, List.not_mem_nil, or_false] at ho
      rcases ho with rfl | rfl | rfl | rfl | rfl | rfl | rfl | rfl | rfl | rfl | rfl | rfl | rfl | rfl | rfl <;> simp [nodeOf, nodeL] at hq
     have hk : kidsN o = -1 := by unfold kidsN; rw [nodeOf_none ho]
     rw [hk, show decide ((ks.length : Int) ≠ -1) = true from decide_eq_true (by omega)]
     simp
    | some r =>
     simp only [kidsN_of hq, numberB, hq]
   rw [hc0]
   cases hc : (decide (k - 1 < 0) || decide (d > 12)) || (decide ((ks.length : Int) ≠ kidsN o) || !numberB b o m) with
   | true =>
    rw [if_pos rfl]
    repeat (first | (with_reducible first | apply CW.seq | apply aN | apply aR | apply CW.ret) | refine wR rfl ?_ | refine CW.condT rfl ?_)
    exact Fin.retL (K := countL nb (k - 1)) hok rfl aRfl (by simp only [countL]; repeat (first | exact Sels.nil | (apply Sels.cons; · repeat (first | exact Sel.here | apply Sel.there)))) ⟨rfl, rfl⟩
   | false =>
    rw [if_neg (by simp)]
    simp only [Bool.or_eq_false_iff, decide_eq_false_iff_not] at hc
    have hsz : CRaw.sizes ks ≤ n := by rw [CRaw.size] at hn; omega
    have hlen := CRaw.length_sizes ks
    repeat (first | (with_reducible first | apply CW.seq | apply aN | apply CW.skip | apply CW.block) | refine wR rfl ?_ | refine CW.condF rfl ?_)
    refine CW.loopL hok (σ := Nat) (fun j => [(1, .int .i64 b), (2, .int .i64 (d : Int)), (3, .ptr nb 0), (40, .slc 3 (ks.map CRaw.av) .fro), (41, .int .i64 ks.length), (42, .int .i64 (j : Int))]) (fun j => countL nb (leftR b (d + 1) (k - 1) ks j))
     (fun j => j ≤ ks.length ∧ ∀ i y, i < j → ks[i]? = some y → (cntR b (d + 1) (leftR b (d + 1) (k - 1) ks i) y).1 = true) (fun j => ks.length - j) 0 ⟨by omega, fun i y hi => by omega⟩ (by repeat (first | exact trivial | refine ⟨⟨_, rfl, aRfl⟩, ?_⟩ | refine ⟨⟨_, rfl, AVle.of_eq (by simp [CRaw.kids])⟩, ?_⟩)) (by simp only [countL, leftR]; repeat (first | exact Sels.nil | (apply Sels.cons; · repeat (first | exact Sel.here | apply Sel.there)))) ?_
    rintro j ⟨hj, hI⟩ hok
    have hb1 := leftR_bound (b := b) (d := d + 1) (ks := ks) (k := k - 1) (by omega) j hI
    unfold countL at hok ⊢
    repeat (first | (with_reducible first | apply CW.seq | apply aN) | refine wR rfl ?_)
    refine CW.cond rfl (fun h => ?_) (fun h => ?_)
    ·have hlt : j < ks.length := by simpa using h
     obtain ⟨y, hy, hy'⟩ := elem_at (f := CRaw.av) hlt
     have hm := CRaw.mem_sizes (List.mem_of_getElem? hy)
     have hcall := ih y (d + 1) (leftR b (d + 1) (k - 1) ks j) (by omega) (by omega) (by omega) hb1.1 (by omega)
     have hw2 : IntKind.wrap .i64 ((d : Int) + 1) = ((d + 1 : Nat) : Int) := i64_succ (by omega)
     have hl1 : leftR b (d + 1) (k - 1) ks (j + 1) = (cntR b (d + 1) (leftR b (d + 1) (k - 1) ks j) y).2 := by rw [leftR, hy]
     rw [CRaw.av_eq] at hy' hcall
     repeat (first | (with_reducible first | apply CW.seq | apply aN | apply CW.skip | apply CW.block) | refine CW.reg ?_ | refine wS rfl ?_ | refine RL.idx tO _ rfl rfl rfl rfl rfl rfl rfl rfl rfl rfl rfl (by assumption) rfl ?_)
     refine RL.newBox tO rfl rfl rfl rfl rfl rfl rfl (fun _ => rfl) rfl rfl (fun _ => rfl) rfl rfl rfl rfl ?_
     repeat (first | (with_reducible first | apply CW.seq | apply aN) | refine CW.reg ?_ | refine RL.nil ?_ | refine wS rfl ?_)
     rw [hw2]
     refine RL.callL rfl rfl rfl rfl rfl hcall hok (by simp only [countL]; repeat (first | exact Sels.nil | (apply Sels.cons; · repeat (first | exact Sel.here | apply Sel.there)))) ?_ (fun _ _ ⟨h, _⟩ _ => by cases h)
     rintro _ _ ⟨⟨⟩, rfl⟩ hok
     rw [List.append_nil] at hok ⊢
     cases hyc : (cntR b (d + 1) (leftR b (d + 1) (k - 1) ks j) y).1 with
     | true =>
      repeat (first | (with_reducible first | apply aN | apply iN | apply CW.skip) | refine wR rfl ?_ | refine RL.nil ?_ | refine CW.condF rfl ?_ | refine wS rfl ?_)
      refine NextL.mk (j + 1) hok ⟨hlt, fun i z hi hz => ?_⟩ (by repeat (first | exact trivial | refine ⟨⟨_, rfl, aRfl⟩, ?_⟩ | refine ⟨⟨_, rfl, AVle.of_eq (by (rw [i64_succ (by omega)]))⟩, ?_⟩)) (by rw [hl1]; exact Sels.all _) (by show ks.length - (j + 1) < ks.length - j; omega)
      rcases Nat.lt_succ_iff_lt_or_eq.1 hi with hi | rfl
      ·exact hI i z hi hz
      ·rw [hy] at hz; cases hz; exact hyc
     | false =>
      rw [cntsR_one b (d + 1) ks (k - 1) j y hy hI hyc]
      repeat (first | (with_reducible first | apply CW.seq | apply aN | apply aR | apply iR | apply CW.ret) | refine wR rfl ?_ | refine RL.nil ?_ | refine CW.condT rfl ?_ | refine wS rfl ?_)
      exact Fin.retL hok rfl aRfl (Sels.all _) ⟨rfl, by rw [hl1]; rfl⟩
    ·have hge : j = ks.length := by
      have : ks.length ≤ j := by simpa using h
      omega
     subst hge
     rw [cntsR_all b (d + 1) ks (k - 1) (fun i y hy => hI i y (List.getElem?_eq_some_iff.1 hy).1 hy)]
     repeat (first | (with_reducible first | apply CW.seq | apply aN | apply aX | apply iH | apply CW.ret | apply CW.exit) | refine wR rfl ?_)
     exact Fin.retL hok rfl aRfl (Sels.all _) ⟨rfl, rfl⟩

set_option maxRecDepth 10000 in
set_option maxHeartbeats 1000000 in
theorem refGood_spec (p : List CRaw) (hp : CRaw.sizes p + 1 < big) : PCalls Tryz.prog 12 [.slc 3 (p.map CRaw.av) .fro] (.bool (goodP p)) := by
 have hb : big = 1099511627776 := rfl
 have hlen := CRaw.length_sizes p
 have hpl : ((p.map CRaw.av).length : Int) = p.length := by simp
 refine PCalls.of_CW tO call12 Tryz.func12 rfl rfl fun s hok => ?_
 have hgd : goodP p = if (decide ((p.length : Int) < 1) || decide ((p.length : Int) > 6)) then false else (cntsR p.length 1 80 p).1 := by
  unfold goodP inB
  by_cases h1 : (p.length : Int) < 1
  ·simp [h1]; omega
  ·by_cases h2 : (p.length : Int) > 6
   ·simp [h2]; omega
   ·simp [h1, h2]; omega
 rw [hgd]
 repeat (first | (with_reducible first | apply CW.seq | apply aN) | refine wR rfl ?_ | refine CW.reg ?_ | refine wS rfl ?_)
 rw [hpl]
 cases h1 : decide ((p.length : Int) < 1) with
 | true =>
  simp only [Bool.true_or, if_true]
  repeat (first | (with_reducible first | apply CW.seq | apply aN | apply aR | apply CW.ret) | refine wR rfl ?_ | refine RL.nil ?_ | refine CW.condT rfl ?_ | refine wS rfl ?_ | refine RL.skip rfl rfl rfl ?_)
  exact Fin.retP hok rfl aRfl
 | false =>
  simp only [Bool.false_or]
  repeat (first | with_reducible apply aN | refine RL.nil ?_ | refine wS rfl ?_)
  rw [hpl]
  cases h2 : decide ((p.length : Int) > 6) with
  | true =>
   simp only [if_true]
   repeat (first | (with_reducible first | apply CW.seq | apply aN | apply aR | apply CW.ret) | refine wR rfl ?_ | refine CW.condT rfl ?_)
   exact Fin.retP hok rfl aRfl
  | false =>
   simp only [Bool.false_eq_true, if_false]
   simp at h1 h2
   repeat (first | (with_reducible first | apply CW.seq | apply aN | apply CW.skip) | refine CW.reg ?_ | refine CW.condF rfl ?_)
   refine RL.allocL tO hok rfl rfl rfl rfl rfl rfl rfl (fun nb hok => ?_)
   repeat (first | (with_reducible first | apply CW.seq | apply aN | apply CW.block) | refine wR rfl ?_ | refine RL.nil ?_ | refine RL.storeL tO hok rfl rfl rfl rfl rfl rfl rfl rfl rfl (by repeat (first | exact Sel.here | apply Sel.there)) (by exact rfl) (fun hok => ?_))
   refine CW.loopL hok (σ := Nat) (fun j => [(0, .slc 3 (p.map CRaw.av) .fro), (3, .ptr nb 0), (14, .slc 3 (p.map CRaw.av) .fro), (15, .int .i64 p.length), (16, .int .i64 (j : Int))]) (fun j => countL nb (leftR p.length 1 80 p j))
    (fun j => j ≤ p.length ∧ ∀ i y, i < j → p[i]? = some y → (cntR p.length 1 (leftR p.length 1 80 p i) y).1 = true) (fun j => p.length - j) 0 ⟨by omega, fun i y hi => by omega⟩ (by repeat (first | exact trivial | refine ⟨⟨_, rfl, aRfl⟩, ?_⟩ | refine ⟨⟨_, rfl, AVle.of_eq (by simp)⟩, ?_⟩)) (by simp only [countL, leftR]; repeat (first | exact Sels.nil | (apply Sels.cons; · repeat (first | exact Sel.here | apply Sel.there)))) ?_
   rintro j ⟨hj, hI⟩ hok
   have hb1 := leftR_bound (b := p.length) (d := 1) (ks := p) (k := 80) (by omega) j hI
   unfold countL at hok ⊢
   repeat (first | (with_reducible first | apply CW.seq | apply aN) | refine wR rfl ?_)
   refine CW.cond rfl (fun h => ?_) (fun h => ?_)
   ·have hlt : j < p.length := by simpa using h
    obtain ⟨y, hy, hy'⟩ := elem_at (f := CRaw.av) hlt
    have hm := CRaw.mem_sizes (List.mem_of_getElem? hy)
    have hcall := refNode_spec p.length nb (by omega) y.size y 1 (leftR p.length 1 80 p j) (Nat.le_refl _) (by omega) (by omega) hb1.1 (by omega)
    have hl1 : leftR p.length 1 80 p (j + 1) = (cntR p.length 1 (leftR p.length 1 80 p j) y).2 := by rw [leftR, hy]
    rw [CRaw.av_eq] at hy' hcall
    repeat (first | (with_reducible first | apply CW.seq | apply aN | apply CW.skip | apply CW.block) | refine CW.reg ?_ | refine wS rfl ?_ | refine RL.idx tO _ rfl rfl rfl rfl rfl rfl rfl rfl rfl rfl rfl (by assumption) rfl ?_)
    refine RL.newBox tO rfl rfl rfl rfl rfl rfl rfl (fun _ => rfl) rfl rfl (fun _ => rfl) rfl rfl rfl rfl ?_
    repeat (first | (with_reducible first | apply CW.seq | apply aN) | refine CW.reg ?_ | refine RL.nil ?_ | refine wS rfl ?_)
    rw [hpl]
    refine RL.callL rfl rfl rfl rfl rfl hcall hok (by simp only [countL]; repeat (first | exact Sels.nil | (apply Sels.cons; · repeat (first | exact Sel.here | apply Sel.there)))) ?_ (fun _ _ ⟨h, _⟩ _ => by cases h)
    rintro _ _ ⟨⟨⟩, rfl⟩ hok
    rw [List.append_nil] at hok ⊢
    cases hyc : (cntR p.length 1 (leftR p.length 1 80 p j) y).1 with
    | true =>
     repeat (first | (with_reducible first | apply aN | apply iN | apply CW.skip) | refine wR rfl ?_ | refine RL.nil ?_ | refine CW.condF rfl ?_ | refine wS rfl ?_)
     refine NextL.mk (j + 1) hok ⟨hlt, fun i z hi hz => ?_⟩ (by repeat (first | exact trivial | refine ⟨⟨_, rfl, aRfl⟩, ?_⟩ | refine ⟨⟨_, rfl, AVle.of_eq (by (rw [i64_succ (by omega)]))⟩, ?_⟩)) (by rw [hl1]; exact Sels.all _) (by show p.length - (j + 1) < p.length - j; omega)
     rcases Nat.lt_succ_iff_lt_or_eq.1 hi with hi | rfl
     ·exact hI i z hi hz
     ·rw [hy] at hz; cases hz; exact hyc
    | false =>
     rw [cntsR_one p.length 1 p 80 j y hy hI hyc]
     repeat (first | (with_reducible first | apply CW.seq | apply aN | apply aR | apply iR | apply CW.ret) | refine wR rfl ?_ | refine RL.nil ?_ | refine CW.condT rfl ?_ | refine wS rfl ?_)
     exact Fin.retP hok rfl aRfl
   ·have hge : j = p.length := by
     have : p.length ≤ j := by simpa using h
     omega
    subst hge
    rw [cntsR_all p.length 1 p 80 (fun i y hy => hI i y (List.getElem?_eq_some_iff.1 hy).1 hy)]
    repeat (first | (with_reducible first | apply CW.seq | apply aN | apply aX | apply iH | apply CW.ret | apply CW.exit) | refine wR rfl ?_)
    exact Fin.retP hok rfl aRfl
end Go.Proofs.YtdeiinhccdlfiaaGreat

/- Chapter 19: contracts of the reference: whether lists, expressions, events and runs are equal (printed by mkCaG.py). -/
namespace Go.Proofs.YtdeiinhccdlfiaaGreat
open Go.AE

theorem drop_cons {α : Type} {l : List α} {j : Nat} {x : α} (h : l[j]? = some x) : l.drop j = x :: l.drop (j + 1) := by
 have hj := (List.getElem?_eq_some_iff.1 h).1
 rw [List.drop_eq_getElem_cons hj, (List.getElem?_eq_some_iff.1 h).2]
def listB {α : Type} (f : α → α → Bool) : List α → List α → Bool
 | [], [] => true
 | x :: r, y :: q => f x y && listB f r q
 | _, _ => false
theorem listB_length {α : Type} {f : α → α → Bool} : ∀ {a b : List α}, listB f a b = true → a.length = b.length
  | [], [], _ => rfl
  | x :: r, y :: q, h => by
    simp only [listB, Bool.and_eq_true] at h
    simp [listB_length h.2]
  | [], _ :: _, h => by simp [listB] at h
  | _ :: _, [], h => by simp [listB] at h
theorem listB_iff {α : Type} {f : α → α → Bool} (hf : ∀ x y, f x y = true ↔ x = y) : ∀ {a b : List α}, listB f a b = true ↔ a = b
 | [], [] => by simp [listB]
 | x :: r, y :: q => by simp [listB, hf, listB_iff hf]
 | [], _ :: _ => by simp [listB]
 | _ :: _, [] => by simp [listB]
theorem listB_drop {α : Type} {f : α → α → Bool} {a b : List α} {j : Nat} {x y : α} (hx : a[j]? = some x) (hy : b[j]? = some y) : listB f (a.drop j) (b.drop j) = (f x y && listB f (a.drop (j + 1)) (b.drop (j + 1))) := by
 rw [drop_cons hx, drop_cons hy, listB]
theorem listB_def {α : Type} {f : α → α → Bool} {a b : List α} (h : ¬ a.length = b.length) : listB f a b = false := by
 cases hq : listB f a b with
 | false => rfl
 | true => exact absurd (listB_length hq) h
theorem listB_ends {α : Type} {f : α → α → Bool} {a b : List α} {j : Nat} (ha : a.length ≤ j) (hb : b.length ≤ j) : listB f (a.drop j) (b.drop j) = true := by
 rw [List.drop_eq_nil_of_le ha, List.drop_eq_nil_of_le hb]; rfl

def intA (n : Int) : AV := .int .i64 n
def intsA (l : List Int) : AV := .slc 1 (l.map intA) .fro
def evCells (e : Cond.Ev) : List AV := [.int .i64 e.deed, .int .i64 e.n, .int .i64 e.val, intsA e.hs, intsA e.rs]
def evA (e : Cond.Ev) : AV := .agg (evCells e)
theorem evA_eq (e : Cond.Ev) : evA e = .agg (evCells e) := rfl
def runCells (r : Cond.Run) : List AV := [.int .i64 r.fin, .int .i64 r.val, .slc 5 (r.evs.map evA) .fro, .int .i64 (r.fuel : Int)]
def runA (r : Cond.Run) : AV := .agg (runCells r)

def intEq (a b : Int) : Bool := a == b
def intsB (a b : List Int) : Bool := listB intEq a b
set_option maxRecDepth 10000 in
set_option maxHeartbeats 1000000 in
theorem sameInts0_spec (a b : List Int) (hl : a.length < big) (hlb : b.length < big) :
  PCalls Tryz.prog 44 [.slc 1 (a.map intA) .fro, .slc 1 (b.map intA) .fro] (.bool (listB intEq a b)) := by
 have hb : big = 1099511627776 := rfl
 refine PCalls.of_CW tO call44 Tryz.func44 rfl rfl fun s hok => ?_
 repeat (first | (with_reducible first | apply CW.seq | apply aN) | refine wR rfl ?_)
 refine CW.cond rfl (fun h => ?_) (fun h => ?_)
 ·have hne : ¬ a.length = b.length := by
   intro e; simp [e] at h
  rw [listB_def hne]
  repeat (first | (with_reducible first | apply CW.seq | apply aN | apply aR | apply CW.ret) | refine wR rfl ?_)
  exact Fin.retP hok rfl aRfl
 ·have hl2 : a.length = b.length := by simp at h; omega
  repeat (first | (with_reducible first | apply CW.seq | apply aN | apply CW.skip | apply CW.block) | refine wR rfl ?_)
  refine CW.loopL hok (σ := Nat) (fun j => [(0, .slc 1 (a.map intA) .fro), (1, .slc 1 (b.map intA) .fro), (12, .int .i64 a.length), (13, .int .i64 (j : Int))]) (fun _ => []) (fun j => j ≤ a.length ∧ listB intEq a b = listB intEq (a.drop j) (b.drop j)) (fun j => a.length - j) 0 ⟨by omega, rfl⟩ (by repeat (first | exact trivial | refine ⟨⟨_, rfl, aRfl⟩, ?_⟩ | refine ⟨⟨_, rfl, AVle.of_eq (by simp)⟩, ?_⟩)) (by repeat (first | exact Sels.nil | (apply Sels.cons; · repeat (first | exact Sel.here | apply Sel.there)))) ?_
  rintro j ⟨hj, hI⟩ hok
  repeat (first | (with_reducible first | apply CW.seq | apply aN) | refine wR rfl ?_)
  refine CW.cond rfl (fun h => ?_) (fun h => ?_)
  ·have hlt : j < a.length := by simpa using h
   obtain ⟨x, hx, hx'⟩ := elem_at (f := intA) hlt
   obtain ⟨y, hy, hy'⟩ := elem_at (f := intA) (by omega : j < b.length)
   rw [listB_drop hx hy] at hI
   repeat (first | (with_reducible first | apply CW.seq | apply aN | apply CW.skip | apply CW.block) | refine wR rfl ?_)
   refine CW.drw tO mixed rfl (RD.run rfl ?_)
   refine RD.idx 2 j rfl rfl rfl rfl rfl rfl rfl rfl rfl rfl rfl rfl rfl hx' rfl ?_
   refine RD.idx 6 j rfl rfl rfl rfl rfl rfl rfl rfl rfl rfl rfl rfl rfl hy' rfl ?_
   refine RD.run rfl (RD.done rfl ?_)
   cases hxy : intEq x y with
   | true =>
    have hne : (x != y) = false := by simp [intEq] at hxy; simp [hxy]
    rw [hne]
    rw [hxy, Bool.true_and] at hI
    repeat (first | (with_reducible first | apply aN | apply iN | apply CW.skip) | refine wR rfl ?_ | refine CW.condF rfl ?_)
    exact NextL.mk (j + 1) hok ⟨hlt, hI⟩ (by repeat (first | exact trivial | refine ⟨⟨_, rfl, aRfl⟩, ?_⟩ | refine ⟨⟨_, rfl, AVle.of_eq (by (rw [i64_succ (by omega)]))⟩, ?_⟩)) (by repeat (first | exact Sels.nil | (apply Sels.cons; · repeat (first | exact Sel.here | apply Sel.there)))) (by show a.length - (j + 1) < a.length - j; omega)
   | false =>
    have hne : (x != y) = true := by simp [intEq] at hxy; simp [hxy]
    rw [hne]
    rw [hI, hxy]
    repeat (first | (with_reducible first | apply CW.seq | apply aN | apply aR | apply iR | apply CW.ret) | refine wR rfl ?_ | refine CW.condT rfl ?_)
    exact Fin.retP hok rfl aRfl
  ·have hge : a.length ≤ j := by simpa using h
   rw [listB_ends hge (by omega)] at hI
   rw [hI]
   repeat (first | (with_reducible first | apply CW.seq | apply aN | apply aX | apply iH | apply CW.ret | apply CW.exit) | refine wR rfl ?_)
   exact Fin.retP hok rfl aRfl

theorem sameInts_spec (a b : List Int) (hl : a.length < big) (hlb : b.length < big) : PCalls Tryz.prog 44 [intsA a, intsA b] (.bool (intsB a b)) := sameInts0_spec a b hl hlb

set_option maxRecDepth 10000 in
set_option maxHeartbeats 1000000 in
theorem sameLists_spec (a b : List (List Int)) (hl : a.length < big) (hlb : b.length < big) (ha : ∀ x ∈ a, x.length < big) (hb2 : ∀ x ∈ b, x.length < big) :
  PCalls Tryz.prog 25 [.slc 1 (a.map intsA) .fro, .slc 1 (b.map intsA) .fro] (.bool (listB intsB a b)) := by
 have hb : big = 1099511627776 := rfl
 refine PCalls.of_CW tO call25 Tryz.func25 rfl rfl fun s hok => ?_
 repeat (first | (with_reducible first | apply CW.seq | apply aN) | refine wR rfl ?_)
 refine CW.cond rfl (fun h => ?_) (fun h => ?_)
 ·have hne : ¬ a.length = b.length := by
   intro e; simp [e] at h
  rw [listB_def hne]
  repeat (first | (with_reducible first | apply CW.seq | apply aN | apply aR | apply CW.ret) | refine wR rfl ?_)
  exact Fin.retP hok rfl aRfl
 ·have hl2 : a.length = b.length := by simp at h; omega
  repeat (first | (with_reducible first | apply CW.seq | apply aN | apply CW.skip | apply CW.block) | refine wR rfl ?_)
  refine CW.loopL hok (σ := Nat) (fun j => [(0, .slc 1 (a.map intsA) .fro), (1, .slc 1 (b.map intsA) .fro), (12, .int .i64 a.length), (13, .int .i64 (j : Int))]) (fun _ => []) (fun j => j ≤ a.length ∧ listB intsB a b = listB intsB (a.drop j) (b.drop j)) (fun j => a.length - j) 0 ⟨by omega, rfl⟩ (by repeat (first | exact trivial | refine ⟨⟨_, rfl, aRfl⟩, ?_⟩ | refine ⟨⟨_, rfl, AVle.of_eq (by simp)⟩, ?_⟩)) (by repeat (first | exact Sels.nil | (apply Sels.cons; · repeat (first | exact Sel.here | apply Sel.there)))) ?_
  rintro j ⟨hj, hI⟩ hok
  repeat (first | (with_reducible first | apply CW.seq | apply aN) | refine wR rfl ?_)
  refine CW.cond rfl (fun h => ?_) (fun h => ?_)
  ·have hlt : j < a.length := by simpa using h
   obtain ⟨x, hx, hx'⟩ := elem_at (f := intsA) hlt
   obtain ⟨y, hy, hy'⟩ := elem_at (f := intsA) (by omega : j < b.length)
   rw [listB_drop hx hy] at hI
   have hcall := sameInts_spec x y (ha x (List.mem_of_getElem? hx)) (hb2 y (List.mem_of_getElem? hy))
   repeat (first | (with_reducible first | apply CW.seq | apply aN | apply CW.skip | apply CW.block) | refine wR rfl ?_)
   refine CW.drw tO mixed rfl (RD.run rfl ?_)
   refine RD.idx 2 j rfl rfl rfl rfl rfl rfl rfl rfl rfl rfl rfl rfl rfl hx' rfl ?_
   refine RD.idx 6 j rfl rfl rfl rfl rfl rfl rfl rfl rfl rfl rfl rfl rfl hy' rfl ?_
   refine RD.run rfl ?_
   refine RD.calmPP (i := 8) rfl rfl rfl rfl rfl rfl rfl hcall ?_
   refine RD.run rfl (RD.done rfl ?_)
   cases hxy : intsB x y with
   | true =>
    rw [hxy, Bool.true_and] at hI
    repeat (first | (with_reducible first | apply aN | apply iN | apply CW.skip) | refine wR rfl ?_ | refine CW.condF rfl ?_)
    exact NextL.mk (j + 1) hok ⟨hlt, hI⟩ (by repeat (first | exact trivial | refine ⟨⟨_, rfl, aRfl⟩, ?_⟩ | refine ⟨⟨_, rfl, AVle.of_eq (by (rw [i64_succ (by omega)]))⟩, ?_⟩)) (by repeat (first | exact Sels.nil | (apply Sels.cons; · repeat (first | exact Sel.here | apply Sel.there)))) (by show a.length - (j + 1) < a.length - j; omega)
   | false =>
    rw [hI, hxy]
    repeat (first | (with_reducible first | apply CW.seq | apply aN | apply aR | apply iR | apply CW.ret) | refine wR rfl ?_ | refine CW.condT rfl ?_)
    exact Fin.retP hok rfl aRfl
  ·have hge : a.length ≤ j := by simpa using h
   rw [listB_ends hge (by omega)] at hI
   rw [hI]
   repeat (first | (with_reducible first | apply CW.seq | apply aN | apply aX | apply iH | apply CW.ret | apply CW.exit) | refine wR rfl ?_)
   exact Fin.retP hok rfl aRfl

def evB (a b : Cond.Ev) : Bool := a.deed == b.deed && (a.n == b.n && (a.val == b.val && (intsB a.hs b.hs && intsB a.rs b.rs)))
def EvFair (e : Cond.Ev) : Prop := e.hs.length < big ∧ e.rs.length < big
set_option maxRecDepth 10000 in
set_option maxHeartbeats 1000000 in
theorem sameEvent_spec (a b : Cond.Ev) (ha : EvFair a) (hb : EvFair b) : PCalls Tryz.prog 40 [evA a, evA b] (.bool (evB a b)) := by
 have c1 := sameInts_spec a.hs b.hs ha.1 hb.1
 have c2 := sameInts_spec a.rs b.rs ha.2 hb.2
 unfold evB
 refine PCalls.of_CW tO call40 Tryz.func40 rfl rfl fun s hok => ?_
 rw [evA_eq, evA_eq]
 repeat (first | (with_reducible first | apply CW.seq | apply aN) | refine wR rfl ?_ | refine CW.reg ?_ | refine wS rfl ?_)
 cases h1 : a.deed == b.deed with
 | false =>
  simp only [Bool.false_and]
  repeat (first | (with_reducible first | apply aN | apply CW.ret) | refine RL.nil ?_ | refine wS rfl ?_ | refine RL.skip rfl rfl rfl ?_)
  exact Fin.retP hok rfl aRfl
 | true =>
  simp only [Bool.true_and]
  repeat (first | refine wS rfl ?_)
  cases h2 : a.n == b.n with
  | false =>
   simp only [Bool.false_and]
   repeat (first | (with_reducible first | apply aN | apply CW.ret) | refine RL.nil ?_ | refine wS rfl ?_ | refine RL.skip rfl rfl rfl ?_)
   exact Fin.retP hok rfl aRfl
  | true =>
   simp only [Bool.true_and]
   repeat (first | refine wS rfl ?_)
   cases h3 : a.val == b.val with
   | false =>
    simp only [Bool.false_and]
    repeat (first | (with_reducible first | apply aN | apply CW.ret) | refine RL.nil ?_ | refine wS rfl ?_ | refine RL.skip rfl rfl rfl ?_)
    exact Fin.retP hok rfl aRfl
   | true =>
    simp only [Bool.true_and]
    repeat (first | refine wS rfl ?_)
    refine RL.callPP rfl rfl rfl rfl rfl c1 ?_
    cases h4 : intsB a.hs b.hs with
    | false =>
     simp only [Bool.false_and]
     repeat (first | (with_reducible first | apply aN | apply CW.ret) | refine RL.nil ?_ | refine wS rfl ?_ | refine RL.skip rfl rfl rfl ?_)
     exact Fin.retP hok rfl aRfl
    | true =>
     simp only [Bool.true_and]
     repeat (first | refine wS rfl ?_)
     refine RL.callPP rfl rfl rfl rfl rfl c2 ?_
     repeat (first | (with_reducible first | apply aN | apply CW.ret) | refine RL.nil ?_ | refine wS rfl ?_)
     exact Fin.retP hok rfl aRfl

set_option maxRecDepth 10000 in
set_option maxHeartbeats 1000000 in
theorem sameEvents_spec (a b : List Cond.Ev) (hl : a.length < big) (hlb : b.length < big) (ha : ∀ x ∈ a, EvFair x) (hb2 : ∀ x ∈ b, EvFair x) :
  PCalls Tryz.prog 17 [.slc 5 (a.map evA) .fro, .slc 5 (b.map evA) .fro] (.bool (listB evB a b)) := by
 have hb : big = 1099511627776 := rfl
 refine PCalls.of_CW tO call17 Tryz.func17 rfl rfl fun s hok => ?_
 repeat (first | (with_reducible first | apply CW.seq | apply aN) | refine wR rfl ?_)
 refine CW.cond rfl (fun h => ?_) (fun h => ?_)
 ·have hne : ¬ a.length = b.length := by
   intro e; simp [e] at h
  rw [listB_def hne]
  repeat (first | (with_reducible first | apply CW.seq | apply aN | apply aR | apply CW.ret) | refine wR rfl ?_)
  exact Fin.retP hok rfl aRfl
 ·have hl2 : a.length = b.length := by simp at h; omega
  repeat (first | (with_reducible first | apply CW.seq | apply aN | apply CW.skip | apply CW.block) | refine wR rfl ?_)
  refine CW.loopL hok (σ := Nat) (fun j => [(0, .slc 5 (a.map evA) .fro), (1, .slc 5 (b.map evA) .fro), (12, .int .i64 a.length), (13, .int .i64 (j : Int))]) (fun _ => []) (fun j => j ≤ a.length ∧ listB evB a b = listB evB (a.drop j) (b.drop j)) (fun j => a.length - j) 0 ⟨by omega, rfl⟩ (by repeat (first | exact trivial | refine ⟨⟨_, rfl, aRfl⟩, ?_⟩ | refine ⟨⟨_, rfl, AVle.of_eq (by simp)⟩, ?_⟩)) (by repeat (first | exact Sels.nil | (apply Sels.cons; · repeat (first | exact Sel.here | apply Sel.there)))) ?_
  rintro j ⟨hj, hI⟩ hok
  repeat (first | (with_reducible first | apply CW.seq | apply aN) | refine wR rfl ?_)
  refine CW.cond rfl (fun h => ?_) (fun h => ?_)
  ·have hlt : j < a.length := by simpa using h
   obtain ⟨x, hx, hx'⟩ := elem_at (f := evA) hlt
   obtain ⟨y, hy, hy'⟩ := elem_at (f := evA) (by omega : j < b.length)
   rw [listB_drop hx hy] at hI
   have hcall := sameEvent_spec x y (ha x (List.mem_of_getElem? hx)) (hb2 y (List.mem_of_getElem? hy))
   repeat (first | (with_reducible first | apply CW.seq | apply aN | apply CW.skip | apply CW.block) | refine wR rfl ?_)
   refine CW.drw tO mixed rfl (RD.run rfl ?_)
   refine RD.idx 2 j rfl rfl rfl rfl rfl rfl rfl rfl rfl rfl rfl rfl rfl hx' rfl ?_
   refine RD.idx 6 j rfl rfl rfl rfl rfl rfl rfl rfl rfl rfl rfl rfl rfl hy' rfl ?_
   refine RD.run rfl ?_
   refine RD.calmPP (i := 8) rfl rfl rfl rfl rfl rfl rfl hcall ?_
   refine RD.run rfl (RD.done rfl ?_)
   cases hxy : evB x y with
   | true =>
    rw [hxy, Bool.true_and] at hI
    repeat (first | (with_reducible first | apply aN | apply iN | apply CW.skip) | refine wR rfl ?_ | refine CW.condF rfl ?_)
    exact NextL.mk (j + 1) hok ⟨hlt, hI⟩ (by repeat (first | exact trivial | refine ⟨⟨_, rfl, aRfl⟩, ?_⟩ | refine ⟨⟨_, rfl, AVle.of_eq (by (rw [i64_succ (by omega)]))⟩, ?_⟩)) (by repeat (first | exact Sels.nil | (apply Sels.cons; · repeat (first | exact Sel.here | apply Sel.there)))) (by show a.length - (j + 1) < a.length - j; omega)
   | false =>
    rw [hI, hxy]
    repeat (first | (with_reducible first | apply CW.seq | apply aN | apply aR | apply iR | apply CW.ret) | refine wR rfl ?_ | refine CW.condT rfl ?_)
    exact Fin.retP hok rfl aRfl
  ·have hge : a.length ≤ j := by simpa using h
   rw [listB_ends hge (by omega)] at hI
   rw [hI]
   repeat (first | (with_reducible first | apply CW.seq | apply aN | apply aX | apply iH | apply CW.ret | apply CW.exit) | refine wR rfl ?_)
   exact Fin.retP hok rfl aRfl

mutual
def CRaw.beq : CRaw → CRaw → Bool
 | .mk o n ks, .mk o' n' ks' => o == o' && (n == n' && CRaw.beqs ks ks')
def CRaw.beqs : List CRaw → List CRaw → Bool
 | [], [] => true
 | x :: r, y :: q => x.beq y && CRaw.beqs r q
 | _, _ => false
end
theorem CRaw.beqs_eq : ∀ a b : List CRaw, CRaw.beqs a b = listB CRaw.beq a b
 | [], [] => by rw [CRaw.beqs, listB]
 | x :: r, y :: q => by rw [CRaw.beqs, listB, CRaw.beqs_eq r q]
 | [], _ :: _ => by simp [CRaw.beqs, listB]
 | _ :: _, [] => by simp [CRaw.beqs, listB]

set_option maxRecDepth 10000 in
set_option maxHeartbeats 1000000 in
theorem sameProg0_spec (a b : List CRaw) (hl : a.length < big) (hlb : b.length < big) (hf : ∀ (j : Nat) (x y : CRaw), a[j]? = some x → b[j]? = some y → PCalls Tryz.prog 36 [x.av, y.av] (.bool (CRaw.beq x y))) :
  PCalls Tryz.prog 13 [.slc 3 (a.map CRaw.av) .fro, .slc 3 (b.map CRaw.av) .fro] (.bool (listB CRaw.beq a b)) := by
 have hb : big = 1099511627776 := rfl
 refine PCalls.of_CW tO call13 Tryz.func13 rfl rfl fun s hok => ?_
 repeat (first | (with_reducible first | apply CW.seq | apply aN) | refine wR rfl ?_)
 refine CW.cond rfl (fun h => ?_) (fun h => ?_)
 ·have hne : ¬ a.length = b.length := by
   intro e; simp [e] at h
  rw [listB_def hne]
  repeat (first | (with_reducible first | apply CW.seq | apply aN | apply aR | apply CW.ret) | refine wR rfl ?_)
  exact Fin.retP hok rfl aRfl
 ·have hl2 : a.length = b.length := by simp at h; omega
  repeat (first | (with_reducible first | apply CW.seq | apply aN | apply CW.skip | apply CW.block) | refine wR rfl ?_)
  refine CW.loopL hok (σ := Nat) (fun j => [(0, .slc 3 (a.map CRaw.av) .fro), (1, .slc 3 (b.map CRaw.av) .fro), (12, .int .i64 a.length), (13, .int .i64 (j : Int))]) (fun _ => []) (fun j => j ≤ a.length ∧ listB CRaw.beq a b = listB CRaw.beq (a.drop j) (b.drop j)) (fun j => a.length - j) 0 ⟨by omega, rfl⟩ (by repeat (first | exact trivial | refine ⟨⟨_, rfl, aRfl⟩, ?_⟩ | refine ⟨⟨_, rfl, AVle.of_eq (by simp)⟩, ?_⟩)) (by repeat (first | exact Sels.nil | (apply Sels.cons; · repeat (first | exact Sel.here | apply Sel.there)))) ?_
  rintro j ⟨hj, hI⟩ hok
  repeat (first | (with_reducible first | apply CW.seq | apply aN) | refine wR rfl ?_)
  refine CW.cond rfl (fun h => ?_) (fun h => ?_)
  ·have hlt : j < a.length := by simpa using h
   obtain ⟨x, hx, hx'⟩ := elem_at (f := CRaw.av) hlt
   obtain ⟨y, hy, hy'⟩ := elem_at (f := CRaw.av) (by omega : j < b.length)
   rw [listB_drop hx hy] at hI
   have hcall := hf j x y hx hy
   rw [CRaw.av_eq] at hx'
   rw [CRaw.av_eq] at hy'
   rw [CRaw.av_eq, CRaw.av_eq] at hcall
   repeat (first | (with_reducible first | apply CW.seq | apply aN | apply CW.skip | apply CW.block) | refine wR rfl ?_)
   refine CW.drw tO mixed rfl (RD.run rfl ?_)
   refine RD.idx 2 j rfl rfl rfl rfl rfl rfl rfl rfl rfl rfl rfl rfl rfl hx' rfl ?_
   refine RD.idx 6 j rfl rfl rfl rfl rfl rfl rfl rfl rfl rfl rfl rfl rfl hy' rfl ?_
   refine RD.run rfl ?_
   refine RD.calmPP (i := 8) rfl rfl rfl rfl rfl rfl rfl hcall ?_
   refine RD.run rfl (RD.done rfl ?_)
   cases hxy : CRaw.beq x y with
   | true =>
    rw [hxy, Bool.true_and] at hI
    repeat (first | (with_reducible first | apply aN | apply iN | apply CW.skip) | refine wR rfl ?_ | refine CW.condF rfl ?_)
    exact NextL.mk (j + 1) hok ⟨hlt, hI⟩ (by repeat (first | exact trivial | refine ⟨⟨_, rfl, aRfl⟩, ?_⟩ | refine ⟨⟨_, rfl, AVle.of_eq (by (rw [i64_succ (by omega)]))⟩, ?_⟩)) (by repeat (first | exact Sels.nil | (apply Sels.cons; · repeat (first | exact Sel.here | apply Sel.there)))) (by show a.length - (j + 1) < a.length - j; omega)
   | false =>
    rw [hI, hxy]
    repeat (first | (with_reducible first | apply CW.seq | apply aN | apply aR | apply iR | apply CW.ret) | refine wR rfl ?_ | refine CW.condT rfl ?_)
    exact Fin.retP hok rfl aRfl
  ·have hge : a.length ≤ j := by simpa using h
   rw [listB_ends hge (by omega)] at hI
   rw [hI]
   repeat (first | (with_reducible first | apply CW.seq | apply aN | apply aX | apply iH | apply CW.ret | apply CW.exit) | refine wR rfl ?_)
   exact Fin.retP hok rfl aRfl

set_option maxRecDepth 10000 in
set_option maxHeartbeats 1000000 in
theorem sameExp_spec : ∀ (n : Nat) (a b : CRaw), a.size ≤ n → a.size < big → b.size < big → PCalls Tryz.prog 36 [a.av, b.av] (.bool (CRaw.beq a b)) := by
  intro n
  induction n with
  | zero => intro a b h; have := a.size_eq; omega
  | succ n ih =>
    intro a b hn ha hb
    obtain ⟨o, m, ks⟩ := a
    obtain ⟨o', m', ks'⟩ := b
    rw [CRaw.size] at hn ha hb
    have hl1 := CRaw.length_sizes ks
    have hl2 := CRaw.length_sizes ks'
    have hc := sameProg0_spec ks ks' (by omega) (by omega) (fun j x y hx hy => by
      have h1 := CRaw.mem_sizes (List.mem_of_getElem? hx)
      have h2 := CRaw.mem_sizes (List.mem_of_getElem? hy)
      exact ih x y (by omega) (by omega) (by omega))
    rw [← CRaw.beqs_eq] at hc
    refine PCalls.of_CW tO call36 Tryz.func36 rfl rfl fun s hok => ?_
    rw [CRaw.av_eq, CRaw.av_eq, CRaw.beq]
    simp only [CRaw.cells, CRaw.op, CRaw.n, CRaw.kids]
    repeat (first | (with_reducible first | apply CW.seq | apply aN) | refine wR rfl ?_ | refine CW.reg ?_ | refine wS rfl ?_)
    cases h1 : o == o' with
    | false =>
      simp only [Bool.false_and]
      repeat (first | (with_reducible first | apply aN | apply CW.ret) | refine RL.nil ?_ | refine wS rfl ?_ | refine RL.skip rfl rfl rfl ?_)
      exact Fin.retP hok rfl aRfl
    | true =>
      simp only [Bool.true_and]
      repeat (first | refine wS rfl ?_)
      cases h2 : m == m' with
      | false =>
        simp only [Bool.false_and]
        repeat (first | (with_reducible first | apply aN | apply CW.ret) | refine RL.nil ?_ | refine wS rfl ?_ | refine RL.skip rfl rfl rfl ?_)
        exact Fin.retP hok rfl aRfl
      | true =>
        simp only [Bool.true_and]
        repeat (first | refine wS rfl ?_)
        refine RL.callPP rfl rfl rfl rfl rfl hc ?_
        repeat (first | (with_reducible first | apply aN | apply CW.ret) | refine RL.nil ?_ | refine wS rfl ?_)
        exact Fin.retP hok rfl aRfl
theorem sameProg_spec (a b : List CRaw) (ha : CRaw.sizes a < big) (hb : CRaw.sizes b < big) : PCalls Tryz.prog 13 [.slc 3 (a.map CRaw.av) .fro, .slc 3 (b.map CRaw.av) .fro] (.bool (CRaw.beqs a b)) := by
 have hl1 := CRaw.length_sizes a
 have hl2 := CRaw.length_sizes b
 rw [CRaw.beqs_eq]
 refine sameProg0_spec a b (by omega) (by omega) (fun j x y hx hy => ?_)
 have h1 := CRaw.mem_sizes (List.mem_of_getElem? hx)
 have h2 := CRaw.mem_sizes (List.mem_of_getElem? hy)
 exact sameExp_spec x.size x y (Nat.le_refl _) (by omega) (by omega)

def runB (a b : Cond.Run) : Bool := a.fin == b.fin && (a.val == b.val && ((a.fuel : Int) == (b.fuel : Int) && listB evB a.evs b.evs))
set_option maxRecDepth 10000 in
set_option maxHeartbeats 1000000 in
theorem same_spec (a b : Cond.Run) (hl : a.evs.length < big) (hlb : b.evs.length < big) (ha : ∀ x ∈ a.evs, EvFair x) (hb : ∀ x ∈ b.evs, EvFair x) : PCalls Tryz.prog 8 [runA a, runA b] (.bool (runB a b)) := by
 have c1 := sameEvents_spec a.evs b.evs hl hlb ha hb
 unfold runB runA runCells
 refine PCalls.of_CW tO call8 Tryz.func8 rfl rfl fun s hok => ?_
 repeat (first | (with_reducible first | apply CW.seq | apply aN) | refine wR rfl ?_ | refine CW.reg ?_ | refine wS rfl ?_)
 cases h1 : a.fin == b.fin with
 | false =>
  simp only [Bool.false_and]
  repeat (first | (with_reducible first | apply aN | apply CW.ret) | refine RL.nil ?_ | refine wS rfl ?_ | refine RL.skip rfl rfl rfl ?_)
  exact Fin.retP hok rfl aRfl
 | true =>
  simp only [Bool.true_and]
  repeat (first | refine wS rfl ?_)
  cases h2 : a.val == b.val with
  | false =>
   simp only [Bool.false_and]
   repeat (first | (with_reducible first | apply aN | apply CW.ret) | refine RL.nil ?_ | refine wS rfl ?_ | refine RL.skip rfl rfl rfl ?_)
   exact Fin.retP hok rfl aRfl
  | true =>
   simp only [Bool.true_and]
   repeat (first | refine wS rfl ?_)
   cases h3 : (a.fuel : Int) == (b.fuel : Int) with
   | false =>
    simp only [Bool.false_and]
    repeat (first | (with_reducible first | apply aN | apply CW.ret) | refine RL.nil ?_ | refine wS rfl ?_ | refine RL.skip rfl rfl rfl ?_)
    exact Fin.retP hok rfl aRfl
   | true =>
    simp only [Bool.true_and]
    repeat (first | refine wS rfl ?_)
    refine RL.callPP rfl rfl rfl rfl rfl c1 ?_
    repeat (first | (with_reducible first | apply aN | apply CW.ret) | refine RL.nil ?_ | refine wS rfl ?_)
    exact Fin.retP hok rfl aRfl
end Go.Proofs.YtdeiinhccdlfiaaGreat

/- Chapter 19: contracts of the reference: numbers put into increasing lists; the blocks that an expression calls, its errors. -/
namespace Go.Proofs.YtdeiinhccdlfiaaGreat
open Go.AE

def cutI (l : List Int) (n : Int) : Nat := (l.takeWhile fun y => decide (y < n)).length
def putI (l : List Int) (n : Int) : List Int := if l[cutI l n]? = some n then l else l.take (cutI l n) ++ [n] ++ l.drop (cutI l n)
mutual
def foldT (k : Int) : CRaw → List Int → List Int
 | .mk o n ks, out => foldsT k ks (if o = k then putI out n else out)
def foldsT (k : Int) : List CRaw → List Int → List Int
 | [], out => out
 | x :: r, out => foldsT k r (foldT k x out)
end
end Go.Proofs.YtdeiinhccdlfiaaGreat

/- Chapter 19, plain: a program that is formed is one of typed expressions. -/
namespace Go.Proofs.YtdeiinhccdlfiaaGreat
open Go.AE Go.Cond

def rawE : CExp → CRaw
 | .int n => .mk 1 n []
 | .hand => .mk 2 0 []
 | .add a b => .mk 3 0 [rawE a, rawE b]
 | .say a => .mk 4 0 [rawE a]
 | .seq a b => .mk 5 0 [rawE a, rawE b]
 | .test a b c => .mk 6 0 [rawE a, rawE b, rawE c]
 | .call n a => .mk 7 n [rawE a]
 | .handle n a b => .mk 8 n [rawE a, rawE b]
 | .signal n a => .mk 9 n [rawE a]
 | .fails n a => .mk 10 n [rawE a]
 | .restart n a b => .mk 11 n [rawE a, rawE b]
 | .again n a => .mk 12 n [rawE a]
 | .choose n a => .mk 13 n [rawE a]
 | .find n => .mk 14 n []
 | .guard a b => .mk 15 0 [rawE a, rawE b]
def OkE (b : Int) : CExp → Prop
 | .int n => -1000000000 ≤ n ∧ n ≤ 1000000000
 | .hand => True
 | .add x y => OkE b x ∧ OkE b y
 | .say x => OkE b x
 | .seq x y => OkE b x ∧ OkE b y
 | .test x y z => OkE b x ∧ OkE b y ∧ OkE b z
 | .call n x => (n : Int) < b ∧ OkE b x
 | .handle n x y => -1 ≤ n ∧ n ≤ 7 ∧ OkE b x ∧ OkE b y
 | .signal n x => 0 ≤ n ∧ n ≤ 7 ∧ OkE b x
 | .fails n x => 0 ≤ n ∧ n ≤ 7 ∧ OkE b x
 | .restart n x y => 0 ≤ n ∧ n ≤ 7 ∧ OkE b x ∧ OkE b y
 | .again n x => 0 ≤ n ∧ n ≤ 7 ∧ OkE b x
 | .choose n x => 0 ≤ n ∧ n ≤ 7 ∧ OkE b x
 | .find n => 0 ≤ n ∧ n ≤ 7
 | .guard x y => OkE b x ∧ OkE b y

theorem cntsR_mem (b : Int) (d : Nat) : ∀ (ks : List CRaw) (k : Int), (cntsR b d k ks).1 = true → ∀ x ∈ ks, ∃ k', (cntR b d k' x).1 = true
  | [], _, _, _, h => by cases h
  | y :: r, k, h, x, hx => by
    rw [cntsR] at h
    split at h
    · rename_i h1
      rcases List.mem_cons.1 hx with rfl | hx
      · exact ⟨k, h1⟩
      · exact cntsR_mem b d r _ h x hx
    · cases h
theorem cntR_true {b : Int} {d : Nat} {k o n : Int} {ks : List CRaw} (h : (cntR b d k (.mk o n ks)).1 = true) :
  ∃ r, nodeOf b o = some r ∧ (ks.length : Int) = r.1 ∧ r.2.1 ≤ n ∧ n ≤ r.2.2 ∧ ∀ x ∈ ks, ∃ k', (cntR b (d + 1) k' x).1 = true := by
 rw [cntR] at h
 cases hq : nodeOf b o with
 | none => rw [hq] at h; cases h
 | some r =>
  rw [hq] at h
  simp only at h
  split at h
  ·cases h
  ·rename_i hc
   simp only [Bool.or_eq_true, decide_eq_true_eq, not_or, ne_eq, Classical.not_not, Bool.not_eq_true', Bool.not_eq_false] at hc
   have h2 := hc.2.2
   unfold inB at h2
   simp only [Bool.and_eq_true, decide_eq_true_eq] at h2
   exact ⟨r, rfl, hc.2.1, h2.1, h2.2, cntsR_mem b (d + 1) ks (k - 1) h⟩
theorem parse_node {b : Int} : ∀ (m : Nat) (x : CRaw) (d : Nat) (k : Int), x.size ≤ m → (cntR b d k x).1 = true → ∃ e, x = rawE e ∧ OkE b e
  | 0, x, _, _, h, _ => by have := x.size_eq; omega
  | m + 1, .mk o n ks, d, k, hm, h => by
    obtain ⟨r, hr, hl, h1, h2, hk⟩ := cntR_true h
    rw [CRaw.size] at hm
    have ho : o ∈ ops := Classical.byContradiction fun ho => by rw [nodeOf_none ho] at hr; cases hr
    have kid : ∀ x ∈ ks, ∃ e, x = rawE e ∧ OkE b e := fun x hx => by
      obtain ⟨k', hk'⟩ := hk x hx
      exact parse_node m x (d + 1) k' (by have := CRaw.mem_sizes hx; omega) hk'
    have none : ks.length = 0 → ks = [] := fun h => List.length_eq_zero_iff.1 h
    have one : ks.length = 1 → ∃ x, ks = [rawE x] ∧ OkE b x := fun h => by
      obtain ⟨x, rfl⟩ := List.length_eq_one_iff.1 h
      obtain ⟨e, rfl, he⟩ := kid x (by simp)
      exact ⟨e, rfl, he⟩
    have two : ks.length = 2 → ∃ x y, ks = [rawE x, rawE y] ∧ OkE b x ∧ OkE b y := fun h => by
      match ks, h with
      | [x, y], _ =>
        obtain ⟨e, rfl, he⟩ := kid x (by simp)
        obtain ⟨f, rfl, hf⟩ := kid y (by simp)
        exact ⟨e, f, rfl, he, hf⟩
    have three : ks.length = 3 → ∃ x y z, ks = [rawE x, rawE y, rawE z] ∧ OkE b x ∧ OkE b y ∧ OkE b z := fun h => by
      match ks, h with
      | [x, y, z], _ =>
        obtain ⟨e, rfl, he⟩ := kid x (by simp)
        obtain ⟨f, rfl, hf⟩ := kid y (by simp)
        obtain ⟨g, rfl, hg⟩ := kid z (by simp)
        exact ⟨e, f, g, rfl, he, hf, hg⟩
    clear kid hk h
    simp only [ops, List.mem_cons, List.not_mem_nil, or_false] at ho
    rcases ho with rfl | rfl | rfl | rfl | rfl | rfl | rfl | rfl | rfl | rfl | rfl | rfl | rfl | rfl | rfl
    all_goals
      simp [nodeOf, nodeL] at hr
      subst hr
      simp only at hl h1 h2
    · obtain rfl := none (by omega); exact ⟨.int n, rfl, h1, h2⟩
    · obtain rfl := none (by omega); obtain rfl : n = 0 := by omega
      exact ⟨.hand, rfl, trivial⟩
    · obtain ⟨x, y, rfl, hx, hy⟩ := two (by omega); obtain rfl : n = 0 := by omega
      exact ⟨.add x y, rfl, hx, hy⟩
    · obtain ⟨x, rfl, hx⟩ := one (by omega); obtain rfl : n = 0 := by omega
      exact ⟨.say x, rfl, hx⟩
    · obtain ⟨x, y, rfl, hx, hy⟩ := two (by omega); obtain rfl : n = 0 := by omega
      exact ⟨.seq x y, rfl, hx, hy⟩
    · obtain ⟨x, y, z, rfl, hx, hy, hz⟩ := three (by omega); obtain rfl : n = 0 := by omega
      exact ⟨.test x y z, rfl, hx, hy, hz⟩
    · obtain ⟨x, rfl, hx⟩ := one (by omega)
      refine ⟨.call n.toNat x, ?_, ?_, hx⟩
      · rw [rawE, Int.toNat_of_nonneg h1]
      · omega
    · obtain ⟨x, y, rfl, hx, hy⟩ := two (by omega); exact ⟨.handle n x y, rfl, h1, h2, hx, hy⟩
    · obtain ⟨x, rfl, hx⟩ := one (by omega); exact ⟨.signal n x, rfl, h1, h2, hx⟩
    · obtain ⟨x, rfl, hx⟩ := one (by omega); exact ⟨.fails n x, rfl, h1, h2, hx⟩
    · obtain ⟨x, y, rfl, hx, hy⟩ := two (by omega); exact ⟨.restart n x y, rfl, h1, h2, hx, hy⟩
    · obtain ⟨x, rfl, hx⟩ := one (by omega); exact ⟨.again n x, rfl, h1, h2, hx⟩
    · obtain ⟨x, rfl, hx⟩ := one (by omega); exact ⟨.choose n x, rfl, h1, h2, hx⟩
    · obtain rfl := none (by omega); exact ⟨.find n, rfl, h1, h2⟩
    · obtain ⟨x, y, rfl, hx, hy⟩ := two (by omega); obtain rfl : n = 0 := by omega
      exact ⟨.guard x y, rfl, hx, hy⟩
theorem good_typed {p : List CRaw} (h : goodP p = true) : ∃ P : List CExp, p = P.map rawE ∧ (∀ e ∈ P, OkE P.length e) ∧ 1 ≤ P.length ∧ P.length ≤ 6 := by
 unfold goodP inB at h
 simp only [Bool.and_eq_true, decide_eq_true_eq] at h
 obtain ⟨⟨h1, h2⟩, h3⟩ := h
 have hk := cntsR_mem p.length 1 p 80 h3
 have : ∀ l : List CRaw, (∀ x ∈ l, x ∈ p) → ∃ P : List CExp, l = P.map rawE ∧ ∀ e ∈ P, OkE p.length e := by
  intro l
  induction l with
  | nil => intro _; exact ⟨[], rfl, fun _ h => by cases h⟩
  | cons x r ih =>
   intro hl
   obtain ⟨k', hx⟩ := hk x (hl x List.mem_cons_self)
   obtain ⟨e, rfl, he⟩ := parse_node x.size x 1 k' (Nat.le_refl _) hx
   obtain ⟨P, rfl, hP⟩ := ih fun y hy => hl y (List.mem_cons_of_mem _ hy)
   refine ⟨e :: P, rfl, fun f hf => ?_⟩
   rcases List.mem_cons.1 hf with rfl | hf
   ·exact he
   ·exact hP f hf
 obtain ⟨P, rfl, hP⟩ := this p fun _ h => h
 rw [List.length_map] at h1 h2 hP
 exact ⟨P, rfl, hP, by omega, by omega⟩
end Go.Proofs.YtdeiinhccdlfiaaGreat

/- Chapter 19, plain: the values of a run are neither too great nor too small; one goes out to restarts that there are. -/
namespace Go.Proofs.YtdeiinhccdlfiaaGreat
open Go.AE Go.Cond

def InR (v : Int) : Prop := -1000000000 ≤ v ∧ v ≤ 1000000000
theorem clamp_in (n : Int) : InR (clamp n) := by
 unfold clamp most InR
 split
 ·omega
 ·split <;> omega
structure OkSc (b : Int) (s : Sc) : Prop where
 hand : InR s.hand
 hs : ∀ h ∈ s.hs, OkE b h.body
def ROk (n : Nat) (r : Res) : Prop := match r.1 with
 | .val v => InR v
 | .leave d v => d < n ∧ InR v
 | .stop _ => True
section
variable {n : Nat}
theorem ROk.andThen {r : Res} {f : Int → St → Res} (h : ROk n r) (hf : ∀ v st, r = (.val v, st) → InR v → ROk n (f v st)) : ROk n (Cond.andThen r f) := by
 obtain ⟨o, st⟩ := r
 cases o with
 | val v => exact hf v st rfl h
 | leave d v => exact h
 | stop e => exact h
theorem ROk.onLeave {r : Res} {f : Int → St → Res} (h : ROk (n + 1) r) (hf : ∀ v st, r = (.leave n v, st) → InR v → ROk n (f v st)) : ROk n (Cond.onLeave r n f) := by
 obtain ⟨o, st⟩ := r
 cases o with
 | val v => exact h
 | leave d v =>
  rw [Cond.onLeave]
  split
  ·rename_i he; subst he; exact hf v st rfl h.2
  ·rename_i he
   have h1 : d < n + 1 := h.1
   exact ⟨by omega, h.2⟩
 | stop e => exact h
theorem in_zero : InR 0 := by unfold InR; omega
variable {b : Int} {P : List CExp} {f : Nat} (ih : ∀ x s st, OkE b x → OkSc b s → st.fuel < f → ROk s.rs.length (run P x s st))
include ih
theorem raiseL_ok {rs : List Int} {m v : Int} (hv : InR v) : ∀ (l : List Hd) (st : St), (∀ h ∈ l, OkE b h.body) → st.fuel < f → ROk rs.length (raiseL (run P) rs m v l st)
  | [], _, _, _ => in_zero
  | h :: outer, st, hl, hf => by
    have ho : ∀ h' ∈ outer, OkE b h'.body := fun h' hh => hl h' (List.mem_cons_of_mem _ hh)
    rw [raiseL]
    split
    · refine ROk.andThen (ih h.body ⟨v, outer, rs⟩ (st.tell (Sc.ev ⟨v, outer, rs⟩ 3 h.n v)) (hl h List.mem_cons_self) ⟨hv, ho⟩ hf) fun u q hr _ => ?_
      have h3 := run_fuel P h.body ⟨v, outer, rs⟩ (st.tell (Sc.ev ⟨v, outer, rs⟩ 3 h.n v))
      rw [hr] at h3
      have h3' : q.fuel ≤ st.fuel := h3
      exact raiseL_ok hv outer q ho (by omega)
    · exact raiseL_ok hv outer st ho hf
theorem agains_ok {m : Int} {a : CExp} {s : Sc} (ha : OkE b a) (hs : OkSc b s) : ∀ (k : Nat) {v : Int} {st : St}, InR v → st.fuel ≤ k → st.fuel < f → ROk s.rs.length (agains P m a s v st)
  | k, v, st, hv, hk, hf => by
    rw [agains_eq]
    refine ROk.onLeave (ih a ((s.with v).offer m) st ha ⟨hv, hs.hs⟩ hf) fun u q hr hu => ?_
    have hb := run_burns P _ _ _ hr (by simp)
    cases k with
    | zero => omega
    | succ k => exact agains_ok ha hs k hu (by omega) (by omega)
variable (hP : ∀ e ∈ P, OkE b e) (hb : b = P.length)
include hP hb
theorem step_ok (x : CExp) {s : Sc} (hx : OkE b x) (hs : OkSc b s) (st : St) {k : Nat} (hf : st.fuel < f) (hk : st.fuel < k) : ROk s.rs.length (Cond.step P (run P) k s st x) := by
 have bind : ∀ {x : CExp} {st : St} {g : Int → St → Res}, OkE b x → st.fuel < f → (∀ v q, InR v → q.fuel < f → ROk s.rs.length (g v q)) → ROk s.rs.length (Cond.andThen (run P x s st) g) := by
  intro x st g hx hf hg
  refine ROk.andThen (ih x s st hx hs hf) fun v q hr hv => hg v q hv ?_
  have := run_fuel P x s st
  rw [hr] at this
  exact Nat.lt_of_le_of_lt this hf
 cases x with
 | int m => exact hx
 | hand => exact hs.hand
 | add x y => exact bind hx.1 hf fun _ _ _ hf => bind hx.2 hf fun _ _ _ _ => clamp_in _
 | say x => exact bind hx hf fun v q hv _ => hv
 | seq x y => exact bind hx.1 hf fun _ _ _ hf => ih _ _ _ hx.2 hs hf
 | test x y z =>
  refine bind hx.1 hf fun _ _ _ hf => ?_
  split
  ·exact ih _ _ _ hx.2.2 hs hf
  ·exact ih _ _ _ hx.2.1 hs hf
 | call m x =>
  refine bind hx.2 hf fun v q hv hf => ih _ (s.with v) _ ?_ ⟨hv, hs.hs⟩ hf
  have h1 : m < P.length := by have := hx.1; omega
  rw [List.getD_eq_getElem?_getD, List.getElem?_eq_getElem h1]
  exact hP _ (List.getElem_mem h1)
 | handle m x y =>
  obtain ⟨_, _, h1, h2⟩ := hx
  refine ih x (s.under m y) _ h1 ⟨hs.hand, fun h hh => ?_⟩ hf
  rcases List.mem_cons.1 hh with rfl | hh
  ·exact h2
  ·exact hs.hs h hh
 | signal m x => exact bind hx.2.2 hf fun v q hv hf => raiseL_ok ih hv _ _ hs.hs hf
 | fails m x =>
  refine bind hx.2.2 hf fun v q hv hf => ROk.andThen (raiseL_ok ih hv _ _ hs.hs hf) fun u q' _ _ => ?_
  unfold lost
  split
  ·trivial
  ·split
   ·trivial
   ·rename_i hr
    have hl : 0 < s.rs.length := List.length_pos_iff.2 hr
    exact ⟨by show s.rs.length - 1 - _ < s.rs.length; omega, hv⟩
 | restart m x y =>
  refine ROk.onLeave (ih x (s.offer m) st hx.2.2.1 ⟨hs.hand, hs.hs⟩ hf) fun v q hr hv => ?_
  have := run_burns P _ _ _ hr (by simp)
  exact ih y (s.with v) _ hx.2.2.2 ⟨hv, hs.hs⟩ (by omega)
 | again m x =>
  show ROk s.rs.length (again (run P) m x s k s.hand st)
  rw [again_run P m x s _ st hk (Nat.lt_succ_self _)]
  exact agains_ok ih hx.2.2 hs _ hs.hand (Nat.le_refl _) hf
 | choose m x =>
  refine bind hx.2.2 hf fun v q hv _ => ?_
  split
  ·rename_i i hi
   rw [List.findIdx?_eq_some_iff_getElem] at hi
   have hi' := hi.1
   exact ⟨by show s.rs.length - 1 - i < s.rs.length; omega, hv⟩
  ·trivial
 | find m =>
  show InR (if s.rs.contains m then 1 else 0)
  unfold InR
  split <;> omega
 | guard x y =>
  have h1 := ih x s st hx.1 hs hf
  have h2 := run_fuel P x s st
  show ROk s.rs.length (behind (run P x s st) _ _)
  generalize run P x s st = r at h1 h2
  obtain ⟨o, q⟩ := r
  have h3 : q.fuel < f := Nat.lt_of_le_of_lt h2 hf
  cases o with
  | val v => exact ROk.andThen (ih y s q hx.2 hs h3) fun _ _ _ _ => h1
  | leave d v => exact ROk.andThen (ih y s (q.tell _) hx.2 hs h3) fun _ _ _ _ => h1
  | stop e => exact h1
end
theorem run_ok {b : Int} {P : List CExp} (hP : ∀ e ∈ P, OkE b e) (hb : b = P.length) : ∀ (f : Nat) (x : CExp) (s : Sc) (st : St), OkE b x → OkSc b s → st.fuel < f → ROk s.rs.length (run P x s st)
  | 0, _, _, _, _, _, h => absurd h (Nat.not_lt_zero _)
  | f + 1, x, s, st, hx, hs, hf => by
    by_cases h0 : st.fuel = 0
    · rw [run_spent P x s st h0]; trivial
    · rw [run_step P x s st h0]
      have h2 : st.burn.fuel = st.fuel - 1 := rfl
      exact step_ok (run_ok hP hb f) hP hb x hx hs _ (by omega) (by omega)
end Go.Proofs.YtdeiinhccdlfiaaGreat

/- Chapter 19, plain: increasing lists of numbers. -/
namespace Go.Proofs.YtdeiinhccdlfiaaGreat
open Go.AE Go.Cond

theorem putI_nil (n : Int) : putI [] n = [n] := rfl
theorem putI_cons (y : Int) (r : List Int) (n : Int) : putI (y :: r) n = if y < n then y :: putI r n else if y = n then y :: r else n :: y :: r := by
 unfold putI cutI
 rw [List.takeWhile_cons]
 by_cases h : y < n
 ·simp only [h, decide_true, if_true, List.length_cons, List.getElem?_cons_succ, List.take_succ_cons, List.drop_succ_cons]
  split <;> simp
 ·simp only [h, decide_false, Bool.false_eq_true, if_false, List.length_nil, List.getElem?_cons_zero, Option.some.injEq, List.take_zero, List.drop_zero, List.nil_append]
  split <;> simp
theorem mem_putI {z n : Int} : ∀ {l : List Int}, z ∈ putI l n ↔ z ∈ l ∨ z = n
  | [] => by simp [putI_nil]
  | y :: r => by
    rw [putI_cons]
    split
    · rw [List.mem_cons, mem_putI, List.mem_cons, or_assoc]
    · split
      · rename_i h
        subst h
        simp only [List.mem_cons]
        constructor
        · exact fun h => .inl h
        · rintro (h | h)
          · exact h
          · exact .inl h
      · simp only [List.mem_cons]
        constructor
        · rintro (h | h | h)
          · exact .inr h
          · exact .inl (.inl h)
          · exact .inl (.inr h)
        · rintro ((h | h) | h)
          · exact .inr (.inl h)
          · exact .inr (.inr h)
          · exact .inl h
def Inc (l : List Int) : Prop := l.Pairwise (· < ·)
theorem putI_inc {n : Int} : ∀ {l : List Int}, Inc l → Inc (putI l n)
  | [], _ => by simp [putI_nil, Inc]
  | y :: r, h => by
    obtain ⟨h1, h2⟩ := List.pairwise_cons.1 h
    rw [putI_cons]
    split
    · rename_i hy
      refine List.pairwise_cons.2 ⟨fun z hz => ?_, putI_inc h2⟩
      rcases mem_putI.1 hz with hz | rfl
      · exact h1 z hz
      · exact hy
    · split
      · exact h
      · rename_i hy hne
        refine List.pairwise_cons.2 ⟨fun z hz => ?_, h⟩
        rcases List.mem_cons.1 hz with rfl | hz
        · omega
        · have := h1 z hz
          omega
theorem inc_eq : ∀ {a b : List Int}, Inc a → Inc b → (∀ z, z ∈ a ↔ z ∈ b) → a = b
  | [], [], _, _, _ => rfl
  | [], y :: _, _, _, h => absurd ((h y).2 List.mem_cons_self) (by simp)
  | x :: _, [], _, _, h => absurd ((h x).1 List.mem_cons_self) (by simp)
  | x :: r, y :: q, ha, hb, h => by
    obtain ⟨h1, h2⟩ := List.pairwise_cons.1 ha
    obtain ⟨k1, k2⟩ := List.pairwise_cons.1 hb
    have hxy : x = y := by
      rcases List.mem_cons.1 ((h x).1 List.mem_cons_self) with e | e
      · exact e
      · rcases List.mem_cons.1 ((h y).2 List.mem_cons_self) with e' | e'
        · exact e'.symm
        · have := h1 y e'
          have := k1 x e
          omega
    subst hxy
    rw [inc_eq h2 k2 fun z => ?_]
    constructor
    · intro hz
      rcases List.mem_cons.1 ((h z).1 (List.mem_cons_of_mem _ hz)) with rfl | e
      · have := h1 z hz; omega
      · exact e
    · intro hz
      rcases List.mem_cons.1 ((h z).2 (List.mem_cons_of_mem _ hz)) with rfl | e
      · have := k1 z hz; omega
      · exact e
mutual
theorem foldT_inc (k : Int) : ∀ (x : CRaw) (out : List Int), Inc out → Inc (foldT k x out)
  | .mk o n ks, out, h => by
    rw [foldT]
    refine foldsT_inc k ks _ ?_
    split
    · exact putI_inc h
    · exact h
theorem foldsT_inc (k : Int) : ∀ (l : List CRaw) (out : List Int), Inc out → Inc (foldsT k l out)
 | [], _, h => by rw [foldsT]; exact h
 | x :: r, out, h => by rw [foldsT]; exact foldsT_inc k r _ (foldT_inc k x out h)
end
inductive Part : CRaw → CRaw → Prop
 | refl (x) : Part x x
 | kid {o n ks y z} : y ∈ ks → Part y z → Part (.mk o n ks) z
mutual
theorem mem_foldT (k z : Int) : ∀ (x : CRaw) (out : List Int), z ∈ foldT k x out ↔ z ∈ out ∨ ∃ ks, Part x (.mk k z ks)
  | .mk o n ks, out => by
    rw [foldT, mem_foldsT k z ks]
    constructor
    · rintro (h | ⟨y, hy, ks', hp⟩)
      · split at h
        · rename_i ho
          rcases mem_putI.1 h with h | rfl
          · exact .inl h
          · subst ho; exact .inr ⟨ks, .refl _⟩
        · exact .inl h
      · exact .inr ⟨ks', .kid hy hp⟩
    · rintro (h | ⟨ks', hp⟩)
      · left
        split
        · exact mem_putI.2 (.inl h)
        · exact h
      · cases hp with
        | refl => left; rw [if_pos rfl]; exact mem_putI.2 (.inr rfl)
        | kid hy hp => exact .inr ⟨_, hy, ks', hp⟩
theorem mem_foldsT (k z : Int) : ∀ (l : List CRaw) (out : List Int), z ∈ foldsT k l out ↔ z ∈ out ∨ ∃ y, y ∈ l ∧ ∃ ks, Part y (.mk k z ks)
  | [], out => by rw [foldsT]; simp
  | x :: r, out => by
    rw [foldsT, mem_foldsT k z r, mem_foldT k z x]
    constructor
    · rintro ((h | ⟨ks, h⟩) | ⟨y, hy, h⟩)
      · exact .inl h
      · exact .inr ⟨x, List.mem_cons_self, ks, h⟩
      · exact .inr ⟨y, List.mem_cons_of_mem _ hy, h⟩
    · rintro (h | ⟨y, hy, ks, h⟩)
      · exact .inl (.inl h)
      · rcases List.mem_cons.1 hy with rfl | hy
        · exact .inl (.inr ⟨ks, h⟩)
        · exact .inr ⟨y, hy, ks, h⟩
end
end Go.Proofs.YtdeiinhccdlfiaaGreat

/- Chapter 19: contracts of cond: chains of handlers and restarts. -/
namespace Go.Proofs.YtdeiinhccdlfiaaGreat
open Go.AE Go.Cond

def hsA : List Hd → AV
 | [] => .pnil
 | h :: r => .fptr ([hsA r, .int .i64 h.n] ++ (rawE h.body).cells) 0
set_option maxRecDepth 10000 in
theorem handlers_spec (l : List Hd) : LCalls Tryz.prog 110 [hsA l] [] (fun o K => ∃ b, o = .ret (.func 122 [] [.ptr b 0]) ∧ K = [(.own b, .box 103 [hsA l])]) := by
 refine LCalls.of_CW tO call110 Tryz.func110 rfl rfl fun s hok => ?_
 have hc : cellsOf (hsA l) = some [hsA l] := by cases l <;> rfl
 generalize hsA l = v at hc ⊢
 repeat (first | with_reducible apply CW.seq | refine CW.reg ?_)
 refine RL.boxL hok rfl rfl rfl rfl rfl hc (fun b1 hok => ?_)
 repeat (first | (with_reducible first | apply CW.seq | apply aN | apply CW.ret) | refine wR rfl ?_ | refine RL.nil ?_ | refine wS rfl ?_)
 exact Fin.retL hok rfl aRfl (by repeat (first | exact Sels.nil | (apply Sels.cons; · repeat (first | exact Sel.here | apply Sel.there)))) ⟨b1, rfl, rfl⟩
set_option maxRecDepth 10000 in
theorem restarts_spec (c : List (Nat × Int)) : LCalls Tryz.prog 85 [chainA c] [] (fun o K => ∃ b, o = .ret (.func 112 [] [.ptr b 0]) ∧ K = [(.own b, .box 104 [chainA c])]) := by
 refine LCalls.of_CW tO call85 Tryz.func85 rfl rfl fun s hok => ?_
 have hc : cellsOf (chainA c) = some [chainA c] := by cases c <;> rfl
 generalize chainA c = v at hc ⊢
 repeat (first | with_reducible apply CW.seq | refine CW.reg ?_)
 refine RL.boxL hok rfl rfl rfl rfl rfl hc (fun b1 hok => ?_)
 repeat (first | (with_reducible first | apply CW.seq | apply aN | apply CW.ret) | refine wR rfl ?_ | refine RL.nil ?_ | refine wS rfl ?_)
 exact Fin.retL hok rfl aRfl (by repeat (first | exact Sels.nil | (apply Sels.cons; · repeat (first | exact Sel.here | apply Sel.there)))) ⟨b1, rfl, rfl⟩
end Go.Proofs.YtdeiinhccdlfiaaGreat

/- Chapter 19: contracts of the law's own helpers: expressions and events. -/
namespace Go.Proofs.YtdeiinhccdlfiaaGreat
open Go.AE Go.Cond

set_option maxRecDepth 10000 in
theorem of_spec (o n : Int) (ks : List CRaw) : PCalls Tryz.prog 21 [.int .i64 o, .int .i64 n, .slc 3 (ks.map CRaw.av) .fro] (CRaw.mk o n ks).av := by
 refine PCalls.of_CW tO call21 Tryz.func21 rfl rfl fun s hok => ?_
 rw [CRaw.av_eq]
 repeat (first | with_reducible apply CW.seq | refine CW.reg ?_)
 refine RL.allocL tO hok rfl rfl rfl rfl rfl rfl rfl (fun b6 hok => ?_)
 repeat (first | (with_reducible first | apply CW.seq | apply aN | apply CW.ret) | refine CW.reg ?_ | refine RL.nil ?_ | refine wS rfl ?_ | refine RL.storeL tO hok rfl rfl rfl rfl rfl rfl rfl rfl rfl (by repeat (first | exact Sel.here | apply Sel.there)) (by exact rfl) (fun hok => ?_))
 exact Fin.retP hok (resA_cell rfl rfl (Sel.get Sel.here hok) rfl) aRfl
set_option maxRecDepth 10000 in
theorem num_spec (n : Int) : PCalls Tryz.prog 22 [.int .i64 n] (CRaw.mk 1 n []).av := by
 have h := of_spec 1 n []
 refine PCalls.of_CW tO call22 Tryz.func22 rfl rfl fun s hok => ?_
 repeat (first | with_reducible apply CW.seq | refine CW.reg ?_)
 refine RL.allocL tO hok rfl rfl rfl rfl rfl rfl rfl (fun b2 hok => ?_)
 repeat (first | (with_reducible first | apply CW.seq | apply aN) | refine CW.reg ?_ | refine RL.nil ?_ | refine wS rfl ?_)
 refine RL.callPP rfl rfl rfl rfl rfl (PCalls.args (.cons aRfl (.cons aRfl (.one (AVle.nil (by intro b h; cases h))))) h) ?_
 repeat (first | (with_reducible first | apply aN | apply CW.ret) | refine RL.nil ?_ | refine RL.storeL tO hok rfl rfl rfl rfl rfl rfl rfl rfl rfl (by repeat (first | exact Sel.here | apply Sel.there)) (by exact rfl) (fun hok => ?_))
 exact Fin.retP hok (resA_cell rfl rfl (Sel.get Sel.here hok) rfl) aRfl
set_option maxRecDepth 10000 in
theorem hand_spec : PCalls Tryz.prog 23 [] (CRaw.mk 2 0 []).av := by
 have h := of_spec 2 0 []
 refine PCalls.of_CW tO call23 Tryz.func23 rfl rfl fun s hok => ?_
 repeat (first | with_reducible apply CW.seq | refine CW.reg ?_)
 refine RL.allocL tO hok rfl rfl rfl rfl rfl rfl rfl (fun b2 hok => ?_)
 repeat (first | (with_reducible first | apply CW.seq | apply aN) | refine CW.reg ?_ | refine RL.nil ?_)
 refine RL.callPP rfl rfl rfl rfl rfl (PCalls.args (.cons aRfl (.cons aRfl (.one (AVle.nil (by intro b h; cases h))))) h) ?_
 repeat (first | (with_reducible first | apply aN | apply CW.ret) | refine RL.nil ?_ | refine RL.storeL tO hok rfl rfl rfl rfl rfl rfl rfl rfl rfl (by repeat (first | exact Sel.here | apply Sel.there)) (by exact rfl) (fun hok => ?_))
 exact Fin.retP hok (resA_cell rfl rfl (Sel.get Sel.here hok) rfl) aRfl

theorem ofC_spec (o n : Int) (ks : List CRaw) : PCalls Tryz.prog 21 [.int .i64 o, .int .i64 n, .slc 3 (ks.map CRaw.av) .clip] (CRaw.mk o n ks).av :=
 PCalls.args (.cons aRfl (.cons aRfl (.one AVle.fro))) (of_spec o n ks)
def numR (n : Int) : CRaw := .mk 1 n []
def handR : CRaw := .mk 2 0 []
def retryE : List CExp := [.again 2 (.test .hand (.int 7) (.fails 0 (.int 3)))]
set_option maxRecDepth 10000 in
theorem retry_spec : PCalls Tryz.prog 20 [] (.slc 3 ((retryE.map rawE).map CRaw.av) .fro) := by
 have h1 := ofC_spec 10 0 [numR 3]
 have h2 := ofC_spec 6 0 [handR, numR 7, .mk 10 0 [numR 3]]
 have h3 := ofC_spec 12 2 [.mk 6 0 [handR, numR 7, .mk 10 0 [numR 3]]]
 refine PCalls.of_CW tO call20 Tryz.func20 rfl rfl fun s hok => ?_
 repeat (first | (with_reducible first | apply CW.seq | apply aN) | refine wR rfl ?_ | refine CW.reg ?_)
 refine RL.callPP rfl rfl rfl rfl rfl hand_spec ?_
 skip
 refine RL.callPP rfl rfl rfl rfl rfl (num_spec 7) ?_
 skip
 refine RL.callPP rfl rfl rfl rfl rfl (num_spec 3) ?_
 repeat (first | refine wS rfl ?_)
 refine RL.callPP rfl rfl rfl rfl rfl h1 ?_
 repeat (first | refine wS rfl ?_)
 refine RL.callPP rfl rfl rfl rfl rfl h2 ?_
 repeat (first | refine wS rfl ?_)
 refine RL.callPP rfl rfl rfl rfl rfl h3 ?_
 repeat (first | (with_reducible first | apply aN | apply CW.ret) | refine RL.nil ?_ | refine wS rfl ?_)
 exact Fin.retP hok rfl AVle.fro
set_option maxRecDepth 10000 in
theorem event_spec (e : Ev) : PCalls Tryz.prog 19 [.int .i64 e.deed, .int .i64 e.n, .int .i64 e.val, intsA e.hs, intsA e.rs] (evA e) := by
 refine PCalls.of_CW tO call19 Tryz.func19 rfl rfl fun s hok => ?_
 unfold evA evCells
 repeat (first | with_reducible apply CW.seq | refine CW.reg ?_)
 refine RL.allocL tO hok rfl rfl rfl rfl rfl rfl rfl (fun b6 hok => ?_)
 repeat (first | (with_reducible first | apply CW.seq | apply aN | apply CW.ret) | refine CW.reg ?_ | refine RL.nil ?_ | refine wS rfl ?_ | refine RL.storeL tO hok rfl rfl rfl rfl rfl rfl rfl rfl rfl (by repeat (first | exact Sel.here | apply Sel.there)) (by exact rfl) (fun hok => ?_))
 exact Fin.retP hok (resA_cell rfl rfl (Sel.get Sel.here hok) rfl) aRfl

def exampleE : List CExp := [.restart 1 (.handle 0 (.add (.fails 0 (.int 5)) (.int 1)) (.choose 1 .hand)) (.say .hand)]
set_option maxRecDepth 10000 in
set_option maxHeartbeats 1000000 in
theorem example_spec : PCalls Tryz.prog 18 [] (.slc 3 ((exampleE.map rawE).map CRaw.av) .fro) := by
 have h1 := ofC_spec 10 0 [numR 5]
 have h2 := ofC_spec 3 0 [.mk 10 0 [numR 5], numR 1]
 have h3 := ofC_spec 13 1 [handR]
 have h4 := ofC_spec 8 0 [.mk 3 0 [.mk 10 0 [numR 5], numR 1], .mk 13 1 [handR]]
 have h5 := ofC_spec 4 0 [handR]
 have h6 := ofC_spec 11 1 [.mk 8 0 [.mk 3 0 [.mk 10 0 [numR 5], numR 1], .mk 13 1 [handR]], .mk 4 0 [handR]]
 refine PCalls.of_CW tO call18 Tryz.func18 rfl rfl fun s hok => ?_
 repeat (first | (with_reducible first | apply CW.seq | apply aN) | refine wR rfl ?_ | refine CW.reg ?_)
 refine RL.callPP rfl rfl rfl rfl rfl (num_spec 5) ?_
 repeat (first | refine wS rfl ?_)
 refine RL.callPP rfl rfl rfl rfl rfl h1 ?_
 skip
 refine RL.callPP rfl rfl rfl rfl rfl (num_spec 1) ?_
 repeat (first | refine wS rfl ?_)
 refine RL.callPP rfl rfl rfl rfl rfl h2 ?_
 rw [CRaw.av_eq]
 skip
 refine RL.newBox tO rfl rfl rfl rfl rfl rfl rfl (fun _ => rfl) rfl rfl (fun _ => rfl) rfl rfl rfl rfl ?_
 repeat (first | (with_reducible first | apply CW.seq | apply aN) | refine RL.nil ?_)
 refine CW.drw tO mixed rfl (RD.run rfl ?_)
 refine RD.calmPP (i := 1) rfl rfl rfl rfl rfl rfl rfl hand_spec ?_; refine RD.run rfl ?_
 refine RD.calmPP (i := 3) rfl rfl rfl rfl rfl rfl rfl h3 ?_; refine RD.run rfl ?_
 refine RD.calmPP (i := 5) rfl rfl rfl rfl rfl rfl rfl h4 ?_; refine RD.run rfl ?_
 refine RD.calmPP (i := 6) rfl rfl rfl rfl rfl rfl rfl hand_spec ?_; refine RD.run rfl ?_
 refine RD.calmPP (i := 8) rfl rfl rfl rfl rfl rfl rfl h5 ?_; refine RD.run rfl ?_
 refine RD.calmPP (i := 10) rfl rfl rfl rfl rfl rfl rfl h6 ?_; refine RD.run rfl ?_
 refine RD.done rfl ?_
 repeat (with_reducible first | apply aN | apply CW.ret)
 exact Fin.retP hok rfl AVle.fro
end Go.Proofs.YtdeiinhccdlfiaaGreat

/- Chapter 19: contracts of the library: is a number in a list. -/
namespace Go.Proofs.YtdeiinhccdlfiaaGreat
open Go.AE Go.Cond

theorem findIdx_skip {l : List Int} {n : Int} : ∀ {j : Nat}, j ≤ l.length → (∀ i, i < j → l[i]? ≠ some n) → (∀ y, l[j]? = some y → y = n) → j < l.length → l.findIdx? (· == n) = some j := by
 intro j hj h1 h2 hlt
 rw [List.findIdx?_eq_some_iff_getElem]
 refine ⟨hlt, by simpa using h2 l[j] (List.getElem?_eq_getElem hlt), fun i hi => ?_⟩
 have := h1 i hi
 rw [List.getElem?_eq_getElem (by omega)] at this
 simpa using this
end Go.Proofs.YtdeiinhccdlfiaaGreat

/- Chapter 19: contracts of cond: handlers and restarts, one after the other. -/
namespace Go.Proofs.YtdeiinhccdlfiaaGreat
open Go.AE Go.Cond

def sufs {α : Type} : List α → List (List α)
 | [] => []
 | x :: r => (x :: r) :: sufs r
theorem hsA_cons (h : Hd) (r : List Hd) : hsA (h :: r) = .fptr [hsA r, .int .i64 h.n, .int .i64 (rawE h.body).op, .int .i64 (rawE h.body).n, .slc 3 ((rawE h.body).kids.map CRaw.av) .fro] 0 := by
 rw [hsA]
 cases rawE h.body
 rfl
theorem hsA_cells (l : List Hd) : cellsOf (hsA l) = some [hsA l] := by cases l <;> rfl
theorem hsA_one (l : List Hd) : [hsA l].all oneC = true := by cases l <;> rfl
theorem chainA_cells (l : List (Nat × Int)) : cellsOf (chainA l) = some [chainA l] := by cases l <;> rfl
theorem chainA_one (l : List (Nat × Int)) : [chainA l].all oneC = true := by cases l <;> rfl
set_option maxRecDepth 10000 in
theorem hsIter (b : Nat) (l : List Hd) : IterL Tryz.prog 122 [] [.ptr b 0] [(.own b, .box 103 [hsA l])] hsA (sufs l) := by
 intro lp Go Done Pan hY K hgo
 refine LCalls.of_CW tO call122 Tryz.func122 rfl rfl fun s hok => ?_
 repeat (first | with_reducible apply CW.block)
 refine CW.loopL hok (σ := List Hd × LS) (fun _ => [(0, yieldV lp), (1, .ptr b 0)]) (fun q => (.own b, .box 103 [hsA q.1]) :: q.2) (fun q => Go (sufs q.1) q.2) (fun q => q.1.length) (l, K) hgo (wE rfl) (Sels.allZ _) ?_
 rintro ⟨l, K⟩ hI hok
 simp only at hI hok ⊢
 cases l with
 | nil =>
  unfold hsA at hok ⊢
  repeat (first | (with_reducible first | apply CW.seq | apply aN | apply aX | apply iH | apply CW.exit) | refine CW.reg ?_ | refine RL.nil ?_ | refine CW.condF rfl ?_ | refine wS rfl ?_ | refine RL.skip rfl rfl rfl ?_ | refine RL.loadL tO hok rfl rfl rfl rfl rfl rfl (by repeat (first | exact Sel.here | apply Sel.there)) (by exact rfl) ?_)
  exact Fin.retL hok rfl aRfl (Sels.allZ K).there (.inl ⟨rfl, .inl hI⟩)
 | cons h r =>
  have hv := hY (h :: r) _ K hI
  rw [hsA_cons] at hok hv ⊢
  repeat (first | with_reducible apply CW.seq | refine CW.reg ?_ | refine wS rfl ?_ | refine RL.loadL tO hok rfl rfl rfl rfl rfl rfl (by repeat (first | exact Sel.here | apply Sel.there)) (by exact rfl) ?_)
  refine RL.callVL rfl rfl rfl rfl rfl rfl hv hok (Sels.allZ K).there ?_ ?_
  ·rintro _ K' (⟨⟨⟩, hg⟩ | ⟨⟨⟩, hd⟩ | ⟨v, h, -⟩) hok
   ·refine RL.dropL hok (_ :: K') (.cons (Sel.app K' .here) ((Sels.allZ K').appR (R := []))) fun hok => ?_
    repeat (first | (with_reducible first | apply CW.seq | apply aN | apply iN | apply CW.skip | apply CW.block) | refine CW.reg ?_ | refine RL.nil ?_ | refine CW.condT rfl ?_ | refine wS rfl ?_ | refine RL.loadL tO hok rfl rfl rfl rfl rfl rfl (by repeat (first | exact Sel.here | apply Sel.there)) (by exact rfl) ?_)
    refine RL.storeL tO hok rfl rfl rfl rfl rfl rfl (hsA_cells r) rfl (hsA_one r) Sel.here rfl (fun hok => ?_)
    repeat (first | with_reducible apply aN | refine RL.nil ?_)
    exact NextL.mk (r, K') hok hg (wE rfl) (Sels.allZ _) (by show r.length < r.length + 1; omega)
   ·refine RL.dropL hok (_ :: K') (.cons (Sel.app K' .here) ((Sels.allZ K').appR (R := []))) fun hok => ?_
    repeat (first | (with_reducible first | apply aN | apply aX | apply iH | apply CW.exit) | refine RL.nil ?_ | refine CW.condF rfl ?_ | refine wS rfl ?_)
    exact Fin.retL hok rfl aRfl ((Sels.allZ K').there (e := _)) (.inl ⟨rfl, .inr hd⟩)
   ·cases h
  ·rintro _ K' (⟨h, -⟩ | ⟨h, -⟩ | ⟨v, ⟨⟩, hp⟩) hok
   ·cases h
   ·cases h
   ·repeat (with_reducible first | apply aP | apply iP)
    exact Fin.panicL hok aRfl ((Sels.allZ K').appR (R := [_])) (.inr ⟨_, rfl, hp⟩)
set_option maxRecDepth 10000 in
theorem rsIter (b : Nat) (l : List (Nat × Int)) : IterL Tryz.prog 112 [] [.ptr b 0] [(.own b, .box 104 [chainA l])] chainA (sufs l) := by
 intro lp Go Done Pan hY K hgo
 refine LCalls.of_CW tO call112 Tryz.func112 rfl rfl fun s hok => ?_
 repeat (first | with_reducible apply CW.block)
 refine CW.loopL hok (σ := List (Nat × Int) × LS) (fun _ => [(0, yieldV lp), (1, .ptr b 0)]) (fun q => (.own b, .box 104 [chainA q.1]) :: q.2) (fun q => Go (sufs q.1) q.2) (fun q => q.1.length) (l, K) hgo (wE rfl) (Sels.allZ _) ?_
 rintro ⟨l, K⟩ hI hok
 simp only at hI hok ⊢
 cases l with
 | nil =>
  unfold chainA at hok ⊢
  repeat (first | (with_reducible first | apply CW.seq | apply aN | apply aX | apply iH | apply CW.exit) | refine CW.reg ?_ | refine RL.nil ?_ | refine CW.condF rfl ?_ | refine wS rfl ?_ | refine RL.skip rfl rfl rfl ?_ | refine RL.loadL tO hok rfl rfl rfl rfl rfl rfl (by repeat (first | exact Sel.here | apply Sel.there)) (by exact rfl) ?_)
  exact Fin.retL hok rfl aRfl (Sels.allZ K).there (.inl ⟨rfl, .inl hI⟩)
 | cons h r =>
  have hv := hY (h :: r) _ K hI
  obtain ⟨bh, nh⟩ := h
  rw [chainA] at hok hv ⊢
  repeat (first | with_reducible apply CW.seq | refine CW.reg ?_ | refine wS rfl ?_ | refine RL.loadL tO hok rfl rfl rfl rfl rfl rfl (by repeat (first | exact Sel.here | apply Sel.there)) (by exact rfl) ?_)
  refine RL.callVL rfl rfl rfl rfl rfl rfl hv hok (Sels.allZ K).there ?_ ?_
  ·rintro _ K' (⟨⟨⟩, hg⟩ | ⟨⟨⟩, hd⟩ | ⟨v, h, -⟩) hok
   ·refine RL.dropL hok (_ :: K') (.cons (Sel.app K' .here) ((Sels.allZ K').appR (R := []))) fun hok => ?_
    repeat (first | (with_reducible first | apply CW.seq | apply aN | apply iN | apply CW.skip | apply CW.block) | refine CW.reg ?_ | refine RL.nil ?_ | refine CW.condT rfl ?_ | refine wS rfl ?_ | refine RL.loadL tO hok rfl rfl rfl rfl rfl rfl (by repeat (first | exact Sel.here | apply Sel.there)) (by exact rfl) ?_)
    refine RL.storeL tO hok rfl rfl rfl rfl rfl rfl (chainA_cells r) rfl (chainA_one r) Sel.here rfl (fun hok => ?_)
    repeat (first | with_reducible apply aN | refine RL.nil ?_)
    exact NextL.mk (r, K') hok hg (wE rfl) (Sels.allZ _) (by show r.length < r.length + 1; omega)
   ·refine RL.dropL hok (_ :: K') (.cons (Sel.app K' .here) ((Sels.allZ K').appR (R := []))) fun hok => ?_
    repeat (first | (with_reducible first | apply aN | apply aX | apply iH | apply CW.exit) | refine RL.nil ?_ | refine CW.condF rfl ?_ | refine wS rfl ?_)
    exact Fin.retL hok rfl aRfl ((Sels.allZ K').there (e := _)) (.inl ⟨rfl, .inr hd⟩)
   ·cases h
  ·rintro _ K' (⟨h, -⟩ | ⟨h, -⟩ | ⟨v, ⟨⟩, hp⟩) hok
   ·cases h
   ·cases h
   ·repeat (with_reducible first | apply aP | apply iP)
    exact Fin.panicL hok aRfl ((Sels.allZ K').appR (R := [_])) (.inr ⟨_, rfl, hp⟩)
end Go.Proofs.YtdeiinhccdlfiaaGreat

/- Chapter 19: contracts of cond: what a run holds; events are told. -/
namespace Go.Proofs.YtdeiinhccdlfiaaGreat
open Go.AE Go.Cond

def scA (s : Sc) (c : List (Nat × Int)) : AV := .agg [.int .i64 s.hand, hsA s.hs, chainA c]
def doesA : List (AV × AV) := [
 (.int .i64 1, .func 51 [] []), (.int .i64 2, .func 52 [] []), (.int .i64 3, .func 53 [] []),
 (.int .i64 4, .func 54 [] []), (.int .i64 5, .func 55 [] []), (.int .i64 6, .func 56 [] []),
 (.int .i64 7, .func 57 [] []), (.int .i64 8, .func 58 [] []), (.int .i64 9, .func 59 [] []),
 (.int .i64 10, .func 60 [] []), (.int .i64 11, .func 61 [] []), (.int .i64 12, .func 62 [] []),
 (.int .i64 13, .func 63 [] []), (.int .i64 14, .func 64 [] []), (.int .i64 15, .func 65 [] [])]
def progA (P : List CExp) : AV := .slc 3 ((P.map rawE).map CRaw.av) .fro
def runnerA (mb : Nat) (P : List CExp) (own : Own) (st : St) : List AV :=
 [.int .i64 0, .int .i64 0, .slc 5 (st.evs.map evA) own, .int .i64 (st.fuel : Int), progA P, .slc 1 (st.picks.map intA) .fro, .map mb]
def rK (rb mb : Nat) (P : List CExp) (own : Own) (st : St) : LS :=
 [(.own rb, .box 67 (runnerA mb P own st)), (own, .row 48 5 st.evs.length), (.own mb, .map doesA)]
structure Small (s : Sc) (c : List (Nat × Int)) (st : St) : Prop where
 hs : s.hs.length < big
 rs : c.length < big
 evs : st.evs.length < big

def tK (b : Nat) (deed n val : Int) (o1 : Own) (hs : List Int) (o2 : Own) (rs : List Int) : LS :=
 [(.own b, .box 48 [.int .i64 deed, .int .i64 n, .int .i64 val, .slc 1 (hs.map intA) o1, .slc 1 (rs.map intA) o2]), (o1, .row 3 1 hs.length), (o2, .row 3 1 rs.length)]
set_option maxRecDepth 10000 in
set_option maxHeartbeats 2000000 in
theorem tell_spec (rb mb : Nat) (P : List CExp) (own : Own) (s : Sc) (c : List (Nat × Int)) (st : St) (hc : c.map Prod.snd = s.rs) (hsm : Small s c st) (deed n val : Int) :
  LCalls Tryz.prog 81 [.ptr rb 0, scA s c, .int .i64 deed, .int .i64 n, .int .i64 val] (rK rb mb P own st) (fun o K => o = .ret (.tup []) ∧ ∃ own', K = rK rb mb P own' (st.tell (s.ev deed n val))) := by
 have hb : big = 1099511627776 := rfl
 obtain ⟨hh, hr, he⟩ := hsm
 refine LCalls.of_CW tO call81 Tryz.func81 rfl rfl fun s₀ hok => ?_
 unfold scA
 unfold rK runnerA at hok ⊢
 repeat (first | (with_reducible first | apply CW.seq | apply aN) | refine wR rfl ?_ | refine CW.reg ?_ | refine wS rfl ?_)
 refine RL.allocL tO hok rfl rfl rfl rfl rfl rfl rfl (fun b10 hok => ?_)
 repeat (first | (with_reducible first | apply CW.seq | apply aN) | refine CW.reg ?_ | refine RL.nil ?_ | refine wS rfl ?_ | refine RL.storeL tO hok rfl rfl rfl rfl rfl rfl rfl rfl rfl (by repeat (first | exact Sel.here | apply Sel.there)) (by exact rfl) (fun hok => ?_))
 refine RL.callL rfl rfl rfl rfl rfl (handlers_spec s.hs) hok .nil ?_ (fun _ _ ⟨_, h, _⟩ _ => by cases h)
 rintro _ _ ⟨b19, ⟨⟩, rfl⟩ hok
 repeat (first | (with_reducible first | apply aN | apply CW.block) | refine RL.nil ?_)
 refine CW.boxWeakL hok b10 [.int .i64 deed, .int .i64 n, .int .i64 val, .slc 1 [] .nil, .slc 1 [] .nil] (by repeat (first | exact Sel.here | apply Sel.there)) (.cons aRfl (.cons aRfl (.cons aRfl (.cons (AVle.nil (by intro b h; cases h)) (.one (AVle.nil (by intro b h; cases h))))))) fun hok => ?_
 refine CW.phantom hok 3 1 0 fun hok => ?_
 refine CW.phantom hok 3 1 0 fun hok => ?_
 refine CW.dropL hok ((.own b19, .box 103 [hsA s.hs]) :: (tK b10 deed n val .nil [] .nil [] ++ rK rb mb P own st)) (by simp only [tK, rK, runnerA, List.cons_append, List.nil_append, List.map_nil, List.length_nil]; repeat (first | exact Sels.nil | (apply Sels.cons; · repeat (first | exact Sel.here | apply Sel.there)))) fun hok => ?_
 refine CW.rangeFL hok rfl (by decide) (hsIter b19 s.hs) (.cons .here .nil) (fun rem K => ∃ pre rest o1, s.hs = pre ++ rest ∧ rem = sufs rest ∧ K = tK b10 deed n val o1 (pre.map Hd.n) .nil [] ++ rK rb mb P own st) (fun _ _ => False) (fun _ _ => False) ⟨[], s.hs, .nil, rfl, rfl, rfl⟩ ?_ ?_ (fun _ _ h => h.elim) (fun _ _ h => h.elim)
 ·rintro s₁ x rem K ⟨pre, rest, o1, hpr, hrem, rfl⟩ hok
  cases rest with
  | nil => cases hrem
  | cons h r =>
  obtain ⟨rfl, rfl⟩ : x = h :: r ∧ rem = sufs r := by simpa [sufs] using hrem
  have hl : (pre.map Hd.n).length < big := by rw [hpr] at hh; simp at hh ⊢; omega
  have e1 : ((pre ++ [h]).map Hd.n).map intA = (pre.map Hd.n).map intA ++ [.int .i64 h.n] := by simp [intA]
  have e2 : ((pre ++ [h]).map Hd.n).length = (pre.map Hd.n).length + 1 := by simp
  rw [hsA_cons]
  unfold tK at hok ⊢
  repeat (first | (with_reducible first | apply aN | apply CW.block) | refine wR rfl ?_)
  refine CW.drw tO mixed rfl (RD.run rfl ?_)
  refine RD.loadL 1 tO hok rfl rfl rfl rfl rfl rfl rfl rfl (by repeat (first | exact Sel.here | apply Sel.there)) (by exact rfl) ?_; refine RD.run rfl ?_
  refine RD.append1L 7 tO hok rfl rfl rfl rfl rfl rfl rfl rfl rfl (by intro k; simp) rfl rfl rfl rfl rfl rfl rfl rfl (by repeat (first | exact Sel.here | apply Sel.there)) (by simp <;> omega) (by show (_ + 1) * 8 ≤ _; omega) (by omega) (fun b8 hok => ?_); refine RD.run rfl ?_
  refine RD.storeL 9 tO hok rfl rfl rfl rfl rfl rfl rfl rfl rfl rfl rfl (by repeat (first | exact Sel.here | apply Sel.there)) (by exact rfl) (fun hok => ?_); refine RD.run rfl ?_
  refine RD.run rfl (RD.done rfl ?_)
  repeat (first | with_reducible apply iN)
  exact At.mk (tK b10 deed n val (.own b8) ((pre ++ [h]).map Hd.n) .nil [] ++ rK rb mb P own st) hok (by simp only [tK, rK, List.cons_append, List.nil_append, e1, e2]; repeat (first | exact Sels.nil | (apply Sels.cons; · repeat (first | exact Sel.here | apply Sel.there)))) ⟨pre ++ [h], r, .own b8, by simp [hpr], rfl, rfl⟩
 ·rintro K ⟨pre, rest, o1, hpr, hrem, rfl⟩ hok
  cases rest with
  | cons h r => cases hrem
  | nil =>
  rw [List.append_nil] at hpr
  subst hpr
  have hhn : (s.hs.map Hd.n).length < big := by simpa using hh
  have hnm : s.names = s.hs.map Hd.n := rfl
  generalize s.hs.map Hd.n = nm at hok hhn hnm ⊢
  unfold tK rK runnerA at hok ⊢
  repeat (first | (with_reducible first | apply CW.seq | apply aN | apply iN) | refine CW.reg ?_ | refine wS rfl ?_)
  refine RL.callL rfl rfl rfl rfl rfl (restarts_spec c) hok .nil ?_ (fun _ _ ⟨_, h, _⟩ _ => by cases h)
  rintro _ _ ⟨b32, ⟨⟩, rfl⟩ hok
  repeat (first | (with_reducible first | apply aN | apply CW.block) | refine RL.nil ?_)
  refine CW.dropL hok ((.own b32, .box 104 [chainA c]) :: (tK b10 deed n val o1 nm .nil [] ++ rK rb mb P own st)) (by simp only [tK, rK, runnerA, List.cons_append, List.nil_append, List.map_nil, List.length_nil]; repeat (first | exact Sels.nil | (apply Sels.cons; · repeat (first | exact Sel.here | apply Sel.there)))) fun hok => ?_
  refine CW.rangeFL hok rfl (by decide) (rsIter b32 c) (.cons .here .nil) (fun rem K => ∃ pre rest o2, c = pre ++ rest ∧ rem = sufs rest ∧ K = tK b10 deed n val o1 nm o2 (pre.map Prod.snd) ++ rK rb mb P own st) (fun _ _ => False) (fun _ _ => False) ⟨[], c, .nil, rfl, rfl, rfl⟩ ?_ ?_ (fun _ _ h => h.elim) (fun _ _ h => h.elim)
  ·rintro s₁ x rem K ⟨pre, rest, o2, hpr, hrem, rfl⟩ hok
   cases rest with
   | nil => cases hrem
   | cons h r =>
   obtain ⟨rfl, rfl⟩ : x = h :: r ∧ rem = sufs r := by simpa [sufs] using hrem
   have hl : (pre.map Prod.snd).length < big := by rw [hpr] at hr; simp at hr ⊢; omega
   have e1 : ((pre ++ [h]).map Prod.snd).map intA = (pre.map Prod.snd).map intA ++ [.int .i64 h.2] := by simp [intA]
   have e2 : ((pre ++ [h]).map Prod.snd).length = (pre.map Prod.snd).length + 1 := by simp
   obtain ⟨bh, nh⟩ := h
   rw [chainA]
   unfold tK at hok ⊢
   repeat (first | (with_reducible first | apply aN | apply CW.block) | refine wR rfl ?_)
   refine CW.drw tO mixed rfl (RD.run rfl ?_)
   refine RD.loadL 1 tO hok rfl rfl rfl rfl rfl rfl rfl rfl (by repeat (first | exact Sel.here | apply Sel.there)) (by exact rfl) ?_; refine RD.run rfl ?_
   refine RD.append1L 7 tO hok rfl rfl rfl rfl rfl rfl rfl rfl rfl (by intro k; simp) rfl rfl rfl rfl rfl rfl rfl rfl (by repeat (first | exact Sel.here | apply Sel.there)) (by simp <;> omega) (by show (_ + 1) * 8 ≤ _; omega) (by omega) (fun b8 hok => ?_); refine RD.run rfl ?_
   refine RD.storeL 9 tO hok rfl rfl rfl rfl rfl rfl rfl rfl rfl rfl rfl (by repeat (first | exact Sel.here | apply Sel.there)) (by exact rfl) (fun hok => ?_); refine RD.run rfl ?_
   refine RD.run rfl (RD.done rfl ?_)
   repeat (first | with_reducible apply iN)
   exact At.mk (tK b10 deed n val o1 nm (.own b8) ((pre ++ [(bh, nh)]).map Prod.snd) ++ rK rb mb P own st) hok (by simp only [tK, rK, List.cons_append, List.nil_append, e1, e2]; repeat (first | exact Sels.nil | (apply Sels.cons; · repeat (first | exact Sel.here | apply Sel.there)))) ⟨pre ++ [(bh, nh)], r, .own b8, by simp [hpr], rfl, rfl⟩
  ·rintro K ⟨pre, rest, o2, hpr, hrem, rfl⟩ hok
   cases rest with
   | cons h r => cases hrem
   | nil =>
   rw [List.append_nil] at hpr
   subst hpr
   have hev : evA (s.ev deed n val) = .agg [.int .i64 deed, .int .i64 n, .int .i64 val, .slc 1 (nm.map intA) .fro, .slc 1 ((c.map Prod.snd).map intA) .fro] := by
    rw [hc, ← hnm]; rfl
   have e1 : (st.tell (s.ev deed n val)).evs.map evA = st.evs.map evA ++ [evA (s.ev deed n val)] := by simp [St.tell]
   have e2 : (st.tell (s.ev deed n val)).evs.length = st.evs.length + 1 := by simp [St.tell]
   have e3 : (st.tell (s.ev deed n val)).fuel = st.fuel := rfl
   have e4 : (st.tell (s.ev deed n val)).picks = st.picks := rfl
   unfold tK rK runnerA at hok ⊢
   repeat (with_reducible first | apply aN | apply iN)
   refine CW.boxWeakL hok b10 [.int .i64 deed, .int .i64 n, .int .i64 val, .slc 1 (nm.map intA) .fro, .slc 1 ((c.map Prod.snd).map intA) .fro] (by repeat (first | exact Sel.here | apply Sel.there)) (.cons aRfl (.cons aRfl (.cons aRfl (.cons AVle.fro (.one AVle.fro))))) fun hok => ?_
   refine CW.freezeL hok 10 b10 rfl (by repeat (first | exact Sel.here | apply Sel.there)) fun hok => ?_
   skip
   refine CW.drw tO mixed rfl (RD.run rfl ?_)
   refine RD.loadL 5 tO hok rfl rfl rfl rfl rfl rfl rfl rfl (by repeat (first | exact Sel.here | apply Sel.there)) (by exact rfl) ?_; refine RD.run rfl ?_
   refine RD.append1L 8 tO hok rfl rfl rfl rfl rfl rfl rfl rfl rfl (by intro k; simp) rfl rfl rfl rfl rfl rfl rfl rfl (by repeat (first | exact Sel.here | apply Sel.there)) (by simp <;> omega) (by show (_ + 1) * 72 ≤ _; omega) (by omega) (fun b9 hok => ?_); refine RD.run rfl ?_
   refine RD.storeL 12 tO hok rfl rfl rfl rfl rfl rfl rfl rfl rfl rfl rfl (by repeat (first | exact Sel.here | apply Sel.there)) (by exact rfl) (fun hok => ?_); refine RD.run rfl ?_
   refine RD.run rfl (RD.done rfl ?_)
   skip
   exact Fin.retL (K := rK rb mb P (.own b9) (st.tell (s.ev deed n val))) hok rfl aRfl (by simp only [rK, runnerA, e1, e2, e3, e4, hev]; repeat (first | exact Sels.nil | (apply Sels.cons; · repeat (first | exact Sel.here | apply Sel.there)))) ⟨rfl, .own b9, rfl⟩
end Go.Proofs.YtdeiinhccdlfiaaGreat

