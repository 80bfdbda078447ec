import Derived.Test.YtaafacnoddjhgaaGreatRe
import Derived.Shelf.Sort.Plain
import Derived.Test.YtaafacnoddjhgaaGreatChecked
import Derived.KernelRfl
import Derived.WalkKit
import Derived.OpenShut
import Derived.JoinedCond
/- The abstract walk: slices that are known to the last bit; rows of cells that grow, are sorted in place, and are handed on. -/
namespace Go.AE

def cslc (b n cap : Nat) : AV := .conc (.slice (some ⟨b, 0, none⟩) n cap)

theorem RelL.anys {w : World} {p : Prot} : ∀ vs : List Value, RelL w p vs (vs.map fun _ => .any)
 | [] => .nil
 | v :: vs => .cons v .any vs _ (.any v) (RelL.anys vs)
theorem oneCell_cells {v : Value} (h : v.oneCell' = true) : v.cells = #[v] := by
 cases v <;> first | rfl | (simp [Value.oneCell'] at h; done)
theorem flat_ones : ∀ {vs : List Value}, (∀ v ∈ vs, v.oneCell' = true) → flat vs = vs
  | [], _ => rfl
  | v :: vs, h => by
    have h1 := flat_ones (vs := vs) fun u hu => h u (List.mem_cons_of_mem _ hu)
    unfold flat at h1 ⊢
    rw [List.flatMap_cons, h1, oneCell_cells (h v List.mem_cons_self)]; rfl

section
variable {P : Program} {Γ : Tys} {N : Nat} {ops : Array Oper} {Q : AEx → Env → Store → Prop} {env : Env} {s : Store} {l : List Oper} {o : Oper} {d : Nat} {L R : LS}

def Grown (s : Store) (R : LS) (e : TypeId) (n : Nat) (xs : List AV) (r : AV) (s' : Store) : Prop :=
 ∃ b' cap' cs', r = cslc b' n cap' ∧ s' = sto s ((.own b', .box e cs') :: R) ∧ Ok s ((.own b', .box e cs') :: R) ∧ cs'.length = cap' ∧ n ≤ cap' ∧ cs'.take n = xs

theorem grow_new (hΓ : TysOk P Γ) {w : World} {p : Prot} {S : Store} (hwf : Wf w p S) {t t' e ty : TypeId} {it it' ie : TI} {sy : Nat} {olds : List Value} {xs : List AV} {v : AV} {oy : Own} {base : Option Addr} {n cap : Nat} {uy : Value}
  (ht : Γ.get? t = some it) (htd : it.td = .slc e) (ht' : Γ.get? t' = some it') (htd' : ∀ k, it'.td ≠ .int k) (hie : Γ.get? e = some ie) (h1 : ie.size = 1) (hzs' : Nat.beq ie.zero.cells.size ie.size = true)
  (hr : RelL w p olds xs) (hn : n = xs.length) (hfo : (Builtin.firstCells 1 n (.slice base n cap)).run P w.drew = .ok olds.toArray w.drew) (hy : Rel w p uy (.slc sy [v] oy)) (hsy : sy = 1) (hel : oneC v = true)
  (hlt : cap < n + 1) (hb : (n + 1) * ie.bytes ≤ 140737488355328) (h63 : n + 1 ≤ 9223372036854775807) :
  ∃ b' cap' cs' w', (Builtin.append_ #[t, t'] ty #[.slice base n cap, uy]).run P w = .ok (.slice (some ⟨b', 0, none⟩) (n + 1) cap') w' ∧ S b' = none ∧ Le w p w' p ∧ Kept S (S.set b' (.box e cs')) w p w' p ∧ Wf w' p (S.set b' (.box e cs')) ∧
   cs'.length = cap' ∧ n + 1 ≤ cap' ∧ cs'.take (n + 1) = xs ++ [v] := by
 obtain ⟨info, d, g1, g2, g3, -⟩ := hΓ.parts ht
 obtain ⟨info', d', q1, q2, q3, -⟩ := hΓ.parts ht'
 obtain ⟨infoe, de, k1, k2, k3, k4, k5, k6⟩ := hΓ.parts hie
 have hd : d = .slice e := by rw [htd] at g3; cases d <;> simp [tdOf] at g3; rw [g3]
 subst hd
 have hd' : ∀ k, d' ≠ .int k := fun k e' => by subst e'; exact htd' k q3.symm
 obtain ⟨us, hu1, hu2, hu3, hu4, ub, uc, hu5⟩ := slc_parts hy (.inr hsy)
 have hlu := hu1.length
 cases hu1 with
 | cons u _ us' _ hu ht0 =>
 cases ht0
 subst hsy
 have huc : flat [u] = [u] := flat_ones (by intro x hx; rw [List.mem_singleton] at hx; subst hx; exact oneC_ok hu hel)
 have hfit := growslice_fits (need := n + 1) (old := cap) (bytes := ie.bytes) hlt hb
 have hrun := run_append_grow2 (ty := ty) w g2 q2 hd' k1 k6 (base := base) (sLen := n) (sCap := cap) (m := 1) (olds := olds) (news := [u]) (hu3 P)
  (by rw [k4, h1]; exact hfo) (by rw [k4, h1, ← huc]; exact hu4 P w.drew (fun _ _ _ => rfl)) hlt (by omega) (by rw [k5]; exact hfit)
 have hcge : n + 1 ≤ grownCap w (n + 1) cap e := by simp [grownCap, Question.cut]
 have hol : olds.length = n := by rw [hr.length, hn]
 have hzs := Nat.eq_of_beq_eq_true hzs'
 generalize hzz : (Builtin.zeroCells ie.zero.cells (grownCap w (n + 1) cap e - (n + 1))).toList = zs at hrun
 have hzl : zs.length = grownCap w (n + 1) cap e - (n + 1) := by
  rw [← hzz, Array.length_toList]; simp [Builtin.zeroCells, hzs, h1]
 generalize grownCap w (n + 1) cap e = G at hrun hcge hzl
 have hwd := drew_wf hwf
 obtain ⟨hs, hle, hk, hwf'⟩ := new_obj hwd (.cells (olds ++ [u] ++ zs).toArray e (0, 0)) (.box e (xs ++ [v] ++ zs.map fun _ => .any)) (fun w' hw' hv hvl => ⟨_, hw', by
  refine RelL.append (RelL.append (hvl _ _ (show RelL w.drew p olds xs from hr.mono drew_le)) (hvl _ _ (.cons _ _ _ _ (hu.mono drew_le) .nil))) (RelL.anys zs), fun o hp => absurd (hwf.lt _ _ hp) (by show ¬ w.heap.size < w.heap.size; omega)⟩)
 rw [show w.drew.heap.size = w.heap.size from rfl] at hs hk hwf'
 refine ⟨w.heap.size, G, xs ++ [v] ++ zs.map (fun _ => AV.any), _, hrun, hs, drew_le.trans hle, (drew_kept (w := w) (p := p)).trans (drew_le (w := w) (p := p)).size hk, hwf', ?_, hcge, ?_⟩
 ·simp only [List.length_append, List.length_map, List.length_singleton, hzl]; omega
 ·rw [List.take_append_of_le_length (by simp; omega), List.take_of_length_le (by simp; omega)]

theorem append_exec {t t' : TypeId} {x y : Operand} {a : Act} {val : Value} {w w' : World} (ho : o.op = .call { callee := .builtin .append, args := #[x, y], argTypes := #[t, t'] }) (h : (Builtin.append_ #[t, t'] o.type #[a.eval x, a.eval y]).run P w = .ok val w') :
  (execOp a.eval o).run P w = .ok (.value val) w' := by
 unfold execOp
 rw [ho]
 simp only [resolve, invoke, builtin, Sem.run_bind, Sem.run_pure, Result.andThen_ok, List.map_toArray, List.map_cons, List.map_nil, h]

theorem OW.append0C (hΓ : TysOk P Γ) (hok : Ok s L) {t t' e : TypeId} {x y : Operand} {it it' ie : TI} {sx sy : Nat} {v : AV} {oy : Own}
  (ho : o.op = .call { callee := .builtin .append, args := #[x, y], argTypes := #[t, t'] }) (ht : Γ.get? t = some it) (htd : it.td = .slc e) (ht' : Γ.get? t' = some it') (htd' : ∀ k, it'.td ≠ .int k)
  (hie : Γ.get? e = some ie) (h1 : ie.size = 1) (hzs' : Nat.beq ie.zero.cells.size ie.size = true) (hx : ev env x = some (.slc sx [] .nil)) (hy : ev env y = some (.slc sy [v] oy)) (hsy : sy = 1) (hel : oneC v = true) (hb : 1 * ie.bytes ≤ 140737488355328)
  {X : AV → Store → Prop} : OW P N o env (sto s L) (fun r s' => Grown s L e 1 [v] r s') X := by
 refine OW.of_run (by simp [noDefer, ho]) fun ro B a w p hst => ?_
 have hrx := hst.ev hx
 have hry := hst.ev hy
 have hexec := fun val w' => append_exec (P := P) (a := a) (val := val) (w := w) (w' := w') ho
 generalize hvx : a.eval x = vx at hrx hexec
 generalize hvy : a.eval y = vy at hry hexec
 have hvx0 : vx = .slice none 0 0 := by
  cases hrx with
  | slcNil => rfl
  | slcZ a _ _ h => rcases h with h | h <;> cases h
  | slc g off n cap _ vs _ _ hn => exact absurd rfl hn
 subst hvx0
 obtain ⟨b', cap', cs', w', r1, r2, r3, r4, r5, r6, r7, r8⟩ := grow_new (ty := o.type) hΓ hst.wf (base := none) (n := 0) (cap := 0) (olds := []) (xs := []) ht htd ht' htd' hie h1 hzs' .nil rfl (by
  have := run_firstCells_none (P := P) w.drew 1 0 0 0
  simpa using this) hry hsy hel (by omega) (by simpa using hb) (by omega)
 exact ⟨_, w', _, p, _, hexec _ _ r1, r3, r4, r5, ⟨b', cap', cs', rfl, rfl, ⟨r2, hok⟩, r6, r7, by simpa using r8⟩, .conc _⟩

theorem OW.appendC (hΓ : TysOk P Γ) (hok : Ok s L) {t t' e : TypeId} {x y : Operand} {it it' ie : TI} {b n cap sy : Nat} {cs : List AV} {v : AV} {oy : Own}
    (ho : o.op = .call { callee := .builtin .append, args := #[x, y], argTypes := #[t, t'] }) (ht : Γ.get? t = some it) (htd : it.td = .slc e) (ht' : Γ.get? t' = some it') (htd' : ∀ k, it'.td ≠ .int k)
    (hie : Γ.get? e = some ie) (h1 : ie.size = 1) (hzs' : Nat.beq ie.zero.cells.size ie.size = true) (hx : ev env x = some (cslc b n cap)) (hs : Sel L (.own b) (.box e cs) R) (hcl : cs.length = cap) (hn : n ≤ cap) (hone : (cs.take n).all oneC = true)
    (hy : ev env y = some (.slc sy [v] oy)) (hsy : sy = 1) (hel : oneC v = true) (hb : (n + 1) * ie.bytes ≤ 140737488355328) (h63 : n + 1 ≤ 9223372036854775807)
    {X : AV → Store → Prop} : OW P N o env (sto s L) (fun r s' => Grown s R e (n + 1) (cs.take n ++ [v]) r s') X := by
  obtain ⟨e1, e2, e3⟩ := hs.perm hok
  refine OW.of_run (by simp [noDefer, ho]) fun ro B a w p hst => ?_
  have hrx := hst.ev hx
  have hry := hst.ev hy
  have hexec := fun val w' => append_exec (P := P) (a := a) (val := val) (w := w) (w' := w') ho
  generalize hvx : a.eval x = vx at hrx hexec
  generalize hvy : a.eval y = vy at hry hexec
  cases hrx
  obtain ⟨vs, c1, c2, c3⟩ := hst.wf.obj _ _ (hs.get hok)
  have hvl : vs.toList.length = cap := by rw [c2.length, hcl]
  have htk := c2.take n
  have hvone := oneC_all htk hone
  have hfc : ∀ w' : World, (∀ j, w'.cell? ⟨b, j, none⟩ = w.cell? ⟨b, j, none⟩) → (Builtin.firstCells 1 n (.slice (some ⟨b, 0, none⟩) n cap)).run P w' = .ok (vs.toList.take n).toArray w' := by
    intro w' hw'
    refine run_firstCells_some (P := P) w' 1 n ⟨b, 0, none⟩ n cap (vs.toList.take n) (by rw [List.length_take, hvl]; omega) (fun j u hu => ?_)
    rw [add_none, Nat.zero_add, hw', cells_of_box c1]
    rw [List.getElem?_take] at hu
    split at hu
    · simpa using hu
    · cases hu
  by_cases hlt : cap < n + 1
  · obtain ⟨b', cap', cs', w', r1, r2, r3, r4, r5, r6, r7, r8⟩ := grow_new (ty := o.type) hΓ hst.wf (base := some ⟨b, 0, none⟩) (n := n) (cap := cap) (olds := vs.toList.take n) (xs := cs.take n) ht htd ht' htd' hie h1 hzs' htk (by rw [List.length_take, hcl]; omega)
      (hfc w.drew fun _ => rfl) hry hsy hel hlt hb h63
    have hsub : Store.Sub ((sto s R).set b' (.box e cs')) ((sto s L).set b' (.box e cs')) := by
      refine ent_sub (k := .own b') ?_
      rw [e1]; exact sub_ent (k := .own b) (Store.sub_refl _) e2
    have hg : sto s R b' = none := by
      have h := r2
      rw [e1] at h
      exact (Store.set_none h).2
    exact ⟨_, w', _, p, _, hexec _ _ r1, r3, r4.sub hsub, r5.sub hsub, ⟨b', cap', cs', rfl, rfl, ⟨hg, e3⟩, r6, r7, r8⟩, .conc _⟩
  · obtain ⟨info, d, g1, g2, g3, -⟩ := hΓ.parts ht
    obtain ⟨info', d', q1, q2, q3, -⟩ := hΓ.parts ht'
    obtain ⟨infoe, de, k1, k2, k3, k4, k5, k6⟩ := hΓ.parts hie
    have hd : d = .slice e := by rw [htd] at g3; cases d <;> simp [tdOf] at g3; rw [g3]
    subst hd
    have hd' : ∀ k, d' ≠ .int k := fun k e' => by subst e'; exact htd' k q3.symm
    subst hsy
    obtain ⟨us, hu1, hu2, hu3, hu4, ub, uc, hu5⟩ := slc_parts (sz' := 1) hry (.inr rfl)
    cases hu1 with
    | cons u _ us' _ hu ht0 =>
    cases ht0
    have huo : ∀ x ∈ [u], x.oneCell' = true := by intro x hx; rw [List.mem_singleton] at hx; subst hx; exact oneC_ok hu hel
    have huc : flat [u] = [u] := flat_ones huo
    have hvs : vs.size = cap := by rw [← Array.length_toList]; exact hvl
    have hrun := run_append_room2 (ty := o.type) (P := P) w g2 q2 hd' k1 b n cap vs c1 (xv := vy) (m := 1) (news := [u]) (hu3 P) (by rw [k4, h1, ← huc]; exact hu4 P w (fun _ _ _ => rfl)) huo (by omega) (by rw [k4, h1, hvs]; simp; omega)
    rw [k4, h1, Nat.mul_one] at hrun
    have hrl : RelL w p (vs.toList.take n ++ [u] ++ vs.toList.drop (n + [u].length)) (cs.take n ++ [v] ++ cs.drop (n + 1)) := RelL.append (RelL.append htk (.cons _ _ _ _ hu .nil)) (c2.drop _)
    have hS : (sto s L) b = some (.box e cs) := hs.get hok
    obtain ⟨w1, w2, w3⟩ := box_write hst.wf hS (vs' := (vs.toList.take n ++ [u] ++ vs.toList.drop (n + [u].length)).toArray) (cs' := cs.take n ++ [v] ++ cs.drop (n + 1)) (fun vs0 h0 => by
      rw [c1] at h0; cases h0
      simp only [List.size_toArray, List.length_append, List.length_take, List.length_drop, List.length_singleton, hvl]
      rw [hvs]; omega) (by simpa using hrl) _ rfl
    obtain ⟨f1, f2⟩ := hs.put (.box e (cs.take n ++ [v] ++ cs.drop (n + 1))) hok
    refine ⟨_, _, _, p, _, hexec _ _ hrun, w1, w2, w3, ⟨b, cap, cs.take n ++ [v] ++ cs.drop (n + 1), rfl, f1, f2, ?_, by omega, ?_⟩, .conc _⟩
    · simp only [List.length_append, List.length_take, List.length_drop, List.length_singleton, hcl]; omega
    · have : (cs.take n ++ [v]).length = n + 1 := by simp [hcl]; omega
      rw [List.take_append_of_le_length (by omega), List.take_of_length_le (by omega)]

theorem RL.append0C (hΓ : TysOk P Γ) (hok : Ok s L) {t t' e : TypeId} {x y : Operand} {it it' ie : TI} {sx sy : Nat} {v : AV} {oy : Own} (hg : guardOf ops env o = some true) (hd : o.dst = some d) (hN : Nat.blt d N = true)
  (ho : o.op = .call { callee := .builtin .append, args := #[x, y], argTypes := #[t, t'] }) (ht : Γ.get? t = some it) (htd : it.td = .slc e) (ht' : Γ.get? t' = some it') (htd' : ∀ k, it'.td ≠ .int k)
  (hie : Γ.get? e = some ie) (h1 : ie.size = 1) (hzs' : Nat.beq ie.zero.cells.size ie.size = true) (hx : ev env x = some (.slc sx [] .nil)) (hy : ev env y = some (.slc sy [v] oy)) (hsy : sy = 1) (hel : oneC v = true) (hb : 1 * ie.bytes ≤ 140737488355328)
  (h : ∀ b' cap' cs', cs'.length = cap' → 1 ≤ cap' → cs'.take 1 = [v] → Ok s ((.own b', .box e cs') :: L) → RL P N ops l Q ((d, cslc b' 1 cap') :: env) (sto s ((.own b', .box e cs') :: L))) : RL P N ops (o :: l) Q env (sto s L) := by
 refine RL.op hg hd hN (OW.append0C hΓ hok ho ht htd ht' htd' hie h1 hzs' hx hy hsy hel hb (X := fun _ _ => False)) ?_ (fun _ _ h => h.elim)
 rintro r s' ⟨b', cap', cs', rfl, rfl, h2, h3, h4, h5⟩
 exact h b' cap' cs' h3 h4 h5 h2
theorem RL.appendC (hΓ : TysOk P Γ) (hok : Ok s L) {t t' e : TypeId} {x y : Operand} {it it' ie : TI} {b n cap sy : Nat} {cs : List AV} {v : AV} {oy : Own} (hg : guardOf ops env o = some true) (hd : o.dst = some d) (hN : Nat.blt d N = true)
  (ho : o.op = .call { callee := .builtin .append, args := #[x, y], argTypes := #[t, t'] }) (ht : Γ.get? t = some it) (htd : it.td = .slc e) (ht' : Γ.get? t' = some it') (htd' : ∀ k, it'.td ≠ .int k)
  (hie : Γ.get? e = some ie) (h1 : ie.size = 1) (hzs' : Nat.beq ie.zero.cells.size ie.size = true) (hx : ev env x = some (cslc b n cap)) (hs : Sel L (.own b) (.box e cs) R) (hcl : cs.length = cap) (hn : n ≤ cap) (hone : (cs.take n).all oneC = true)
  (hy : ev env y = some (.slc sy [v] oy)) (hsy : sy = 1) (hel : oneC v = true) (hb : (n + 1) * ie.bytes ≤ 140737488355328) (h63 : n + 1 ≤ 9223372036854775807)
  (h : ∀ b' cap' cs', cs'.length = cap' → n + 1 ≤ cap' → cs'.take (n + 1) = cs.take n ++ [v] → Ok s ((.own b', .box e cs') :: R) → RL P N ops l Q ((d, cslc b' (n + 1) cap') :: env) (sto s ((.own b', .box e cs') :: R))) : RL P N ops (o :: l) Q env (sto s L) := by
 refine RL.op hg hd hN (OW.appendC hΓ hok ho ht htd ht' htd' hie h1 hzs' hx hs hcl hn hone hy hsy hel hb h63 (X := fun _ _ => False)) ?_ (fun _ _ h => h.elim)
 rintro r s' ⟨b', cap', cs', rfl, rfl, h2, h3, h4, h5⟩
 exact h b' cap' cs' h3 h4 h5 h2

theorem St.freezeC {B : Nat} {ro : Option Nat} {a : Act} {w : World} {p : Prot} (h : St N B ro env s a w p) {t b n cap : Nat} {T : TypeId} {cs : List AV} (ht : env.get? t = some (cslc b n cap)) (hs : s b = some (.box T cs)) (hcl : cs.length = cap) (hn : n ≤ cap) (hm : n ≤ 9223372036854775807)
  (hone : (cs.take n).all oneC = true) : ∃ p', St N B ro ((t, .slc 1 (cs.take n) .fro) :: env) (s.del b) a w p' ∧ Le w p w p' ∧ Kept s (s.del b) w p w p' := by
 have hst0 : St N B ro ((a.tmps.size, .any) :: []) s a w p := h.restrict _ (fun t v hv => by
  simp only [Env.get?] at hv
  split at hv
  ·cases hv; exact .any _
  ·cases hv)
 obtain ⟨vs, h1, h2, h3⟩ := h.wf.obj _ _ hs
 have hlt : b < w.heap.size := (Array.getElem?_eq_some_iff.1 h1).1
 have hle : Le w p w (p.also b True) := ⟨rfl, rfl, rfl, Nat.le_refl _, fun _ _ h => .inl h, fun _ _ _ => rfl, fun _ _ h => h⟩
 have hk : Kept s (s.del b) w p w (p.also b True) := ⟨fun _ _ _ => rfl, fun b' hb hn => by
  by_cases e : b' = b
  ·subst e; exact Store.del_same _ _
  ·rw [Store.del_ne _ e]; exact hn, fun b' o hb hn hp => by
   rcases hp with hp | ⟨rfl, _⟩
   ·exact hp
   ·rw [hs] at hn; cases hn⟩
 have hwf : Wf w (p.also b True) (s.del b) := by
  refine ⟨fun b' o hb => ?_, fun b' o hp => by rcases hp with hp | ⟨rfl, _⟩; exact h.wf.lt _ _ hp; exact hlt⟩
  by_cases e : b' = b
  ·subst e; rw [Store.del_same] at hb; cases hb
  ·rw [Store.del_ne _ e] at hb
   have ho := h.wf.obj b' o hb
   have hp' : ∀ o, p.also b True b' o ↔ p b' o := fun o => ⟨fun hp => by rcases hp with hp | ⟨e', _⟩; exact hp; exact absurd e' e, .inl⟩
   cases o with
   | box t c => obtain ⟨us, g1, g2, g3⟩ := ho; exact ⟨us, g1, g2.mono hle, fun o hp => g3 o ((hp' o).1 hp)⟩
   | row t sz n => obtain ⟨cur, g1, g2, g3, g4⟩ := ho; exact ⟨cur, g1, g2, g3, fun o => (hp' o).trans (g4 o)⟩
   | map es => obtain ⟨mes, c, g1, g2, g3⟩ := ho; exact ⟨mes, c, g1, ⟨g2.1.mono hle, g2.2.mono hle⟩, g3⟩
   | ranged es it l c => exact ho.ranged_move hle rfl rfl
   | tick m => exact ho
   | loop r env => exact ⟨ho.1, fun t v h => (ho.2 t v h).mono hle⟩
 have hst := h.step hle hk hwf
 refine ⟨_, ⟨hst.size, fun t' v hv => ?_, hst.wf, hst.defs, hst.round, hst.base⟩, hle, hk⟩
 simp only [Env.get?] at hv
 split at hv
 ·rename_i he
  have := Nat.eq_of_beq_eq_true he
  subst this
  cases hv
  have hr := h.env t _ ht
  generalize a.tmps.getD t undef = vx at hr
  cases hr
  have htk := h2.take n
  have hvone := oneC_all htk hone
  have hfl := flat_ones hvone
  refine .slc b 0 n cap 1 (vs.toList.take n) (cs.take n) .fro (by simp) (by rw [List.length_take, hcl]; omega) ?_ (htk.mono hle) (fun v hv => by rw [oneCell_cells (hvone v hv)]; rfl) hm hn (fun h => by cases h) (fun b h => by cases h)
  rw [hfl]
  intro i v hi
  refine ⟨.inr ⟨rfl, trivial⟩, ?_⟩
  rw [Nat.zero_add, cells_of_box h1]
  rw [List.getElem?_take] at hi
  split at hi
  ·simpa using hi
  ·cases hi
 ·exact hst.env t' v hv
theorem CW.freezeC {c : Code} (hok : Ok s L) (t b : Nat) {n cap : Nat} {T : TypeId} {cs : List AV} (ht : env.get? t = some (cslc b n cap)) (hs : Sel L (.own b) (.box T cs) R) (hcl : cs.length = cap) (hn : n ≤ cap) (hm : n ≤ 9223372036854775807) (hone : (cs.take n).all oneC = true)
  (h : Ok s R → CW P N c Q ((t, .slc 1 (cs.take n) .fro) :: env) (sto s R)) : CW P N c Q env (sto s L) := by
 obtain ⟨h1, h2⟩ := hs.del hok
 intro bf B a w p hfn hst
 obtain ⟨p', h3, h4, h5⟩ := hst.freezeC ht (hs.get hok) hcl hn hm hone
 rw [h1] at h3 h5
 exact cwp_mono (h h2 bf B a w p' hfn h3) fun _ _ _ q => q.after h4 h5
end

/-! ### Sorting in place -/
section
open Go.Sort
variable {P : Program} {α : Type}

theorem ahead_le {w : World} {p : Prot} (k : Nat) : Le w p (Sort.ahead w k) p := ⟨rfl, rfl, rfl, Nat.le_refl _, fun _ _ h => h, fun _ _ _ => rfl, fun _ _ h => h⟩
theorem ahead_wf {w : World} {p : Prot} {s : Store} (k : Nat) (h : Wf w p s) : Wf (Sort.ahead w k) p s := h.grow (ahead_le k) (fun _ _ => rfl) (fun _ _ _ h => h) h.lt
theorem ahead_kept {w : World} {p : Prot} {s : Store} (k : Nat) : Kept s s w p (Sort.ahead w k) p := ⟨fun _ _ _ => rfl, fun _ _ h => h, fun _ _ _ _ h => h⟩
theorem heap_grow_lt (w : World) (os : Array Obj) (b : Nat) (h : b < w.heap.size) : (grow w os).heap[b]? = w.heap[b]? := by
 show (w.heap ++ os)[b]? = _
 rw [Array.getElem?_append_left h]
theorem grow_le {w : World} {p : Prot} (hlt : ∀ b o, p b o → b < w.heap.size) (os : Array Obj) : Le w p (grow w os) p :=
 Le.of_heap rfl rfl rfl (by show w.heap.size ≤ (w.heap ++ os).size; simp) (fun _ _ h => h) hlt (fun b hb => heap_grow_lt w os b hb)
theorem grow_wf {w : World} {p : Prot} {s : Store} (h : Wf w p s) (os : Array Obj) : Wf (grow w os) p s :=
 h.grow (grow_le h.lt os) (fun b hb => heap_grow_lt w os b hb) (fun _ _ _ h => h) (fun b o hp => Nat.lt_of_lt_of_le (h.lt b o hp) (by show w.heap.size ≤ (w.heap ++ os).size; simp))
theorem grow_kept {w : World} {p : Prot} {s : Store} (os : Array Obj) : Kept s s w p (grow w os) p := ⟨fun b hb _ => heap_grow_lt w os b hb, fun _ _ h => h, fun _ _ _ _ h => h⟩

theorem relL_enc {w : World} {p : Prot} {enc : α → Value} {encA : α → AV} (h2 : ∀ w p a, Rel w p (enc a) (encA a)) : ∀ l : List α, RelL w p (l.map enc) (l.map encA)
 | [] => .nil
 | a :: l => .cons _ _ _ _ (h2 w p a) (relL_enc h2 l)
theorem enc_relL {w : World} {p : Prot} {enc : α → Value} {encA : α → AV} (h1 : ∀ w p v a, Rel w p v (encA a) → v = enc a) : ∀ {l : List α} {vs : List Value}, RelL w p vs (l.map encA) → vs = l.map enc
  | [], vs, h => by cases h; rfl
  | a :: l, vs, h => by
    cases h with
    | cons v _ vs' _ hv ht => rw [h1 _ _ _ _ hv, enc_relL h1 ht]; rfl

variable [Inhabited α]
theorem LCalls.sort {f : FuncId} {enc : α → Value} {encA : α → AV} {le : α → α → Bool} {e : TypeId} (hc : Callable P f) (h1 : ∀ w p v a, Rel w p v (encA a) → v = enc a) (h2 : ∀ w p a, Rel w p (enc a) (encA a))
  (hsort : ∀ (blk off cap : Nat) (ss : List α) (w : World), Holds enc w blk off ss.toArray → blk < w.heap.size → ss.length < 4611686018427387904 → Calls P f #[.slice (some ⟨blk, off, none⟩) ss.length cap] w fun e w' => e = .returned (.tuple #[]) ∧ ∃ n os, w' = grow (putRow enc (Sort.ahead w n) blk off (ss.mergeSort le).toArray) os)
  (b cap : Nat) (ss : List α) (rest : List AV) (hl : ss.length < 4611686018427387904) :
  LCalls P f [cslc b ss.length cap] [(.own b, .box e (ss.map encA ++ rest))] (fun o K => o = .ret (.tup []) ∧ K = [(.own b, .box e ((ss.mergeSort le).map encA ++ rest))]) := by
 intro s hok
 refine ⟨hc, fun w p vs hwf hrel => ?_⟩
 cases hrel with
 | cons v _ vs' _ hv ht =>
 cases ht
 cases hv
 obtain ⟨cur, c1, c2, c3⟩ := hwf.obj b _ (Store.set_same _ _ _)
 have hlt : b < w.heap.size := (Array.getElem?_eq_some_iff.1 c1).1
 have hcl : cur.toList = ss.map enc ++ cur.toList.drop ss.length := by
  have h3 := c2.take ss.length
  rw [List.take_append_of_le_length (by simp), List.take_of_length_le (l := ss.map encA) (by simp)] at h3
  rw [← enc_relL h1 h3, List.take_append_drop]
 have hcs : ss.length ≤ cur.size := by
  have := c2.length
  rw [Array.length_toList] at this
  rw [this]; simp
 have hH : Holds enc w b 0 ss.toArray := by
  intro j hj
  have hj' : j < ss.length := by simpa using hj
  refine ⟨?_, by simp [World.frozen?, c1]⟩
  rw [Nat.zero_add, cells_of_box c1, ← Array.getElem?_toList, hcl, List.getElem?_append_left (by simpa using hj'), List.getElem?_map, List.getElem?_eq_getElem hj']
  simp [hj']
 refine Calls.mono (hsort b 0 cap ss w hH hlt hl) ?_
 rintro en w' ⟨rfl, k, os, rfl⟩
 refine ⟨by simp, .ret (.tup []), sto s [(.own b, .box e ((ss.mergeSort le).map encA ++ rest))], p, .tup #[] [] .nil, ⟨_, rfl, hok, rfl, rfl⟩, ?_⟩
 have hms : (ss.mergeSort le).length = ss.length := List.length_mergeSort ss
 have hput : putRow enc (Sort.ahead w k) b 0 (ss.mergeSort le).toArray = (Sort.ahead w k).setRow b ((ss.mergeSort le).map enc ++ cur.toList.drop ss.length).toArray := by
  unfold putRow mapBlock World.setRow
  congr 1
  refine Array.ext_getElem? fun i => ?_
  rw [Array.getElem?_modify, Array.getElem?_modify]
  by_cases e : b = i
  ·subst e
   rw [if_pos rfl, if_pos rfl]
   show (w.heap[b]?).map _ = (w.heap[b]?).map _
   rw [c1]
   simp only [Option.map_some, onCells]
   congr 2
   refine Array.ext_getElem? fun j => ?_
   simp only [putCells, Array.getElem?_mapIdx, Nat.zero_le, true_and, Nat.zero_add, List.size_toArray, hms, Nat.sub_zero]
   rw [← Array.getElem?_toList, ← Array.getElem?_toList]
   by_cases hj : j < ss.length
   ·rw [List.getElem?_append_left (by rw [List.length_map, hms]; exact hj), List.getElem?_map, List.getElem?_eq_getElem (l := ss.mergeSort le) (by rw [hms]; exact hj)]
    have : j < cur.toList.length := by rw [Array.length_toList]; omega
    rw [List.getElem?_eq_getElem this]
    simp [hj, hms]
   ·rw [List.getElem?_append_right (by rw [List.length_map, hms]; omega), List.length_map, hms, List.getElem?_drop]
    rw [show ss.length + (j - ss.length) = j by omega]
    cases cur.toList[j]? with
    | none => rfl
    | some y => simp [hj]
  ·rw [if_neg e, if_neg e]
 rw [hput]
 have hrl : RelL w p (((ss.mergeSort le).map enc ++ cur.toList.drop ss.length).toArray).toList ((ss.mergeSort le).map encA ++ rest) := by
  refine RelL.append (relL_enc h2 _) ?_
  have := c2.drop ss.length
  rwa [List.drop_append_of_le_length (by simp), List.drop_of_length_le (l := ss.map encA) (by simp), List.nil_append] at this
 have a1 := ahead_wf k hwf
 have hS : (sto s [(.own b, .box e (ss.map encA ++ rest))]) b = some (.box e (ss.map encA ++ rest)) := Store.set_same _ _ _
 obtain ⟨w1, w2, w3⟩ := box_write a1 hS (vs' := ((ss.mergeSort le).map enc ++ cur.toList.drop ss.length).toArray) (cs' := (ss.mergeSort le).map encA ++ rest) (fun vs0 h0 => by
  have h0' : w.heap[b]? = some (.cells vs0 e (0, 0)) := h0
  rw [c1] at h0'; cases h0'
  simp only [List.size_toArray, List.length_append, List.length_map, hms, List.length_drop, Array.length_toList]
  omega) (hrl.mono (ahead_le k)) _ rfl
 rw [show (sto s [(.own b, .box e (ss.map encA ++ rest))]).set b (.box e ((ss.mergeSort le).map encA ++ rest)) = sto s [(.own b, .box e ((ss.mergeSort le).map encA ++ rest))] from Store.set_set _ _ _ _] at w2 w3
 refine ⟨((ahead_le k).trans w1).trans (grow_le w3.lt os), ((ahead_kept k).trans (ahead_le (p := p) k).size w2).trans ((ahead_le k).trans w1).size (grow_kept os), grow_wf w3 os⟩
end

/-! ### Ranges over maps -/
section
variable {P : Program} {Γ : Tys} {N : Nat} {ops : Array Oper} {Q : AEx → Env → Store → Prop} {env : Env} {s : Store} {l : List Oper} {o : Oper} {d : Nat} {L R R' : LS}
theorem RL.rangeML (hΓ : TysOk P Γ) (hok : Ok s L) {t kt et : TypeId} {x : Operand} {it : TI} {m : Nat} {es : List (AV × AV)} (hg : guardOf ops env o = some true) (hd : o.dst = some d) (hN : Nat.blt d N = true) (ho : o.op = .range t x) (ht : Γ.get? t = some it) (htd : it.td = .map kt et)
  (hx : ev env x = some (.map m)) (hs : Sel L (.own m) (.map es) R) (h : ∀ i, Ok s ((.own i, .tick m) :: (.own m, .ranged es i es none) :: R) → RL P N ops l Q ((d, .ptr i 0) :: env) (sto s ((.own i, .tick m) :: (.own m, .ranged es i es none) :: R))) : RL P N ops (o :: l) Q env (sto s L) := by
 refine RL.op hg hd hN (OW.rangeM hΓ ho ht htd hx (hs.get hok) (X := fun _ _ => False)) ?_ (fun _ _ h => h.elim)
 rintro r s' ⟨i, h1, h2, rfl, rfl⟩
 obtain ⟨e1, e2⟩ := hs.put (.ranged es i es none) hok
 rw [e1]
 refine h i ⟨?_, e2⟩
 show sto s ((.own m, .ranged es i es none) :: R) i = none
 rw [← e1, Store.set_ne _ _ h2]; exact h1
theorem RL.nextML (hok : Ok s L) {x : Operand} {m i : Nat} {es left : List (AV × AV)} {cur : Option (AV × AV)} (hg : guardOf ops env o = some true) (hd : o.dst = some d) (hN : Nat.blt d N = true) (ho : o.op = .next x false) (hx : ev env x = some (.ptr i 0))
  (hi : Sel L (.own i) (.tick m) R') (hs : Sel L (.own m) (.ranged es i left cur) R) (h0 : left = [] → RL P N ops l Q ((d, .tup [.bool false]) :: env) (sto s L))
  (h1 : ∀ l₁ k v l₂, left = l₁ ++ (k, v) :: l₂ → Ok s ((.own m, .ranged es i (l₁ ++ l₂) (some (k, v))) :: R) → RL P N ops l Q ((d, .tup [.bool true, k, v]) :: env) (sto s ((.own m, .ranged es i (l₁ ++ l₂) (some (k, v))) :: R))) : RL P N ops (o :: l) Q env (sto s L) := by
 refine RL.op hg hd hN (OW.nextM ho hx (hs.get hok) (hi.get hok) (X := fun _ _ => False)) ?_ (fun _ _ h => h.elim)
 rintro r s' (⟨hl, rfl, rfl⟩ | ⟨l₁, k, v, l₂, hl, rfl, rfl⟩)
 ·exact h0 hl
 ·obtain ⟨e1, e2⟩ := hs.put (.ranged es i (l₁ ++ l₂) (some (k, v))) hok
  rw [e1]; exact h1 l₁ k v l₂ hl e2
theorem RL.entryML (hok : Ok s L) {x : Operand} {m i : Nat} {es left : List (AV × AV)} {k v : AV} (hg : guardOf ops env o = some true) (hd : o.dst = some d) (hN : Nat.blt d N = true) (ho : o.op = .entry x) (hx : ev env x = some (.ptr i 0))
  (hs : Sel L (.own m) (.ranged es i left (some (k, v))) R) (h : RL P N ops l Q ((d, .tup [k, v]) :: env) (sto s L)) : RL P N ops (o :: l) Q env (sto s L) :=
 RL.op hg hd hN (OW.entryM ho hx (hs.get hok) (X := fun _ _ => False)) (fun x s' ⟨h1, h2⟩ => by subst h1; subst h2; exact h) (fun _ _ h => h.elim)
end
end Go.AE

/- slices.Sort over strings: its contract, laid at this program (printed by sortlays.py). -/
namespace Go.Proofs.YtaafacnoddjhgaaGreat
open Go.Shelf Go.Sort Go.Proofs

def sortRen : Go.Shelf.Ren := ⟨fun | 190 => 43 | 125 => 83 | 258 => 82 | 128 => 125 | 129 => 126 | 302 => 116 | 303 => 117 | 304 => 118 | 305 => 119 | 306 => 120 | 307 => 121 | 308 => 122 | 309 => 123 | 310 => 124 | 333 => 141 | 329 => 142 | 330 => 143 | 334 => 144 | 335 => 145 | 336 => 146 | 344 => 150 | n => n, fun | 31 => 38 | 9 => 9 | 3 => 3 | 46 => 130 | 0 => 0 | 51 => 183 | 53 => 185 | 4 => 4 | 183 => 176 | 182 => 175 | 131 => 81 | 5 => 5 | 218 => 204 | 222 => 97 | 228 => 209 | 229 => 210 | n => n, fun n => n⟩
theorem sortLays : Lays.n190 Tryz.prog sortRen where
 mixed := by kernel_rfl
 f125 := Tryz.func83.trans (congrArg some (by kernel_rfl))
 f128 := Tryz.func125.trans (congrArg some (by kernel_rfl))
 f129 := Tryz.func126.trans (congrArg some (by kernel_rfl))
 f190 := Tryz.func43.trans (congrArg some (by kernel_rfl))
 f258 := Tryz.func82.trans (congrArg some (by kernel_rfl))
 f302 := Tryz.func116.trans (congrArg some (by kernel_rfl))
 f303 := Tryz.func117.trans (congrArg some (by kernel_rfl))
 f304 := Tryz.func118.trans (congrArg some (by kernel_rfl))
 f305 := Tryz.func119.trans (congrArg some (by kernel_rfl))
 f306 := Tryz.func120.trans (congrArg some (by kernel_rfl))
 f307 := Tryz.func121.trans (congrArg some (by kernel_rfl))
 f308 := Tryz.func122.trans (congrArg some (by kernel_rfl))
 f309 := Tryz.func123.trans (congrArg some (by kernel_rfl))
 f310 := Tryz.func124.trans (congrArg some (by kernel_rfl))
 f329 := Tryz.func142.trans (congrArg some (by kernel_rfl))
 f330 := Tryz.func143.trans (congrArg some (by kernel_rfl))
 f333 := Tryz.func141.trans (congrArg some (by kernel_rfl))
 f334 := Tryz.func144.trans (congrArg some (by kernel_rfl))
 f335 := Tryz.func145.trans (congrArg some (by kernel_rfl))
 f336 := Tryz.func146.trans (congrArg some (by kernel_rfl))
 f344 := Tryz.func150.trans (congrArg some (by kernel_rfl))
 t0 := Tryz.underlying0
 a0 := Tryz.isAgg0
 z0 := Tryz.sizeOf0
 v0 := Tryz.zeroValue0
 t3 := Tryz.underlying3
 a3 := Tryz.isAgg3
 z3 := Tryz.sizeOf3
 v3 := Tryz.zeroValue3
 t4 := Tryz.underlying4
 a4 := Tryz.isAgg4
 z4 := Tryz.sizeOf4
 v4 := Tryz.zeroValue4
 t5 := Tryz.underlying5
 a5 := Tryz.isAgg5
 z5 := Tryz.sizeOf5
 v5 := Tryz.zeroValue5
 t9 := Tryz.underlying9
 a9 := Tryz.isAgg9
 z9 := Tryz.sizeOf9
 v9 := Tryz.zeroValue9
 t31 := Tryz.underlying38
 a31 := Tryz.isAgg38
 z31 := Tryz.sizeOf38
 v31 := Tryz.zeroValue38
 t46 := Tryz.underlying130
 a46 := Tryz.isAgg130
 z46 := Tryz.sizeOf130
 v46 := Tryz.zeroValue130
 t51 := Tryz.underlying183
 a51 := Tryz.isAgg183
 z51 := Tryz.sizeOf183
 v51 := Tryz.zeroValue183
 t53 := Tryz.underlying185
 a53 := Tryz.isAgg185
 z53 := Tryz.sizeOf185
 v53 := Tryz.zeroValue185
 t131 := Tryz.underlying81
 a131 := Tryz.isAgg81
 z131 := Tryz.sizeOf81
 v131 := Tryz.zeroValue81
 t182 := Tryz.underlying175
 a182 := Tryz.isAgg175
 z182 := Tryz.sizeOf175
 v182 := Tryz.zeroValue175
 t183 := Tryz.underlying176
 a183 := Tryz.isAgg176
 z183 := Tryz.sizeOf176
 v183 := Tryz.zeroValue176
 t218 := Tryz.underlying204
 a218 := Tryz.isAgg204
 z218 := Tryz.sizeOf204
 v218 := Tryz.zeroValue204
 t222 := Tryz.underlying97
 a222 := Tryz.isAgg97
 z222 := Tryz.sizeOf97
 v222 := Tryz.zeroValue97
 t228 := Tryz.underlying209
 a228 := Tryz.isAgg209
 z228 := Tryz.sizeOf209
 v228 := Tryz.zeroValue209
 t229 := Tryz.underlying210
 a229 := Tryz.isAgg210
 z229 := Tryz.sizeOf210
 v229 := Tryz.zeroValue210

theorem sort_calls (blk off cap : Nat) (ss : List (List UInt8)) (w : World) (hH : Holds encStr w blk off ss.toArray) (hblk : blk < w.heap.size) (hsz : ss.length < 4611686018427387904) :
  Calls Tryz.prog 43 #[.slice (some ⟨blk, off, none⟩) ss.length cap] w fun e w' =>
   e = .returned (.tuple #[]) ∧ ∃ n os, w' = grow (putRow encStr (Sort.ahead w n) blk off (ss.mergeSort fun x y => decide (x ≤ y)).toArray) os :=
 Any.slices_Sort_string sortLays blk off cap ss w hH hblk hsz
end Go.Proofs.YtaafacnoddjhgaaGreat

/- Contracts of 'shape' and of the reference: Free; the law FormFrees. -/
namespace Go.Proofs.YtaafacnoddjhgaaGreat
open Go.AE

/-! ### The keys of a set, sorted -/
theorem le_iff (a b : Str) : decide (a ≤ b) = !(Op.bytesLess b a) := by
 rw [bytesLess_eq]
 by_cases h : b < a
 ·simp [h, List.not_le.2 h]
 ·simp [h, List.not_lt.1 h]
theorem mergeSort_sortS {l : List Str} (hnd : l.Nodup) : (l.mergeSort fun x y => decide (x ≤ y)) = sortS l := by
 refine ordered_eq ?_ (sortS_ordered l) fun z => by rw [List.mem_mergeSort, mem_sortS]
 have h1 := List.pairwise_mergeSort (le := fun x y : Str => decide (x ≤ y)) (fun a b c h1 h2 => by
  rw [le_iff, Bool.not_eq_true'] at h1 h2 ⊢
  cases h3 : Op.bytesLess c a with
  | false => rfl
  | true =>
   by_cases e : a = b
   ·subst e; rw [h3] at h2; cases h2
   ·have := less_trans h3 (less_total h1 (Ne.symm e)); rw [this] at h2; cases h2) (fun a b => by
  rw [le_iff, le_iff]
  cases h : Op.bytesLess b a with
  | false => rfl
  | true => rw [less_asymm h]; rfl) l
 have h2 : (l.mergeSort fun x y => decide (x ≤ y)).Nodup := (List.mergeSort_perm l _).nodup_iff.2 hnd
 refine (h1.and h2).imp fun {a b} h => ?_
 obtain ⟨h3, h4⟩ := h
 rw [le_iff, Bool.not_eq_true'] at h3
 exact less_total h3 (Ne.symm h4)

theorem addAll_nodup {l : List Str} : ∀ {acc : List Str}, acc.Nodup → (addAll acc l).Nodup := by
 induction l with
 | nil => intro acc h; exact h
 | cons x l ih =>
  intro acc h
  refine ih ?_
  unfold insS
  split
  ·exact h
  ·rename_i hc
   rw [List.nodup_append]
   refine ⟨h, by simp, fun a ha b hb e => hc ?_⟩
   rw [List.mem_singleton] at hb
   rw [List.contains_iff_mem, ← hb, ← e]; exact ha
theorem frees_nodup (e : FExp) : e.frees.Nodup := addAll_nodup List.nodup_nil

theorem setA_split' {l : List Str} {l₁ l₂ : List (AV × AV)} {k v : AV} (h : setA l = l₁ ++ (k, v) :: l₂) : ∃ a w b, l = a ++ w :: b ∧ l₁ = setA a ∧ k = .str w ∧ v = .bool true ∧ l₂ = setA b := by
 induction l generalizing l₁ with
 | nil => cases l₁ <;> simp [setA] at h
 | cons x l ih =>
  cases l₁ with
  | nil =>
   simp only [setA, List.map_cons, List.nil_append, List.cons.injEq, Prod.mk.injEq] at h
   exact ⟨[], x, l, rfl, rfl, h.1.1.symm, h.1.2.symm, h.2.symm⟩
  | cons y l₁ =>
   simp only [setA, List.map_cons, List.cons_append, List.cons.injEq] at h
   obtain ⟨a, w, b, rfl, rfl, e1, e2, e3⟩ := ih h.2
   exact ⟨x :: a, w, b, rfl, by rw [← h.1]; rfl, e1, e2, e3⟩

/-! ### slices.Sort -/
theorem str_enc (w : World) (p : Prot) (v : Value) (a : List UInt8) (h : Rel w p v (.str a)) : v = encStr a := by
 cases h with
 | str b s h => subst h; rfl
theorem enc_str (w : World) (p : Prot) (a : List UInt8) : Rel w p (encStr a) (.str a) := .str _ _ rfl
theorem sortC (b cap : Nat) (l : List Str) (rest : List AV) (hl : l.length < 4611686018427387904) :
  LCalls Tryz.prog 43 [cslc b l.length cap] [(.own b, .box 9 (strs l ++ rest))] (fun o K => o = .ret (.tup []) ∧ K = [(.own b, .box 9 (strs (l.mergeSort fun x y => decide (x ≤ y)) ++ rest))]) :=
 LCalls.sort (α := List UInt8) (enc := encStr) (encA := AV.str) (le := fun x y => decide (x ≤ y)) call43 str_enc enc_str sort_calls b cap l rest hl

set_option maxRecDepth 10000 in
theorem sortNil_insert : PCalls Tryz.prog 116 [.slc 0 [] .nil, .int .i64 0, .int .i64 0] (.tup []) := by
 refine PCalls.of_CW tO call116 Tryz.func116 rfl rfl fun s hok => ?_
 repeat (first | (with_reducible first | apply CW.seq | apply aN | apply CW.block) | refine wR rfl ?_)
 refine CW.loopL hok (σ := Unit) (fun _ => [(2, .int .i64 0), (6, .int .i64 1)]) (fun _ => []) (fun _ => True) (fun _ => 0) () trivial (wE rfl) (by repeat (first | exact Sels.nil | (apply Sels.cons; · repeat (first | exact Sel.here | apply Sel.there)))) ?_
 rintro _ _ hok
 repeat (first | (with_reducible first | apply CW.seq | apply aN | apply aX | apply iH | apply CW.exit) | refine wR rfl ?_ | refine CW.condF rfl ?_)
 exact Fin.retP hok rfl aRfl
set_option maxRecDepth 10000 in
theorem sortNil_pdq (k : Int) : PCalls Tryz.prog 82 [.slc 0 [] .nil, .int .i64 0, .int .i64 0, .int .i64 k] (.tup []) := by
 refine PCalls.of_CW tO call82 Tryz.func82 rfl rfl fun s hok => ?_
 repeat (first | (with_reducible first | apply CW.seq | apply aN | apply CW.block) | refine wR rfl ?_)
 refine CW.loopL hok (σ := Unit) (fun _ => [(0, .slc 0 [] .nil), (1, .int .i64 0), (2, .int .i64 0)]) (fun _ => []) (fun _ => True) (fun _ => 0) () trivial (wE rfl) (by repeat (first | exact Sels.nil | (apply Sels.cons; · repeat (first | exact Sel.here | apply Sel.there)))) ?_
 rintro _ _ hok
 repeat (first | (with_reducible first | apply CW.seq | apply aN | apply CW.block) | refine wR rfl ?_ | refine CW.reg ?_ | refine CW.condT rfl ?_ | refine wS rfl ?_)
 refine RL.callPP rfl rfl rfl rfl rfl sortNil_insert ?_
 repeat (first | (with_reducible first | apply aN | apply aR | apply iR | apply CW.ret) | refine RL.nil ?_)
 exact Fin.retP hok rfl aRfl
set_option maxRecDepth 10000 in
theorem len64_0 : PCalls Tryz.prog 126 [.int .u64 0] (.int .i64 0) := by
 refine PCalls.of_CW tO call126 Tryz.func126 rfl rfl fun s hok => ?_
 repeat (first | (with_reducible first | apply CW.seq | apply aN | apply CW.skip) | refine wR rfl ?_ | refine CW.reg ?_ | refine CW.condF rfl ?_ | refine wS rfl ?_ | refine RL.stepX tO rfl rfl rfl rfl ?_)
 refine RL.sidx tO 0 rfl rfl rfl rfl rfl rfl rfl rfl rfl rfl ?_
 repeat (first | (with_reducible first | apply aN | apply CW.ret) | refine RL.nil ?_ | refine wS rfl ?_ | refine RL.stepX tO rfl rfl rfl rfl ?_)
 exact Fin.retP hok rfl aRfl
set_option maxRecDepth 10000 in
theorem len_0 : PCalls Tryz.prog 83 [.int .u64 0] (.int .i64 0) := by
 refine PCalls.of_CW tO call83 Tryz.func83 rfl rfl fun s hok => ?_
 repeat (first | (with_reducible first | apply CW.seq | apply aN | apply CW.skip) | refine wR rfl ?_ | refine CW.reg ?_ | refine CW.condF rfl ?_ | refine wS rfl ?_)
 refine RL.callPP rfl rfl rfl rfl rfl len64_0 ?_
 repeat (first | (with_reducible first | apply aN | apply CW.ret) | refine RL.nil ?_ | refine wS rfl ?_)
 exact Fin.retP hok rfl aRfl
set_option maxRecDepth 10000 in
theorem sortNil : PCalls Tryz.prog 43 [.slc 0 [] .nil] (.tup []) := by
 refine PCalls.of_CW tO call43 Tryz.func43 rfl rfl fun s hok => ?_
 repeat (first | (with_reducible first | apply CW.seq | apply aN) | refine wR rfl ?_ | refine CW.reg ?_ | refine wS rfl ?_ | refine RL.stepX tO rfl rfl rfl rfl ?_)
 refine RL.callPP rfl rfl rfl rfl rfl len_0 ?_
 skip
 refine RL.callPP rfl rfl rfl rfl rfl (sortNil_pdq 0) ?_
 repeat (first | refine RL.nil ?_)
 exact Fin.retP hok rfl aRfl
end Go.Proofs.YtaafacnoddjhgaaGreat

/- Contracts of 'shape' and of the reference: Free; the law FormFrees. -/
namespace Go.Proofs.YtaafacnoddjhgaaGreat
open Go.AE

def rowAV (n : Nat) : Option (Nat × Nat × List AV) → AV
 | none => .slc 0 [] .nil
 | some q => cslc q.1 n q.2.1
def rowLS : Option (Nat × Nat × List AV) → LS
 | none => []
 | some q => [(.own q.1, .box 9 q.2.2)]
def RowC (xs : List Str) : Option (Nat × Nat × List AV) → Prop
 | none => xs = []
 | some q => q.2.2.length = q.2.1 ∧ xs.length ≤ q.2.1 ∧ q.2.2.take xs.length = strs xs
theorem strs_one (l : List Str) : (strs l).all oneC = true := by simp [strs, oneC]
theorem perm_mid {α : Type} (a b c : List α) (w : α) : (a ++ [w] ++ (b ++ c)).Perm (a ++ (b ++ w :: c)) := by
 have : (w :: (b ++ c)).Perm (b ++ w :: c) := List.perm_middle.symm
 simpa using List.Perm.append_left a this

set_option maxRecDepth 10000 in
set_option maxHeartbeats 2000000 in
theorem shapeFree_spec (e : FExp) (he : e.Fair) : PCalls Tryz.prog 12 [e.av] (.tup [.slc 1 (strs (if goodB e then sortS (e.looseR []) else [])) .fro, err (goodB e)]) := by
 have hb : big = 1099511627776 := rfl
 have hsz := he.size
 have g1 := fun s => good_spec e s he
 refine PCalls.of_CW tO call12 Tryz.func12 rfl rfl fun s hok => ?_
 cases hq : goodB e with
 | false =>
  rw [hq] at g1
  repeat (first | (with_reducible first | apply CW.seq | apply aN) | refine wR rfl ?_ | refine CW.reg ?_ | refine wS rfl ?_)
  refine RL.callP rfl rfl rfl rfl rfl (g1 _) ?_
  repeat (first | (with_reducible first | apply CW.seq | apply aN | apply aR | apply CW.ret) | refine wR rfl ?_ | refine RL.nil ?_ | refine CW.condT rfl ?_ | refine wS rfl ?_)
  exact Fin.retP hok rfl (AVle.tup (.cons (AVle.nil (by intro b h; cases h)) (AVleL.refl _)))
 | true =>
  rw [hq] at g1
  have hfl := frees_length e
  have hres : sortS e.frees = sortS (e.looseR []) := sortS_congr fun z => by rw [mem_frees, looseR_eq e [] [] (good_neat hq) (fun _ => Iff.rfl)]
  repeat (first | (with_reducible first | apply CW.seq | apply aN) | refine wR rfl ?_ | refine CW.reg ?_ | refine wS rfl ?_)
  refine RL.callP rfl rfl rfl rfl rfl (g1 _) ?_
  repeat (first | (with_reducible first | apply CW.seq | apply aN | apply CW.skip) | refine wR rfl ?_ | refine CW.reg ?_ | refine RL.nil ?_ | refine CW.condF rfl ?_ | refine wS rfl ?_)
  refine RL.call rfl rfl rfl rfl rfl (freeOf_spec e (sto s []) (by omega)) ?_ (fun _ _ ⟨_, _, h, _⟩ => by cases h)
  rintro _ _ ⟨mb, hmb, ⟨⟩, rfl⟩
  have hok : Ok s [(.own mb, .map (setA e.frees))] := ⟨hmb, trivial⟩
  show RL _ _ _ _ _ _ (sto s [(.own mb, .map (setA e.frees))])
  skip
  refine RL.rangeML tO hok rfl rfl rfl rfl rfl rfl rfl (by repeat (first | exact Sel.here | apply Sel.there)) (fun it hok => ?_)
  repeat (first | (with_reducible first | apply aN | apply CW.block) | refine RL.nil ?_)
  refine CW.loopL hok (σ := List Str × Option (AV × AV) × List Str × Option (Nat × Nat × List AV)) (fun q => [(11, .ptr it 0), (4, rowAV q.2.2.1.length q.2.2.2)])
   (fun q => [(.own it, .tick mb), (.own mb, .ranged (setA e.frees) it (setA q.1) q.2.1)] ++ rowLS q.2.2.2) (fun q => RowC q.2.2.1 q.2.2.2 ∧ (q.2.2.1 ++ q.1).Perm e.frees) (fun q => q.1.length) (e.frees, none, [], none) ⟨rfl, List.Perm.refl _⟩ (wE rfl) (by repeat (first | exact Sels.nil | (apply Sels.cons; · repeat (first | exact Sel.here | apply Sel.there)))) ?_
  rintro ⟨lf, cur, acc, row⟩ ⟨hrow, hperm⟩ hok
  simp only at hrow hperm hok ⊢
  have hal : acc.length ≤ e.size := by
   have := hperm.length_eq
   rw [List.length_append] at this; omega
  cases row with
  | none =>
   have hacc : acc = [] := hrow
   subst hacc
   repeat (first | with_reducible apply CW.seq | refine CW.reg ?_)
   refine RL.nextML hok rfl rfl rfl rfl rfl (by repeat (first | exact Sel.here | apply Sel.there)) (by repeat (first | exact Sel.here | apply Sel.there)) (fun hlf => ?_) (fun l₁ k v l₂ hlf hok => ?_)
   ·obtain rfl : lf = [] := by cases lf <;> simp_all [setA]
    have hfr : e.frees = [] := List.Perm.eq_nil (by simpa using hperm.symm)
    rw [hfr] at hres
    repeat (first | (with_reducible first | apply CW.seq | apply aN | apply aX | apply iH | apply CW.exit) | refine CW.reg ?_ | refine RL.nil ?_ | refine CW.condF rfl ?_ | refine wS rfl ?_)
    refine RL.callPP rfl rfl rfl rfl rfl sortNil ?_
    repeat (first | (with_reducible first | apply CW.seq | apply aN) | refine CW.reg ?_ | refine RL.nil ?_ | refine wS rfl ?_)
    refine RL.callP rfl rfl rfl rfl rfl (ACalls.weakArgs (.one (AVle.nil (by intro b h; cases h))) (clipStr_spec [] .nil _)) ?_
    repeat (first | (with_reducible first | apply aN | apply CW.ret) | refine RL.nil ?_ | refine wS rfl ?_)
    refine Fin.retP hok rfl (AVle.tup (.cons ?_ (AVleL.refl _)))
    simp only [if_true]; rw [← hres]; exact AVle.fro
   ·obtain ⟨a, w, c, rfl, rfl, rfl, rfl, rfl⟩ := setA_split' hlf
    repeat (first | (with_reducible first | apply CW.seq | apply aN | apply CW.skip | apply CW.block) | refine CW.reg ?_ | refine RL.nil ?_ | refine CW.condT rfl ?_ | refine wS rfl ?_)
    refine RL.entryML hok rfl rfl rfl rfl rfl (by repeat (first | exact Sel.here | apply Sel.there)) ?_
    repeat (first | with_reducible apply aN | refine CW.reg ?_ | refine RL.nil ?_ | refine wS rfl ?_)
    refine RL.append0C tO hok rfl rfl rfl rfl rfl rfl rfl (by intro k; simp) rfl rfl rfl rfl rfl rfl rfl (by decide) (fun b' cap' cs' c1 c2 c3 hok => ?_)
    repeat (first | (with_reducible first | apply aN | apply iN) | refine RL.nil ?_ | refine wS rfl ?_)
    refine NextL.mk (a ++ c, some (.str w, .bool true), [w], some (b', cap', cs')) hok ⟨⟨c1, c2, c3⟩, ?_⟩ (wE rfl) (by simp only [← setA_append]; repeat (first | exact Sels.nil | (apply Sels.cons; · repeat (first | exact Sel.here | apply Sel.there)))) (by simp <;> omega)
    exact (perm_mid [] a c w).trans hperm
  | some q =>
   obtain ⟨rb, cap, cs⟩ := q
   obtain ⟨k1, k2, k3⟩ := hrow
   simp only at k1 k2 k3
   repeat (first | with_reducible apply CW.seq | refine CW.reg ?_)
   refine RL.nextML hok rfl rfl rfl rfl rfl (by repeat (first | exact Sel.here | apply Sel.there)) (by repeat (first | exact Sel.here | apply Sel.there)) (fun hlf => ?_) (fun l₁ k v l₂ hlf hok => ?_)
   ·obtain rfl : lf = [] := by cases lf <;> simp_all [setA]
    rw [List.append_nil] at hperm
    have hnd : acc.Nodup := hperm.nodup_iff.2 (frees_nodup e)
    have hsort : (acc.mergeSort fun x y => decide (x ≤ y)) = sortS (e.looseR []) := by
     rw [mergeSort_sortS hnd, ← hres]; exact sortS_congr fun z => hperm.mem_iff
    have hcs : cs = strs acc ++ cs.drop acc.length := by rw [← k3, List.take_append_drop]
    generalize cs.drop acc.length = rest at hcs
    subst hcs
    have hms := List.length_mergeSort (le := fun x y : Str => decide (x ≤ y)) acc
    repeat (first | (with_reducible first | apply CW.seq | apply aN | apply aX | apply iH | apply CW.exit) | refine CW.reg ?_ | refine RL.nil ?_ | refine CW.condF rfl ?_ | refine wS rfl ?_)
    refine RL.callR rfl rfl rfl rfl rfl (sortC rb cap acc rest (by omega)) hok (by repeat (first | exact Sels.nil | (apply Sels.cons; · repeat (first | exact Sel.here | apply Sel.there)))) (fun hok => ?_)
    with_reducible apply RL.nil
    with_reducible apply aN
    refine CW.freezeC hok 4 rb rfl Sel.here ?_ k2 (by omega) ?_ (fun hok => ?_)
    ·rw [← k1]; simp [strs]
    ·rw [List.take_append_of_le_length (by rw [strs_length, hms]; exact Nat.le_refl _)]
     exact List.all_eq_true.2 fun x hx => List.all_eq_true.1 (strs_one _) x (List.mem_of_mem_take hx)
    rw [List.take_append_of_le_length (by rw [strs_length, hms]; exact Nat.le_refl _), List.take_of_length_le (by rw [strs_length, hms]; exact Nat.le_refl _), hsort]
    repeat (first | with_reducible apply CW.seq | refine CW.reg ?_ | refine wS rfl ?_)
    refine RL.callP rfl rfl rfl rfl rfl (clipStr_spec _ .fro _) ?_
    repeat (first | (with_reducible first | apply aN | apply CW.ret) | refine RL.nil ?_ | refine wS rfl ?_)
    exact Fin.retP hok rfl (AVle.tup (.cons AVle.fro (AVleL.refl _)))
   ·obtain ⟨a, w, c, rfl, rfl, rfl, rfl, rfl⟩ := setA_split' hlf
    repeat (first | (with_reducible first | apply CW.seq | apply aN | apply CW.skip | apply CW.block) | refine CW.reg ?_ | refine RL.nil ?_ | refine CW.condT rfl ?_ | refine wS rfl ?_)
    refine RL.entryML hok rfl rfl rfl rfl rfl (by repeat (first | exact Sel.here | apply Sel.there)) ?_
    repeat (first | with_reducible apply aN | refine CW.reg ?_ | refine RL.nil ?_ | refine wS rfl ?_)
    refine RL.appendC tO hok rfl rfl rfl rfl rfl rfl rfl (by intro k; simp) rfl rfl rfl rfl (by repeat (first | exact Sel.here | apply Sel.there)) k1 k2 (by rw [k3]; exact strs_one _) rfl rfl rfl (by show (_ + 1) * 16 ≤ _; omega) (by omega) (fun b' cap' cs' c1 c2 c3 hok => ?_)
    repeat (first | (with_reducible first | apply aN | apply iN) | refine RL.nil ?_ | refine wS rfl ?_)
    refine NextL.mk (a ++ c, some (.str w, .bool true), acc ++ [w], some (b', cap', cs')) hok ⟨⟨c1, by simpa using c2, ?_⟩, ?_⟩ (by repeat (first | exact trivial | refine ⟨⟨_, rfl, aRfl⟩, ?_⟩ | refine ⟨⟨_, rfl, AVle.of_eq (by simp [rowAV])⟩, ?_⟩)) (by simp only [← setA_append]; repeat (first | exact Sels.nil | (apply Sels.cons; · repeat (first | exact Sel.here | apply Sel.there)))) (by simp <;> omega)
    ·rw [List.length_append, List.length_singleton, c3, k3]; simp [strs]
    ·exact (perm_mid acc a c w).trans hperm
end Go.Proofs.YtaafacnoddjhgaaGreat

/- The law FormFrees: ref.Free, and the function of the law itself. -/
namespace Go.Proofs.YtaafacnoddjhgaaGreat
open Go.AE

set_option maxRecDepth 10000 in
theorem refFree_spec (e : FExp) (he : e.Fair) : PCalls Tryz.prog 13 [e.av] (.tup [.slc 1 (strs (if goodB e then sortS (e.looseR []) else [])) .fro, err (goodB e)]) := by
 have hsz := he.size
 have g1 := fun s => refFormed_spec e s he
 refine PCalls.of_CW tO call13 Tryz.func13 rfl rfl fun s hok => ?_
 cases hq : goodB e with
 | false =>
  rw [hq] at g1
  repeat (first | (with_reducible first | apply CW.seq | apply aN) | refine wR rfl ?_ | refine CW.reg ?_ | refine wS rfl ?_)
  refine RL.callP rfl rfl rfl rfl rfl (g1 _) ?_
  repeat (first | (with_reducible first | apply CW.seq | apply aN | apply aR | apply CW.ret) | refine wR rfl ?_ | refine RL.nil ?_ | refine CW.condT rfl ?_ | refine wS rfl ?_)
  exact Fin.retP hok rfl (AVle.tup (.cons (AVle.nil (by intro b h; cases h)) (AVleL.refl _)))
 | true =>
  rw [hq] at g1
  repeat (first | (with_reducible first | apply CW.seq | apply aN) | refine wR rfl ?_ | refine CW.reg ?_ | refine wS rfl ?_)
  refine RL.callP rfl rfl rfl rfl rfl (g1 _) ?_
  repeat (first | (with_reducible first | apply CW.seq | apply aN | apply CW.skip) | refine CW.reg ?_ | refine RL.nil ?_ | refine CW.condF rfl ?_ | refine wS rfl ?_)
  refine RL.callP rfl rfl rfl rfl rfl (refFreeOf_spec e _ hsz) ?_
  repeat (first | (with_reducible first | apply aN | apply CW.ret) | refine RL.nil ?_ | refine wS rfl ?_)
  exact Fin.retP hok rfl aRfl

theorem sortS_size (l : List Str) : (sortS l).length ≤ l.length := by
 have : ∀ (l out : List Str), (l.foldl insSo out).length ≤ out.length + l.length := by
  intro l
  induction l with
  | nil => intro out; simp
  | cons z l ih => intro out; have h1 := ih (insSo out z); have h2 := insSo_len out z; simp only [List.foldl_cons, List.length_cons]; omega
 have := this l []
 unfold sortS
 simpa using this

set_option maxRecDepth 10000 in
theorem formFrees_spec (e : FExp) (he : e.Fair) : PCalls Tryz.prog 5 [e.av] (.bool true) := by
 have hb : big = 1099511627776 := rfl
 have hsz := he.size
 have c1 := shapeFree_spec e he
 have c2 := refFree_spec e he
 have hlen : (if goodB e then sortS (e.looseR []) else []).length < 9223372036854775807 := by
  have h1 := sortS_size (e.looseR [])
  have h2 := looseR_len e []
  split
  ·omega
  ·simp
 generalize (if goodB e then sortS (e.looseR []) else []) = l at c1 c2 hlen
 have c3 := fun s => sameTexts_spec l l .fro .fro s hlen
 rw [beq_self_eq_true] at c3
 refine PCalls.of_CW tO call5 Tryz.func5 rfl rfl fun s hok => ?_
 cases hq : goodB e
 all_goals
  rw [hq] at c1 c2
  repeat (first | (with_reducible first | apply CW.seq | apply aN) | refine wR rfl ?_ | refine CW.reg ?_ | refine wS rfl ?_)
 all_goals
  refine RL.callPP rfl rfl rfl rfl rfl c1 ?_
  repeat (first | (with_reducible first | apply CW.seq | apply aN) | refine CW.reg ?_ | refine RL.nil ?_ | refine wS rfl ?_)
 all_goals
  refine RL.callPP rfl rfl rfl rfl rfl c2 ?_
  repeat (first | (with_reducible first | apply CW.seq | apply aN) | refine CW.reg ?_ | refine RL.nil ?_ | refine wS rfl ?_)
 all_goals
  refine RL.callP rfl rfl rfl rfl rfl (c3 _) ?_
  repeat (first | refine wS rfl ?_)
 all_goals
  refine RL.callP rfl rfl rfl rfl rfl (known_true _) ?_
  repeat (first | (with_reducible first | apply aN | apply CW.ret) | refine RL.nil ?_ | refine wS rfl ?_)
 all_goals exact Fin.retP hok rfl aRfl
end Go.Proofs.YtaafacnoddjhgaaGreat

/- The law FormFrees, closed: it returns true for every input of bulk at most 2^20. -/
namespace Go.Proofs.YtaafacnoddjhgaaGreat
open Go.AE Go.ChangeShapes Go.WideShapes Go.ChangeAt Go.RowKit

namespace formFrees

theorem own : ownKnob Tryz.prog.godebug = none := by kernel_rfl

set_option maxRecDepth 100000 in
theorem contract (H : Type) (enc : TypeId × Value → H) (W : World) (base : Nat) (args : Array Value) (ds gs : List (DataW H)) (before : List MemPlace)
    (hval : ∀ (j : Nat) t v, Tryz.f5.params[j]? = some t → args[j]? = some v → Value.okWide Tryz.prog W .any base t v)
    (hW : DataW.Whole enc Tryz.prog Tryz.f5.params.toList Rows.formFreesSpec.vars false W args.toList ds gs before) (hk : Rows.uptoSmall H (ds ++ gs) = true) :
    Calls Tryz.prog 5 args W fun e W' => ∃ v, e = .returned v ∧ Rows.formFreesSpec.post enc Tryz.prog Tryz.f5 false true false false W args v W' := by
  have hW' := hW
  obtain ⟨p, q, hA0, hV, rfl, hfz, hnd⟩ := hW
  have hA : DataW.TrodAll enc Tryz.prog W 0 (fun _ => true) true Tryz.f5.params.toList args.toList ds p := hA0
  rw [Tryz.params5] at hA hval
  obtain ⟨v0, vs0, d0, ds0, p0, q0, hargs, rfl, rfl, h0, r0⟩ := trodAll_cons hA
  obtain ⟨rfl, rfl, rfl⟩ := trodAll_nil r0
  obtain rfl : args = #[v0] := by cases args; simp_all
  obtain ⟨n0, h0⟩ := h0
  obtain ⟨x0, g0, b0⟩ := trod_exp _ _ _ h0
  have hb : Rows.uptoBulkAll ([d0] ++ gs) ≤ 1048576 := of_decide_eq_true hk
  simp only [List.cons_append, List.nil_append, Rows.uptoBulkAll] at hb
  simp only at b0
  have hw0 : x0.weight ≤ 1048576 := by omega
  have hr0 := rel_agg (val_agg Tryz.underlying27 (hval 0 27 v0 rfl rfl)) g0
  exact close_true laidOut (by rw [Tryz.params5]; decide +kernel) rfl rfl (fun hg => by subst hg; rfl) hW'
    (.cons _ _ _ _ hr0 .nil)
    (formFrees_spec x0 (exp_fair hw0) _)

set_option maxRecDepth 100000 in
theorem lifted (os : Os) (started : os.Started) (H : Type) (enc : TypeId × Value → H) (F : Stop.Interp) :
    ReturnsInHanded {} Tryz.checked os 5 .any ((Rows.OpenSpec.upto Rows.formFreesSpec).pre6 enc Tryz.prog Tryz.f5 Rows.formFreesUptoRow.domain false) (((Rows.OpenSpec.upto Rows.formFreesSpec).at F).post enc Tryz.prog Tryz.f5 false true false false) := by
  refine returnsInHanded_of_cond (C := Tryz.checked) (s := Rows.OpenSpec.upto Rows.formFreesSpec) (k := Rows.uptoSmall) rfl own started (by kernel_rfl) Tryz.func5
    (OpenSpec.witness (enc := enc) (C := Tryz.checked) (s := Rows.OpenSpec.upto Rows.formFreesSpec) (k := Rows.uptoSmall) rfl false ⟨#[], #[.agg #[.int .i64 0, .int .i64 0, .string ByteArray.empty, .slice none 0 0]], []⟩ 8 (by kernel_rfl) (by kernel_rfl) (by kernel_rfl)
      (x := ([.agg [.lit (.int .i64 0), .lit (.int .i64 0), .lit (.string []), .nil]], [], [])) (by kernel_rfl) rfl (by kernel_rfl)) ?_
  intro W base args ds gs before hval hW _ hk _
  exact contract H enc W base args ds gs before hval hW hk

theorem over : Rows.formFreesUptoRow.holds Tryz.pinned (Rows.OpenSpec.upto Rows.formFreesSpec) :=
  OpenClaim.holds_of_cond 5 Tryz.f5 rfl rfl rfl rfl rfl rfl rfl ⟨rfl, rfl, rfl, rfl, rfl⟩ rfl rfl rfl rfl rfl (by kernel_rfl) Tryz.func5 (by kernel_rfl)
    (of_decide_eq_true (by kernel_rfl)) (by unfold Func.isWrapper; first | (rw [if_pos (by decide +kernel)]; kernel_rfl) | (rw [if_neg (by decide +kernel)]; exact ⟨rfl, rfl⟩))
    (fun os started H enc _ F => lifted os started H enc F)

theorem proved : Rows.FormFreesUptoSaid :=
 over
end formFrees
end Go.Proofs.YtaafacnoddjhgaaGreat

