import Derived.Test.YtdeiinhccdlfiaaGreatVa
import Derived.Laws.IdiomRangeMap
set_option linter.unusedVariables false
set_option linter.unusedSimpArgs false
/- The abstract walk: the canonical walk of a region whose order is drawn is right for all orders; how it is used. -/
namespace Go.AE

section
variable {J : Store → Prop} {P : Program} {Γ : Tys} {N : Nat} {ops : Array Oper} {Q : AEx → Env → Store → Prop}

def leftOver (listed : Array Bool) (n : Nat) : Nat := (List.range n).countP fun i => !listedB listed n i

theorem leftOver_set {listed : Array Bool} {i : Nat} (hi : i < ops.size) (hsz : listed.size = ops.size) (hl : listedB listed ops.size i = false) :
  leftOver (listed.setIfInBounds i true) ops.size + 1 = leftOver listed ops.size := by
 unfold leftOver
 rw [listedB_set hi hsz]
 have key : ∀ l : List Nat, l.Nodup → i ∈ l → l.countP (fun j => !also (listedB listed ops.size) i j) + 1 = l.countP (fun j => !listedB listed ops.size j) := by
  intro l
  induction l with
  | nil => intro _ h; cases h
  | cons x l ih =>
   intro hn hm
   have hn' := List.nodup_cons.1 hn
   simp only [List.countP_cons]
   by_cases e : x = i
   ·subst e
    have : l.countP (fun j => !also (listedB listed ops.size) x j) = l.countP (fun j => !listedB listed ops.size j) := by
     apply List.countP_congr
     intro y hy
     have hne : y ≠ x := fun e => hn'.1 (e ▸ hy)
     rw [also_ne _ hne]
    rw [this, also_same, hl]; simp
   ·have hm' : i ∈ l := by rcases List.mem_cons.1 hm with h | h; exact absurd h.symm e; exact h
    have := ih hn'.2 hm'
    rw [also_ne _ e]
    omega
 exact key _ List.nodup_range (List.mem_range.2 hi)

theorem all_of_leftOver {listed : Array Bool} (h : leftOver listed ops.size = 0) : ∀ i, i < ops.size → listedB listed ops.size i = true := by
 intro i hi
 unfold leftOver at h
 rw [List.countP_eq_zero] at h
 have := h i (List.mem_range.2 hi)
 simpa using this

theorem cops_cons {Q : CEx → Act → World → Prop} {i : Nat} {rest : List Nat} {o : Oper} (ho : ops[i]? = some o) (a : Act) (w : World) :
  cops P ops Q (i :: rest) a w = (if Region.wanted o (yielded ops a.tmps) = true then noDefer o = true ∧ ResDoes P ((execOp a.eval o).run P w) (fun e w' => match e with
   | .returned v => cops P ops Q rest (a.put o.dst v) w'
   | .panicked ch => Q (.panic ch) a w'
   | .outgrown => False) else cops P ops Q rest (a.put o.dst undef) w) := by
 simp only [cops, ho]
 split
 ·exact propext ⟨fun h => ⟨h.1, h.2.mono fun e w' h => by cases e <;> exact h⟩, fun h => ⟨h.1, h.2.mono fun e w' h => by cases e <;> exact h⟩⟩
 ·rfl

theorem go_cons (fuel t : Nat) (listed : Array Bool) :
  (Region.ready .any ops listed = [] ∧ Region.linearise.go .any ops (fuel + 1) t listed [] = []) ∨
  ∃ i ∈ Region.ready .any ops listed, ∃ t', Region.linearise.go .any ops (fuel + 1) t listed [] = i :: Region.linearise.go .any ops fuel t' (listed.setIfInBounds i true) [] := by
 simp only [Region.linearise.go]
 change (Region.ready .any ops listed = [] ∧ (match (Region.ready .any ops listed)[t % (Region.ready .any ops listed).length]? with
   | some i => Region.linearise.go .any ops fuel (t / (Region.ready .any ops listed).length) (listed.setIfInBounds i true) [i]
   | none => [].reverse) = []) ∨ ∃ i ∈ Region.ready .any ops listed, ∃ t', (match (Region.ready .any ops listed)[t % (Region.ready .any ops listed).length]? with
   | some i => Region.linearise.go .any ops fuel (t / (Region.ready .any ops listed).length) (listed.setIfInBounds i true) [i]
   | none => [].reverse) = i :: Region.linearise.go .any ops fuel t' (listed.setIfInBounds i true) []
 cases hi : (Region.ready .any ops listed)[t % (Region.ready .any ops listed).length]? with
 | none =>
  have hnil : Region.ready .any ops listed = [] := by
   cases hr : Region.ready .any ops listed with
   | nil => rfl
   | cons x xs =>
    rw [hr] at hi
    have hlt : t % (x :: xs).length < (x :: xs).length := Nat.mod_lt _ (by simp)
    simp at hi
    simp at hlt
    omega
  exact .inl ⟨hnil, rfl⟩
 | some i =>
  refine .inr ⟨i, List.mem_of_getElem? hi, t / (Region.ready .any ops listed).length, ?_⟩
  simp only []
  rw [linearise_go_acc]
  rfl

theorem Sim.post {B : Base} {ro : Option Nat} {D L : Nat → Bool} {V : Nat → AV} {E : Nat → Env} {env : Env} {s : Store} {a : Act} {w : World} {p : Prot}
  (h : Sim J P Γ N B ro ops D L V E env s a w p) (hL : ∀ i, i < ops.size → L i = true) : St N B ro env s a w p :=
 h.st.restrict _ fun t v hv => by
  rcases h.known t v hv with ⟨k, u, h1, h2, h3, -⟩ | hrel
  ·have := hL k (h.bound k h1); rw [h2] at this; cases this
  ·exact hrel

theorem RJ.sound (hΓ : TysOk P Γ) (hO : Orderly ops) {D : Nat → Bool} {env : Env} {s : Store} (h : RJ J P Γ N ops Q D env s) : ∀ (fuel t : Nat) (listed : Array Bool) (B : Base) (ro : Option Nat) (V : Nat → AV) (E : Nat → Env) (a : Act) (w : World) (p : Prot),
  listed.size = ops.size → leftOver listed ops.size ≤ fuel → Sim J P Γ N B ro ops D (listedB listed ops.size) V E env s a w p →
  cops P ops (Post N B ro s w p Q) (Region.linearise.go .any ops fuel t listed []) a w := by
 -- an operation that is done canonically and not yet by the run
 have pending : ∀ {D : Nat → Bool} {env : Env} {s : Store} (fuel : Nat),
   (∀ (t : Nat) (listed : Array Bool) (B : Base) (ro : Option Nat) (V : Nat → AV) (E : Nat → Env) (a : Act) (w : World) (p : Prot), listed.size = ops.size → leftOver listed ops.size ≤ fuel →
    Sim J P Γ N B ro ops D (listedB listed ops.size) V E env s a w p → cops P ops (Post N B ro s w p Q) (Region.linearise.go .any ops fuel t listed []) a w) →
   ∀ (t' : Nat) (listed : Array Bool) (B : Base) (ro : Option Nat) (V : Nat → AV) (E : Nat → Env) (a : Act) (w : World) (p : Prot) (i : Nat), listed.size = ops.size → leftOver listed ops.size ≤ fuel + 1 →
    Sim J P Γ N B ro ops D (listedB listed ops.size) V E env s a w p → i ∈ Region.ready .any ops listed → D i = true →
    cops P ops (Post N B ro s w p Q) (i :: Region.linearise.go .any ops fuel t' (listed.setIfInBounds i true) []) a w := by
  intro D env s fuel ih t' listed B ro V E a w p i hsz hleft hsim hi hD
  have hr := mem_ready hO.back hi
  obtain ⟨o, ho⟩ : ∃ o, ops[i]? = some o := ⟨_, Array.getElem?_eq_getElem hr.1⟩
  obtain ⟨d, hd, hdN, henv, hstill, hE⟩ := hsim.pend i _ hD hr.2.1 ho
  have hst : St N B ro (E i) s a w p := hsim.st.restrict _ fun t v hv => by
   obtain ⟨-, -, f3⟩ := hE t v hv
   exact f3 fun k u hk hkd hanc => by
    have := (hsim.cL.also hr).anc (also_same (listedB listed ops.size) i) hanc
    have hne : k ≠ i := fun e => by
     subst e
     rw [ho] at hk; cases hk
     rw [hd] at hkd; cases hkd
     exact hO.own _ _ _ ho hd (hE _ _ hv).1
    rwa [also_ne _ hne] at this
  rw [cops_cons ho]
  have hJ : J s := hsim.inv.elim (fun q => by have := q i hD; rw [hr.2.1] at this; cases this) id
  refine still_run hΓ hd hst hJ hstill (R := fun e w' => match e with | .panicked ch => Post N B ro s w p Q (.panic ch) a w' | _ => False) ?_
  intro val w' p' hrel hle hk hwf
  have hsim' := hsim.catchUp hO hr hD ho hd hle hk hwf hrel
  rw [← listedB_set hr.1 hsz] at hsim'
  have hleft' := leftOver_set hr.1 hsz hr.2.1
  refine cops_mono (fun _ _ _ (q : Post N B ro s w' p' Q _ _ _) => q.after hle hk) _ _ _ (ih t' _ B ro V E _ w' p' (by simpa using hsz) (by omega) hsim')
 induction h with
 | @congr D env s e he h ih =>
  intro fuel t listed B ro V E a w p hsz hleft hsim
  refine ih fuel t listed B ro V E a w p hsz hleft ⟨hsim.sub, hsim.cD, hsim.cL, hsim.st, fun t v hv => hsim.known t v ((he t).symm.trans hv), fun i o h1 h2 h3 => ?_, hsim.bound, hsim.inv⟩
  obtain ⟨d, q1, q2, q3, q4⟩ := hsim.pend i o h1 h2 h3
  exact ⟨d, q1, q2, (he d).trans q3, q4⟩
 | @fin D env s hD hq =>
  intro fuel
  induction fuel with
  | zero =>
   intro t listed B ro V E a w p hsz hleft hsim
   have hall := all_of_leftOver (ops := ops) (listed := listed) (by omega)
   exact .here .normal hq (hsim.post hall)
  | succ fuel ih =>
   intro t listed B ro V E a w p hsz hleft hsim
   rcases go_cons (ops := ops) fuel t listed with ⟨hn, hg⟩ | ⟨i, hi, t', hg⟩
   ·rw [hg]
    exact .here .normal hq (hsim.post (ready_ne_nil hO.back hn hsz))
   ·rw [hg]
    exact pending fuel ih t' listed B ro V E a w p i hsz hleft hsim hi (hD i (mem_ready hO.back hi).1)
 | @still D env s hJ i o d v hr ho hd hN hv h ih =>
  intro fuel t listed B ro V E a w p hsz hleft hsim
  exact ih fuel t listed B ro _ _ a w p hsz hleft (hsim.ahead hO hr ho hd hN hJ hv)
 | @split D env s K X hne hg hj hk hkn hx ihk ihkn =>
  intro fuel
  induction fuel with
  | zero =>
   intro t listed B ro V E a w p hsz hleft hsim
   have hall := all_of_leftOver (ops := ops) (listed := listed) (by omega)
   obtain ⟨j, hj, hjD⟩ := hne
   have := hsim.sub j (hall j hj)
   rw [hjD] at this; cases this
  | succ fuel ih =>
   intro t listed B ro V E a w p hsz hleft hsim
   rcases go_cons (ops := ops) fuel t listed with ⟨hn, hgo⟩ | ⟨i, hi, t', hgo⟩
   ·obtain ⟨j, hj, hjD⟩ := hne
    have := hsim.sub j (ready_ne_nil hO.back hn hsz j hj)
    rw [hjD] at this; cases this
   ·rw [hgo]
    cases hD : D i with
    | true => exact pending fuel ih t' listed B ro V E a w p i hsz hleft hsim hi hD
    | false =>
     have hr := mem_ready hO.back hi
     obtain ⟨o, ho⟩ : ∃ o, ops[i]? = some o := ⟨_, Array.getElem?_eq_getElem hr.1⟩
     obtain ⟨hrD, hst⟩ := hsim.ready hO hr hD ho
     obtain ⟨hgd, how, hdN⟩ := hg i _ hrD ho
     have hleft' := leftOver_set hr.1 hsz hr.2.1
     rw [cops_cons ho, if_pos (guardOf_ok hst hgd)]
     refine ⟨how.1, (how.2 ro B a w p hst).mono ?_⟩
     rintro e w' ⟨s', p', hle, hkk, hwf, he⟩
     cases e with
     | returned val =>
      obtain ⟨x, hK, hrel⟩ := he
      have hsim' := hsim.both hO hr hrD ho hdN hle hkk hwf hrel (hj i _ hrD ho x s' hK)
      rw [← listedB_set hr.1 hsz] at hsim'
      refine cops_mono (fun _ _ _ (q : Post N B ro s' w' p' Q _ _ _) => q.after hle hkk) _ _ _ ?_
      cases hd : o.dst with
      | none =>
       rw [hd] at hsim'
       exact ihkn i _ hrD ho hd x s' hK fuel t' _ B ro V E _ w' p' (by simpa using hsz) (by omega) hsim'
      | some d =>
       rw [hd] at hsim'
       exact ihk i _ d hrD ho hd x s' hK fuel t' _ B ro V E _ w' p' (by simpa using hsz) (by omega) hsim'
     | panicked ch =>
      obtain ⟨v, x, hch, hX, hrel⟩ := he
      exact ⟨.panic x, [], s', p', .panic v x _ hch hrel, hx i _ hrD ho x s' hX, hsim.st.step hle hkk hwf, hle, hkk⟩
     | outgrown => exact he

theorem leftOver_none (ops : Array Oper) : leftOver (Array.replicate ops.size false) ops.size ≤ ops.size := by
 unfold leftOver
 have := List.countP_le_length (p := fun i => !listedB (Array.replicate ops.size false) ops.size i) (l := List.range ops.size)
 simpa using this

theorem CW.draw (hΓ : TysOk P Γ) (hm : P.follows .mixedOrders = true) {id : Nat} (hO : Orderly ops) {env : Env} {s : Store} (h : RJ J P Γ N ops Q (fun _ => false) env s) : CW P N (.region id ops true) Q env s := by
 intro b B a w p _ hst
 refine cwp_region_draw fun t => ?_
 simp only [Region.schedule, hm, Bool.true_or, if_true]
 have hst' : St N B b.roundOf env s a w.drew p := hst.step drew_le drew_kept (drew_wf hst.wf)
 have hfalse : listedB (Array.replicate ops.size false) ops.size = fun _ => false := by
  funext i
  unfold listedB
  by_cases hi : i < ops.size
  ·simp [hi]
  ·simp [hi]
 have hsim : Sim J P Γ N B b.roundOf ops (fun _ => false) (listedB (Array.replicate ops.size false) ops.size) (fun _ => .any) (fun _ => []) env s a w.drew p := by
  rw [hfalse]
  exact ⟨fun i h => h, fun i j h => (by cases h), fun i j h => (by cases h), hst'.restrict [] (by simp [Env.get?]), fun t v hv => .inr (hst'.env t v hv), fun i o h => (by cases h), fun i h => (by cases h), .inl fun i h => (by cases h)⟩
 have := RJ.sound hΓ hO h ops.size t (Array.replicate ops.size false) B b.roundOf _ _ a w.drew p (by simp) (leftOver_none ops) hsim
 exact cops_mono (fun _ _ _ (q : Post N B b.roundOf s w.drew p Q _ _ _) => q.after drew_le drew_kept) _ _ _ this
end

/-! ### That a region is orderly, by reckoning -/

def depsOf (o : Oper) : List Nat := o.after.toList.filterMap fun e => if Region.binds .any e then some e.on else none

def nthD (l : List Nat) (i : Nat) : Nat := match nth l i with | some x => x | none => 0

def maskOf (acc : List Nat) : List Nat → Nat
 | [] => 0
 | j :: js => (2 ^ j ||| nthD acc j) ||| maskOf acc js

def masks : List Oper → List Nat → List Nat
  | [], acc => acc
  | o :: r, acc => match maskOf acc (depsOf o) with
    | 0 => masks r (acc ++ [0])
    | m + 1 => masks r (acc ++ [m + 1])

def confB (ops : Array Oper) (x y : Oper) : Bool :=
 (match x.dst with | some d => (looks ops y).contains d | none => false) || (match y.dst with | some d => (looks ops x).contains d | none => false)

def orderlyB (ops : Array Oper) : Bool :=
  let ms := masks ops.toList []
  (List.range ops.size).all fun j => match ops[j]? with
    | none => false
    | some y => (depsOf y).all (fun k => Nat.blt k j) && (match y.dst with | some d => !(looks ops y).contains d | none => true) &&
      (List.range j).all fun i => match ops[i]? with
        | none => false
        | some x => (match x.dst, y.dst with | some d, some d' => !Nat.beq d d' | _, _ => true) && (!confB ops x y || (nthD ms j).testBit i)

theorem mem_depsOf {ops : Array Oper} {i j : Nat} {o : Oper} (ho : ops[i]? = some o) : j ∈ depsOf o ↔ Dep ops i j := by
 unfold depsOf Dep
 simp only [List.mem_filterMap, Array.mem_toList_iff]
 constructor
 ·rintro ⟨e, he, h⟩
  split at h
  ·cases h; exact ⟨o, e, ho, he, ‹_›, rfl⟩
  ·cases h
 ·rintro ⟨o', e, ho', he, hb, rfl⟩
  rw [ho] at ho'; cases ho'
  exact ⟨e, he, by simp [hb]⟩

theorem maskOf_ok {ops : Array Oper} {acc : List Nat} {k : Nat} (hacc : ∀ i j, (nthD acc i).testBit j = true → Anc ops i j) : ∀ (js : List Nat), (∀ j ∈ js, Dep ops k j) → ∀ j, (maskOf acc js).testBit j = true → Anc ops k j := by
 intro js
 induction js with
 | nil => intro _ j h; simp [maskOf] at h
 | cons x js ih =>
  intro hd j h
  simp only [maskOf, Nat.testBit_or, Bool.or_eq_true] at h
  rcases h with (h | h) | h
  ·rw [Nat.testBit_two_pow] at h
   have := of_decide_eq_true h
   subst this
   exact .dep (hd _ (List.mem_cons_self ..))
  ·exact .trans (hd _ (List.mem_cons_self ..)) (hacc _ _ h)
  ·exact ih (fun y hy => hd y (List.mem_cons_of_mem _ hy)) j h

theorem masks_ok {ops : Array Oper} : ∀ (r : List Oper) (acc : List Nat), (∀ i, r[i]? = ops[acc.length + i]?) → (∀ i j, (nthD acc i).testBit j = true → Anc ops i j) →
  ∀ i j, (nthD (masks r acc) i).testBit j = true → Anc ops i j := by
 intro r
 induction r with
 | nil => intro acc _ h; exact h
 | cons o r ih =>
  intro acc hr hacc
  have ho : ops[acc.length]? = some o := by simpa using (hr 0).symm
  have hm := maskOf_ok hacc (k := acc.length) (depsOf o) (fun j hj => (mem_depsOf ho).1 hj)
  have key : ∀ m, maskOf acc (depsOf o) = m → ∀ i j, (nthD (masks r (acc ++ [m])) i).testBit j = true → Anc ops i j := by
   intro m hmm
   refine ih (acc ++ [m]) (fun i => ?_) (fun i j h => ?_)
   ·have := hr (i + 1)
    simp only [List.getElem?_cons_succ] at this
    rw [this]; simp [Nat.add_assoc, Nat.add_comm 1 i]
   ·unfold nthD at h
    rw [nth_eq] at h
    by_cases hi : i < acc.length
    ·rw [List.getElem?_append_left hi] at h
     exact hacc i j (by unfold nthD; rw [nth_eq]; exact h)
    ·rw [List.getElem?_append_right (by omega)] at h
     by_cases he : i = acc.length
     ·subst he
      simp at h
      rw [← hmm] at h
      exact hm j h
     ·have : i - acc.length ≠ 0 := by omega
      cases hx : i - acc.length with
      | zero => omega
      | succ n => rw [hx] at h; simp at h
  simp only [masks]
  split
  ·rename_i h0; exact key _ h0
  ·rename_i m h0; exact key _ h0

theorem orderly_of {ops : Array Oper} (h : orderlyB ops = true) : Orderly ops := by
 unfold orderlyB at h
 simp only [List.all_eq_true, List.mem_range] at h
 have hms := masks_ok (ops := ops) ops.toList [] (by simp) (by intro i j h; simp [nthD, nth] at h)
 have one : ∀ j y, ops[j]? = some y → (∀ k, Dep ops j k → k < j) ∧ (∀ d, y.dst = some d → d ∉ looks ops y) ∧
   (∀ i x, i < j → ops[i]? = some x → (∀ d, x.dst = some d → y.dst ≠ some d) ∧ (confB ops x y = true → Anc ops j i)) := by
  intro j y hy
  have hj : j < ops.size := (Array.getElem?_eq_some_iff.1 hy).1
  have := h j hj
  simp only [hy, Bool.and_eq_true, List.all_eq_true, List.mem_range] at this
  obtain ⟨⟨h1, h2⟩, h3⟩ := this
  refine ⟨fun k hk => ?_, fun d hd => ?_, fun i x hi hx => ?_⟩
  ·have := h1 k ((mem_depsOf hy).2 hk)
   simpa [Nat.blt_eq] using this
  ·rw [hd] at h2; simpa using h2
  ·have := h3 i hi
   simp only [hx, Bool.and_eq_true] at this
   obtain ⟨g1, g2⟩ := this
   refine ⟨fun d hd hd' => ?_, fun hc => ?_⟩
   ·rw [hd, hd'] at g1; simp at g1
   ·rw [hc] at g2
    exact hms j i (by simpa using g2)
 refine ⟨fun i j x y d hx hy hdx hdy => ?_, fun i j x y d hne hx hy hdx hl => ?_, fun i j hd => ?_, fun i x d hx hd => (one i x hx).2.1 d hd⟩
 ·rcases Nat.lt_trichotomy i j with hlt | he | hgt
  ·exact absurd hdy (((one j y hy).2.2 i x hlt hx).1 d hdx)
  ·exact he
  ·exact absurd hdx (((one i x hx).2.2 j y hgt hy).1 d hdy)
 ·rcases Nat.lt_trichotomy i j with hlt | he | hgt
  ·exact .inr (((one j y hy).2.2 i x hlt hx).2 (by simp [confB, hdx, hl]))
  ·exact absurd he hne
  ·exact .inl (((one i x hx).2.2 j y hgt hy).2 (by simp [confB, hdx, hl]))
 ·obtain ⟨o, e, ho, -⟩ := id hd
  exact (one i o ho).1 j hd
end Go.AE

/- The abstract walk: many operations at once; regions whose order is drawn, as proofs use them. -/
namespace Go.AE

def tryO (Γ : Tys) (N : Nat) (ops : Array Oper) (E : Env) (o : Oper) : Option (Nat × AV) :=
  match o.dst with
  | none => none
  | some d => match Nat.blt d N with
    | false => none
    | true => match guardOf ops E o with
      | some true => match aop Γ o E with
        | some v => some (d, v)
        | none => none
      | some false => some (d, .tup [])
      | none => none

def runL (Γ : Tys) (N : Nat) (ops : Array Oper) : List Oper → Env → List Oper × Env
  | [], env => ([], env)
  | o :: l, env => match tryO Γ N ops env o with
    | some (d, v) => runL Γ N ops l ((d, v) :: env)
    | none => (o :: l, env)

theorem tryO_ok {J : Store → Prop} {P : Program} {Γ : Tys} {N : Nat} {ops : Array Oper} {E : Env} {o : Oper} {d : Nat} {v : AV} (h : tryO Γ N ops E o = some (d, v)) : o.dst = some d ∧ d < N ∧ Still J P Γ N ops o E v := by
 unfold tryO at h
 split at h
 ·cases h
 ·rename_i d' hd
  split at h
  ·cases h
  ·rename_i hN
   split at h
   ·rename_i hg
    split at h
    ·rename_i v' hv; cases h; exact ⟨hd, by simpa [Nat.blt_eq] using hN, .inl ⟨hg, .a hv⟩⟩
    ·cases h
   ·rename_i hg; cases h; exact ⟨hd, by simpa [Nat.blt_eq] using hN, .inr (.inl ⟨hg, rfl⟩)⟩
   ·cases h

section
variable {P : Program} {Γ : Tys} {N : Nat} {ops : Array Oper} {Q : AEx → Env → Store → Prop} {env : Env} {s : Store}

theorem RL.run (hΓ : TysOk P Γ) {l l' : List Oper} {env' : Env} (h : runL Γ N ops l env = (l', env')) (hk : RL P N ops l' Q env' s) : RL P N ops l Q env s := by
 induction l generalizing env with
 | nil => simp only [runL, Prod.mk.injEq] at h; obtain ⟨rfl, rfl⟩ := h; exact hk
 | cons o l ih =>
  simp only [runL] at h
  split at h
  ·rename_i d v ht
   obtain ⟨hd, hN, hs⟩ := tryO_ok (J := JT) (P := P) ht
   have hN' : Nat.blt d N = true := by simpa [Nat.blt_eq] using hN
   rcases hs with ⟨hg, hv⟩ | ⟨hg, rfl⟩ | ⟨hg, hv⟩
   ·exact RL.pure hΓ hg hd hN' hv (ih h)
   ·exact RL.skip hg hd hN' (ih h)
   ·exact RL.op hg hd hN' (hv s trivial) (fun x s' ⟨h1, h2⟩ => by subst h1; subst h2; exact ih h) (fun _ _ h => h.elim)
  ·simp only [Prod.mk.injEq] at h; obtain ⟨rfl, rfl⟩ := h; exact hk

theorem RL.know {l : List Oper} (t : Nat) {v v' : AV} (hv : env.get? t = some v) (he : v = v') (h : RL P N ops l Q ((t, v') :: env) s) : RL P N ops l Q env s := by
 subst he
 intro k hk ro B a w p hst
 exact h k hk ro B a w p ⟨hst.size, fun u x hx => by
  simp only [Env.get?] at hx
  split at hx
  ·rename_i hb; have := Nat.eq_of_beq_eq_true hb; subst this; cases hx; exact hst.env _ _ hv
  ·exact hst.env u x hx, hst.wf, hst.defs, hst.round, hst.base⟩

theorem RL.knowT {l : List Oper} (t : Nat) {b : Bool} (hv : env.get? t = some (.bool b)) (he : b = true) (h : RL P N ops l Q ((t, .bool true) :: env) s) : RL P N ops l Q env s := RL.know t hv (congrArg AV.bool he) h
theorem RL.knowF {l : List Oper} (t : Nat) {b : Bool} (hv : env.get? t = some (.bool b)) (he : b = false) (h : RL P N ops l Q ((t, .bool false) :: env) s) : RL P N ops l Q env s := RL.know t hv (congrArg AV.bool he) h

theorem RL.sub {l : List Oper} (e : Env) (hs : Env.Sub e env) (h : RL P N ops l Q e s) : RL P N ops l Q env s :=
 fun k hk ro B a w p hst => h k hk ro B a w p (hst.sub hs)

theorem RL.drop {l : List Oper} (s' : Store) (hs : Store.Sub s' s) (h : RL P N ops l Q env s') : RL P N ops l Q env s :=
 fun k hk ro B a w p hst => cops_mono (fun _ _ _ (q : Post N B ro s' w p Q _ _ _) => let ⟨x, env', s'', p', h1, h2, h3, h4, h5⟩ := q; ⟨x, env', s'', p', h1, h2, h3, h4, h5.subL hs⟩) _ _ _ (h k hk ro B a w p (hst.subS hs))
end

/-! ### Drawn orders -/

def dn (m : Nat) : Nat → Bool := fun i => m.testBit i

theorem also_dn (m i : Nat) : also (dn m) i = dn (m ||| 2 ^ i) := by
 funext j
 unfold also dn
 rw [Nat.testBit_or, Nat.testBit_two_pow]
 by_cases e : j = i
 ·subst e; simp
 ·have e' : ¬ i = j := fun h => e h.symm
  simp [e, e']

def readyB (ops : Array Oper) (m i : Nat) : Bool := match ops[i]? with
 | none => false
 | some o => !(m.testBit i) && (depsOf o).all fun j => m.testBit j

theorem readyB_iff {ops : Array Oper} {m i : Nat} : readyB ops m i = true ↔ Ready ops (dn m) i := by
 unfold readyB Ready dn
 constructor
 ·intro h
  split at h
  ·cases h
  ·rename_i o ho
   simp only [Bool.and_eq_true, Bool.not_eq_true', List.all_eq_true] at h
   exact ⟨(Array.getElem?_eq_some_iff.1 ho).1, h.1, fun j hj => h.2 j ((mem_depsOf ho).2 hj)⟩
 ·rintro ⟨h1, h2, h3⟩
  have ho : ops[i]? = some ops[i] := Array.getElem?_eq_getElem h1
  rw [ho]
  simp only [h2, Bool.not_false, Bool.true_and, List.all_eq_true]
  exact fun j hj => h3 j ((mem_depsOf ho).1 hj)

def readyL (ops : Array Oper) (m : Nat) : List Nat → List Nat
  | [] => []
  | i :: is => match readyB ops m i with
    | true => i :: readyL ops m is
    | false => readyL ops m is

theorem mem_readyL {ops : Array Oper} {m i : Nat} {l : List Nat} (h : Ready ops (dn m) i) (hi : i ∈ l) : i ∈ readyL ops m l := by
 induction l with
 | nil => cases hi
 | cons j l ih =>
  simp only [readyL]
  rcases List.mem_cons.1 hi with rfl | hi
  ·rw [readyB_iff.2 h]; exact List.mem_cons_self ..
  ·split
   ·exact List.mem_cons_of_mem _ (ih hi)
   ·exact ih hi

def runS (Γ : Tys) (N : Nat) (ops : Array Oper) : List Nat → Nat → Env → Nat × Env
  | [], m, env => (m, env)
  | i :: is, m, env => match ops[i]? with
    | none => runS Γ N ops is m env
    | some o => match readyB ops m i with
      | false => runS Γ N ops is m env
      | true => match tryO Γ N ops (pickE env (looks ops o)) o with
        | some (d, v) => match m ||| 2 ^ i with
          | 0 => runS Γ N ops is 0 ((d, v) :: env)
          | k + 1 => runS Γ N ops is (k + 1) ((d, v) :: env)
        | none => runS Γ N ops is m env

def idxs : Nat → List Oper → List Nat
 | _, [] => []
 | k, _ :: l => k :: idxs (k + 1) l

theorem idxs_eq (k : Nat) (l : List Oper) : idxs k l = List.range' k l.length := by
 induction l generalizing k with
 | nil => rfl
 | cons o l ih => simp [idxs, ih, List.range'_succ]

section
variable {J : Store → Prop} {P : Program} {Γ : Tys} {N : Nat} {l : List Oper} {Q : AEx → Env → Store → Prop} {env : Env} {s : Store} {m : Nat}

theorem RJ.runs (hJ : J s) {is : List Nat} {m' : Nat} {env' : Env} (h : runS Γ N l.toArray is m env = (m', env')) (hk : RJ J P Γ N l.toArray Q (dn m') env' s) : RJ J P Γ N l.toArray Q (dn m) env s := by
 induction is generalizing m env with
 | nil => simp only [runS, Prod.mk.injEq] at h; obtain ⟨rfl, rfl⟩ := h; exact hk
 | cons i is ih =>
  simp only [runS] at h
  split at h
  ·exact ih h
  ·rename_i o ho
   split at h
   ·exact ih h
   ·rename_i hr
    split at h
    ·rename_i d v ht
     obtain ⟨hd, hN, hs⟩ := tryO_ok ht
     refine RJ.still hJ i o d v (readyB_iff.1 hr) ho hd hN hs ?_
     rw [also_dn]
     split at h
     ·rename_i h0; rw [h0]; exact ih h
     ·rename_i k h0; rw [h0]; exact ih h
    ·exact ih h

theorem RD.runs {is : List Nat} {m' : Nat} {env' : Env} (h : runS Γ N l.toArray is m env = (m', env')) (hk : RD P Γ N l.toArray Q (dn m') env' s) : RD P Γ N l.toArray Q (dn m) env s := RJ.runs trivial h hk
theorem RJ.run (hJ : J s) {m' : Nat} {env' : Env} (h : runS Γ N l.toArray (idxs 0 l) m env = (m', env')) (hk : RJ J P Γ N l.toArray Q (dn m') env' s) : RJ J P Γ N l.toArray Q (dn m) env s := RJ.runs hJ h hk
theorem RD.run {m' : Nat} {env' : Env} (h : runS Γ N l.toArray (idxs 0 l) m env = (m', env')) (hk : RD P Γ N l.toArray Q (dn m') env' s) : RD P Γ N l.toArray Q (dn m) env s := RJ.runs trivial h hk

theorem RD.done (hD : (idxs 0 l).all (fun i => m.testBit i) = true) (h : Q .normal env s) : RJ J P Γ N l.toArray Q (dn m) env s := by
 refine RJ.fin (fun i hi => ?_) h
 simp only [List.all_eq_true] at hD
 refine hD i ?_
 rw [idxs_eq, List.mem_range'_1]
 have : i < l.length := by simpa using hi
 omega

def lastB (ops : Array Oper) (i : Nat) : Bool := (List.range ops.size).all fun j => Nat.beq j i || (nthD (masks ops.toList []) i).testBit j
theorem lastB_ok {ops : Array Oper} {i : Nat} (h : lastB ops i = true) : ∀ j, j < ops.size → j ≠ i → Anc ops i j := by
 intro j hj hne
 simp only [lastB, List.all_eq_true] at h
 have := h j (List.mem_range.2 hj)
 have hb : Nat.beq j i = false := by
  cases hb : Nat.beq j i with
  | false => rfl
  | true => exact absurd (Nat.eq_of_beq_eq_true hb) hne
 rw [hb, Bool.false_or] at this
 refine masks_ok ops.toList [] (fun i => by simp) (fun i j h => ?_) i j this
 have : nthD [] i = 0 := by cases i <;> rfl
 rw [this] at h; simp at h

theorem RJ.one {i : Nat} {o : Oper} {d : Nat} {K X : AV → Store → Prop} (hr : readyL l.toArray m (idxs 0 l) = [i]) (ho : l.toArray[i]? = some o) (hd : o.dst = some d) (hN : Nat.blt d N = true)
  (hg : guardOf l.toArray (pickE env (looks l.toArray o)) o = some true) (h : OW P N o (pickE env (looks l.toArray o)) s K X)
  (hj : ∀ x s', K x s' → J s' ∨ lastB l.toArray i = true) (hk : ∀ x s', K x s' → RJ J P Γ N l.toArray Q (dn (m ||| 2 ^ i)) ((d, x) :: env) s') (hx : ∀ x s', X x s' → Q (.panic x) [] s') : RJ J P Γ N l.toArray Q (dn m) env s := by
 have hin : ∀ j, Ready l.toArray (dn m) j → j = i := fun j hj => by
  have := mem_readyL hj (l := idxs 0 l) (by rw [idxs_eq, List.mem_range'_1]; have := hj.1; simp at this; omega)
  rw [hr] at this; simpa using this
 have hri : Ready l.toArray (dn m) i := by
  have hmem : i ∈ readyL l.toArray m (idxs 0 l) := by rw [hr]; exact List.mem_cons_self ..
  have : ∀ is, i ∈ readyL l.toArray m is → readyB l.toArray m i = true := by
   intro is
   induction is with
   | nil => intro h; cases h
   | cons j is ih =>
    intro h
    simp only [readyL] at h
    split at h
    ·rename_i hb
     rcases List.mem_cons.1 h with rfl | h
     ·exact hb
     ·exact ih h
    ·exact ih h
  exact readyB_iff.1 (this _ hmem)
 refine RJ.split (fun _ => K) (fun _ => X) ⟨i, hri.1, hri.2.1⟩ (fun j o' hj ho' => ?_) (fun j o' hjr ho' x s' hK => by have := hin j hjr; subst this; exact (hj x s' hK).imp id lastB_ok) (fun j o' d' hj ho' hd' x s' hK => ?_) (fun j o' hj ho' hd' x s' hK => ?_) (fun j o' hj ho' x s' hX => hx x s' hX)
 ·have := hin j hj; subst this
  rw [ho] at ho'; cases ho'
  exact ⟨hg, h, fun d' hd' => by rw [hd] at hd'; cases hd'; simpa [Nat.blt_eq] using hN⟩
 ·have := hin j hj; subst this
  rw [ho] at ho'; cases ho'
  rw [hd] at hd'; cases hd'
  rw [also_dn]; exact hk x s' hK
 ·have := hin j hj; subst this
  rw [ho] at ho'; cases ho'
  rw [hd] at hd'; cases hd'

theorem RJ.oneN {i : Nat} {o : Oper} {K X : AV → Store → Prop} (hr : readyL l.toArray m (idxs 0 l) = [i]) (ho : l.toArray[i]? = some o) (hd : o.dst = none)
  (hg : guardOf l.toArray (pickE env (looks l.toArray o)) o = some true) (h : OW P N o (pickE env (looks l.toArray o)) s K X)
  (hj : ∀ x s', K x s' → J s' ∨ lastB l.toArray i = true) (hk : ∀ x s', K x s' → RJ J P Γ N l.toArray Q (dn (m ||| 2 ^ i)) env s') (hx : ∀ x s', X x s' → Q (.panic x) [] s') : RJ J P Γ N l.toArray Q (dn m) env s := by
 have hin : ∀ j, Ready l.toArray (dn m) j → j = i := fun j hj => by
  have := mem_readyL hj (l := idxs 0 l) (by rw [idxs_eq, List.mem_range'_1]; have := hj.1; simp at this; omega)
  rw [hr] at this; simpa using this
 have hlt : i < l.toArray.size := (Array.getElem?_eq_some_iff.1 ho).1
 have hbit : dn m i = false := by
  cases hb : dn m i with
  | false => rfl
  | true =>
   have hmem : i ∈ readyL l.toArray m (idxs 0 l) := by rw [hr]; exact List.mem_cons_self ..
   have : ∀ is, i ∈ readyL l.toArray m is → readyB l.toArray m i = true := by
    intro is
    induction is with
    | nil => intro h; cases h
    | cons j is ih =>
     intro h
     simp only [readyL] at h
     split at h
     ·rename_i hb
      rcases List.mem_cons.1 h with rfl | h
      ·exact hb
      ·exact ih h
     ·exact ih h
   have := (readyB_iff.1 (this _ hmem)).2.1
   rw [hb] at this; cases this
 refine RJ.split (fun _ => K) (fun _ => X) ⟨i, hlt, hbit⟩ (fun j o' hj ho' => ?_) (fun j o' hjr ho' x s' hK => by have := hin j hjr; subst this; exact (hj x s' hK).imp id lastB_ok) (fun j o' d' hj ho' hd' x s' hK => ?_) (fun j o' hj ho' hd' x s' hK => ?_) (fun j o' hj ho' x s' hX => hx x s' hX)
 ·have := hin j hj; subst this
  rw [ho] at ho'; cases ho'
  exact ⟨hg, h, fun d' hd' => by rw [hd] at hd'; cases hd'⟩
 ·have := hin j hj; subst this
  rw [ho] at ho'; cases ho'
  rw [hd] at hd'; cases hd'
 ·have := hin j hj; subst this
  rw [ho] at ho'; cases ho'
  rw [also_dn]; exact hk x s' hK

theorem RD.one {i : Nat} {o : Oper} {d : Nat} {K X : AV → Store → Prop} (hr : readyL l.toArray m (idxs 0 l) = [i]) (ho : l.toArray[i]? = some o) (hd : o.dst = some d) (hN : Nat.blt d N = true)
  (hg : guardOf l.toArray (pickE env (looks l.toArray o)) o = some true) (h : OW P N o (pickE env (looks l.toArray o)) s K X)
  (hk : ∀ x s', K x s' → RD P Γ N l.toArray Q (dn (m ||| 2 ^ i)) ((d, x) :: env) s') (hx : ∀ x s', X x s' → Q (.panic x) [] s') : RD P Γ N l.toArray Q (dn m) env s :=
 RJ.one hr ho hd hN hg h (fun _ _ _ => .inl trivial) hk hx
theorem RD.oneN {i : Nat} {o : Oper} {K X : AV → Store → Prop} (hr : readyL l.toArray m (idxs 0 l) = [i]) (ho : l.toArray[i]? = some o) (hd : o.dst = none)
  (hg : guardOf l.toArray (pickE env (looks l.toArray o)) o = some true) (h : OW P N o (pickE env (looks l.toArray o)) s K X)
  (hk : ∀ x s', K x s' → RD P Γ N l.toArray Q (dn (m ||| 2 ^ i)) env s') (hx : ∀ x s', X x s' → Q (.panic x) [] s') : RD P Γ N l.toArray Q (dn m) env s :=
 RJ.oneN hr ho hd hg h (fun _ _ _ => .inl trivial) hk hx
theorem RD.congr {ops : Array Oper} {D : Nat → Bool} (e : Env) (he : ∀ t, e.get? t = env.get? t) (h : RD P Γ N ops Q D e s) : RD P Γ N ops Q D env s := RJ.congr e he h

theorem CW.drwJ (J : Store → Prop) (hΓ : TysOk P Γ) (hm : P.follows .mixedOrders = true) {id : Nat} (hO : orderlyB l.toArray = true) (h : RJ J P Γ N l.toArray Q (dn 0) env s) : CW P N (.region id l.toArray true) Q env s := by
 refine CW.draw (J := J) hΓ hm (orderly_of hO) ?_
 have : dn 0 = fun _ => false := by funext i; simp [dn]
 rw [this] at h; exact h
theorem CW.drw (hΓ : TysOk P Γ) (hm : P.follows .mixedOrders = true) {id : Nat} (hO : orderlyB l.toArray = true) (h : RD P Γ N l.toArray Q (dn 0) env s) : CW P N (.region id l.toArray true) Q env s := by
 refine CW.draw (J := JT) hΓ hm (orderly_of hO) ?_
 have : dn 0 = fun _ => false := by funext i; simp [dn]
 rw [this] at h; exact h
end
end Go.AE

/- The abstract walk: an object that a call does not touch; ranges over functions. -/
namespace Go.AE

def frameable : AObj → Bool
 | .ranged _ _ _ _ => false
 | _ => true

theorem frame_obj {w w' : World} {p p' : Prot} {b : Nat} {o : AObj} (hf : frameable o = true) (h : ObjOk w p b o) (hle : Le w p w' p') (hh : w'.heap[b]? = w.heap[b]?) (hp : ∀ x, p' b x → p b x) : ObjOk w' p' b o := by
 cases o with
 | box t c => obtain ⟨us, g1, g2, g3⟩ := h; exact ⟨us, hh.trans g1, g2.mono hle, fun o ho => g3 o (hp o ho)⟩
 | row t sz n => obtain ⟨cur, g1, g2, g3, g4⟩ := h; exact ⟨cur, hh.trans g1, g2, g3, fun o => ⟨fun ho => (g4 o).1 (hp o ho), fun ho => hle.prot _ _ ((g4 o).2 ho)⟩⟩
 | map es => obtain ⟨mes, c, g1, g2, g3⟩ := h; exact ⟨mes, c, hh.trans g1, ⟨g2.1.mono hle, g2.2.mono hle⟩, g3⟩
 | ranged es it l c => cases hf
 | tick m => obtain ⟨a1, a2, a3, g1⟩ := h; exact ⟨a1, a2, a3, hh.trans g1⟩
 | loop r env => exact ⟨hh.trans h.1, fun t v hv => (h.2 t v hv).mono hle⟩

theorem frame_one {s s' : Store} {w w' : World} {p p' : Prot} {b : Nat} {o : AObj} (hb : s b = none) (hf : frameable o = true) (hwf : Wf w p (s.set b o)) (hle : Le w p w' p') (hk : Kept s s' w p w' p') (hwf' : Wf w' p' s') :
  s' b = none ∧ Kept (s.set b o) (s'.set b o) w p w' p' ∧ Wf w' p' (s'.set b o) := by
 have ho := hwf.obj b o (Store.set_same _ _ _)
 have hlt := ho.lt
 have hn := hk.dom b hlt hb
 refine ⟨hn, ⟨fun b' hb' hs => ?_, fun b' hb' hs => ?_, fun b' x hb' hs hx => ?_⟩, ⟨fun b' o' hb' => ?_, hwf'.lt⟩⟩
 ·obtain ⟨h1, h2⟩ := Store.set_none hs; exact hk.heap b' hb' h2
 ·obtain ⟨h1, h2⟩ := Store.set_none hs; rw [Store.set_ne _ _ h1]; exact hk.dom b' hb' h2
 ·obtain ⟨h1, h2⟩ := Store.set_none hs; exact hk.prot b' x hb' h2 hx
 ·by_cases e : b' = b
  ·subst e
   rw [Store.set_same] at hb'; cases hb'
   exact frame_obj hf ho hle (hk.heap b' hlt hb) (fun x hx => hk.prot b' x hlt hb hx)
  ·rw [Store.set_ne _ _ e] at hb'; exact hwf'.obj b' o' hb'

theorem ACallV.frame {P : Program} {fv : AV} {args : List AV} {s : Store} {R : AOut → Store → Prop} (b : Nat) (o : AObj) (hb : s b = none) (hf : frameable o = true) (h : ACallV P fv args s R) :
  ACallV P fv args (s.set b o) (fun out s' => ∃ s₁, s₁ b = none ∧ s' = s₁.set b o ∧ R out s₁) := by
 intro w p v vs hwf hv hvs
 refine (h w p v vs (hwf.sub (Store.sub_set s b o hb)) hv hvs).mono ?_
 rintro e w' ⟨out, s', p', h1, h2, h3, h4, h5⟩
 obtain ⟨k1, k2, k3⟩ := frame_one hb hf hwf h3 h4 h5
 exact ⟨out, s'.set b o, p', h1, ⟨s', k1, rfl, h2⟩, h3, k2, k3⟩

theorem ACalls.frame {P : Program} {f : FuncId} {args : List AV} {s : Store} {R : AOut → Store → Prop} (b : Nat) (o : AObj) (hb : s b = none) (hf : frameable o = true) (h : ACalls P f args s R) :
  ACalls P f args (s.set b o) (fun out s' => ∃ s₁, s₁ b = none ∧ s' = s₁.set b o ∧ R out s₁) := by
 refine ⟨h.1, fun w p vs hwf hvs => ?_⟩
 refine (h.2 w p vs (hwf.sub (Store.sub_set s b o hb)) hvs).mono ?_
 rintro e w' ⟨out, s', p', h1, h2, h3, h4, h5⟩
 obtain ⟨k1, k2, k3⟩ := frame_one hb hf hwf h3 h4 h5
 exact ⟨out, s'.set b o, p', h1, ⟨s', k1, rfl, h2⟩, h3, k2, k3⟩

theorem ACallV.drop {P : Program} {fv : AV} {args : List AV} {s s' : Store} {R : AOut → Store → Prop} (hs : Store.Sub s' s) (h : ACallV P fv args s' R) : ACallV P fv args s R := by
 intro w p v vs hwf hv hvs
 refine (h w p v vs (hwf.sub hs) hv hvs).mono ?_
 rintro e w' ⟨out, s'', p', h1, h2, h3, h4, h5⟩
 exact ⟨out, s'', p', h1, h2, h3, h4.subL hs, h5⟩

theorem ACalls.drop {P : Program} {f : FuncId} {args : List AV} {s s' : Store} {R : AOut → Store → Prop} (hs : Store.Sub s' s) (h : ACalls P f args s' R) : ACalls P f args s R := by
 refine ⟨h.1, fun w p vs hwf hvs => (h.2 w p vs (hwf.sub hs) hvs).mono ?_⟩
 rintro e w' ⟨out, s'', p', h1, h2, h3, h4, h5⟩
 exact ⟨out, s'', p', h1, h2, h3, h4.subL hs, h5⟩

/-! ### yield -/

def yieldV (l : Nat) : AV := .conc (.func (.yield l) #[] #[])

def setPar : List Tmp → List AV → Env → Env
 | t :: ts, v :: vs, env => setPar ts vs ((t, v) :: env)
 | _, _, env => env

theorem setPar_ok {N : Nat} {B : Base} {ro : Option Nat} {s : Store} {w : World} {p : Prot} {ds : List Deferred} : ∀ (ts : List Tmp) (us : List Value) (vs : List AV) (env : Env) (tmps : Array Value),
  ts.length = us.length → RelL w p us vs → (∀ t ∈ ts, t < N) → St N B ro env s { tmps := tmps, defers := ds } w p →
  St N B ro (setPar ts vs env) s { tmps := (ts.zip us).foldl (fun tmps (t, a) => tmps.setIfInBounds t a) tmps, defers := ds } w p := by
 intro ts
 induction ts with
 | nil => intro us vs env tmps hl hr _ hst; exact hst
 | cons t ts ih =>
  intro us vs env tmps hl hr hN hst
  cases us with
  | nil => simp at hl
  | cons u us =>
   cases hr with
   | cons _ v _ vs hu ht =>
   simp only [setPar, List.zip_cons_cons, List.foldl_cons]
   exact ih us vs _ _ (by simpa using hl) ht (fun t' ht' => hN t' (List.mem_cons_of_mem _ ht')) (hst.put (hN t (List.mem_cons_self ..)) hu)

section
variable {P : Program} {Γ : Tys} {N : Nat} {Q : AEx → Env → Store → Prop} {env : Env} {s : Store}

def busy (r : Loop) : Loop := { r with state := .busy }
def over (r : Loop) (j : Code) : Loop := { r with state := .done, pending := some j }

theorem obj_set {w : World} {p : Prot} {s : Store} (hwf : Wf w p s) {l : Nat} {r r' : Loop} {env : Env} (hs : s l = some (.loop r env)) (ht : r'.tmps = r.tmps) (w' : World) (hw' : w' = { w with heap := w.heap.setIfInBounds l (.loop r') }) :
  Le w p w' p ∧ Kept s (s.set l (.loop r' env)) w p w' p ∧ Wf w' p (s.set l (.loop r' env)) := by
 subst hw'
 have h1 : w.heap[l]? = some (.loop r) := (hwf.obj _ _ hs).1
 have h2 := (hwf.obj _ _ hs).2
 have hlt : l < w.heap.size := (Array.getElem?_eq_some_iff.1 h1).1
 have hhere : (w.heap.setIfInBounds l (.loop r'))[l]? = some (.loop r') := by simp [Array.getElem?_setIfInBounds, hlt]
 have hoth : ∀ k, k ≠ l → (w.heap.setIfInBounds l (.loop r'))[k]? = w.heap[k]? := fun k hk => by
  rw [Array.getElem?_setIfInBounds, if_neg (fun e => hk e.symm)]
 have hle : Le w p { w with heap := w.heap.setIfInBounds l (.loop r') } p := by
  refine ⟨rfl, rfl, rfl, by simp, fun _ _ h => h, fun b o hp => ?_, fun b x hx => ?_⟩
  ·by_cases e : b = l
   ·subst e; simp only [World.cell?, h1, hhere]
   ·exact cell_of_heap (hoth b e)
  ·by_cases e : b = l
   ·subst e; simp [World.shp?, h1] at hx
   ·rw [shape_of_heap (hoth b e)]; exact hx
 refine ⟨hle, ⟨fun b hb hn => hoth b (fun e => by rw [e, hs] at hn; simp at hn), fun b hb hn => ?_, fun _ _ _ _ h => h⟩, ⟨fun b o hb => ?_, fun b o hp => by simpa using hwf.lt b o hp⟩⟩
 ·rw [Store.set_ne]
  ·exact hn
  ·intro e; rw [e, hs] at hn; simp at hn
 ·by_cases e : b = l
  ·subst e
   rw [Store.set_same] at hb; cases hb
   exact ⟨hhere, fun t v hv => by rw [ht]; exact (h2 t v hv).mono hle⟩
  ·rw [Store.set_ne _ _ e] at hb
   have ho := hwf.obj b o hb
   cases o with
   | ranged es it l' c => exact ho.ranged_move hle (hoth b e) (hoth it (ho.ranged_ne h1 (by simp)))
   | _ => exact frame_obj rfl ho hle (hoth b e) (fun _ h => h)

def RoundQ (Rn : Store → Prop) (Rj : Code → Store → Prop) (Rp : AV → Store → Prop) : AEx → Env → Store → Prop
 | .normal, _, s => Rn s
 | .ret, _, s => Rj .ret s
 | .exit id, _, s => Rj (.exit id) s
 | .panic v, _, s => Rp v s

theorem run_getLoop' {w : World} {l : Nat} {r : Loop} (h : w.heap[l]? = some (.loop r)) : (Instr.getLoop l).run P w = .ok r w := by
 unfold Instr.getLoop
 simp only [Sem.run_bind, run_getObj h rfl, Result.andThen_ok, Sem.run_pure]

theorem run_setObj {w : World} {r : Nat} {o o' : Obj} (h : w.heap[r]? = some o) (hc : notCells o = true) : (setObj r o').run P w = .ok () { w with heap := w.heap.setIfInBounds r o' } := by
 cases o <;> first | (simp [notCells] at hc; done) | simp [setObj, Sem.run, h]

theorem yield_ok {l : Nat} {r : Loop} {fn : Func} {a : Act} (hfn : P.funcs[r.fn]? = some fn) (hready : r.state = .ready)
  {args : List AV} {s₁ : Store} {Rn : Store → Prop} {Rj : Code → Store → Prop} {Rp : AV → Store → Prop}
  (hr : s₁ l = some (.loop r env)) (hargs : args.length = r.params.size) (hsz : r.tmps.size = N) (hpar : ∀ t ∈ r.params.toList, t < N)
  (hbody : CW P N r.assign (AEx.andThen (CW P N r.body (RoundQ Rn Rj Rp)) (fun _ _ _ => False)) (setPar r.params.toList args env) (s₁.del l))
  (w : World) (p : Prot) (vs : List Value) (hwf : Wf w p s₁) (hvs : RelL w p vs args) :
  ResDoes P ((do let d ← Deferred.ofValue (.func (.yield l) #[] #[]) vs.toArray; invoke d.target d.args : Sem Next).run P w)
   (APost s₁ w p fun o s' => (o = .ret (.bool true) ∧ ∃ s₂, s₂ l = none ∧ s' = s₂.set l (.loop { busy r with state := .ready, pending := none } env) ∧ Rn s₂) ∨
    (o = .ret (.bool false) ∧ ∃ j s₂, s₂ l = none ∧ s' = s₂.set l (.loop (over r j) env) ∧ Rj j s₂) ∨
    (∃ v s₂, o = .panic v ∧ s₂ l = none ∧ s' = s₂.set l (.loop (busy r) env) ∧ Rp v s₂)) := by
 have h1 : w.heap[l]? = some (.loop r) := (hwf.obj _ _ hr).1
 have henv := (hwf.obj _ _ hr).2
 have hlt : l < w.heap.size := (Array.getElem?_eq_some_iff.1 h1).1
 have hrun : (do let d ← Deferred.ofValue (.func (.yield l) #[] #[]) vs.toArray; invoke d.target d.args : Sem Next).run P w =
   .ok (.round l r.fn ((r.params.zip vs.toArray).foldl (fun tmps (t, a) => tmps.setIfInBounds t a) r.tmps) r.assign r.body) w := by
  have hl : vs.length = r.params.size := by rw [hvs.length, hargs]
  simp only [Deferred.ofValue, Sem.run_bind, Sem.run_pure, Result.andThen_ok, invoke, Instr.yield, run_getLoop' h1]
  simp [hl]
 rw [hrun]
 have hsub : Store.Sub (s₁.del l) s₁ := fun b => by
  by_cases e : b = l
  ·subst e; exact .inr (Store.del_same _ _)
  ·exact .inl (Store.del_ne _ e)
 have hdel : s₁ = (s₁.del l).set l (.loop r env) := by
  funext b; by_cases e : b = l
  ·subst e; rw [Store.set_same]; exact hr
  ·rw [Store.set_ne _ _ e, Store.del_ne _ e]
 have htm : ((r.params.zip vs.toArray).foldl (fun tmps (t, a) => tmps.setIfInBounds t a) r.tmps) = (r.params.toList.zip vs).foldl (fun tmps (t, a) => tmps.setIfInBounds t a) r.tmps := by
  rw [← Array.foldl_toList]; simp
 have hsN : s₁.del l l = none := Store.del_same _ _
 have hst0 : St N (0, []) (some l) env (s₁.del l) { tmps := r.tmps, defers := [] } w p :=
  ⟨hsz, henv, hwf.sub hsub, ⟨[], rfl, by simp, by simp⟩, fun l' hl' => by cases hl'; exact ⟨rfl, ⟨r, h1⟩, hsN⟩, Nat.zero_le _⟩
 have hst := setPar_ok r.params.toList vs args env r.tmps (by rw [hvs.length, hargs, Array.length_toList]) hvs hpar hst0
 rw [htm]
 refine round_of_cwp hfn fun b hbr hbf => ?_
 rw [← hbr] at hst
 refine cwp_mono (hbody b (0, []) _ w p (by rw [hbf, hfn]; rfl) hst) ?_
 rintro e₁ a₁ w₁ ⟨x₁, env₁, s₂, p₁, hx₁, hq₁, hst₁, hle₁, hk₁⟩
 cases hx₁ with
 | exit id => exact hq₁.elim
 | ret => exact hq₁.elim
 | panic v x ch hch hv => exact hq₁.elim
 | normal =>
 -- the record is busy now
 have hl1 : w₁.heap[l]? = some (.loop r) := (hk₁.heap l hlt hsN).trans h1
 have hn1 : s₂ l = none := hk₁.dom l hlt hsN
 have hbr' : (Instr.beginRound l).run P w₁ = .ok () { w₁ with heap := w₁.heap.setIfInBounds l (.loop (busy r)) } := by
  unfold Instr.beginRound
  simp only [Sem.run_bind, run_getLoop' hl1, Result.andThen_ok, run_setObj hl1 rfl, hready]
  rfl
 refine ⟨_, hbr', ?_⟩
 obtain ⟨f1, f2, f3⟩ := frame_one (s := s₁.del l) (b := l) (o := .loop r env) hsN rfl (by rw [← hdel]; exact hwf) hle₁ hk₁ hst₁.wf
 obtain ⟨g1, g2, g3⟩ := obj_set (r' := busy r) f3 (Store.set_same _ _ _) rfl _ rfl
 rw [Store.set_set] at g2 g3
 have hb2 : ({ w₁ with heap := w₁.heap.setIfInBounds l (.loop (busy r)) } : World).heap[l]? = some (.loop (busy r)) := (g3.obj _ _ (Store.set_same _ _ _)).1
 have hwf2 : Wf { w₁ with heap := w₁.heap.setIfInBounds l (.loop (busy r)) } p₁ s₂ := g3.sub (Store.sub_set _ _ _ hn1)
 have hst2 : St N (0, []) b.roundOf env₁ s₂ a₁ { w₁ with heap := w₁.heap.setIfInBounds l (.loop (busy r)) } p₁ := by
  refine ⟨hst₁.size, fun t v hv => (hst₁.env t v hv).mono g1, hwf2, ?_, fun l' hl' => ?_, Nat.zero_le _⟩
  ·obtain ⟨hd, -, -⟩ := hst₁.round l hbr
   exact ⟨[], by simpa [marksOf] using hd, by simp, by simp⟩
  ·rw [hbr] at hl'; cases hl'
   exact ⟨(hst₁.round l hbr).1, ⟨_, hb2⟩, hn1⟩
 refine cwp_mono (hq₁ b (0, []) a₁ _ p₁ (by rw [hbf, hfn]; rfl) hst2) ?_
 rintro e₃ a₃ w₃ ⟨x₃, env₃, s₃, p₃, hx₃, hq₃, hst₃, hle₃, hk₃⟩
 have hlt2 : l < ({ w₁ with heap := w₁.heap.setIfInBounds l (.loop (busy r)) } : World).heap.size := (Array.getElem?_eq_some_iff.1 hb2).1
 have hl3 : w₃.heap[l]? = some (.loop (busy r)) := (hk₃.heap l hlt2 hn1).trans hb2
 have hn3 : s₃ l = none := hk₃.dom l hlt2 hn1
 obtain ⟨k1, k2, k3⟩ := frame_one (b := l) (o := .loop (busy r) env) hn1 rfl g3 hle₃ hk₃ hst₃.wf
 have hLe : Le w p w₃ p₃ := (hle₁.trans g1).trans hle₃
 have hKept : Kept s₁ (s₃.set l (.loop (busy r) env)) w p w₃ p₃ := by
  have e1 : Kept s₁ (s₂.set l (.loop r env)) w p w₁ p₁ := by rw [hdel]; exact f2
  exact (e1.trans hle₁.size g2).trans (hle₁.trans g1).size k2
 have fin : ∀ (jump : Option Code), ∃ w₄, (Instr.endRound l jump).run P w₃ = .ok (.bool jump.isNone) w₄ ∧
   Le w p w₄ p₃ ∧ Kept s₁ (s₃.set l (.loop { busy r with state := if jump.isNone then .ready else .done, pending := jump } env)) w p w₄ p₃ ∧ Wf w₄ p₃ (s₃.set l (.loop { busy r with state := if jump.isNone then .ready else .done, pending := jump } env)) := by
  intro jump
  obtain ⟨q1, q2, q3⟩ := obj_set (r' := { busy r with state := if jump.isNone then .ready else .done, pending := jump }) k3 (Store.set_same _ _ _) rfl _ rfl
  rw [Store.set_set] at q2 q3
  refine ⟨_, ?_, hLe.trans q1, hKept.trans hLe.size q2, q3⟩
  unfold Instr.endRound
  simp only [Sem.run_bind, run_getLoop' hl3, Result.andThen_ok, run_setObj hl3 rfl, Sem.run_pure]
 cases hx₃ with
 | normal =>
  obtain ⟨w₄, r1, r2, r3, r4⟩ := fin none
  exact ⟨_, w₄, r1, .ret (.bool true), _, p₃, .bool _, .inl ⟨rfl, s₃, hn3, rfl, hq₃⟩, r2, r3, r4⟩
 | ret =>
  obtain ⟨w₄, r1, r2, r3, r4⟩ := fin (some .ret)
  exact ⟨_, w₄, r1, .ret (.bool false), _, p₃, .bool _, .inr (.inl ⟨rfl, .ret, s₃, hn3, rfl, hq₃⟩), r2, r3, r4⟩
 | exit id =>
  obtain ⟨w₄, r1, r2, r3, r4⟩ := fin (some (.exit id))
  exact ⟨_, w₄, r1, .ret (.bool false), _, p₃, .bool _, .inr (.inl ⟨rfl, .exit id, s₃, hn3, rfl, hq₃⟩), r2, r3, r4⟩
 | panic v x ch hch hv =>
  refine ⟨(hst₃.round l hbr).1, .panic x, _, p₃, ⟨v, hch, hv⟩, .inr (.inr ⟨x, s₃, rfl, hn3, rfl, hq₃⟩), hLe, hKept, k3⟩
end
end Go.AE

/- The abstract walk: the statement 'range over a function'. -/
namespace Go.AE

section
variable {P : Program} {Γ : Tys} {N : Nat} {Q : AEx → Env → Store → Prop} {env : Env} {s : Store}

theorem atR_finish_range (b : Frame) (a : Act) (k : List Item) (l : Nat) (v : Value) : (b.atR a (.inRangeFunc l :: k)).finish v = b.atR a (.endRangeFunc l :: k) := by
 simp [Frame.finish, Frame.atR]

theorem step_endRange {b : Frame} {a : Act} {k : List Item} {cs : List Frame} {w w' : World} {l : Nat} {jump : Option Code} (h : (Instr.endLoop l).run P w = .ok jump w') :
  step P (lone (b.atR a (.endRangeFunc l :: k)) cs w) = .next (lone (b.atR a ((jump.map Item.code).toList ++ k)) cs w') :=
 step_lone_go (by simp [stepG, stepG.exec, Frame.atR, Sem.runT_eq, h, GStep.bare_after])

def rangeOp (g : Operand) (l : Nat) : Call := { callee := .value g, args := #[.const (.func (.yield l) #[] #[])], argTypes := #[] }

theorem step_range {b : Frame} {a : Act} {k : List Item} {cs : List Frame} {w : World} {g : Operand} {ps : Array Tmp} {asg body : Code} {l : Nat} {mark : List Deferred} {w₁ w₂ : World} {f : FuncId} {args : Array Value}
  (he : (Instr.enterLoop b.fn a.tmps ps asg body b.roundOf).run P w = .ok (l, mark) w₁)
  (hinv : (do let d ← resolve a.eval (rangeOp g l) 0; invoke d.target d.args : Sem Next).run P w₁ = .ok (.enter f args) w₂) :
  step P (lone (b.atR a (.code (.rangeFunc g ps asg body) :: k)) cs w) =
   .next (lone (Frame.enter P f args .normal) (b.atR { a with defers := mark ++ a.defers } (.inRangeFunc l :: k) :: cs) w₂) :=
 step_lone_go (by
  have hev := Frame.eval_atR b { a with defers := mark ++ a.defers } (.inRangeFunc l :: k)
  simp only [Frame.atR] at hev
  have hinv' : (do let d ← resolve ({ tmps := a.tmps, defers := mark ++ a.defers } : Act).eval { callee := .value g, args := #[.const (.func (.yield l) #[] #[])], argTypes := #[] } 0; invoke d.target d.args : Sem Next).run P w₁ = .ok (.enter f args) w₂ := hinv
  simp only [stepG, stepG.exec, Frame.atR, Sem.runT_eq, he, GStep.bare_after, stepG.apply, hev, hinv', if_true, GStep.bare_go])

def YieldPost (l : Nat) (r : Loop) (env : Env) (Rn : Store → Prop) (Rj : Code → Store → Prop) (Rp : AV → Store → Prop) (o : AOut) (s' : Store) : Prop :=
 (o = .ret (.bool true) ∧ ∃ s₂, s₂ l = none ∧ s' = s₂.set l (.loop r env) ∧ Rn s₂) ∨
 (o = .ret (.bool false) ∧ ∃ j s₂, s₂ l = none ∧ s' = s₂.set l (.loop (over r j) env) ∧ Rj j s₂) ∨
 (∃ v s₂, o = .panic v ∧ s₂ l = none ∧ s' = s₂.set l (.loop (busy r) env) ∧ Rp v s₂)

def RangePost (P : Program) (N : Nat) (Q : AEx → Env → Store → Prop) (env : Env) (l : Nat) (r : Loop) (o : AOut) (s' : Store) : Prop :=
 match o with
 | .ret _ => (∃ s₂, s₂ l = none ∧ s' = s₂.set l (.loop r env) ∧ Q .normal env s₂) ∨ (∃ j s₂, s₂ l = none ∧ s' = s₂.set l (.loop (over r j) env) ∧ CW P N j Q env s₂)
 | .panic v => ∃ s₂ o', s₂ l = none ∧ s' = s₂.set l o' ∧ Q (.panic v) env s₂

theorem CW.rangeF {g : Operand} {ps : Array Tmp} {asg body : Code} {f : FuncId} {first cap : List AV} (hg : ev env g = some (.func f first cap)) (hN : ∀ t ∈ ps.toList, t < N)
    (h : ∀ (l : Nat) (r : Loop), s l = none →
      (∀ args s₁ Rn Rj Rp, s₁ l = some (.loop r env) → args.length = ps.size →
        CW P N asg (AEx.andThen (CW P N body (RoundQ Rn Rj Rp)) (fun _ _ _ => False)) (setPar ps.toList args env) (s₁.del l) →
        ACallV P (yieldV l) args s₁ (YieldPost l r env Rn Rj Rp)) →
      ACalls P f (first ++ ([yieldV l] ++ cap)) (s.set l (.loop r env)) (RangePost P N Q env l r)) : CW P N (.rangeFunc g ps asg body) Q env s := by
  intro b B a w p hfn hst k cs
  obtain ⟨fn, hfn'⟩ := Option.isSome_iff_exists.1 hfn
  -- the record of the loop, and the mark for deferred calls
  have hrec : ∃ (l D : Nat) (mark : List Deferred) (w₁ : World), (Instr.enterLoop b.fn a.tmps ps asg body b.roundOf).run P w = .ok (l, mark) w₁ ∧
      w₁.heap[l]? = some (.loop { state := .ready, pending := none, fn := b.fn, tmps := a.tmps, params := ps, assign := asg, body, defers := D }) ∧ w.heap.size ≤ l ∧ l < w₁.heap.size ∧
      (∀ x, x < w.heap.size → w₁.heap[x]? = w.heap[x]?) ∧ w₁.os = w.os ∧ w₁.tape = w.tape ∧ w₁.output = w.output ∧ w.heap.size ≤ w₁.heap.size ∧
      ((mark = [] ∧ b.roundOf ≠ none) ∨ (b.roundOf = none ∧ mark = marksOf [w.heap.size] ∧ w₁.heap[w.heap.size]? = some (.deferred (some [])) ∧ l ≠ w.heap.size)) := by
    cases hro : b.roundOf with
    | none =>
      refine ⟨w.heap.size + 1, w.heap.size, _, (w.alloc (.deferred (some []))).alloc (.loop { state := .ready, pending := none, fn := b.fn, tmps := a.tmps, params := ps, assign := asg, body, defers := w.heap.size }), ?_, ?_, by omega, by simp, ?_, rfl, rfl, rfl, by simp; omega, .inr ⟨rfl, rfl, ?_, by omega⟩⟩
      · unfold Instr.enterLoop
        simp [World.alloc_eq, marksOf]
      · have := heap_alloc_here (w.alloc (.deferred (some []))) (.loop { state := .ready, pending := none, fn := b.fn, tmps := a.tmps, params := ps, assign := asg, body, defers := w.heap.size })
        simpa using this
      · intro x hx; rw [heap_alloc_lt _ _ _ (by simp; omega), heap_alloc_lt _ _ _ hx]
      · rw [heap_alloc_lt _ _ _ (by simp)]; exact heap_alloc_here w _
    | some l₀ =>
      obtain ⟨-, ⟨r₀, hr₀⟩, -⟩ := hst.round l₀ hro
      refine ⟨w.heap.size, r₀.defers, [], w.alloc (.loop { state := .ready, pending := none, fn := b.fn, tmps := a.tmps, params := ps, assign := asg, body, defers := r₀.defers }), ?_, heap_alloc_here w _, Nat.le_refl _, by simp, fun x hx => heap_alloc_lt w _ x hx, rfl, rfl, rfl, by simp, .inl ⟨rfl, by simp⟩⟩
      unfold Instr.enterLoop
      simp only [Sem.run_bind, run_getLoop' hr₀, Result.andThen_ok, Sem.run_pure, run_newObj]
      rfl
  obtain ⟨l, D, mark, w₁, hent, hl1, hsl, hl1s, hold, ho1, ho2, ho3, hsz, hmark⟩ := hrec
  have hsn : s l = none := by
    cases hs : s l with
    | none => rfl
    | some o => exact absurd (hst.wf.obj _ _ hs).lt (by omega)
  generalize hr : ({ state := .ready, pending := none, fn := b.fn, tmps := a.tmps, params := ps, assign := asg, body, defers := D } : Loop) = r at hl1
  have hle1 : Le w p w₁ p := Le.of_heap ho1 ho2 ho3 hsz (fun _ _ h => h) hst.wf.lt hold
  have hwf1 : Wf w₁ p (s.set l (.loop r env)) := by
    have hg := hst.wf.grow hle1 hold (fun _ _ _ h => h) (fun b o hp => by have := hst.wf.lt b o hp; omega)
    refine ⟨fun b' o hb => ?_, hg.lt⟩
    by_cases e : b' = l
    · subst e
      rw [Store.set_same] at hb; cases hb
      refine ⟨hl1, fun t v hv => ?_⟩
      have : r.tmps = a.tmps := by rw [← hr]
      rw [this]; exact (hst.env t v hv).mono hle1
    · rw [Store.set_ne _ _ e] at hb; exact hg.obj b' o hb
  have hk1 : Kept s (s.set l (.loop r env)) w p w₁ p := ⟨fun x hx _ => hold x hx, fun x hx hn => by rw [Store.set_ne _ _ (by omega)]; exact hn, fun _ _ _ _ h => h⟩
  obtain ⟨hcallable, hcall⟩ := h l r hsn fun args s₁ Rn Rj Rp hs1 hargs hbody w' p' v vs hwf' hv hvs => by
    have hvv : v = .func (.yield l) #[] #[] := by
      cases hv with
      | conc => rfl
    subst hvv
    have := yield_ok (a := a) (P := P) (N := N) (env := env) (r := r) (fn := fn) (by rw [← hr]; exact hfn') (by rw [← hr]) hs1 (by rw [← hr]; exact hargs) (by rw [← hr]; exact hst.size)
      (by rw [← hr]; exact hN) (Rn := Rn) (Rj := Rj) (Rp := Rp) (by rw [← hr]; exact hbody) w' p' vs hwf' hvs
    have hrr : { busy r with state := LoopState.ready, pending := none } = r := by rw [← hr]; rfl
    rw [hrr] at this
    exact this
  -- the call
  have hgr := hst.ev hg
  generalize hgv : a.eval g = gv at hgr
  cases hgr with
  | func _ as cs' _ _ ha hc =>
  have hinv : (do let d ← resolve a.eval (rangeOp g l) 0; invoke d.target d.args : Sem Next).run P w₁ = .ok (.enter f (as ++ #[.func (.yield l) #[] #[]] ++ cs')) w₁ := by
    simp only [resolve, rangeOp, hgv, Deferred.ofValue, Sem.run_bind, Sem.run_pure, Result.andThen_ok, invoke]
    have : (#[Operand.const (.func (.yield l) #[] #[])].map a.eval) = #[.func (.yield l) #[] #[]] := by simp [Act.eval]
    rw [this]
    exact hcallable _ _
  have hstep := step_range (k := k) (cs := cs) hent hinv
  have hcl := hcall w₁ p (as.toList ++ ([.func (.yield l) #[] #[]] ++ cs'.toList)) hwf1 ((ha.mono hle1).append (RelL.append (.cons _ _ _ _ (.conc _) .nil) (hc.mono hle1)))
  have hargs : (as.toList ++ ([Value.func (.yield l) #[] #[]] ++ cs'.toList)).toArray = as ++ #[.func (.yield l) #[] #[]] ++ cs' := by apply Array.ext'; simp
  rw [hargs] at hcl
  obtain ⟨e, w₂, fr, ⟨hno, out, s', p₂, hout, hR, hle2, hk2, hwf2⟩, hsteps, hfr, hleave⟩ := hcl (b.atR { a with defers := mark ++ a.defers } (.inRangeFunc l :: k) :: cs)
  -- the state behind the call, for the stores that are left
  have hst2 : ∀ s₂ o', s₂ l = none → s' = s₂.set l o' → ∀ w₃, Le w₂ p₂ w₃ p₂ → Kept s' s' w₂ p₂ w₃ p₂ → Wf w₃ p₂ s₂ → (∀ x, x ≠ l → w₃.heap[x]? = w₂.heap[x]?) →
      St N B b.roundOf env s₂ { a with defers := mark ++ a.defers } w₃ p₂ ∧ Le w p w₃ p₂ ∧ Kept s s₂ w p w₃ p₂ := by
    intro s₂ o' hn hs' w₃ hle3 hk3 hwf3 hh3
    have hL : Le w p w₃ p₂ := (hle1.trans hle2).trans hle3
    have hK0 := (hk1.trans hle1.size hk2).trans (hle1.trans hle2).size hk3
    have hsub : Store.Sub s₂ s' := by rw [hs']; exact Store.sub_set _ _ _ hn
    have hK : Kept s s₂ w p w₃ p₂ := hK0.sub hsub
    refine ⟨⟨hst.size, fun t v hv => (hst.env t v hv).mono hL, hwf3, ?_, fun l' hl' => ?_, Nat.le_trans hst.base hL.size⟩, hL, hK⟩
    · obtain ⟨ds, d1, d2, d3⟩ := hst.defs
      rcases hmark with ⟨rfl, -⟩ | ⟨hro, rfl, hD, hDl⟩
      · refine ⟨ds, by simpa using d1, d2, fun d hd => ?_⟩
        obtain ⟨hB, hd0, hsd⟩ := d3 d hd
        have hlt : d < w.heap.size := (Array.getElem?_eq_some_iff.1 hd0).1
        exact ⟨hB, (hK.heap d hlt hsd).trans hd0, hK.dom d hlt hsd⟩
      · have hsD : (s.set l (.loop r env)) w.heap.size = none := by
          rw [Store.set_ne _ _ (Ne.symm hDl)]
          cases hs : s w.heap.size with
          | none => rfl
          | some o => exact absurd (hst.wf.obj _ _ hs).lt (by omega)
        have hDlt : w.heap.size < w₁.heap.size := (Array.getElem?_eq_some_iff.1 hD).1
        have hD2 : w₃.heap[w.heap.size]? = some (.deferred (some [])) := by
          rw [hh3 _ (Ne.symm hDl), hk2.heap _ hDlt hsD]; exact hD
        have hs2D : s₂ w.heap.size = none := hsub.none (hk2.dom _ hDlt hsD)
        refine ⟨w.heap.size :: ds, by simp [marksOf, d1], List.nodup_cons.2 ⟨fun hm => ?_, d2⟩, fun d hd => ?_⟩
        · have := (Array.getElem?_eq_some_iff.1 (d3 _ hm).2.1).1; omega
        · rcases List.mem_cons.1 hd with rfl | hd
          · exact ⟨hst.base, hD2, hs2D⟩
          · obtain ⟨hB, hd0, hsd⟩ := d3 d hd
            have hlt : d < w.heap.size := (Array.getElem?_eq_some_iff.1 hd0).1
            exact ⟨hB, (hK.heap d hlt hsd).trans hd0, hK.dom d hlt hsd⟩
    · obtain ⟨h1, ⟨r', h2⟩, h3⟩ := hst.round l' hl'
      have hlt : l' < w.heap.size := (Array.getElem?_eq_some_iff.1 h2).1
      refine ⟨?_, ⟨r', (hK.heap l' hlt h3).trans h2⟩, hK.dom l' hlt h3⟩
      rcases hmark with ⟨rfl, -⟩ | ⟨hro, -⟩
      · exact h1
      · rw [hro] at hl'; cases hl'
  -- the end of the loop
  have hend : ∀ s₂ (r' : Loop), s₂ l = none → s' = s₂.set l (.loop r' env) → (r'.state == .busy) = false → ∃ w₃, (Instr.endLoop l).run P w₂ = .ok r'.pending w₃ ∧
      St N B b.roundOf env s₂ { a with defers := mark ++ a.defers } w₃ p₂ ∧ Le w p w₃ p₂ ∧ Kept s s₂ w p w₃ p₂ := by
    intro s₂ r' hn hs' hb'
    have hs'l : s' l = some (.loop r' env) := by rw [hs']; exact Store.set_same _ _ _
    have hl2 : w₂.heap[l]? = some (.loop r') := (hwf2.obj _ _ hs'l).1
    obtain ⟨q1, q2, q3⟩ := obj_set (r' := { r' with state := .exhausted }) hwf2 hs'l rfl _ rfl
    have hk3 : Kept s' s' w₂ p₂ { w₂ with heap := w₂.heap.setIfInBounds l (.loop { r' with state := .exhausted }) } p₂ := by
      refine ⟨q2.heap, fun x hx hn => hn, q2.prot⟩
    have hwf3 : Wf { w₂ with heap := w₂.heap.setIfInBounds l (.loop { r' with state := .exhausted }) } p₂ s₂ := by
      refine q3.sub ?_
      rw [hs', Store.set_set]; exact Store.sub_set _ _ _ hn
    refine ⟨_, ?_, hst2 s₂ _ hn hs' _ q1 hk3 hwf3 (fun x hx => by
      show (w₂.heap.setIfInBounds l _)[x]? = _
      rw [Array.getElem?_setIfInBounds, if_neg (fun e => hx e.symm)])⟩
    unfold Instr.endLoop
    simp only [Sem.run_bind, run_getLoop' hl2, Result.andThen_ok, hb', Bool.false_eq_true, if_false, run_setObj hl2 rfl, Sem.run_pure]
  cases e with
  | outgrown => exact absurd rfl hno
  | returned v =>
    cases out with
    | panic x => exact hout.elim
    | ret x =>
    have hback : Steps P (lone (b.atR a (.code (.rangeFunc g ps asg body) :: k)) cs w) (lone (b.atR { a with defers := mark ++ a.defers } (.endRangeFunc l :: k)) cs w₂) := by
      refine .head hstep (Steps.trans hsteps (.one ?_))
      rw [← atR_finish_range _ _ _ _ v]; exact step_leave_returned hleave
    rcases hR with ⟨s₂, hn, hs', hq⟩ | ⟨j, s₂, hn, hs', hq⟩
    · obtain ⟨w₃, hend', hst3, hL, hK⟩ := hend s₂ r hn hs' (by rw [← hr]; rfl)
      have hp : r.pending = none := by rw [← hr]
      rw [hp] at hend'
      exact ⟨.normal, _, w₃, ⟨.normal, env, s₂, p₂, .normal, hq, hst3, hL, hK⟩, Steps.trans hback (.one (by simpa using step_endRange (k := k) hend'))⟩
    · obtain ⟨w₃, hend', hst3, hL, hK⟩ := hend s₂ (over r j) hn hs' rfl
      obtain ⟨e', a', w₄, hq', harr⟩ := hq b B _ w₃ p₂ hfn hst3 k cs
      exact ⟨e', a', w₄, Post.after hL hK hq', .of_steps (Steps.trans hback (.one (by simpa [over] using step_endRange (k := k) hend'))) harr⟩
  | panicked ch =>
    cases out with
    | ret x => exact hout.elim
    | panic x =>
    obtain ⟨v, hch, hv⟩ := hout
    obtain ⟨s₂, o', hn, hs', hq⟩ := hR
    obtain ⟨hst3, hL, hK⟩ := hst2 s₂ o' hn hs' w₂ (.refl _ _) (.refl _ _ _) (hwf2.sub (by rw [hs']; exact Store.sub_set _ _ _ hn)) (fun _ _ => rfl)
    refine ⟨.panic ch, _, w₂, ⟨.panic x, env, s₂, p₂, .panic v x _ hch hv, hq, hst3, hL, hK⟩, .inRangeFunc l :: k, .head hstep (Steps.trans hsteps (.one ?_))⟩
    rw [← Frame.raise_atR]; exact step_leave_panicked hleave
end
end Go.AE

/- The abstract walk: ranges over maps. -/
namespace Go.AE

theorem RelM.nil {w : World} {p : Prot} : RelM w p [] [] := ⟨.nil, .nil⟩

theorem RelM.length {w : World} {p : Prot} {mes : List MapEntry} {es : List (AV × AV)} (h : RelM w p mes es) : mes.length = es.length := by simpa using h.1.length

theorem RelM.split {w : World} {p : Prot} : ∀ {a b : List MapEntry} {e : MapEntry} {es : List (AV × AV)}, RelM w p (a ++ e :: b) es →
  ∃ l₁ k v l₂, es = l₁ ++ (k, v) :: l₂ ∧ Rel w p e.key k ∧ Rel w p e.val v ∧ RelM w p (a ++ b) (l₁ ++ l₂) := by
 intro a
 induction a with
 | nil =>
  intro b e es h
  cases es with
  | nil => have := h.length; simp at this
  | cons x es =>
   obtain ⟨k, v⟩ := x
   obtain ⟨h1, h2⟩ := h
   simp only [List.nil_append, List.map_cons] at h1 h2
   cases h1 with | cons _ _ _ _ k1 t1 => cases h2 with | cons _ _ _ _ k2 t2 =>
   exact ⟨[], k, v, es, rfl, k1, k2, t1, t2⟩
 | cons x a ih =>
  intro b e es h
  cases es with
  | nil => have := h.length; simp at this
  | cons y es =>
   obtain ⟨k0, v0⟩ := y
   obtain ⟨h1, h2⟩ := h
   simp only [List.cons_append, List.map_cons] at h1 h2
   cases h1 with | cons _ _ _ _ k1 t1 => cases h2 with | cons _ _ _ _ k2 t2 =>
   obtain ⟨l₁, k, v, l₂, rfl, e1, e2, e3, e4⟩ := ih (b := b) (e := e) (es := es) ⟨t1, t2⟩
   exact ⟨(k0, v0) :: l₁, k, v, l₂, rfl, e1, e2, .cons _ _ _ _ k1 e3, .cons _ _ _ _ k2 e4⟩

section
variable {P : Program} {Γ : Tys} {N : Nat} {env : Env} {s : Store}

end
end Go.AE

/- The abstract walk: weaker values; the rules for single operations, as proofs use them; maps of strings; loops over slices. -/
namespace Go.AE

/-! ### Weaker values -/

inductive AVleL : List AV → List AV → Prop
 | nil : AVleL [] []
 | cons {x y : AV} {xs ys : List AV} (h : AVle x y) (t : AVleL xs ys) : AVleL (x :: xs) (y :: ys)

theorem AVleL.rel {w : World} {p : Prot} {xs ys : List AV} (h : AVleL xs ys) : ∀ {vs : List Value}, RelL w p vs xs → RelL w p vs ys := by
 induction h with
 | nil => exact fun h => h
 | cons h _ ih => intro vs hv; cases hv with | cons _ _ _ _ h1 h2 => exact .cons _ _ _ _ (h _ _ _ h1) (ih h2)

theorem AVleL.refl : ∀ xs : List AV, AVleL xs xs
 | [] => .nil
 | _ :: xs => .cons (AVle.refl _) (AVleL.refl xs)

theorem AVleL.length {xs ys : List AV} (h : AVleL xs ys) : xs.length = ys.length := by
 induction h with
 | nil => rfl
 | cons _ _ ih => simp [ih]

theorem AVleL.append {a b c d : List AV} (h : AVleL a b) (k : AVleL c d) : AVleL (a ++ c) (b ++ d) := by
 induction h with
 | nil => exact k
 | cons h _ ih => exact .cons h ih

theorem AVle.trans {x y z : AV} (h : AVle x y) (k : AVle y z) : AVle x z := fun w p v hv => k w p v (h w p v hv)

theorem AVle.agg {xs ys : List AV} (h : AVleL xs ys) : AVle (.agg xs) (.agg ys) := fun w p v hv => by cases hv with | agg cs _ hl => exact .agg _ _ (h.rel hl)
theorem AVle.tup {xs ys : List AV} (h : AVleL xs ys) : AVle (.tup xs) (.tup ys) := fun w p v hv => by cases hv with | tup cs _ hl => exact .tup _ _ (h.rel hl)
theorem AVle.iface {t : TypeId} {x y : AV} (h : AVle x y) : AVle (.iface t x) (.iface t y) := fun w p v hv => by cases hv with | iface _ _ _ hl => exact .iface _ _ _ (h _ _ _ hl)
theorem AVle.fptr {xs ys : List AV} {o : Nat} (h : AVleL xs ys) : AVle (.fptr xs o) (.fptr ys o) := fun w p v hv => by
 cases hv with | fptr b base oo off vs _ ho hc hr => exact .fptr b base oo o vs ys ho hc (h.rel hr)
theorem AVle.func {f : FuncId} {xs ys us vs : List AV} (h : AVleL xs ys) (k : AVleL us vs) : AVle (.func f xs us) (.func f ys vs) := fun w p v hv => by
 cases hv with | func _ as cs _ _ ha hc => exact .func _ _ _ _ _ (h.rel ha) (k.rel hc)
theorem AVle.slc {sz : Nat} {xs ys : List AV} {own : Own} (h : AVleL xs ys) : AVle (.slc sz xs own) (.slc sz ys .fro) := fun w p v hv => by
 cases hv with
 | slcNil => cases h; exact .slcNil _ _ (by simp)
 | slcZ a => cases h; exact .slcZ a _ _ (.inl rfl)
 | slc g off n cap _ vs _ _ hn hl hc hr hs hm hk hcl ho => exact .slc g off n cap sz vs ys .fro (by simp) (hl.trans h.length) hc (h.rel hr) hs hm hk (by simp) (by simp)
theorem AVle.fro {sz : Nat} {xs : List AV} {own : Own} : AVle (.slc sz xs own) (.slc sz xs .fro) := AVle.slc (AVleL.refl _)
theorem AVle.nil {sz sz' : Nat} {own : Own} (ho : ∀ b, own ≠ .own b) : AVle (.slc sz [] .nil) (.slc sz' [] own) := fun w p v hv => by
 cases hv with
 | slcNil => exact .slcNil _ _ ho
 | slcZ _ _ _ h => rcases h with h | h <;> cases h
 | slc g off n cap _ vs _ _ hn => exact absurd rfl hn
theorem AVle.empty {sz sz' : Nat} {own : Own} : AVle (.slc sz [] own) (.slc sz' [] .fro) := fun w p v hv => by
 cases hv with
 | slcNil => exact .slcNil _ _ (by simp)
 | slcZ a => exact .slcZ a _ _ (.inl rfl)
 | slc g off n cap _ vs _ _ hn hl hc hr hs hm hk hcl ho =>
  have : vs = [] := List.eq_nil_of_length_eq_zero (by rw [hr.length]; rfl)
  subst this
  exact .slc g off n cap sz' [] [] .fro (by simp) hl hc .nil (by simp) hm hk (by simp) (by simp)
theorem AVle.any (x : AV) : AVle x .any := fun _ _ v _ => .any v

section
variable {P : Program} {Γ : Tys} {N : Nat} {ops : Array Oper} {Q : AEx → Env → Store → Prop} {env : Env} {s : Store} {l : List Oper} {o : Oper} {d : Nat}

theorem RL.weak {l : List Oper} (t : Nat) {v : AV} (v' : AV) (hv : env.get? t = some v) (he : AVle v v') (h : RL P N ops l Q ((t, v') :: env) s) : RL P N ops l Q env s := by
 intro k hk ro B a w p hst
 exact h k hk ro B a w p ⟨hst.size, fun u x hx => by
  simp only [Env.get?] at hx
  split at hx
  ·rename_i hb; have := Nat.eq_of_beq_eq_true hb; subst this; cases hx; exact he _ _ _ (hst.env _ _ hv)
  ·exact hst.env u x hx, hst.wf, hst.defs, hst.round, hst.base⟩

theorem CW.weak {c : Code} (t : Nat) {v : AV} (v' : AV) (hv : env.get? t = some v) (he : AVle v v') (h : CW P N c Q ((t, v') :: env) s) : CW P N c Q env s := by
 intro b B a w p hfn hst
 exact h b B a w p hfn ⟨hst.size, fun u x hx => by
  simp only [Env.get?] at hx
  split at hx
  ·rename_i hb; have := Nat.eq_of_beq_eq_true hb; subst this; cases hx; exact he _ _ _ (hst.env _ _ hv)
  ·exact hst.env u x hx, hst.wf, hst.defs, hst.round, hst.base⟩

/-! ### Single operations -/

theorem RL.alloc (hΓ : TysOk P Γ) {t : TypeId} {i : TI} {z : AV} {cs : List AV} (hg : guardOf ops env o = some true) (hd : o.dst = some d) (hN : Nat.blt d N = true) (ho : o.op = .alloc t) (ht : Γ.get? t = some i)
  (hz : constAV2 i.zero = some z) (hc : cellsOf z = some cs) (h : ∀ b, s b = none → RL P N ops l Q ((d, .ptr b 0) :: env) (s.set b (.box t cs))) : RL P N ops (o :: l) Q env s :=
 RL.op hg hd hN (OW.alloc hΓ ho ht hz hc (X := fun _ _ => False)) (fun x s' ⟨b, h1, h2, h3⟩ => by subst h2; subst h3; exact h b h1) (fun _ _ h => h.elim)

theorem RL.loadP (hΓ : TysOk P Γ) {t T : TypeId} {x : Operand} {i : TI} {b off : Nat} {cs : List AV} {v : AV} (hg : guardOf ops env o = some true) (hd : o.dst = some d) (hN : Nat.blt d N = true) (ho : o.op = .load t x)
  (ht : Γ.get? t = some i) (hx : ev env x = some (.ptr b off)) (hs : s b = some (.box T cs)) (hv : loadC i cs off = some v) (h : RL P N ops l Q ((d, v) :: env) s) : RL P N ops (o :: l) Q env s :=
 RL.op hg hd hN (OW.loadP hΓ ho ht hx hs hv (X := fun _ _ => False)) (fun x s' ⟨h1, h2⟩ => by subst h1; subst h2; exact h) (fun _ _ h => h.elim)

theorem RL.storeP (hΓ : TysOk P Γ) {t T : TypeId} {x y : Operand} {i : TI} {b off : Nat} {cs us : List AV} {v : AV} (hg : guardOf ops env o = some true) (hd : o.dst = none) (ho : o.op = .store t x y)
  (ht : Γ.get? t = some i) (hx : ev env x = some (.ptr b off)) (hy : ev env y = some v) (hv : cellsOf v = some us) (hu : Nat.beq us.length i.size = true) (h1 : us.all oneC = true) (hs : s b = some (.box T cs))
  (hfit : Nat.ble (off + us.length) cs.length = true) (h : RL P N ops l Q env (s.set b (.box T (setL off us cs)))) : RL P N ops (o :: l) Q env s :=
 RL.opN hg hd (OW.storeP hΓ ho ht hx hy hv hu h1 hs hfit (X := fun _ _ => False)) (fun x s' h1 => by subst h1; exact h) (fun _ _ h => h.elim)

theorem RL.lookup (hΓ : TysOk P Γ) {t kt et : TypeId} {x y : Operand} {ok : Bool} {it ik ie : TI} {m : Nat} {es : List (AV × AV)} {k z : AV} {r : Option AV} (hg : guardOf ops env o = some true) (hd : o.dst = some d) (hN : Nat.blt d N = true)
  (ho : o.op = .lookup t x y ok) (ht : Γ.get? t = some it) (htd : it.td = .map kt et) (hik : Γ.get? kt = some ik) (hie : Γ.get? et = some ie) (hx : ev env x = some (.map m)) (hy : ev env y = some k) (hs : s m = some (.map es))
  (hf : keyFits ik.td k = true) (hr : getA es k = some r) (hz : constAV2 ie.zero = some z) (h : RL P N ops l Q ((d, gotA ok z r) :: env) s) : RL P N ops (o :: l) Q env s :=
 RL.op hg hd hN (OW.lookup hΓ ho ht htd hik hie hx hy (.inl ⟨m, rfl, hs⟩) hf hr hz (X := fun _ _ => False)) (fun x s' ⟨h1, h2⟩ => by subst h1; subst h2; exact h) (fun _ _ h => h.elim)

theorem RL.mapUpdate (hΓ : TysOk P Γ) {t kt et : TypeId} {x y z : Operand} {it ik : TI} {b : Nat} {es es' : List (AV × AV)} {k v : AV} (hg : guardOf ops env o = some true) (hd : o.dst = none)
  (ho : o.op = .mapUpdate t x y z ∨ o.op = .insert t x y z) (ht : Γ.get? t = some it) (htd : it.td = .map kt et) (hik : Γ.get? kt = some ik) (hx : ev env x = some (.map b)) (hy : ev env y = some k) (hz : ev env z = some v)
  (hs : s b = some (.map es)) (hf : keyFits ik.td k = true) (hp : putA es k v = some es') (h : RL P N ops l Q env (s.set b (.map es'))) : RL P N ops (o :: l) Q env s :=
 RL.opN hg hd (OW.mapUpdate hΓ ho ht htd hik hx hy hz hs hf hp (X := fun _ _ => False)) (fun x s' h1 => by subst h1; exact h) (fun _ _ h => h.elim)

theorem RL.makeMap {t : TypeId} (hg : guardOf ops env o = some true) (hd : o.dst = some d) (hN : Nat.blt d N = true) (ho : o.op = .makeMap t none)
  (h : ∀ b, s b = none → RL P N ops l Q ((d, .map b) :: env) (s.set b (.map []))) : RL P N ops (o :: l) Q env s :=
 RL.op hg hd hN (OW.makeMap ho (X := fun _ _ => False)) (fun x s' ⟨b, h1, h2, h3⟩ => by subst h2; subst h3; exact h b h1) (fun _ _ h => h.elim)

theorem RL.invoke {g : Operand} {name : String} {as : Array Operand} {ats : Array TypeId} {t : TypeId} {v : AV} {f : FuncId} {xs : List AV} {R : AOut → Store → Prop} (hg : guardOf ops env o = some true) (hd : o.dst = some d) (hN : Nat.blt d N = true)
  (ho : o.op = .call { callee := .invoke g name, args := as, argTypes := ats }) (hv : ev env g = some (.iface t v)) (ha : evs env as.toList = some xs) (hm : MethodIs P t name f) (h : ACalls P f (v :: xs) s R)
  (hk : ∀ x s', R (.ret x) s' → RL P N ops l Q ((d, x) :: env) s') (hx : ∀ x s', R (.panic x) s' → Q (.panic x) env s') : RL P N ops (o :: l) Q env s :=
 RL.op hg hd hN (OW.invoke ho hv ha hm h) hk hx

theorem RL.panic {x : Operand} {t : TypeId} {v : AV} (hg : guardOf ops env o = some true) (hd : o.dst = none) (ho : o.op = .panic x) (hx : ev env x = some (.iface t v)) (h : Q (.panic (.iface t v)) env s) :
  RL P N ops (o :: l) Q env s :=
 RL.opN hg hd (OW.panic ho hx (K := fun _ _ => False)) (fun x s' h => h.elim) (fun x s' ⟨h1, h2⟩ => by subst h1; subst h2; exact h)

end

/-! ### Single operations of regions whose order is drawn -/

section
variable {P : Program} {Γ : Tys} {N : Nat} {l : List Oper} {Q : AEx → Env → Store → Prop} {env : Env} {s : Store} {m : Nat}

theorem RJ.pure {J : Store → Prop} (hJ : J s) (i : Nat) {o : Oper} {d : Nat} {v : AV} (hr : readyB l.toArray m i = true) (ho : l.toArray[i]? = some o) (hd : o.dst = some d) (hN : Nat.blt d N = true)
  (hg : guardOf l.toArray (pickE env (looks l.toArray o)) o = some true) (hv : APure Γ o (pickE env (looks l.toArray o)) v) (h : RJ J P Γ N l.toArray Q (dn (m ||| 2 ^ i)) ((d, v) :: env) s) :
  RJ J P Γ N l.toArray Q (dn m) env s :=
 RJ.still hJ i o d v (readyB_iff.1 hr) ho hd (by simpa [Nat.blt_eq] using hN) (.inl ⟨hg, hv⟩) (by rw [also_dn]; exact h)

theorem RD.pure (i : Nat) {o : Oper} {d : Nat} {v : AV} (hr : readyB l.toArray m i = true) (ho : l.toArray[i]? = some o) (hd : o.dst = some d) (hN : Nat.blt d N = true)
  (hg : guardOf l.toArray (pickE env (looks l.toArray o)) o = some true) (hv : APure Γ o (pickE env (looks l.toArray o)) v) (h : RD P Γ N l.toArray Q (dn (m ||| 2 ^ i)) ((d, v) :: env) s) :
  RD P Γ N l.toArray Q (dn m) env s := RJ.pure trivial i hr ho hd hN hg hv h
theorem RJ.idx {J : Store → Prop} (hJ : J s) (i : Nat) {o : Oper} {d : Nat} {t e : TypeId} {x y : Operand} {it ie : TI} {sz : Nat} {xs : List AV} {own : Own} {k : IntKind} {n : Int} {v : AV} {cs : List AV} (j : Nat) (hr : readyB l.toArray m i = true) (ho : l.toArray[i]? = some o)
  (hd : o.dst = some d) (hN : Nat.blt d N = true) (hg : guardOf l.toArray (pickE env (looks l.toArray o)) o = some true) (hop : o.op = .indexAddr t x y) (ht : Γ.get? t = some it) (htd : it.td = .slc e) (hie : Γ.get? e = some ie)
  (hx : ev (pickE env (looks l.toArray o)) x = some (.slc sz xs own)) (hsz : sz = ie.size) (hy : ev (pickE env (looks l.toArray o)) y = some (.int k n)) (hij : n = (j : Int)) (hj : xs[j]? = some v) (hc : cellsOf v = some cs)
  (h : RJ J P Γ N l.toArray Q (dn (m ||| 2 ^ i)) ((d, .fptr cs 0) :: env) s) : RJ J P Γ N l.toArray Q (dn m) env s :=
 RJ.pure hJ i hr ho hd hN hg (.idx j hop ht htd hie hx hsz hy hij hj hc) h
theorem RD.idx (i : Nat) {o : Oper} {d : Nat} {t e : TypeId} {x y : Operand} {it ie : TI} {sz : Nat} {xs : List AV} {own : Own} {k : IntKind} {n : Int} {v : AV} {cs : List AV} (j : Nat) (hr : readyB l.toArray m i = true) (ho : l.toArray[i]? = some o)
  (hd : o.dst = some d) (hN : Nat.blt d N = true) (hg : guardOf l.toArray (pickE env (looks l.toArray o)) o = some true) (hop : o.op = .indexAddr t x y) (ht : Γ.get? t = some it) (htd : it.td = .slc e) (hie : Γ.get? e = some ie)
  (hx : ev (pickE env (looks l.toArray o)) x = some (.slc sz xs own)) (hsz : sz = ie.size) (hy : ev (pickE env (looks l.toArray o)) y = some (.int k n)) (hij : n = (j : Int)) (hj : xs[j]? = some v) (hc : cellsOf v = some cs)
  (h : RD P Γ N l.toArray Q (dn (m ||| 2 ^ i)) ((d, .fptr cs 0) :: env) s) : RD P Γ N l.toArray Q (dn m) env s :=
 RD.pure i hr ho hd hN hg (.idx j hop ht htd hie hx hsz hy hij hj hc) h

theorem RD.slice (i : Nat) {o : Oper} {d : Nat} {t e : TypeId} {x : Operand} {lo hi mx : Option Operand} {it ie : TI} {sz : Nat} {xs : List AV} {own own' : Own} (a b : Nat) (hr : readyB l.toArray m i = true) (ho : l.toArray[i]? = some o)
  (hd : o.dst = some d) (hN : Nat.blt d N = true) (hg : guardOf l.toArray (pickE env (looks l.toArray o)) o = some true) (hop : o.op = .slice t x lo hi mx)
  (ht : Γ.get? t = some it) (htd : it.td = .slc e) (hie : Γ.get? e = some ie) (hx : ev (pickE env (looks l.toArray o)) x = some (.slc sz xs own)) (hsz : xs = [] ∨ sz = ie.size)
  (hlo : (lo = none ∧ a = 0) ∨ ∃ y k, lo = some y ∧ ev (pickE env (looks l.toArray o)) y = some (.int k (a : Int))) (hhi : (hi = none ∧ mx = none ∧ b = xs.length) ∨ ∃ y k, hi = some y ∧ ev (pickE env (looks l.toArray o)) y = some (.int k (b : Int)))
  (hmx : (mx = none ∧ own' = .fro) ∨ (∃ y k, mx = some y ∧ ev (pickE env (looks l.toArray o)) y = some (.int k (b : Int)) ∧ own' = .clip)) (hl : a ≤ b) (hh : b ≤ xs.length)
  (h : RD P Γ N l.toArray Q (dn (m ||| 2 ^ i)) ((d, .slc sz ((xs.take b).drop a) own') :: env) s) : RD P Γ N l.toArray Q (dn m) env s :=
 RD.pure i hr ho hd hN hg (.slice a b hop ht htd hie hx hsz hlo hhi hmx hl hh) h

theorem RD.call {i : Nat} {o : Oper} {d : Nat} {f : FuncId} {as : Array Operand} {ats : Array TypeId} {xs : List AV} {R : AOut → Store → Prop} (hr : readyL l.toArray m (idxs 0 l) = [i]) (ho : l.toArray[i]? = some o) (hd : o.dst = some d) (hN : Nat.blt d N = true)
  (hg : guardOf l.toArray (pickE env (looks l.toArray o)) o = some true) (hop : o.op = .call { callee := .value (.func f), args := as, argTypes := ats }) (ha : evs (pickE env (looks l.toArray o)) as.toList = some xs) (h : ACalls P f xs s R)
  (hk : ∀ x s', R (.ret x) s' → RD P Γ N l.toArray Q (dn (m ||| 2 ^ i)) ((d, x) :: env) s') (hx : ∀ x s', R (.panic x) s' → Q (.panic x) [] s') : RD P Γ N l.toArray Q (dn m) env s :=
 RD.one hr ho hd hN hg (OW.call hop (fv := .func f [] []) rfl ha (ACallV.of_calls (by simpa using h))) hk hx

theorem RD.callP {i : Nat} {o : Oper} {d : Nat} {f : FuncId} {as : Array Operand} {ats : Array TypeId} {xs : List AV} {v : AV} (hr : readyL l.toArray m (idxs 0 l) = [i]) (ho : l.toArray[i]? = some o) (hd : o.dst = some d) (hN : Nat.blt d N = true)
  (hg : guardOf l.toArray (pickE env (looks l.toArray o)) o = some true) (hop : o.op = .call { callee := .value (.func f), args := as, argTypes := ats }) (ha : evs (pickE env (looks l.toArray o)) as.toList = some xs)
  (h : ACalls P f xs s (fun out s' => out = .ret v ∧ s' = s)) (hk : RD P Γ N l.toArray Q (dn (m ||| 2 ^ i)) ((d, v) :: env) s) : RD P Γ N l.toArray Q (dn m) env s :=
 RD.call hr ho hd hN hg hop ha h (fun x s' ⟨h1, h2⟩ => by cases h1; subst h2; exact hk) (fun x s' ⟨h1, _⟩ => by cases h1)
end

section
variable {P : Program} {Γ : Tys} {N : Nat} {l : List Oper} {Q : AEx → Env → Store → Prop} {env : Env} {s : Store} {m : Nat}

theorem RD.callV {i : Nat} {o : Oper} {d : Nat} {g : Operand} {fv : AV} {as : Array Operand} {ats : Array TypeId} {xs : List AV} {R : AOut → Store → Prop} (hr : readyL l.toArray m (idxs 0 l) = [i]) (ho : l.toArray[i]? = some o) (hd : o.dst = some d)
  (hN : Nat.blt d N = true) (hg : guardOf l.toArray (pickE env (looks l.toArray o)) o = some true) (hop : o.op = .call { callee := .value g, args := as, argTypes := ats }) (hv : ev (pickE env (looks l.toArray o)) g = some fv)
  (ha : evs (pickE env (looks l.toArray o)) as.toList = some xs) (h : ACallV P fv xs s R)
  (hk : ∀ x s', R (.ret x) s' → RD P Γ N l.toArray Q (dn (m ||| 2 ^ i)) ((d, x) :: env) s') (hx : ∀ x s', R (.panic x) s' → Q (.panic x) [] s') : RD P Γ N l.toArray Q (dn m) env s :=
 RD.one hr ho hd hN hg (OW.call hop hv ha h) hk hx

theorem RD.two {i j : Nat} {o u : Oper} {d c : Nat} {K X K' X' : AV → Store → Prop} (hr : readyL l.toArray m (idxs 0 l) = [i, j]) (ho : l.toArray[i]? = some o) (hu : l.toArray[j]? = some u) (hd : o.dst = some d) (hc : u.dst = some c)
  (hN : Nat.blt d N = true) (hN' : Nat.blt c N = true) (hne : Nat.beq i j = false)
  (hg : guardOf l.toArray (pickE env (looks l.toArray o)) o = some true) (hg' : guardOf l.toArray (pickE env (looks l.toArray u)) u = some true)
  (h : OW P N o (pickE env (looks l.toArray o)) s K X) (h' : OW P N u (pickE env (looks l.toArray u)) s K' X')
  (hk : ∀ x s', K x s' → RD P Γ N l.toArray Q (dn (m ||| 2 ^ i)) ((d, x) :: env) s') (hk' : ∀ x s', K' x s' → RD P Γ N l.toArray Q (dn (m ||| 2 ^ j)) ((c, x) :: env) s')
  (hx : ∀ x s', X x s' → Q (.panic x) [] s') (hx' : ∀ x s', X' x s' → Q (.panic x) [] s') : RD P Γ N l.toArray Q (dn m) env s := by
 have hnij : i ≠ j := fun e => by subst e; rw [Nat.beq_refl] at hne; cases hne
 have hin : ∀ k, Ready l.toArray (dn m) k → k = i ∨ k = j := fun k hk => by
  have := mem_readyL hk (l := idxs 0 l) (by rw [idxs_eq, List.mem_range'_1]; have := hk.1; simp at this; omega)
  rw [hr] at this; simpa using this
 have hlt : i < l.toArray.size := (Array.getElem?_eq_some_iff.1 ho).1
 have hbit : dn m i = false := by
  cases hb : dn m i with
  | false => rfl
  | true =>
   have hmem : i ∈ readyL l.toArray m (idxs 0 l) := by rw [hr]; exact List.mem_cons_self ..
   have : ∀ is, i ∈ readyL l.toArray m is → readyB l.toArray m i = true := by
    intro is
    induction is with
    | nil => intro h; cases h
    | cons j is ih =>
     intro h
     simp only [readyL] at h
     split at h
     ·rename_i hb
      rcases List.mem_cons.1 h with rfl | h
      ·exact hb
      ·exact ih h
     ·exact ih h
   have := (readyB_iff.1 (this _ hmem)).2.1
   rw [hb] at this; cases this
 refine RJ.split (fun k => if k = i then K else K') (fun k => if k = i then X else X') ⟨i, hlt, hbit⟩ (fun k o' hkr ho' => ?_) (fun _ _ _ _ _ _ _ => .inl trivial) (fun k o' d' hkr ho' hd' x s' hK => ?_) (fun k o' hkr ho' hd' x s' hK => ?_) (fun k o' hkr ho' x s' hX => ?_)
 ·rcases hin k hkr with rfl | rfl
  ·rw [ho] at ho'; cases ho'
   simp only [if_true]
   exact ⟨hg, h, fun d' hd' => by rw [hd] at hd'; cases hd'; simpa [Nat.blt_eq] using hN⟩
  ·rw [hu] at ho'; cases ho'
   simp only [if_neg (Ne.symm hnij)]
   exact ⟨hg', h', fun d' hd' => by rw [hc] at hd'; cases hd'; simpa [Nat.blt_eq] using hN'⟩
 ·rcases hin k hkr with rfl | rfl
  ·rw [ho] at ho'; cases ho'
   rw [hd] at hd'; cases hd'
   simp only [if_true] at hK
   rw [also_dn]; exact hk x s' hK
  ·rw [hu] at ho'; cases ho'
   rw [hc] at hd'; cases hd'
   simp only [if_neg (Ne.symm hnij)] at hK
   rw [also_dn]; exact hk' x s' hK
 ·rcases hin k hkr with rfl | rfl
  ·rw [ho] at ho'; cases ho'
   rw [hd] at hd'; cases hd'
  ·rw [hu] at ho'; cases ho'
   rw [hc] at hd'; cases hd'
 ·rcases hin k hkr with rfl | rfl
  ·simp only [if_true] at hX; exact hx x s' hX
  ·simp only [if_neg (Ne.symm hnij)] at hX; exact hx' x s' hX

end

/-! ### Tests of guards; what is known behind a part of a region -/

theorem cops_append {P : Program} {ops : Array Oper} {Q : CEx → Act → World → Prop} (l₂ : List Nat) : ∀ (l₁ : List Nat) (a : Act) (w : World),
  cops P ops (CEx.andThen (cops P ops Q l₂) Q) l₁ a w → cops P ops Q (l₁ ++ l₂) a w := by
 intro l₁
 induction l₁ with
 | nil => intro a w h; exact h
 | cons i r ih =>
  intro a w h
  simp only [List.cons_append, cops] at h ⊢
  split at h
  ·exact ih _ _ h
  ·rename_i o ho
   split at h
   ·rename_i hw
    rw [if_pos hw]
    refine ⟨h.1, h.2.mono ?_⟩
    intro e w' he
    cases e with
    | returned v => exact ih _ _ he
    | panicked ch => exact he
    | outgrown => exact he
   ·rename_i hw
    rw [if_neg hw]
    exact ih _ _ h

section
variable {P : Program} {Γ : Tys} {N : Nat} {ops : Array Oper} {Q : AEx → Env → Store → Prop} {env : Env} {s : Store} {l : List Oper} {o : Oper} {d : Nat}

theorem RL.cut (n : Nat) (E' : Env) (h₁ : RL P N ops (l.take n) (fun x e s' => x = .normal ∧ Env.Sub E' e ∧ s' = s) env s) (h₂ : RL P N ops (l.drop n) Q E' s) : RL P N ops l Q env s := by
 intro k hk ro B a w p hst
 have hlen : l.length = (l.take n).length + (l.drop n).length := by rw [← List.length_append, List.take_append_drop]
 rw [hlen, ← List.range'_append_1]
 refine cops_append _ _ _ _ (cops_mono ?_ _ _ _ (h₁ k (fun j x hj => hk j x ?_) ro B a w p hst))
 ·rintro e a' w' ⟨x, env', s', p', hx, ⟨rfl, hE, rfl⟩, hst', hle, hkk⟩
  cases hx
  refine RW.after hle hkk ?_ (hst'.sub hE)
  refine h₂ _ (fun j x hj => ?_)
  rw [List.getElem?_drop] at hj
  have hlt := (List.getElem?_eq_some_iff.1 hj).1
  rw [List.length_take, Nat.min_eq_left (by omega), Nat.add_assoc]
  exact hk _ x hj
 ·rw [List.getElem?_take] at hj
  split at hj
  ·exact hj
  ·cases hj

def guardSlot (ops : Array Oper) (o : Oper) : Option Nat := match o.guard with
  | some (j, _) => match ops[j]? with
    | some u => u.dst
    | none => none
  | none => none

theorem RL.gstepT (hΓ : TysOk P Γ) {t : Nat} {b : Bool} {v : AV} (hs : guardSlot ops o = some t) (hv : env.get? t = some (.bool b)) (h1 : guardOf ops ((t, .bool true) :: env) o = some true) (h2 : guardOf ops ((t, .bool false) :: env) o = some false)
  (hd : o.dst = some d) (hN : Nat.blt d N = true) (hav : aop Γ o ((t, .bool true) :: env) = some v) (hT : b = true → RL P N ops l Q ((d, v) :: (t, .bool true) :: env) s)
  (hF : b = false → RL P N ops l Q ((d, .tup []) :: (t, .bool false) :: env) s) : RL P N ops (o :: l) Q env s := by
 cases b with
 | true => exact RL.know t hv rfl (RL.step hΓ h1 hd hN hav (hT rfl))
 | false => exact RL.know t hv rfl (RL.skip h2 hd hN (hF rfl))

theorem RL.same (b : Bool) (hg : guardOf ops env o = some b) (h : RL P N ops (o :: l) Q env s) : RL P N ops (o :: l) Q env s := h

end

/-! ### Methods -/

/-! ### Rows that grow -/

def rowOf (s : Store) (e : TypeId) (sz n : Nat) : Own → Store
 | .own b => s.set b (.row e sz n)
 | _ => s

def OwnOk (s : Store) (n : Nat) : Own → Prop
 | .own b => s b = none
 | .nil => True
 | .clip => True
 | .fro => False

section
variable {P : Program} {Γ : Tys} {N : Nat} {env : Env} {s : Store}

theorem OW.monoS {o : Oper} {K X K' X' : AV → Store → Prop} (h : OW P N o env s K X) (hK : ∀ x s', K x s' → ∃ s'', Store.Sub s'' s' ∧ K' x s'') (hX : ∀ x s', X x s' → ∃ s'', Store.Sub s'' s' ∧ X' x s'') : OW P N o env s K' X' := by
 refine ⟨h.1, fun ro B a w p hst => (h.2 ro B a w p hst).mono ?_⟩
 rintro e w' ⟨s', p', h1, h2, h3, h4⟩
 cases e with
 | returned v =>
  obtain ⟨x, hk, hr⟩ := h4
  obtain ⟨s'', hs, hk'⟩ := hK x s' hk
  exact ⟨s'', p', h1, h2.sub hs, h3.sub hs, x, hk', hr⟩
 | panicked ch =>
  obtain ⟨v, x, hch, hk, hr⟩ := h4
  obtain ⟨s'', hs, hk'⟩ := hX x s' hk
  exact ⟨s'', p', h1, h2.sub hs, h3.sub hs, v, x, hch, hk', hr⟩
 | outgrown => exact h4.elim

theorem OW.appendR (hΓ : TysOk P Γ) {o : Oper} {t t' e : TypeId} {x y : Operand} {it it' ie : TI} {sx sy n : Nat} {xs ys : List AV} {own oy : Own}
  (ho : o.op = .call { callee := .builtin .append, args := #[x, y], argTypes := #[t, t'] }) (ht : Γ.get? t = some it) (htd : it.td = .slc e) (ht' : Γ.get? t' = some it') (htd' : ∀ k, it'.td ≠ .int k)
  (hie : Γ.get? e = some ie) (hx : ev env x = some (.slc sx xs own)) (hy : ev env y = some (.slc sy ys oy)) (hsx : sx = ie.size) (hsy : ys = [] ∨ sy = ie.size)
  (hzs' : Nat.beq ie.zero.cells.size ie.size = true) (hel : ∀ y ∈ ys, elemOk ie.size y = true) (hb : (xs.length + ys.length) * ie.bytes ≤ 140737488355328) (h63 : xs.length + ys.length ≤ 9223372036854775807)
  (hn : n = xs.length) (hok : OwnOk s n own) {X : AV → Store → Prop} :
  OW P N o env (rowOf s e ie.size n own) (fun r s' => ∃ own', OwnOk s (xs.length + ys.length) own' ∧ (ys ≠ [] → ∃ b, own' = .own b) ∧ (∀ b, own = .own b → ∃ b', own' = .own b') ∧ r = .slc ie.size (xs ++ ys) own' ∧ s' = rowOf s e ie.size (xs.length + ys.length) own') X := by
 subst hn
 have hrow : ∀ b, own = .own b → rowOf s e ie.size xs.length own b = some (.row e ie.size xs.length) := fun b h => by subst h; exact Store.set_same _ _ _
 have hown : (own = .nil ∨ own = .clip) ∨ ∃ b, own = .own b ∧ sx = ie.size ∧ rowOf s e ie.size xs.length own b = some (.row e ie.size xs.length) := by
  cases own with
  | nil => exact .inl (.inl rfl)
  | clip => exact .inl (.inr rfl)
  | fro => exact hok.elim
  | own b => exact .inr ⟨b, rfl, hsx, hrow b rfl⟩
 have h := OW.append (P := P) (N := N) (X := X) hΓ ho ht htd ht' htd' hie hx hy (.inr hsx) hsy hzs' hel hb h63 hown
 refine h.monoS ?_ (fun _ s' h => ⟨s', Store.sub_refl _, h⟩)
 rintro r s' (⟨rfl, hc, rfl, rfl⟩ | ⟨s₁, hs₁, b, h1, rfl, rfl⟩)
 ·refine ⟨_, Store.sub_refl _, own, ?_, fun h => absurd rfl h, fun b h => ⟨b, h⟩, by rw [List.append_nil], ?_⟩
  ·rcases hc with rfl | rfl <;> trivial
  ·rcases hc with rfl | rfl <;> rfl
 ·rcases hs₁ with rfl | ⟨b', rfl, rfl⟩
  ·cases own with
   | nil => exact ⟨_, Store.sub_refl _, .own b, h1, fun _ => ⟨b, rfl⟩, fun _ h => (by cases h), rfl, rfl⟩
   | clip => exact ⟨_, Store.sub_refl _, .own b, h1, fun _ => ⟨b, rfl⟩, fun _ h => (by cases h), rfl, rfl⟩
   | fro => exact hok.elim
   | own b' =>
    obtain ⟨q1, q2⟩ := Store.set_none h1
    refine ⟨s.set b (.row e ie.size (xs.length + ys.length)), fun x => ?_, .own b, q2, fun _ => ⟨b, rfl⟩, fun _ _ => ⟨b, rfl⟩, rfl, rfl⟩
    by_cases e1 : x = b
    ·subst e1; left; rw [Store.set_same, Store.set_same]
    ·by_cases e2 : x = b'
     ·subst e2; right; rw [Store.set_ne _ _ e1]; exact hok
     ·left; rw [Store.set_ne _ _ e1, Store.set_ne _ _ e1]; exact (Store.set_ne _ _ e2).symm
  ·have hd : (rowOf s e ie.size xs.length (.own b')).del b' = s := Store.del_set _ _ _ hok
   rw [hd] at h1 ⊢
   exact ⟨_, Store.sub_refl _, .own b, h1, fun _ => ⟨b, rfl⟩, fun _ _ => ⟨b, rfl⟩, rfl, rfl⟩
end

section
variable {P : Program} {Γ : Tys} {N : Nat} {ops : Array Oper} {Q : AEx → Env → Store → Prop} {env : Env} {s : Store} {l : List Oper} {o : Oper} {d : Nat}

end

/-! ### Ways out of codes -/

section
variable {Q : AEx → Env → Store → Prop} {next : Env → Store → Prop} {env : Env} {s : Store}
theorem aX {id : Nat} (h : Q (.exit id) env s) : AEx.andThen next Q (.exit id) env s := h
theorem aR (h : Q .ret env s) : AEx.andThen next Q .ret env s := h
theorem aP {v : AV} (h : Q (.panic v) env s) : AEx.andThen next Q (.panic v) env s := h
theorem iN {id : Nat} (h : Q .normal env s) : AEx.inBlock id Q .normal env s := h
theorem iR {id : Nat} (h : Q .ret env s) : AEx.inBlock id Q .ret env s := h
theorem iP {id : Nat} {v : AV} (h : Q (.panic v) env s) : AEx.inBlock id Q (.panic v) env s := h
theorem iH {id : Nat} (h : Q .normal env s) : AEx.inBlock id Q (.exit id) env s := by
 show (if Nat.beq id id then Q .normal env s else Q (.exit id) env s)
 rw [Nat.beq_refl]; exact h
end

theorem AVle.of_eq {x y : AV} (h : x = y) : AVle x y := h ▸ AVle.refl x

/-! ### Integers -/

theorem i64_wrap {n : Int} (h0 : -9223372036854775808 ≤ n) (h1 : n ≤ 9223372036854775807) : IntKind.wrap .i64 n = n := by
 unfold IntKind.wrap IntKind.bits IntKind.signed
 simp
 omega

theorem i64_succ {n : Nat} (h : n < 9223372036854775807) : IntKind.wrap .i64 ((n : Int) + 1) = ((n + 1 : Nat) : Int) := by
 rw [i64_wrap (by omega) (by omega)]; omega

/-! ### Sets of strings -/

end Go.AE

/- The abstract walk: variables that are written once; loads beside calls in regions whose order is drawn. -/
namespace Go.AE
section
variable {P : Program} {Γ : Tys} {N : Nat} {ops : Array Oper} {Q : AEx → Env → Store → Prop} {env : Env} {s : Store} {l : List Oper} {o : Oper} {d : Nat}

theorem RL.congr (e : Env) (he : ∀ t, e.get? t = env.get? t) (h : RL P N ops l Q e s) : RL P N ops l Q env s :=
 fun k hk ro B a w p hst => h k hk ro B a w p ⟨hst.size, fun t v hv => hst.env t v ((he t).symm.trans hv), hst.wf, hst.defs, hst.round, hst.base⟩

theorem CW.congr {c : Code} (e : Env) (he : ∀ t, e.get? t = env.get? t) (h : CW P N c Q e s) : CW P N c Q env s :=
 fun b B a w p hfn hst => h b B a w p hfn ⟨hst.size, fun t v hv => hst.env t v ((he t).symm.trans hv), hst.wf, hst.defs, hst.round, hst.base⟩

theorem get_over (e : Env) (d : Nat) (x y : AV) : ∀ t, Env.get? ((d, x) :: e) t = Env.get? ((d, x) :: (d, y) :: e) t := by
 intro t
 simp only [Env.get?]
 split <;> rfl

theorem RL.newBox (hΓ : TysOk P Γ) {o' : Oper} {t : TypeId} {i : TI} {z v : AV} {zs us : List AV} {y : Operand} (hg : guardOf ops env o = some true) (hd : o.dst = some d) (hN : Nat.blt d N = true) (ho : o.op = .alloc t) (ht : Γ.get? t = some i)
  (hz : constAV2 i.zero = some z) (hc : cellsOf z = some zs) (hg' : ∀ b, guardOf ops ((d, .ptr b 0) :: env) o' = some true) (hd' : o'.dst = none) (ho' : o'.op = .store t (.tmp d) y)
  (hy : ∀ b, ev ((d, .ptr b 0) :: env) y = some v) (hv : cellsOf v = some us) (hu : Nat.beq us.length i.size = true) (h1 : us.all oneC = true) (hfit : Nat.beq us.length zs.length = true)
  (h : RL P N ops l Q ((d, .fptr us 0) :: env) s) : RL P N ops (o :: o' :: l) Q env s := by
 refine RL.alloc hΓ hg hd hN ho ht hz hc (fun b hb => ?_)
 have hl := Nat.eq_of_beq_eq_true hfit
 have hself : ev ((d, .ptr b 0) :: env) (.tmp d) = some (.ptr b 0) := by simp [ev, Env.get?]
 refine RL.storeP hΓ (hg' b) hd' ho' ht hself (hy b) hv hu h1 (Store.set_same _ _ _) (Nat.ble_eq_true_of_le (by omega)) ?_
 rw [Store.set_set]
 refine RL.freeze d b (by simp [Env.get?]) (Store.set_same _ _ _) ?_
 rw [Store.del_set _ _ _ hb]
 have he : setL 0 us zs = us := by rw [setL_eq _ _ _ (by omega)]; simp [List.drop_eq_nil_of_le, hl]
 rw [he]
 exact RL.congr _ (get_over _ _ _ _) h
end

section
variable {P : Program} {Γ : Tys} {N : Nat} {l : List Oper} {Q : AEx → Env → Store → Prop} {env : Env} {s : Store} {m : Nat}

theorem RD.mask {m m' : Nat} (h : m = m') (k : RD P Γ N l.toArray Q (dn m) env s) : RD P Γ N l.toArray Q (dn m') env s := h ▸ k

end

/-! ### What stands in a variable, told weaker; rows beside variables -/
theorem Wf.boxWeak {w : World} {p : Prot} {s : Store} (h : Wf w p s) {b : Nat} {T : TypeId} {cs cs' : List AV} (hs : s b = some (.box T cs)) (hc : AVleL cs cs') : Wf w p (s.set b (.box T cs')) := by
 refine ⟨fun x o hx => ?_, h.lt⟩
 by_cases e : x = b
 ·subst e
  rw [Store.set_same] at hx; cases hx
  obtain ⟨vs, h1, h2, h3⟩ := h.obj _ _ hs
  exact ⟨vs, h1, hc.rel h2, h3⟩
 ·rw [Store.set_ne _ _ e] at hx; exact h.obj x o hx

theorem Store.set_none_iff {s : Store} {b : Nat} {o o' : AObj} (hs : s b = some o) (x : Nat) : (s.set b o') x = none ↔ s x = none := by
 by_cases e : x = b
 ·subst e; rw [Store.set_same, hs]; simp
 ·rw [Store.set_ne _ _ e]

theorem St.boxWeak {N : Nat} {B : Base} {ro : Option Nat} {env : Env} {s : Store} {a : Act} {w : World} {p : Prot} (h : St N B ro env s a w p) {b : Nat} {T : TypeId} {cs cs' : List AV} (hs : s b = some (.box T cs)) (hc : AVleL cs cs') :
  St N B ro env (s.set b (.box T cs')) a w p := by
 obtain ⟨ds, h1, h2, h3⟩ := h.defs
 exact ⟨h.size, h.env, h.wf.boxWeak hs hc, ⟨ds, h1, h2, fun d hd => let ⟨a, b, c⟩ := h3 d hd; ⟨a, b, (Store.set_none_iff hs d).2 c⟩⟩,
  fun l hl => let ⟨a, b, c⟩ := h.round l hl; ⟨a, b, (Store.set_none_iff hs l).2 c⟩, h.base⟩

theorem Kept.boxWeak {s s'' : Store} {w w' : World} {p p' : Prot} {b : Nat} {o o' : AObj} (hs : s b = some o) (h : Kept (s.set b o') s'' w p w' p') : Kept s s'' w p w' p' :=
 ⟨fun x hx hn => h.heap x hx ((Store.set_none_iff hs x).2 hn), fun x hx hn => h.dom x hx ((Store.set_none_iff hs x).2 hn), fun x o hx hn => h.prot x o hx ((Store.set_none_iff hs x).2 hn)⟩

theorem CW.boxWeak {P : Program} {N : Nat} {Q : AEx → Env → Store → Prop} {env : Env} {s : Store} {c : Code} (b : Nat) {T : TypeId} {cs : List AV} (cs' : List AV) (hs : s b = some (.box T cs)) (hc : AVleL cs cs')
  (h : CW P N c Q env (s.set b (.box T cs'))) : CW P N c Q env s :=
 fun fr B a w p hfn hst => cwp_mono (h fr B a w p hfn (hst.boxWeak hs hc)) fun _ _ _ ⟨x, env', s'', p', h1, h2, h3, h4, h5⟩ => ⟨x, env', s'', p', h1, h2, h3, h4, h5.boxWeak hs⟩

theorem RL.boxWeak {P : Program} {N : Nat} {ops : Array Oper} {l : List Oper} {Q : AEx → Env → Store → Prop} {env : Env} {s : Store} (b : Nat) {T : TypeId} {cs : List AV} (cs' : List AV) (hs : s b = some (.box T cs)) (hc : AVleL cs cs')
  (h : RL P N ops l Q env (s.set b (.box T cs'))) : RL P N ops l Q env s :=
 fun k hk ro B a w p hst => cops_mono (fun _ _ _ ⟨x, env', s'', p', h1, h2, h3, h4, h5⟩ => ⟨x, env', s'', p', h1, h2, h3, h4, h5.boxWeak hs⟩) _ a w (h k hk ro B a w p (hst.boxWeak hs hc))

theorem AVleL.one {x y : AV} (h : AVle x y) : AVleL [x] [y] := .cons h .nil
theorem AVleL.last {x y : AV} (h : AVle x y) : ∀ (l : List AV), AVleL (l ++ [x]) (l ++ [y])
 | [] => .one h
 | z :: l => .cons (AVle.refl z) (AVleL.last h l)

theorem Store.set_comm (s : Store) {b c : Nat} (o o' : AObj) (h : b ≠ c) : (s.set b o).set c o' = (s.set c o').set b o := by
 funext x
 simp only [Store.set]
 split <;> split <;> simp_all

theorem OwnOk.set {s : Store} {n m b : Nat} {own : Own} {o o' : AObj} (hok : OwnOk s n own) (h : s b = some o) : OwnOk (s.set b o') m own := by
 cases own with
 | own b' => exact (Store.set_none_iff h b').2 hok
 | nil => trivial
 | clip => trivial
 | fro => exact hok

section
variable {P : Program} {Γ : Tys} {N : Nat} {l : List Oper} {Q : AEx → Env → Store → Prop} {env : Env} {s : Store} {m : Nat}
end
end Go.AE

/- The abstract walk: parts of stores. -/
namespace Go.AE
theorem Store.subSet {s t : Store} {b : Nat} {o : AObj} (h : Store.Sub s t) (hb : s b = none) : Store.Sub s (t.set b o) := fun x => by
 by_cases e : x = b
 ·subst e; exact .inr hb
 ·rw [Store.set_ne _ _ e]; exact h x
end Go.AE

/- The abstract walk: calls that only compute, in regions whose order is drawn; many operations that may be chosen. -/
namespace Go.AE
section
variable {P : Program} {Γ : Tys} {N : Nat} {l : List Oper} {Q : AEx → Env → Store → Prop} {env : Env} {s : Store} {m : Nat}

theorem RJ.calmJ {J : Store → Prop} (hJ : J s) {i : Nat} {o : Oper} {d : Nat} {v : AV} (hr : readyB l.toArray m i = true) (ho : l.toArray[i]? = some o) (hd : o.dst = some d) (hN : Nat.blt d N = true)
  (hg : guardOf l.toArray (pickE env (looks l.toArray o)) o = some true) (hv : ∀ s, J s → OW P N o (pickE env (looks l.toArray o)) s (fun x s' => x = v ∧ s' = s) (fun _ _ => False))
  (h : RJ J P Γ N l.toArray Q (dn (m ||| 2 ^ i)) ((d, v) :: env) s) : RJ J P Γ N l.toArray Q (dn m) env s := by
 have h1 := readyB_iff.1 hr
 refine RJ.still hJ i o d v h1 ho hd (by simpa [Nat.blt_eq] using hN) (.inr (.inr ⟨hg, hv⟩)) ?_
 rw [also_dn]
 exact h
theorem RD.calm {i : Nat} {o : Oper} {d : Nat} {v : AV} (hr : readyB l.toArray m i = true) (ho : l.toArray[i]? = some o) (hd : o.dst = some d) (hN : Nat.blt d N = true)
  (hg : guardOf l.toArray (pickE env (looks l.toArray o)) o = some true) (hv : ∀ s, OW P N o (pickE env (looks l.toArray o)) s (fun x s' => x = v ∧ s' = s) (fun _ _ => False))
  (h : RD P Γ N l.toArray Q (dn (m ||| 2 ^ i)) ((d, v) :: env) s) : RD P Γ N l.toArray Q (dn m) env s :=
 RJ.calmJ trivial hr ho hd hN hg (fun s _ => hv s) h

theorem RD.calmP {i : Nat} {o : Oper} {d : Nat} {f : FuncId} {as : Array Operand} {ats : Array TypeId} {xs : List AV} {v : AV} (hr : readyB l.toArray m i = true) (ho : l.toArray[i]? = some o) (hd : o.dst = some d) (hN : Nat.blt d N = true)
  (hg : guardOf l.toArray (pickE env (looks l.toArray o)) o = some true) (hop : o.op = .call { callee := .value (.func f), args := as, argTypes := ats }) (ha : evs (pickE env (looks l.toArray o)) as.toList = some xs)
  (hc : ∀ s, ACalls P f xs s (fun o s' => o = .ret v ∧ s' = s))
  (h : RD P Γ N l.toArray Q (dn (m ||| 2 ^ i)) ((d, v) :: env) s) : RD P Γ N l.toArray Q (dn m) env s :=
 RD.calm hr ho hd hN hg (fun s => (OW.call hop (fv := .func f [] []) rfl ha (ACallV.of_calls (R := fun o s' => o = .ret v ∧ s' = s) (by simpa using hc s))).mono (fun x s' h => by cases h.1; exact ⟨rfl, h.2⟩) (fun x s' h => by cases h.1)) h

def RDStep (P : Program) (Γ : Tys) (N : Nat) (l : List Oper) (Q : AEx → Env → Store → Prop) (m : Nat) (env : Env) (s : Store) (i : Nat) : Prop :=
 ∃ (o : Oper) (K X : AV → Store → Prop), l.toArray[i]? = some o ∧ guardOf l.toArray (pickE env (looks l.toArray o)) o = some true ∧ OW P N o (pickE env (looks l.toArray o)) s K X ∧ (∀ d, o.dst = some d → d < N) ∧
  (∀ d, o.dst = some d → ∀ x s', K x s' → RD P Γ N l.toArray Q (dn (m ||| 2 ^ i)) ((d, x) :: env) s') ∧ (o.dst = none → ∀ x s', K x s' → RD P Γ N l.toArray Q (dn (m ||| 2 ^ i)) env s') ∧
  ∀ x s', X x s' → Q (.panic x) [] s'

theorem RDStep.mk {i : Nat} {o : Oper} {d : Nat} {K X : AV → Store → Prop} (ho : l.toArray[i]? = some o) (hd : o.dst = some d) (hN : Nat.blt d N = true) (hg : guardOf l.toArray (pickE env (looks l.toArray o)) o = some true)
  (h : OW P N o (pickE env (looks l.toArray o)) s K X) (hk : ∀ x s', K x s' → RD P Γ N l.toArray Q (dn (m ||| 2 ^ i)) ((d, x) :: env) s') (hx : ∀ x s', X x s' → Q (.panic x) [] s') : RDStep P Γ N l Q m env s i :=
 ⟨o, K, X, ho, hg, h, (fun d' hd' => by rw [hd] at hd'; cases hd'; simpa [Nat.blt_eq] using hN), (fun d' hd' => by rw [hd] at hd'; cases hd'; exact hk), (fun hn => by rw [hd] at hn; cases hn), hx⟩

def RDAll (P : Program) (Γ : Tys) (N : Nat) (l : List Oper) (Q : AEx → Env → Store → Prop) (m : Nat) (env : Env) (s : Store) : List Nat → Prop
 | [] => True
 | i :: is => RDStep P Γ N l Q m env s i ∧ RDAll P Γ N l Q m env s is

theorem RDAll.mem {i : Nat} : ∀ {is : List Nat}, RDAll P Γ N l Q m env s is → i ∈ is → RDStep P Γ N l Q m env s i
  | j :: is, h, hi => by
    rcases List.mem_cons.1 hi with rfl | hi
    · exact h.1
    · exact RDAll.mem h.2 hi

theorem mem_readyL_iff {ops : Array Oper} {i : Nat} : ∀ {is : List Nat}, i ∈ readyL ops m is → readyB ops m i = true
  | j :: is, h => by
    simp only [readyL] at h
    split at h
    · rename_i hb
      rcases List.mem_cons.1 h with rfl | h
      · exact hb
      · exact mem_readyL_iff h
    · exact mem_readyL_iff h

theorem RD.many {i : Nat} {is : List Nat} (hr : readyL l.toArray m (idxs 0 l) = i :: is) (h : RDAll P Γ N l Q m env s (i :: is)) : RD P Γ N l.toArray Q (dn m) env s := by
 have hin : ∀ k, Ready l.toArray (dn m) k → RDStep P Γ N l Q m env s k := fun k hk => by
  have := mem_readyL hk (l := idxs 0 l) (by rw [idxs_eq, List.mem_range'_1]; have := hk.1; simp at this; omega)
  rw [hr] at this
  exact h.mem this
 have hri : Ready l.toArray (dn m) i := readyB_iff.1 (mem_readyL_iff (is := idxs 0 l) (by rw [hr]; exact List.mem_cons_self ..))
 refine RJ.split (fun k x s' => ∃ o, l.toArray[k]? = some o ∧ (∀ d, o.dst = some d → RD P Γ N l.toArray Q (dn (m ||| 2 ^ k)) ((d, x) :: env) s') ∧ (o.dst = none → RD P Γ N l.toArray Q (dn (m ||| 2 ^ k)) env s'))
  (fun k x s' => Q (.panic x) [] s') ⟨i, hri.1, hri.2.1⟩ (fun k o hk ho => ?_) (fun _ _ _ _ _ _ _ => .inl trivial) (fun k o d hk ho hd x s' ⟨o', ho', h1, h2⟩ => ?_) (fun k o hk ho hd x s' ⟨o', ho', h1, h2⟩ => ?_) (fun k o hk ho x s' hx => hx)
 ·obtain ⟨o', K, X, ho', hg, how, hN, h1, h2, h3⟩ := hin k hk
  rw [ho] at ho'; cases ho'
  exact ⟨hg, how.mono (fun x s' hK => ⟨o, ho, fun d hd => h1 d hd x s' hK, fun hd => h2 hd x s' hK⟩) (fun x s' hX => h3 x s' hX), hN⟩
 ·rw [ho] at ho'; cases ho'
  rw [also_dn]
  exact h1 d hd
 ·rw [ho] at ho'; cases ho'
  rw [also_dn]
  exact h2 hd
end

/-! ### Variables that are written, made at once; boxes that are written -/
section
variable {P : Program} {Γ : Tys} {N : Nat} {ops : Array Oper} {Q : AEx → Env → Store → Prop} {env : Env} {s : Store} {l : List Oper} {o : Oper} {d : Nat}

theorem OW.boxM {o : Oper} {t : TypeId} {x : Operand} {v : AV} {cs : List AV} (ho : o.op = .box t x) (hx : ev env x = some v) (hc : cellsOf v = some cs) {X : AV → Store → Prop} :
  OW P N o env s (fun r s' => ∃ b, s b = none ∧ r = .ptr b 0 ∧ s' = s.set b (.box t cs)) X := by
 refine OW.of_run (by simp [noDefer, ho]) fun ro B a w p hst => ?_
 have hr := cellsOf_rel (hst.ev hx) hc
 obtain ⟨k1, k2, k3, k4⟩ := new_obj hst.wf (.cells (a.eval x).cells t) (.box t cs) (fun w' h1 h2 h3 => ⟨(a.eval x).cells, h1, h3 _ _ hr, fun o hp => absurd (hst.wf.lt _ _ hp) (by omega)⟩)
 refine ⟨.pointer (some ⟨w.heap.size, 0, none⟩), w.alloc (.cells (a.eval x).cells t), _, p, .ptr w.heap.size 0, ?_, k2, k3, k4, ⟨_, k1, rfl, rfl⟩, .ptr _ _⟩
 unfold execOp
 rw [ho]
 rfl

theorem RL.boxM {t : TypeId} {x : Operand} {v : AV} {cs : List AV} (hg : guardOf ops env o = some true) (hd : o.dst = some d) (hN : Nat.blt d N = true) (ho : o.op = .box t x) (hx : ev env x = some v) (hc : cellsOf v = some cs)
  (h : ∀ b, s b = none → RL P N ops l Q ((d, .ptr b 0) :: env) (s.set b (.box t cs))) : RL P N ops (o :: l) Q env s :=
 RL.op hg hd hN (OW.boxM ho hx hc (X := fun _ _ => False)) (fun x s' ⟨b, h1, h2, h3⟩ => by subst h2; subst h3; exact h b h1) (fun _ _ h => h.elim)

end
end Go.AE

/- The abstract walk: stores as lists of who holds what. -/
namespace Go.AE

abbrev LS := List (Own × AObj)
def ent (s : Store) (k : Own) (o : AObj) : Store := match k with
 | .own b => s.set b o
 | _ => s
def gone (s : Store) (k : Own) : Prop := match k with
 | .own b => s b = none
 | .fro => False
 | _ => True
def sto (s : Store) : LS → Store
 | [] => s
 | e :: L => ent (sto s L) e.1 e.2
def Ok (s : Store) : LS → Prop
 | [] => True
 | e :: L => gone (sto s L) e.1 ∧ Ok s L

inductive Sel : LS → Own → AObj → LS → Prop
 | here {k : Own} {o : AObj} {L : LS} : Sel ((k, o) :: L) k o L
 | there {e : Own × AObj} {k : Own} {o : AObj} {L R : LS} (h : Sel L k o R) : Sel (e :: L) k o (e :: R)
inductive Sels : LS → LS → LS → Prop
 | nil {L : LS} : Sels L [] L
 | cons {k : Own} {o : AObj} {L K R R' : LS} (h : Sel L k o R) (t : Sels R K R') : Sels L ((k, o) :: K) R'

theorem rowOf_ent (s : Store) (e : TypeId) (sz n : Nat) (k : Own) : rowOf s e sz n k = ent s k (.row e sz n) := by cases k <;> rfl
theorem ownOk_gone {s : Store} {n : Nat} {k : Own} : OwnOk s n k ↔ gone s k := by cases k <;> exact Iff.rfl

theorem ent_swap {s : Store} {k k' : Own} {o o' : AObj} (h : gone s k) (h' : gone (ent s k o) k') : gone s k' ∧ gone (ent s k' o') k ∧ ent (ent s k o) k' o' = ent (ent s k' o') k o := by
 cases k with
 | own b =>
  cases k' with
  | own b' =>
   obtain ⟨h1, h2⟩ := Store.set_none h'
   exact ⟨h2, (Store.set_ne s o' (Ne.symm h1)).trans h, Store.set_comm s o o' (Ne.symm h1)⟩
  | nil => exact ⟨trivial, h, rfl⟩
  | clip => exact ⟨trivial, h, rfl⟩
  | fro => exact h'.elim
 | nil => exact ⟨h', trivial, rfl⟩
 | clip => exact ⟨h', trivial, rfl⟩
 | fro => exact h.elim

theorem Sel.perm {s : Store} {L R : LS} {k : Own} {o : AObj} (h : Sel L k o R) : Ok s L → sto s L = sto s ((k, o) :: R) ∧ Ok s ((k, o) :: R) := by
 induction h with
 | here => exact fun h => ⟨rfl, h⟩
 | @there e k o L R h ih =>
  rintro ⟨hg, hok⟩
  obtain ⟨h1, h2, h3⟩ := ih hok
  rw [h1] at hg
  obtain ⟨g1, g2, g3⟩ := ent_swap (s := sto s R) (k := k) (o := o) (k' := e.1) (o' := e.2) h2 hg
  refine ⟨?_, g2, g1, h3⟩
  show ent (sto s L) e.1 e.2 = ent (ent (sto s R) e.1 e.2) k o
  rw [h1]; exact g3

theorem sto_append (s : Store) : ∀ (K R : LS), sto s (K ++ R) = sto (sto s R) K
 | [], _ => rfl
 | e :: K, R => by show ent (sto s (K ++ R)) e.1 e.2 = _; rw [sto_append s K R]; rfl
theorem ok_append {s : Store} : ∀ {K R : LS}, Ok s (K ++ R) ↔ Ok (sto s R) K ∧ Ok s R
  | [], R => ⟨fun h => ⟨trivial, h⟩, fun h => h.2⟩
  | e :: K, R => by
    show gone (sto s (K ++ R)) e.1 ∧ Ok s (K ++ R) ↔ (gone (sto (sto s R) K) e.1 ∧ Ok (sto s R) K) ∧ Ok s R
    rw [sto_append, ok_append, and_assoc]

theorem Sels.perm {s : Store} {L K R : LS} (h : Sels L K R) : Ok s L → sto s L = sto s (K ++ R) ∧ Ok s (K ++ R) := by
 induction h with
 | nil => exact fun h => ⟨rfl, h⟩
 | @cons k o L K R R' h t ih =>
  intro hok
  obtain ⟨h1, h2, h3⟩ := h.perm hok
  obtain ⟨h4, h5⟩ := ih h3
  refine ⟨?_, ?_, h5⟩
  ·rw [h1]; show ent (sto s R) k o = ent (sto s (K ++ R')) k o; rw [h4]
  ·have h6 : gone (sto s R) k := h2
   rw [h4] at h6; exact h6
theorem Sels.eq {s : Store} {L K R : LS} (h : Sels L K R) (hok : Ok s L) : sto s L = sto (sto s R) K ∧ Ok (sto s R) K ∧ Ok s R := by
 obtain ⟨h1, h2⟩ := h.perm hok
 rw [sto_append] at h1
 exact ⟨h1, ok_append.1 h2⟩

theorem ent_sub {s t : Store} {k : Own} {o : AObj} (h : Store.Sub s t) : Store.Sub (ent s k o) (ent t k o) := by
 cases k with
 | own b =>
  intro x
  by_cases e : x = b
  ·subst e; left; show (s.set x o) x = (t.set x o) x; rw [Store.set_same, Store.set_same]
  ·show (s.set b o) x = (t.set b o) x ∨ (s.set b o) x = none
   rw [Store.set_ne _ _ e, Store.set_ne _ _ e]; exact h x
 | nil => exact h
 | clip => exact h
 | fro => exact h
theorem sub_ent {s t : Store} {k : Own} {o : AObj} (h : Store.Sub s t) (hg : gone s k) : Store.Sub s (ent t k o) := by
 cases k with
 | own b => exact Store.subSet h hg
 | nil => exact h
 | clip => exact h
 | fro => exact h
theorem sto_sub {s t : Store} (h : Store.Sub s t) : ∀ L : LS, Store.Sub (sto s L) (sto t L)
 | [] => h
 | _ :: L => ent_sub (sto_sub h L)
theorem gone_sub {s t : Store} {k : Own} (h : Store.Sub s t) (hg : gone t k) : gone s k := by
 cases k with
 | own b => exact h.none hg
 | nil => trivial
 | clip => trivial
 | fro => exact hg
theorem Ok.sub {s : Store} : ∀ {L : LS}, Ok s L → Store.Sub s (sto s L)
 | [], _ => Store.sub_refl _
 | e :: L, h => sub_ent (Ok.sub h.2) (gone_sub (Ok.sub h.2) h.1)
theorem Ok.weak {s t : Store} (h : Store.Sub s t) : ∀ {L : LS}, Ok t L → Ok s L
 | [], _ => trivial
 | e :: L, hok => ⟨gone_sub (sto_sub h L) hok.1, Ok.weak h hok.2⟩
theorem Sels.sub {s : Store} {L K R : LS} (h : Sels L K R) (hok : Ok s L) : Store.Sub (sto s K) (sto s L) ∧ Ok s K := by
 obtain ⟨h1, h2, h3⟩ := h.eq hok
 rw [h1]
 exact ⟨sto_sub h3.sub K, h2.weak h3.sub⟩

theorem Sel.get {s : Store} {L R : LS} {b : Nat} {o : AObj} (h : Sel L (.own b) o R) (hok : Ok s L) : sto s L b = some o := by
 rw [(h.perm hok).1]; exact Store.set_same _ _ _
theorem Sel.put {s : Store} {L R : LS} {b : Nat} {o : AObj} (o' : AObj) (h : Sel L (.own b) o R) (hok : Ok s L) : (sto s L).set b o' = sto s ((.own b, o') :: R) ∧ Ok s ((.own b, o') :: R) := by
 obtain ⟨h1, h2⟩ := h.perm hok
 rw [h1]
 exact ⟨Store.set_set _ _ _ _, h2⟩
theorem Sel.del {s : Store} {L R : LS} {b : Nat} {o : AObj} (h : Sel L (.own b) o R) (hok : Ok s L) : (sto s L).del b = sto s R ∧ Ok s R := by
 obtain ⟨h1, h2⟩ := h.perm hok
 rw [h1]
 exact ⟨Store.del_set _ _ _ h2.1, h2.2⟩
section
variable {P : Program} {Γ : Tys} {N : Nat} {ops : Array Oper} {Q : AEx → Env → Store → Prop} {env : Env} {s : Store} {l : List Oper} {o : Oper} {d : Nat} {L R : LS}

theorem OW.loadL (hΓ : TysOk P Γ) (hok : Ok s L) {t T : TypeId} {x : Operand} {i : TI} {b off : Nat} {cs : List AV} {v : AV} (ho : o.op = .load t x) (ht : Γ.get? t = some i) (hx : ev env x = some (.ptr b off))
  (hs : Sel L (.own b) (.box T cs) R) (hv : loadC i cs off = some v) {X : AV → Store → Prop} : OW P N o env (sto s L) (fun x s' => x = v ∧ s' = sto s L) X :=
 OW.loadP hΓ ho ht hx (hs.get hok) hv
theorem RL.loadL (hΓ : TysOk P Γ) (hok : Ok s L) {t T : TypeId} {x : Operand} {i : TI} {b off : Nat} {cs : List AV} {v : AV} (hg : guardOf ops env o = some true) (hd : o.dst = some d) (hN : Nat.blt d N = true) (ho : o.op = .load t x)
  (ht : Γ.get? t = some i) (hx : ev env x = some (.ptr b off)) (hs : Sel L (.own b) (.box T cs) R) (hv : loadC i cs off = some v) (h : RL P N ops l Q ((d, v) :: env) (sto s L)) : RL P N ops (o :: l) Q env (sto s L) :=
 RL.loadP hΓ hg hd hN ho ht hx (hs.get hok) hv h

theorem OW.storeL (hΓ : TysOk P Γ) (hok : Ok s L) {t T : TypeId} {x y : Operand} {i : TI} {b off : Nat} {cs us : List AV} {v : AV} (ho : o.op = .store t x y) (ht : Γ.get? t = some i) (hx : ev env x = some (.ptr b off))
  (hy : ev env y = some v) (hv : cellsOf v = some us) (hu : Nat.beq us.length i.size = true) (h1 : us.all oneC = true) (hs : Sel L (.own b) (.box T cs) R) (hfit : Nat.ble (off + us.length) cs.length = true) {X : AV → Store → Prop} :
  OW P N o env (sto s L) (fun _ s' => s' = sto s ((.own b, .box T (setL off us cs)) :: R) ∧ Ok s ((.own b, .box T (setL off us cs)) :: R)) X := by
 obtain ⟨h2, h3⟩ := hs.put (.box T (setL off us cs)) hok
 exact (OW.storeP hΓ ho ht hx hy hv hu h1 (hs.get hok) hfit (X := X)).mono (fun _ s' h => ⟨h.trans h2, h3⟩) (fun _ _ h => h)
theorem RL.storeL (hΓ : TysOk P Γ) (hok : Ok s L) {t T : TypeId} {x y : Operand} {i : TI} {b off : Nat} {cs us : List AV} {v : AV} (hg : guardOf ops env o = some true) (hd : o.dst = none) (ho : o.op = .store t x y)
  (ht : Γ.get? t = some i) (hx : ev env x = some (.ptr b off)) (hy : ev env y = some v) (hv : cellsOf v = some us) (hu : Nat.beq us.length i.size = true) (h1 : us.all oneC = true)
  (hs : Sel L (.own b) (.box T cs) R) (hfit : Nat.ble (off + us.length) cs.length = true) (h : Ok s ((.own b, .box T (setL off us cs)) :: R) → RL P N ops l Q env (sto s ((.own b, .box T (setL off us cs)) :: R))) : RL P N ops (o :: l) Q env (sto s L) :=
 RL.opN hg hd (OW.storeL hΓ hok ho ht hx hy hv hu h1 hs hfit (X := fun _ _ => False)) (fun x s' ⟨h2, h3⟩ => by subst h2; exact h h3) (fun _ _ h => h.elim)

theorem OW.allocL (hΓ : TysOk P Γ) (hok : Ok s L) {t : TypeId} {i : TI} {z : AV} {cs : List AV} (ho : o.op = .alloc t) (ht : Γ.get? t = some i) (hz : constAV2 i.zero = some z) (hc : cellsOf z = some cs) {X : AV → Store → Prop} :
  OW P N o env (sto s L) (fun x s' => ∃ b, x = .ptr b 0 ∧ s' = sto s ((.own b, .box t cs) :: L) ∧ Ok s ((.own b, .box t cs) :: L)) X :=
 (OW.alloc hΓ ho ht hz hc (X := X)).mono (fun x s' ⟨b, h1, h2, h3⟩ => ⟨b, h2, h3, h1, hok⟩) (fun _ _ h => h)
theorem RL.allocL (hΓ : TysOk P Γ) (hok : Ok s L) {t : TypeId} {i : TI} {z : AV} {cs : List AV} (hg : guardOf ops env o = some true) (hd : o.dst = some d) (hN : Nat.blt d N = true) (ho : o.op = .alloc t) (ht : Γ.get? t = some i)
  (hz : constAV2 i.zero = some z) (hc : cellsOf z = some cs) (h : ∀ b, Ok s ((.own b, .box t cs) :: L) → RL P N ops l Q ((d, .ptr b 0) :: env) (sto s ((.own b, .box t cs) :: L))) : RL P N ops (o :: l) Q env (sto s L) :=
 RL.op hg hd hN (OW.allocL hΓ hok ho ht hz hc (X := fun _ _ => False)) (fun x s' ⟨b, h1, h2, h3⟩ => by subst h1; subst h2; exact h b h3) (fun _ _ h => h.elim)

theorem OW.boxL (hok : Ok s L) {t : TypeId} {x : Operand} {v : AV} {cs : List AV} (ho : o.op = .box t x) (hx : ev env x = some v) (hc : cellsOf v = some cs) {X : AV → Store → Prop} :
  OW P N o env (sto s L) (fun x s' => ∃ b, x = .ptr b 0 ∧ s' = sto s ((.own b, .box t cs) :: L) ∧ Ok s ((.own b, .box t cs) :: L)) X :=
 (OW.boxM ho hx hc (X := X)).mono (fun x s' ⟨b, h1, h2, h3⟩ => ⟨b, h2, h3, h1, hok⟩) (fun _ _ h => h)
theorem RL.boxL (hok : Ok s L) {t : TypeId} {x : Operand} {v : AV} {cs : List AV} (hg : guardOf ops env o = some true) (hd : o.dst = some d) (hN : Nat.blt d N = true) (ho : o.op = .box t x) (hx : ev env x = some v) (hc : cellsOf v = some cs)
  (h : ∀ b, Ok s ((.own b, .box t cs) :: L) → RL P N ops l Q ((d, .ptr b 0) :: env) (sto s ((.own b, .box t cs) :: L))) : RL P N ops (o :: l) Q env (sto s L) :=
 RL.op hg hd hN (OW.boxL hok ho hx hc (X := fun _ _ => False)) (fun x s' ⟨b, h1, h2, h3⟩ => by subst h1; subst h2; exact h b h3) (fun _ _ h => h.elim)

theorem OW.makeMapL (hok : Ok s L) {t : TypeId} (ho : o.op = .makeMap t none) {X : AV → Store → Prop} :
  OW P N o env (sto s L) (fun x s' => ∃ b, x = .map b ∧ s' = sto s ((.own b, .map []) :: L) ∧ Ok s ((.own b, .map []) :: L)) X :=
 (OW.makeMap ho (X := X)).mono (fun x s' ⟨b, h1, h2, h3⟩ => ⟨b, h2, h3, h1, hok⟩) (fun _ _ h => h)
theorem RL.makeMapL (hok : Ok s L) {t : TypeId} (hg : guardOf ops env o = some true) (hd : o.dst = some d) (hN : Nat.blt d N = true) (ho : o.op = .makeMap t none)
  (h : ∀ b, Ok s ((.own b, .map []) :: L) → RL P N ops l Q ((d, .map b) :: env) (sto s ((.own b, .map []) :: L))) : RL P N ops (o :: l) Q env (sto s L) :=
 RL.op hg hd hN (OW.makeMapL hok ho (X := fun _ _ => False)) (fun x s' ⟨b, h1, h2, h3⟩ => by subst h1; subst h2; exact h b h3) (fun _ _ h => h.elim)

theorem OW.lookupL (hΓ : TysOk P Γ) (hok : Ok s L) {t kt et : TypeId} {x y : Operand} {ok : Bool} {it ik ie : TI} {m : Nat} {es : List (AV × AV)} {k z : AV} {r : Option AV} (ho : o.op = .lookup t x y ok) (ht : Γ.get? t = some it)
  (htd : it.td = .map kt et) (hik : Γ.get? kt = some ik) (hie : Γ.get? et = some ie) (hx : ev env x = some (.map m)) (hy : ev env y = some k) (hs : Sel L (.own m) (.map es) R) (hf : keyFits ik.td k = true) (hr : getA es k = some r)
  (hz : constAV2 ie.zero = some z) {X : AV → Store → Prop} : OW P N o env (sto s L) (fun x s' => x = gotA ok z r ∧ s' = sto s L) X :=
 OW.lookup hΓ ho ht htd hik hie hx hy (.inl ⟨m, rfl, hs.get hok⟩) hf hr hz
theorem RL.lookupL (hΓ : TysOk P Γ) (hok : Ok s L) {t kt et : TypeId} {x y : Operand} {ok : Bool} {it ik ie : TI} {m : Nat} {es : List (AV × AV)} {k z : AV} {r : Option AV} (hg : guardOf ops env o = some true) (hd : o.dst = some d) (hN : Nat.blt d N = true)
  (ho : o.op = .lookup t x y ok) (ht : Γ.get? t = some it) (htd : it.td = .map kt et) (hik : Γ.get? kt = some ik) (hie : Γ.get? et = some ie) (hx : ev env x = some (.map m)) (hy : ev env y = some k) (hs : Sel L (.own m) (.map es) R)
  (hf : keyFits ik.td k = true) (hr : getA es k = some r) (hz : constAV2 ie.zero = some z) (h : RL P N ops l Q ((d, gotA ok z r) :: env) (sto s L)) : RL P N ops (o :: l) Q env (sto s L) :=
 RL.lookup hΓ hg hd hN ho ht htd hik hie hx hy (hs.get hok) hf hr hz h

theorem OW.mapUpdateL (hΓ : TysOk P Γ) (hok : Ok s L) {t kt et : TypeId} {x y z : Operand} {it ik : TI} {b : Nat} {es es' : List (AV × AV)} {k v : AV} (ho : o.op = .mapUpdate t x y z ∨ o.op = .insert t x y z)
  (ht : Γ.get? t = some it) (htd : it.td = .map kt et) (hik : Γ.get? kt = some ik) (hx : ev env x = some (.map b)) (hy : ev env y = some k) (hz : ev env z = some v) (hs : Sel L (.own b) (.map es) R) (hf : keyFits ik.td k = true)
  (hp : putA es k v = some es') {X : AV → Store → Prop} : OW P N o env (sto s L) (fun _ s' => s' = sto s ((.own b, .map es') :: R) ∧ Ok s ((.own b, .map es') :: R)) X := by
 obtain ⟨h2, h3⟩ := hs.put (.map es') hok
 exact (OW.mapUpdate hΓ ho ht htd hik hx hy hz (hs.get hok) hf hp (X := X)).mono (fun _ s' h => ⟨h.trans h2, h3⟩) (fun _ _ h => h)
theorem RL.mapUpdateL (hΓ : TysOk P Γ) (hok : Ok s L) {t kt et : TypeId} {x y z : Operand} {it ik : TI} {b : Nat} {es es' : List (AV × AV)} {k v : AV} (hg : guardOf ops env o = some true) (hd : o.dst = none) (ho : o.op = .mapUpdate t x y z ∨ o.op = .insert t x y z)
  (ht : Γ.get? t = some it) (htd : it.td = .map kt et) (hik : Γ.get? kt = some ik) (hx : ev env x = some (.map b)) (hy : ev env y = some k) (hz : ev env z = some v) (hs : Sel L (.own b) (.map es) R) (hf : keyFits ik.td k = true)
  (hp : putA es k v = some es') (h : Ok s ((.own b, .map es') :: R) → RL P N ops l Q env (sto s ((.own b, .map es') :: R))) : RL P N ops (o :: l) Q env (sto s L) :=
 RL.opN hg hd (OW.mapUpdateL hΓ hok ho ht htd hik hx hy hz hs hf hp (X := fun _ _ => False)) (fun x s' ⟨h2, h3⟩ => by subst h2; exact h h3) (fun _ _ h => h.elim)

theorem OW.appendL (hΓ : TysOk P Γ) (hok : Ok s L) {t t' e : TypeId} {x y : Operand} {it it' ie : TI} {sx sy sz n n' : Nat} {xs ys : List AV} {own oy : Own}
  (ho : o.op = .call { callee := .builtin .append, args := #[x, y], argTypes := #[t, t'] }) (ht : Γ.get? t = some it) (htd : it.td = .slc e) (ht' : Γ.get? t' = some it') (htd' : ∀ k, it'.td ≠ .int k)
  (hie : Γ.get? e = some ie) (hx : ev env x = some (.slc sx xs own)) (hy : ev env y = some (.slc sy ys oy)) (hsx : sx = ie.size) (hsy : ys = [] ∨ sy = ie.size)
  (hzs' : Nat.beq ie.zero.cells.size ie.size = true) (hel : ∀ y ∈ ys, elemOk ie.size y = true) (hb : (xs.length + ys.length) * ie.bytes ≤ 140737488355328) (h63 : xs.length + ys.length ≤ 9223372036854775807)
  (hn : n = xs.length) (hn' : n' = xs.length + ys.length) (hsz : sz = ie.size) (hs : Sel L own (.row e sz n) R) {X : AV → Store → Prop} :
  OW P N o env (sto s L) (fun r s' => ∃ own', (ys ≠ [] → ∃ b, own' = .own b) ∧ (∀ b, own = .own b → ∃ b', own' = .own b') ∧ r = .slc sz (xs ++ ys) own' ∧ s' = sto s ((own', .row e sz n') :: R) ∧ Ok s ((own', .row e sz n') :: R)) X := by
 subst hsz; subst hn'
 obtain ⟨h1, h2, h3⟩ := hs.perm hok
 have h4 : sto s L = rowOf (sto s R) e ie.size n own := h1.trans (rowOf_ent _ _ _ _ _).symm
 rw [h4]
 refine (OW.appendR hΓ ho ht htd ht' htd' hie hx hy hsx hsy hzs' hel hb h63 hn (ownOk_gone.2 h2) (X := X)).mono ?_ (fun _ _ h => h)
 rintro r s' ⟨own', g1, g2, g3, rfl, rfl⟩
 exact ⟨own', g2, g3, rfl, rowOf_ent _ _ _ _ _, ownOk_gone.1 g1, h3⟩

theorem RL.append1L (hΓ : TysOk P Γ) (hok : Ok s L) {t t' e : TypeId} {x y : Operand} {it it' ie : TI} {sx sy sz n : Nat} {xs : List AV} {v : AV} {own oy : Own} (hg : guardOf ops env o = some true) (hd : o.dst = some d) (hN : Nat.blt d N = true)
  (ho : o.op = .call { callee := .builtin .append, args := #[x, y], argTypes := #[t, t'] }) (ht : Γ.get? t = some it) (htd : it.td = .slc e) (ht' : Γ.get? t' = some it') (htd' : ∀ k, it'.td ≠ .int k)
  (hie : Γ.get? e = some ie) (hx : ev env x = some (.slc sx xs own)) (hy : ev env y = some (.slc sy [v] oy)) (hsx : sx = ie.size) (hsy : sy = ie.size)
  (hzs' : Nat.beq ie.zero.cells.size ie.size = true) (hel : elemOk ie.size v = true) (hsz : sz = ie.size) (hs : Sel L own (.row e sz n) R) (hn : n = xs.length) (hb : (n + 1) * ie.bytes ≤ 140737488355328) (h63 : n + 1 ≤ 9223372036854775807)
  (h : ∀ b, Ok s ((.own b, .row e sz (n + 1)) :: R) → RL P N ops l Q ((d, .slc sz (xs ++ [v]) (.own b)) :: env) (sto s ((.own b, .row e sz (n + 1)) :: R))) : RL P N ops (o :: l) Q env (sto s L) := by
 subst hn
 refine RL.op hg hd hN (OW.appendL hΓ hok ho ht htd ht' htd' hie hx hy hsx (.inr hsy) hzs' (by intro y hy; simp at hy; subst hy; exact hel) hb h63 rfl (n' := xs.length + 1) rfl hsz hs (X := fun _ _ => False)) ?_ (fun _ _ h => h.elim)
 rintro r s' ⟨own', h2, -, rfl, rfl, h3⟩
 obtain ⟨b, rfl⟩ := h2 (by simp)
 exact h b h3
theorem RL.appendL (hΓ : TysOk P Γ) (hok : Ok s L) {t t' e : TypeId} {x y : Operand} {it it' ie : TI} {sx sy sz n n' : Nat} {xs ys : List AV} {own oy : Own} (hg : guardOf ops env o = some true) (hd : o.dst = some d) (hN : Nat.blt d N = true)
  (ho : o.op = .call { callee := .builtin .append, args := #[x, y], argTypes := #[t, t'] }) (ht : Γ.get? t = some it) (htd : it.td = .slc e) (ht' : Γ.get? t' = some it') (htd' : ∀ k, it'.td ≠ .int k)
  (hie : Γ.get? e = some ie) (hx : ev env x = some (.slc sx xs own)) (hy : ev env y = some (.slc sy ys oy)) (hsx : sx = ie.size) (hsy : ys = [] ∨ sy = ie.size)
  (hzs' : Nat.beq ie.zero.cells.size ie.size = true) (hel : ∀ y ∈ ys, elemOk ie.size y = true) (hsz : sz = ie.size) (hs : Sel L own (.row e sz n) R) (hn : n = xs.length) (hn' : n' = xs.length + ys.length) (hb : (xs.length + ys.length) * ie.bytes ≤ 140737488355328) (h63 : xs.length + ys.length ≤ 9223372036854775807)
  (h : ∀ own', Ok s ((own', .row e sz n') :: R) → RL P N ops l Q ((d, .slc sz (xs ++ ys) own') :: env) (sto s ((own', .row e sz n') :: R))) : RL P N ops (o :: l) Q env (sto s L) := by
 refine RL.op hg hd hN (OW.appendL hΓ hok ho ht htd ht' htd' hie hx hy hsx hsy hzs' hel hb h63 hn hn' hsz hs (X := fun _ _ => False)) ?_ (fun _ _ h => h.elim)
 rintro r s' ⟨own', -, -, rfl, rfl, h3⟩
 exact h own' h3

theorem CW.freezeL {c : Code} (hok : Ok s L) (t b : Nat) {T : TypeId} {cs : List AV} (ht : env.get? t = some (.ptr b 0)) (hs : Sel L (.own b) (.box T cs) R) (h : Ok s R → CW P N c Q ((t, .fptr cs 0) :: env) (sto s R)) : CW P N c Q env (sto s L) := by
 obtain ⟨h1, h2⟩ := hs.del hok
 refine CW.freeze t b ht (hs.get hok) ?_
 rw [h1]; exact h h2
theorem RL.freezeL (hok : Ok s L) (t b : Nat) {T : TypeId} {cs : List AV} (ht : env.get? t = some (.ptr b 0)) (hs : Sel L (.own b) (.box T cs) R) (h : Ok s R → RL P N ops l Q ((t, .fptr cs 0) :: env) (sto s R)) : RL P N ops l Q env (sto s L) := by
 obtain ⟨h1, h2⟩ := hs.del hok
 refine RL.freeze t b ht (hs.get hok) ?_
 rw [h1]; exact h h2
theorem CW.boxWeakL {c : Code} (hok : Ok s L) (b : Nat) {T : TypeId} {cs : List AV} (cs' : List AV) (hs : Sel L (.own b) (.box T cs) R) (hc : AVleL cs cs') (h : Ok s ((.own b, .box T cs') :: R) → CW P N c Q env (sto s ((.own b, .box T cs') :: R))) : CW P N c Q env (sto s L) := by
 obtain ⟨h1, h2⟩ := hs.put (.box T cs') hok
 refine CW.boxWeak b cs' (hs.get hok) hc ?_
 rw [h1]; exact h h2
theorem RL.boxWeakL (hok : Ok s L) (b : Nat) {T : TypeId} {cs : List AV} (cs' : List AV) (hs : Sel L (.own b) (.box T cs) R) (hc : AVleL cs cs') (h : Ok s ((.own b, .box T cs') :: R) → RL P N ops l Q env (sto s ((.own b, .box T cs') :: R))) : RL P N ops l Q env (sto s L) := by
 obtain ⟨h1, h2⟩ := hs.put (.box T cs') hok
 refine RL.boxWeak b cs' (hs.get hok) hc ?_
 rw [h1]; exact h h2
theorem CW.dropL {c : Code} (hok : Ok s L) (K : LS) (hs : Sels L K R) (h : Ok s K → CW P N c Q env (sto s K)) : CW P N c Q env (sto s L) := by
 obtain ⟨h1, h2⟩ := hs.sub hok
 exact CW.drop _ h1 (h h2)
theorem RL.dropL (hok : Ok s L) (K : LS) (hs : Sels L K R) (h : Ok s K → RL P N ops l Q env (sto s K)) : RL P N ops l Q env (sto s L) := by
 obtain ⟨h1, h2⟩ := hs.sub hok
 exact RL.drop _ h1 (h h2)
end

/-! ### Contracts over lists -/
def LP (s : Store) (R : AOut → LS → Prop) (o : AOut) (s' : Store) : Prop := ∃ K, s' = sto s K ∧ Ok s K ∧ R o K
def LCalls (P : Program) (f : FuncId) (args : List AV) (K : LS) (R : AOut → LS → Prop) : Prop := ∀ s, Ok s K → ACalls P f args (sto s K) (LP s R)
def LCallV (P : Program) (fv : AV) (args : List AV) (K : LS) (R : AOut → LS → Prop) : Prop := ∀ s, Ok s K → ACallV P fv args (sto s K) (LP s R)
def PCalls (P : Program) (f : FuncId) (args : List AV) (v : AV) : Prop := ∀ s, ACalls P f args s (fun o s' => o = .ret v ∧ s' = s)

def PCallV (P : Program) (fv : AV) (args : List AV) (v : AV) : Prop := ∀ s, ACallV P fv args s (fun o s' => o = .ret v ∧ s' = s)
theorem PCallV.of_calls {P : Program} {f : FuncId} {first cap args : List AV} {v : AV} (h : PCalls P f (first ++ (args ++ cap)) v) : PCallV P (.func f first cap) args v := fun s => ACallV.of_calls (h s)

section
variable {P : Program} {Γ : Tys} {N : Nat} {ops : Array Oper} {Q : AEx → Env → Store → Prop} {env : Env} {s : Store} {l : List Oper} {o : Oper} {d : Nat} {L R K : LS} {C : AOut → LS → Prop}
theorem RL.callVP {g : Operand} {fv : AV} {as : Array Operand} {ats : Array TypeId} {xs : List AV} {v : AV} (hg : guardOf ops env o = some true) (hd : o.dst = some d) (hN : Nat.blt d N = true)
  (hop : o.op = .call { callee := .value g, args := as, argTypes := ats }) (hv : ev env g = some fv) (ha : evs env as.toList = some xs) (h : PCallV P fv xs v) (hk : RL P N ops l Q ((d, v) :: env) s) : RL P N ops (o :: l) Q env s :=
 RL.callV hg hd hN hop hv ha (h s) (fun x s' ⟨h1, h2⟩ => by cases h1; subst h2; exact hk) (fun x s' ⟨h1, _⟩ => by cases h1)

theorem LCalls.mono {f : FuncId} {args : List AV} {C' : AOut → LS → Prop} (h : LCalls P f args K C) (hr : ∀ o K, C o K → C' o K) : LCalls P f args K C' :=
 fun s hok => (h s hok).mono fun o s' ⟨K', h1, h2, h3⟩ => ⟨K', h1, h2, hr _ _ h3⟩
theorem LCallV.mono {fv : AV} {args : List AV} {C' : AOut → LS → Prop} (h : LCallV P fv args K C) (hr : ∀ o K, C o K → C' o K) : LCallV P fv args K C' :=
 fun s hok => (h s hok).mono fun o s' ⟨K', h1, h2, h3⟩ => ⟨K', h1, h2, hr _ _ h3⟩
theorem LCalls.at {f : FuncId} {args : List AV} (h : LCalls P f args K C) (hok : Ok s L) (hs : Sels L K R) : ACalls P f args (sto s L) (LP s fun o M => ∃ K', M = K' ++ R ∧ C o K') := by
 obtain ⟨h1, h2, h3⟩ := hs.eq hok
 rw [h1]
 refine (h _ h2).mono ?_
 rintro o s' ⟨K', rfl, g2, g3⟩
 exact ⟨K' ++ R, (sto_append _ _ _).symm, ok_append.2 ⟨g2, h3⟩, K', rfl, g3⟩
theorem LCallV.at {fv : AV} {args : List AV} (h : LCallV P fv args K C) (hok : Ok s L) (hs : Sels L K R) : ACallV P fv args (sto s L) (LP s fun o M => ∃ K', M = K' ++ R ∧ C o K') := by
 obtain ⟨h1, h2, h3⟩ := hs.eq hok
 rw [h1]
 refine (h _ h2).mono ?_
 rintro o s' ⟨K', rfl, g2, g3⟩
 exact ⟨K' ++ R, (sto_append _ _ _).symm, ok_append.2 ⟨g2, h3⟩, K', rfl, g3⟩
theorem LCallV.of_calls {f : FuncId} {first cap args : List AV} (h : LCalls P f (first ++ (args ++ cap)) K C) : LCallV P (.func f first cap) args K C := fun s hok => ACallV.of_calls (h s hok)

theorem OW.callL {f : FuncId} {as : Array Operand} {ats : Array TypeId} {xs : List AV} (hop : o.op = .call { callee := .value (.func f), args := as, argTypes := ats }) (ha : evs env as.toList = some xs)
  (h : LCalls P f xs K C) (hok : Ok s L) (hs : Sels L K R) :
  OW P N o env (sto s L) (fun x s' => ∃ K', s' = sto s (K' ++ R) ∧ Ok s (K' ++ R) ∧ C (.ret x) K') (fun x s' => ∃ K', s' = sto s (K' ++ R) ∧ Ok s (K' ++ R) ∧ C (.panic x) K') := by
 refine (OW.call hop (fv := .func f [] []) rfl ha (ACallV.of_calls (by simpa using h.at hok hs))).mono ?_ ?_
 ·rintro x s' ⟨M, rfl, h2, K', rfl, h3⟩; exact ⟨K', rfl, h2, h3⟩
 ·rintro x s' ⟨M, rfl, h2, K', rfl, h3⟩; exact ⟨K', rfl, h2, h3⟩
theorem OW.callVL {g : Operand} {fv : AV} {as : Array Operand} {ats : Array TypeId} {xs : List AV} (hop : o.op = .call { callee := .value g, args := as, argTypes := ats }) (hv : ev env g = some fv) (ha : evs env as.toList = some xs)
  (h : LCallV P fv xs K C) (hok : Ok s L) (hs : Sels L K R) :
  OW P N o env (sto s L) (fun x s' => ∃ K', s' = sto s (K' ++ R) ∧ Ok s (K' ++ R) ∧ C (.ret x) K') (fun x s' => ∃ K', s' = sto s (K' ++ R) ∧ Ok s (K' ++ R) ∧ C (.panic x) K') := by
 refine (OW.call hop hv ha (h.at hok hs)).mono ?_ ?_
 ·rintro x s' ⟨M, rfl, h2, K', rfl, h3⟩; exact ⟨K', rfl, h2, h3⟩
 ·rintro x s' ⟨M, rfl, h2, K', rfl, h3⟩; exact ⟨K', rfl, h2, h3⟩
theorem RL.callL {f : FuncId} {as : Array Operand} {ats : Array TypeId} {xs : List AV} (hg : guardOf ops env o = some true) (hd : o.dst = some d) (hN : Nat.blt d N = true)
  (hop : o.op = .call { callee := .value (.func f), args := as, argTypes := ats }) (ha : evs env as.toList = some xs) (h : LCalls P f xs K C) (hok : Ok s L) (hs : Sels L K R)
  (hk : ∀ x K', C (.ret x) K' → Ok s (K' ++ R) → RL P N ops l Q ((d, x) :: env) (sto s (K' ++ R))) (hx : ∀ x K', C (.panic x) K' → Ok s (K' ++ R) → Q (.panic x) env (sto s (K' ++ R))) : RL P N ops (o :: l) Q env (sto s L) :=
 RL.op hg hd hN (OW.callL hop ha h hok hs) (fun x s' ⟨K', h1, h2, h3⟩ => by subst h1; exact hk x K' h3 h2) (fun x s' ⟨K', h1, h2, h3⟩ => by subst h1; exact hx x K' h3 h2)
theorem RL.callVL {g : Operand} {fv : AV} {as : Array Operand} {ats : Array TypeId} {xs : List AV} (hg : guardOf ops env o = some true) (hd : o.dst = some d) (hN : Nat.blt d N = true)
  (hop : o.op = .call { callee := .value g, args := as, argTypes := ats }) (hv : ev env g = some fv) (ha : evs env as.toList = some xs) (h : LCallV P fv xs K C) (hok : Ok s L) (hs : Sels L K R)
  (hk : ∀ x K', C (.ret x) K' → Ok s (K' ++ R) → RL P N ops l Q ((d, x) :: env) (sto s (K' ++ R))) (hx : ∀ x K', C (.panic x) K' → Ok s (K' ++ R) → Q (.panic x) env (sto s (K' ++ R))) : RL P N ops (o :: l) Q env (sto s L) :=
 RL.op hg hd hN (OW.callVL hop hv ha h hok hs) (fun x s' ⟨K', h1, h2, h3⟩ => by subst h1; exact hk x K' h3 h2) (fun x s' ⟨K', h1, h2, h3⟩ => by subst h1; exact hx x K' h3 h2)
theorem RL.callR {f : FuncId} {as : Array Operand} {ats : Array TypeId} {xs : List AV} {v : AV} {K' : LS} (hg : guardOf ops env o = some true) (hd : o.dst = some d) (hN : Nat.blt d N = true)
  (hop : o.op = .call { callee := .value (.func f), args := as, argTypes := ats }) (ha : evs env as.toList = some xs) (h : LCalls P f xs K (fun o M => o = .ret v ∧ M = K')) (hok : Ok s L) (hs : Sels L K R)
  (hk : Ok s (K' ++ R) → RL P N ops l Q ((d, v) :: env) (sto s (K' ++ R))) : RL P N ops (o :: l) Q env (sto s L) :=
 RL.callL hg hd hN hop ha h hok hs (fun x M ⟨h1, h2⟩ hok' => by cases h1; subst h2; exact hk hok') (fun x M ⟨h1, _⟩ _ => by cases h1)
theorem RL.callPP {f : FuncId} {as : Array Operand} {ats : Array TypeId} {xs : List AV} {v : AV} (hg : guardOf ops env o = some true) (hd : o.dst = some d) (hN : Nat.blt d N = true)
  (hop : o.op = .call { callee := .value (.func f), args := as, argTypes := ats }) (ha : evs env as.toList = some xs) (h : PCalls P f xs v) (hk : RL P N ops l Q ((d, v) :: env) s) : RL P N ops (o :: l) Q env s :=
 RL.callP hg hd hN hop ha (h s) hk

theorem LCalls.of_CW (hΓ : TysOk P Γ) {f : FuncId} {fn : Func} {c : Code} {args : List AV} (hc : Callable P f) (hf : P.funcs[f]? = some fn) (hb : fn.body = some c)
  (hN : Nat.ble args.length fn.ntmps = true) (h : ∀ s, Ok s K → CW P fn.ntmps c (Fin Γ fn.results.toList (LP s C)) (envOf 0 args) (sto s K)) : LCalls P f args K C :=
 fun s hok => ACalls.of_CW hΓ hc hf hb hN (h s hok)
theorem PCalls.of_CW (hΓ : TysOk P Γ) {f : FuncId} {fn : Func} {c : Code} {args : List AV} {v : AV} (hc : Callable P f) (hf : P.funcs[f]? = some fn) (hb : fn.body = some c)
  (hN : Nat.ble args.length fn.ntmps = true) (h : ∀ s, Ok s [] → CW P fn.ntmps c (Fin Γ fn.results.toList (fun o s' => o = .ret v ∧ s' = s)) (envOf 0 args) (sto s [])) : PCalls P f args v :=
 fun s => ACalls.of_CW hΓ hc hf hb hN (h s trivial)
theorem Fin.retL {rs : List ResultVar} {r r' : AV} (hok : Ok s L) (hr : resA Γ env (sto s L) rs = some r) (hle : AVle r r') (hs : Sels L K R) (hC : C (.ret r') K) : ∃ r r' s', resA Γ env (sto s L) rs = some r ∧ AVle r r' ∧ Store.Sub s' (sto s L) ∧ LP s C (.ret r') s' := by
 obtain ⟨h1, h2⟩ := hs.sub hok
 exact ⟨r, r', _, hr, hle, h1, K, rfl, h2, hC⟩
theorem Fin.retP {rs : List ResultVar} {r v : AV} (hok : Ok s L) (hr : resA Γ env (sto s L) rs = some r) (hle : AVle r v) : ∃ r r' s', resA Γ env (sto s L) rs = some r ∧ AVle r r' ∧ Store.Sub s' (sto s L) ∧ (AOut.ret r' = .ret v ∧ s' = s) :=
 ⟨r, v, s, hr, hle, hok.sub, rfl, rfl⟩
theorem Fin.panicL {v v' : AV} (hok : Ok s L) (hle : AVle v v') (hs : Sels L K R) (hC : C (.panic v') K) : ∃ v' s', AVle v v' ∧ Store.Sub s' (sto s L) ∧ LP s C (.panic v') s' := by
 obtain ⟨h1, h2⟩ := hs.sub hok
 exact ⟨v', _, hle, h1, K, rfl, h2, hC⟩

/-! ### Loops and cuts -/
theorem Env.Sub.append {a b env : Env} (h : Env.Sub a env) (k : Env.Sub b env) : Env.Sub (a ++ b) env := by
 induction a with
 | nil => exact k
 | cons x a ih => exact ⟨h.1, ih h.2⟩

def keepR : List Nat → Env → Env → Env × Unit
  | [], _, acc => (acc, ())
  | t :: ts, env, acc => match env.get? t with
    | some v => keepR ts env ((t, v) :: acc)
    | none => keepR ts env acc
theorem keepR_sub : ∀ (ts : List Nat) (acc E : Env), Env.Sub acc env → keepR ts env acc = (E, ()) → Env.Sub E env
  | [], acc, E, h, e => by cases e; exact h
  | t :: ts, acc, E, h, e => by
    simp only [keepR] at e
    split at e
    · rename_i v hv; exact keepR_sub ts ((t, v) :: acc) E ⟨⟨v, hv, AVle.refl _⟩, h⟩ e
    · exact keepR_sub ts _ E h e
theorem CW.keep {c : Code} (ts : List Nat) {E : Env} (h : keepR ts env [] = (E, ())) (k : CW P N c Q E s) : CW P N c Q env s := CW.sub E (keepR_sub ts [] E trivial h) k
theorem RL.keep (ts : List Nat) {E : Env} (h : keepR ts env [] = (E, ())) (k : RL P N ops l Q E s) : RL P N ops l Q env s := RL.sub E (keepR_sub ts [] E trivial h) k

def NextL {σ : Type} (s : Store) (E : σ → Env) (K : σ → LS) (I : σ → Prop) (ok : σ → Prop) (env' : Env) (s' : Store) : Prop :=
 ∃ y L' R', I y ∧ ok y ∧ Env.Sub (E y) env' ∧ s' = sto s L' ∧ Ok s L' ∧ Sels L' (K y) R'
theorem CW.loopL {σ : Type} {c : Code} (hok : Ok s L) (E : σ → Env) (K : σ → LS) (I : σ → Prop) (μ : σ → Nat) (x₀ : σ) {R₀ : LS} (hI : I x₀) (hE : Env.Sub (E x₀) env) (hS : Sels L (K x₀) R₀)
  (round : ∀ x, I x → Ok s (K x) → CW P N c (AEx.andThen (NextL s E K I (fun y => μ y < μ x)) Q) (E x) (sto s (K x))) : CW P N (.loop c) Q env (sto s L) := by
 obtain ⟨h1, h2⟩ := hS.sub hok
 refine CW.loop E (fun x => sto s (K x)) (fun x => I x ∧ Ok s (K x)) μ x₀ ⟨hI, h2⟩ hE h1 ?_
 rintro x ⟨hx, hokx⟩
 refine (round x hx hokx).mono ?_
 intro e env' s' h
 cases e with
 | normal =>
  obtain ⟨y, L', R', g1, g2, g3, rfl, g4, g5⟩ := h
  obtain ⟨k1, k2⟩ := g5.sub g4
  exact ⟨y, ⟨g1, k2⟩, g3, k1, g2⟩
 | exit id => exact h
 | ret => exact h
 | panic v => exact h
theorem NextL.mk {σ : Type} {E : σ → Env} {K : σ → LS} {I : σ → Prop} {ok : σ → Prop} (y : σ) {R' : LS} (hok : Ok s L) (hI : I y) (hE : Env.Sub (E y) env) (hS : Sels L (K y) R') (hm : ok y) : NextL s E K I ok env (sto s L) := ⟨y, L, R', hI, hm, hE, rfl, hok, hS⟩

def CutL {σ : Type} (s : Store) (E : σ → Env) (K : σ → LS) (I : σ → Prop) (e : AEx) (env' : Env) (s' : Store) : Prop :=
 e = .normal ∧ ∃ y L' R', I y ∧ Env.Sub (E y) env' ∧ s' = sto s L' ∧ Ok s L' ∧ Sels L' (K y) R'
theorem CutL.mk {σ : Type} {E : σ → Env} {K : σ → LS} {I : σ → Prop} (y : σ) {R' : LS} (hok : Ok s L) (hI : I y) (hE : Env.Sub (E y) env) (hS : Sels L (K y) R') : CutL s E K I .normal env (sto s L) := ⟨rfl, y, L, R', hI, hE, rfl, hok, hS⟩
theorem CW.atCutL {σ : Type} {x y : Code} {Q' : AEx → Env → Store → Prop} (E : σ → Env) (K : σ → LS) (I : σ → Prop) (h₁ : CW P N x (CutL s E K I) env (sto s L)) (h₂ : ∀ z, I z → Ok s (K z) → CW P N y Q (E z) (sto s (K z))) :
  CW P N x (AEx.andThen (CW P N y Q) Q') env (sto s L) := by
 refine h₁.mono ?_
 rintro e env' s' ⟨rfl, z, L', R', g1, g2, rfl, g3, g4⟩
 obtain ⟨k1, k2⟩ := g4.sub g3
 exact CW.sub _ g2 (CW.drop _ k1 (h₂ z g1 k2))
end

/-! ### Drawn regions -/
section
variable {P : Program} {Γ : Tys} {N : Nat} {l : List Oper} {Q : AEx → Env → Store → Prop} {env : Env} {s : Store} {m : Nat} {L R : LS}
theorem RD.calmPP {i : Nat} {o : Oper} {d : Nat} {f : FuncId} {as : Array Operand} {ats : Array TypeId} {xs : List AV} {v : AV} (hr : readyB l.toArray m i = true) (ho : l.toArray[i]? = some o) (hd : o.dst = some d) (hN : Nat.blt d N = true)
  (hg : guardOf l.toArray (pickE env (looks l.toArray o)) o = some true) (hop : o.op = .call { callee := .value (.func f), args := as, argTypes := ats }) (ha : evs (pickE env (looks l.toArray o)) as.toList = some xs) (h : PCalls P f xs v)
  (k : RD P Γ N l.toArray Q (dn (m ||| 2 ^ i)) ((d, v) :: env) s) : RD P Γ N l.toArray Q (dn m) env s :=
 RD.calmP hr ho hd hN hg hop ha h k
theorem RD.loadL (i : Nat) (hΓ : TysOk P Γ) (hok : Ok s L) {o : Oper} {d : Nat} {t T : TypeId} {x : Operand} {ti : TI} {b off : Nat} {cs : List AV} {v : AV} (hr : readyL l.toArray m (idxs 0 l) = [i]) (ho : l.toArray[i]? = some o) (hd : o.dst = some d)
  (hN : Nat.blt d N = true) (hg : guardOf l.toArray (pickE env (looks l.toArray o)) o = some true) (hop : o.op = .load t x) (ht : Γ.get? t = some ti) (hx : ev (pickE env (looks l.toArray o)) x = some (.ptr b off))
  (hs : Sel L (.own b) (.box T cs) R) (hv : loadC ti cs off = some v) (h : RD P Γ N l.toArray Q (dn (m ||| 2 ^ i)) ((d, v) :: env) (sto s L)) : RD P Γ N l.toArray Q (dn m) env (sto s L) :=
 RD.one hr ho hd hN hg (OW.loadL hΓ hok hop ht hx hs hv (X := fun _ _ => False)) (fun x s' ⟨h1, h2⟩ => by subst h1; subst h2; exact h) (fun _ _ h => h.elim)
theorem RD.storeL (i : Nat) (hΓ : TysOk P Γ) (hok : Ok s L) {o : Oper} {t T : TypeId} {x y : Operand} {ti : TI} {b off : Nat} {cs us : List AV} {v : AV} (hr : readyL l.toArray m (idxs 0 l) = [i]) (ho : l.toArray[i]? = some o) (hd : o.dst = none)
  (hg : guardOf l.toArray (pickE env (looks l.toArray o)) o = some true) (hop : o.op = .store t x y) (ht : Γ.get? t = some ti) (hx : ev (pickE env (looks l.toArray o)) x = some (.ptr b off)) (hy : ev (pickE env (looks l.toArray o)) y = some v)
  (hv : cellsOf v = some us) (hu : Nat.beq us.length ti.size = true) (h1 : us.all oneC = true) (hs : Sel L (.own b) (.box T cs) R) (hfit : Nat.ble (off + us.length) cs.length = true)
  (h : Ok s ((.own b, .box T (setL off us cs)) :: R) → RD P Γ N l.toArray Q (dn (m ||| 2 ^ i)) env (sto s ((.own b, .box T (setL off us cs)) :: R))) : RD P Γ N l.toArray Q (dn m) env (sto s L) :=
 RD.oneN hr ho hd hg (OW.storeL hΓ hok hop ht hx hy hv hu h1 hs hfit (X := fun _ _ => False)) (fun x s' ⟨h1, h2⟩ => by subst h1; exact h h2) (fun _ _ h => h.elim)
theorem RD.allocL (i : Nat) (hΓ : TysOk P Γ) (hok : Ok s L) {o : Oper} {d : Nat} {t : TypeId} {ti : TI} {z : AV} {cs : List AV} (hr : readyL l.toArray m (idxs 0 l) = [i]) (ho : l.toArray[i]? = some o) (hd : o.dst = some d)
  (hN : Nat.blt d N = true) (hg : guardOf l.toArray (pickE env (looks l.toArray o)) o = some true) (hop : o.op = .alloc t) (ht : Γ.get? t = some ti) (hz : constAV2 ti.zero = some z) (hc : cellsOf z = some cs)
  (h : ∀ b, Ok s ((.own b, .box t cs) :: L) → RD P Γ N l.toArray Q (dn (m ||| 2 ^ i)) ((d, .ptr b 0) :: env) (sto s ((.own b, .box t cs) :: L))) : RD P Γ N l.toArray Q (dn m) env (sto s L) :=
 RD.one hr ho hd hN hg (OW.allocL hΓ hok hop ht hz hc (X := fun _ _ => False)) (fun x s' ⟨b, h1, h2, h3⟩ => by subst h1; subst h2; exact h b h3) (fun _ _ h => h.elim)
theorem RD.append1L (i : Nat) (hΓ : TysOk P Γ) (hok : Ok s L) {o : Oper} {d : Nat} {t t' e : TypeId} {x y : Operand} {it it' ie : TI} {sx sy sz n : Nat} {xs : List AV} {v : AV} {own oy : Own} (hr : readyL l.toArray m (idxs 0 l) = [i]) (ho : l.toArray[i]? = some o)
  (hd : o.dst = some d) (hN : Nat.blt d N = true) (hg : guardOf l.toArray (pickE env (looks l.toArray o)) o = some true) (hop : o.op = .call { callee := .builtin .append, args := #[x, y], argTypes := #[t, t'] }) (ht : Γ.get? t = some it)
  (htd : it.td = .slc e) (ht' : Γ.get? t' = some it') (htd' : ∀ k, it'.td ≠ .int k) (hie : Γ.get? e = some ie) (hx : ev (pickE env (looks l.toArray o)) x = some (.slc sx xs own)) (hy : ev (pickE env (looks l.toArray o)) y = some (.slc sy [v] oy)) (hsx : sx = ie.size) (hsy : sy = ie.size)
  (hzs' : Nat.beq ie.zero.cells.size ie.size = true) (hel : elemOk ie.size v = true) (hsz : sz = ie.size) (hs : Sel L own (.row e sz n) R) (hn : n = xs.length) (hb : (n + 1) * ie.bytes ≤ 140737488355328) (h63 : n + 1 ≤ 9223372036854775807)
  (h : ∀ b, Ok s ((.own b, .row e sz (n + 1)) :: R) → RD P Γ N l.toArray Q (dn (m ||| 2 ^ i)) ((d, .slc sz (xs ++ [v]) (.own b)) :: env) (sto s ((.own b, .row e sz (n + 1)) :: R))) : RD P Γ N l.toArray Q (dn m) env (sto s L) := by
 subst hn
 refine RD.one hr ho hd hN hg (OW.appendL hΓ hok hop ht htd ht' htd' hie hx hy hsx (.inr hsy) hzs' (by intro y hy; simp at hy; subst hy; exact hel) hb h63 rfl (n' := xs.length + 1) rfl hsz hs (X := fun _ _ => False)) ?_ (fun _ _ h => h.elim)
 rintro r s' ⟨own', h2, -, rfl, rfl, h3⟩
 obtain ⟨b, rfl⟩ := h2 (by simp)
 exact h b h3
end

/-! ### What is copied -/
section
variable {P : Program} {Γ : Tys} {N : Nat} {ops : Array Oper} {Q : AEx → Env → Store → Prop} {env : Env} {s : Store} {o : Oper} {d : Nat}
end

/-! ### Drawn regions in which some variables stay as they are until the last operation -/
def JS : List (Nat × AObj) → Store → Prop
 | [], _ => True
 | e :: K, s => s e.1 = some e.2 ∧ JS K s
theorem JS.one {b : Nat} {o : AObj} {s : Store} (h : s b = some o) : JS [(b, o)] s := ⟨h, trivial⟩
theorem JS.two {b b' : Nat} {o o' : AObj} {s : Store} (h : s b = some o) (h' : s b' = some o') : JS [(b, o), (b', o')] s := ⟨h, h', trivial⟩
theorem JS.fst {b : Nat} {o : AObj} {K : List (Nat × AObj)} {s : Store} (h : JS ((b, o) :: K) s) : s b = some o := h.1
theorem JS.snd {e : Nat × AObj} {b : Nat} {o : AObj} {K : List (Nat × AObj)} {s : Store} (h : JS (e :: (b, o) :: K) s) : s b = some o := h.2.1
section
variable {J : Store → Prop} {P : Program} {Γ : Tys} {N : Nat} {l : List Oper} {Q : AEx → Env → Store → Prop} {env : Env} {s : Store} {m : Nat} {L R : LS} {o : Oper} {d : Nat}
theorem RJ.loadA (i : Nat) (hΓ : TysOk P Γ) (hJ : J s) {t T : TypeId} {x : Operand} {ti : TI} {b off : Nat} {cs : List AV} {v : AV} (hr : readyB l.toArray m i = true) (ho : l.toArray[i]? = some o) (hd : o.dst = some d) (hN : Nat.blt d N = true)
  (hg : guardOf l.toArray (pickE env (looks l.toArray o)) o = some true) (hop : o.op = .load t x) (ht : Γ.get? t = some ti) (hx : ev (pickE env (looks l.toArray o)) x = some (.ptr b off)) (hs : ∀ s, J s → s b = some (.box T cs)) (hv : loadC ti cs off = some v)
  (h : RJ J P Γ N l.toArray Q (dn (m ||| 2 ^ i)) ((d, v) :: env) s) : RJ J P Γ N l.toArray Q (dn m) env s :=
 RJ.calmJ hJ hr ho hd hN hg (fun s hs' => OW.loadP hΓ hop ht hx (hs s hs') hv) h
theorem RJ.calmPP {i : Nat} (hJ : J s) {f : FuncId} {as : Array Operand} {ats : Array TypeId} {xs : List AV} {v : AV} (hr : readyB l.toArray m i = true) (ho : l.toArray[i]? = some o) (hd : o.dst = some d) (hN : Nat.blt d N = true)
  (hg : guardOf l.toArray (pickE env (looks l.toArray o)) o = some true) (hop : o.op = .call { callee := .value (.func f), args := as, argTypes := ats }) (ha : evs (pickE env (looks l.toArray o)) as.toList = some xs) (h : PCalls P f xs v)
  (k : RJ J P Γ N l.toArray Q (dn (m ||| 2 ^ i)) ((d, v) :: env) s) : RJ J P Γ N l.toArray Q (dn m) env s :=
 RJ.calmJ hJ hr ho hd hN hg (fun s _ => (OW.call hop (fv := .func f [] []) rfl ha (ACallV.of_calls (R := fun o s' => o = .ret v ∧ s' = s) (by simpa using h s))).mono (fun x s' h => by cases h.1; exact ⟨rfl, h.2⟩) (fun x s' h => by cases h.1)) k
theorem RJ.storeL (i : Nat) (hΓ : TysOk P Γ) (hok : Ok s L) {t T : TypeId} {x y : Operand} {ti : TI} {b off : Nat} {cs us : List AV} {v : AV} (hr : readyL l.toArray m (idxs 0 l) = [i]) (ho : l.toArray[i]? = some o) (hd : o.dst = none)
  (hg : guardOf l.toArray (pickE env (looks l.toArray o)) o = some true) (hop : o.op = .store t x y) (ht : Γ.get? t = some ti) (hx : ev (pickE env (looks l.toArray o)) x = some (.ptr b off)) (hy : ev (pickE env (looks l.toArray o)) y = some v)
  (hv : cellsOf v = some us) (hu : Nat.beq us.length ti.size = true) (h1 : us.all oneC = true) (hs : Sel L (.own b) (.box T cs) R) (hfit : Nat.ble (off + us.length) cs.length = true)
  (hj : Ok s ((.own b, .box T (setL off us cs)) :: R) → J (sto s ((.own b, .box T (setL off us cs)) :: R)) ∨ lastB l.toArray i = true)
  (h : Ok s ((.own b, .box T (setL off us cs)) :: R) → RJ J P Γ N l.toArray Q (dn (m ||| 2 ^ i)) env (sto s ((.own b, .box T (setL off us cs)) :: R))) : RJ J P Γ N l.toArray Q (dn m) env (sto s L) :=
 RJ.oneN hr ho hd hg (OW.storeL hΓ hok hop ht hx hy hv hu h1 hs hfit (X := fun _ _ => False)) (fun x s' ⟨h1, h2⟩ => by subst h1; exact hj h2) (fun x s' ⟨h1, h2⟩ => by subst h1; exact h h2) (fun _ _ h => h.elim)
theorem RJ.allocL (i : Nat) (hΓ : TysOk P Γ) (hok : Ok s L) {t : TypeId} {ti : TI} {z : AV} {cs : List AV} (hr : readyL l.toArray m (idxs 0 l) = [i]) (ho : l.toArray[i]? = some o) (hd : o.dst = some d)
  (hN : Nat.blt d N = true) (hg : guardOf l.toArray (pickE env (looks l.toArray o)) o = some true) (hop : o.op = .alloc t) (ht : Γ.get? t = some ti) (hz : constAV2 ti.zero = some z) (hc : cellsOf z = some cs)
  (hj : ∀ b, Ok s ((.own b, .box t cs) :: L) → J (sto s ((.own b, .box t cs) :: L)) ∨ lastB l.toArray i = true)
  (h : ∀ b, Ok s ((.own b, .box t cs) :: L) → RJ J P Γ N l.toArray Q (dn (m ||| 2 ^ i)) ((d, .ptr b 0) :: env) (sto s ((.own b, .box t cs) :: L))) : RJ J P Γ N l.toArray Q (dn m) env (sto s L) :=
 RJ.one hr ho hd hN hg (OW.allocL hΓ hok hop ht hz hc (X := fun _ _ => False)) (fun x s' ⟨b, h1, h2, h3⟩ => by subst h1; subst h2; exact hj b h3) (fun x s' ⟨b, h1, h2, h3⟩ => by subst h1; subst h2; exact h b h3) (fun _ _ h => h.elim)
theorem RJ.appendL (i : Nat) (hΓ : TysOk P Γ) (hok : Ok s L) {t t' e : TypeId} {x y : Operand} {it it' ie : TI} {sx sy sz n n' : Nat} {xs ys : List AV} {own oy : Own} (hr : readyL l.toArray m (idxs 0 l) = [i]) (ho : l.toArray[i]? = some o)
  (hd : o.dst = some d) (hN : Nat.blt d N = true) (hg : guardOf l.toArray (pickE env (looks l.toArray o)) o = some true) (hop : o.op = .call { callee := .builtin .append, args := #[x, y], argTypes := #[t, t'] }) (ht : Γ.get? t = some it)
  (htd : it.td = .slc e) (ht' : Γ.get? t' = some it') (htd' : ∀ k, it'.td ≠ .int k) (hie : Γ.get? e = some ie) (hx : ev (pickE env (looks l.toArray o)) x = some (.slc sx xs own)) (hy : ev (pickE env (looks l.toArray o)) y = some (.slc sy ys oy)) (hsx : sx = ie.size) (hsy : ys = [] ∨ sy = ie.size)
  (hzs' : Nat.beq ie.zero.cells.size ie.size = true) (hel : ∀ y ∈ ys, elemOk ie.size y = true) (hsz : sz = ie.size) (hs : Sel L own (.row e sz n) R) (hn : n = xs.length) (hn' : n' = xs.length + ys.length) (hb : (xs.length + ys.length) * ie.bytes ≤ 140737488355328) (h63 : xs.length + ys.length ≤ 9223372036854775807)
  (hj : ∀ own', Ok s ((own', .row e sz n') :: R) → J (sto s ((own', .row e sz n') :: R)) ∨ lastB l.toArray i = true)
  (h : ∀ own', Ok s ((own', .row e sz n') :: R) → RJ J P Γ N l.toArray Q (dn (m ||| 2 ^ i)) ((d, .slc sz (xs ++ ys) own') :: env) (sto s ((own', .row e sz n') :: R))) : RJ J P Γ N l.toArray Q (dn m) env (sto s L) := by
 refine RJ.one hr ho hd hN hg (OW.appendL hΓ hok hop ht htd ht' htd' hie hx hy hsx hsy hzs' hel hb h63 hn hn' hsz hs (X := fun _ _ => False)) ?_ ?_ (fun _ _ h => h.elim)
 ·rintro r s' ⟨own', -, -, rfl, rfl, h3⟩
  exact hj own' h3
 ·rintro r s' ⟨own', -, -, rfl, rfl, h3⟩
  exact h own' h3
theorem RJ.append1L (i : Nat) (hΓ : TysOk P Γ) (hok : Ok s L) {t t' e : TypeId} {x y : Operand} {it it' ie : TI} {sx sy sz n : Nat} {xs : List AV} {v : AV} {own oy : Own} (hr : readyL l.toArray m (idxs 0 l) = [i]) (ho : l.toArray[i]? = some o)
  (hd : o.dst = some d) (hN : Nat.blt d N = true) (hg : guardOf l.toArray (pickE env (looks l.toArray o)) o = some true) (hop : o.op = .call { callee := .builtin .append, args := #[x, y], argTypes := #[t, t'] }) (ht : Γ.get? t = some it)
  (htd : it.td = .slc e) (ht' : Γ.get? t' = some it') (htd' : ∀ k, it'.td ≠ .int k) (hie : Γ.get? e = some ie) (hx : ev (pickE env (looks l.toArray o)) x = some (.slc sx xs own)) (hy : ev (pickE env (looks l.toArray o)) y = some (.slc sy [v] oy)) (hsx : sx = ie.size) (hsy : sy = ie.size)
  (hzs' : Nat.beq ie.zero.cells.size ie.size = true) (hel : elemOk ie.size v = true) (hsz : sz = ie.size) (hs : Sel L own (.row e sz n) R) (hn : n = xs.length) (hb : (n + 1) * ie.bytes ≤ 140737488355328) (h63 : n + 1 ≤ 9223372036854775807)
  (hj : ∀ own', Ok s ((own', .row e sz (n + 1)) :: R) → J (sto s ((own', .row e sz (n + 1)) :: R)) ∨ lastB l.toArray i = true)
  (h : ∀ own', Ok s ((own', .row e sz (n + 1)) :: R) → RJ J P Γ N l.toArray Q (dn (m ||| 2 ^ i)) ((d, .slc sz (xs ++ [v]) own') :: env) (sto s ((own', .row e sz (n + 1)) :: R))) : RJ J P Γ N l.toArray Q (dn m) env (sto s L) := by
 subst hn
 exact RJ.appendL i hΓ hok hr ho hd hN hg hop ht htd ht' htd' hie hx hy hsx (.inr hsy) hzs' (by intro y hy; simp at hy; subst hy; exact hel) hsz hs rfl rfl hb h63 hj h
theorem RJ.callL {C : AOut → LS → Prop} {K : LS} {i : Nat} {f : FuncId} {as : Array Operand} {ats : Array TypeId} {xs : List AV} (hr : readyL l.toArray m (idxs 0 l) = [i]) (ho : l.toArray[i]? = some o) (hd : o.dst = some d) (hN : Nat.blt d N = true)
  (hg : guardOf l.toArray (pickE env (looks l.toArray o)) o = some true) (hop : o.op = .call { callee := .value (.func f), args := as, argTypes := ats }) (ha : evs (pickE env (looks l.toArray o)) as.toList = some xs) (h : LCalls P f xs K C) (hok : Ok s L) (hs : Sels L K R)
  (hj : ∀ x K', C (.ret x) K' → Ok s (K' ++ R) → J (sto s (K' ++ R)) ∨ lastB l.toArray i = true)
  (hk : ∀ x K', C (.ret x) K' → Ok s (K' ++ R) → RJ J P Γ N l.toArray Q (dn (m ||| 2 ^ i)) ((d, x) :: env) (sto s (K' ++ R))) (hx : ∀ x K', C (.panic x) K' → Ok s (K' ++ R) → Q (.panic x) [] (sto s (K' ++ R))) : RJ J P Γ N l.toArray Q (dn m) env (sto s L) :=
 RJ.one hr ho hd hN hg (OW.callL hop ha h hok hs) (fun x s' ⟨K', h1, h2, h3⟩ => by subst h1; exact hj x K' h3 h2) (fun x s' ⟨K', h1, h2, h3⟩ => by subst h1; exact hk x K' h3 h2) (fun x s' ⟨K', h1, h2, h3⟩ => by subst h1; exact hx x K' h3 h2)
theorem RJ.callVL {C : AOut → LS → Prop} {K : LS} {i : Nat} {g : Operand} {fv : AV} {as : Array Operand} {ats : Array TypeId} {xs : List AV} (hr : readyL l.toArray m (idxs 0 l) = [i]) (ho : l.toArray[i]? = some o) (hd : o.dst = some d) (hN : Nat.blt d N = true)
  (hg : guardOf l.toArray (pickE env (looks l.toArray o)) o = some true) (hop : o.op = .call { callee := .value g, args := as, argTypes := ats }) (hv : ev (pickE env (looks l.toArray o)) g = some fv) (ha : evs (pickE env (looks l.toArray o)) as.toList = some xs) (h : LCallV P fv xs K C) (hok : Ok s L) (hs : Sels L K R)
  (hj : ∀ x K', C (.ret x) K' → Ok s (K' ++ R) → J (sto s (K' ++ R)) ∨ lastB l.toArray i = true)
  (hk : ∀ x K', C (.ret x) K' → Ok s (K' ++ R) → RJ J P Γ N l.toArray Q (dn (m ||| 2 ^ i)) ((d, x) :: env) (sto s (K' ++ R))) (hx : ∀ x K', C (.panic x) K' → Ok s (K' ++ R) → Q (.panic x) [] (sto s (K' ++ R))) : RJ J P Γ N l.toArray Q (dn m) env (sto s L) :=
 RJ.one hr ho hd hN hg (OW.callVL hop hv ha h hok hs) (fun x s' ⟨K', h1, h2, h3⟩ => by subst h1; exact hj x K' h3 h2) (fun x s' ⟨K', h1, h2, h3⟩ => by subst h1; exact hk x K' h3 h2) (fun x s' ⟨K', h1, h2, h3⟩ => by subst h1; exact hx x K' h3 h2)
end

/-! ### append onto the literal nil: a row that is held then -/
section
variable {J : Store → Prop} {P : Program} {Γ : Tys} {N : Nat} {ops : Array Oper} {Q : AEx → Env → Store → Prop} {env : Env} {s : Store} {o : Oper} {d m : Nat} {L : LS} {l : List Oper}
theorem OW.appendNL (hΓ : TysOk P Γ) (hok : Ok s L) {t t' e : TypeId} {x y : Operand} {it it' ie : TI} {sx sy sz n' : Nat} {ys : List AV} {oy : Own}
  (ho : o.op = .call { callee := .builtin .append, args := #[x, y], argTypes := #[t, t'] }) (ht : Γ.get? t = some it) (htd : it.td = .slc e) (ht' : Γ.get? t' = some it') (htd' : ∀ k, it'.td ≠ .int k)
  (hie : Γ.get? e = some ie) (hx : ev env x = some (.slc sx [] .nil)) (hy : ev env y = some (.slc sy ys oy)) (hsy : ys = [] ∨ sy = ie.size)
  (hzs' : Nat.beq ie.zero.cells.size ie.size = true) (hel : ∀ y ∈ ys, elemOk ie.size y = true) (hsz : sz = ie.size) (hn' : n' = ys.length) (hb : n' * ie.bytes ≤ 140737488355328) (h63 : n' ≤ 9223372036854775807) {X : AV → Store → Prop} :
  OW P N o env (sto s L) (fun r s' => ∃ own', r = .slc sz ys own' ∧ s' = sto s ((own', .row e sz n') :: L) ∧ Ok s ((own', .row e sz n') :: L)) X := by
 subst hsz; subst hn'
 refine (OW.append hΓ ho ht htd ht' htd' hie hx hy (.inl rfl) hsy hzs' hel (by simpa using hb) (by simpa using h63) (.inl (.inl rfl)) (X := X)).mono ?_ (fun _ _ h => h)
 rintro r s' (⟨h1, -, rfl, rfl⟩ | ⟨s₁, hs₁, b, h1, rfl, rfl⟩)
 ·exact ⟨.nil, by rw [h1], rfl, trivial, hok⟩
 ·rcases hs₁ with rfl | ⟨b', e, -⟩
  ·exact ⟨.own b, by simp, by simp only [List.length_nil, Nat.zero_add]; rfl, h1, hok⟩
  ·cases e
theorem RL.appendNL (hΓ : TysOk P Γ) (hok : Ok s L) {t t' e : TypeId} {x y : Operand} {it it' ie : TI} {sx sy sz n' : Nat} {ys : List AV} {oy : Own} (hg : guardOf ops env o = some true) (hd : o.dst = some d) (hN : Nat.blt d N = true)
  (ho : o.op = .call { callee := .builtin .append, args := #[x, y], argTypes := #[t, t'] }) (ht : Γ.get? t = some it) (htd : it.td = .slc e) (ht' : Γ.get? t' = some it') (htd' : ∀ k, it'.td ≠ .int k)
  (hie : Γ.get? e = some ie) (hx : ev env x = some (.slc sx [] .nil)) (hy : ev env y = some (.slc sy ys oy)) (hsy : ys = [] ∨ sy = ie.size)
  (hzs' : Nat.beq ie.zero.cells.size ie.size = true) (hel : ∀ y ∈ ys, elemOk ie.size y = true) (hsz : sz = ie.size) (hn' : n' = ys.length) (hb : n' * ie.bytes ≤ 140737488355328) (h63 : n' ≤ 9223372036854775807)
  (h : ∀ own', Ok s ((own', .row e sz n') :: L) → RL P N ops l Q ((d, .slc sz ys own') :: env) (sto s ((own', .row e sz n') :: L))) : RL P N ops (o :: l) Q env (sto s L) :=
 RL.op hg hd hN (OW.appendNL hΓ hok ho ht htd ht' htd' hie hx hy hsy hzs' hel hsz hn' hb h63 (X := fun _ _ => False)) (fun r s' ⟨own', h1, h2, h3⟩ => by subst h1; subst h2; exact h own' h3) (fun _ _ h => h.elim)
theorem RJ.appendNL (i : Nat) (hΓ : TysOk P Γ) (hok : Ok s L) {t t' e : TypeId} {x y : Operand} {it it' ie : TI} {sx sy sz n' : Nat} {ys : List AV} {oy : Own} (hr : readyL l.toArray m (idxs 0 l) = [i]) (hi : l.toArray[i]? = some o) (hd : o.dst = some d) (hN : Nat.blt d N = true)
  (hg : guardOf l.toArray (pickE env (looks l.toArray o)) o = some true)
  (ho : o.op = .call { callee := .builtin .append, args := #[x, y], argTypes := #[t, t'] }) (ht : Γ.get? t = some it) (htd : it.td = .slc e) (ht' : Γ.get? t' = some it') (htd' : ∀ k, it'.td ≠ .int k)
  (hie : Γ.get? e = some ie) (hx : ev (pickE env (looks l.toArray o)) x = some (.slc sx [] .nil)) (hy : ev (pickE env (looks l.toArray o)) y = some (.slc sy ys oy)) (hsy : ys = [] ∨ sy = ie.size)
  (hzs' : Nat.beq ie.zero.cells.size ie.size = true) (hel : ∀ y ∈ ys, elemOk ie.size y = true) (hsz : sz = ie.size) (hn' : n' = ys.length) (hb : n' * ie.bytes ≤ 140737488355328) (h63 : n' ≤ 9223372036854775807)
  (hj : ∀ own', Ok s ((own', .row e sz n') :: L) → J (sto s ((own', .row e sz n') :: L)) ∨ lastB l.toArray i = true)
  (h : ∀ own', Ok s ((own', .row e sz n') :: L) → RJ J P Γ N l.toArray Q (dn (m ||| 2 ^ i)) ((d, .slc sz ys own') :: env) (sto s ((own', .row e sz n') :: L))) : RJ J P Γ N l.toArray Q (dn m) env (sto s L) :=
 RJ.one hr hi hd hN hg (OW.appendNL hΓ hok ho ht htd ht' htd' hie hx hy hsy hzs' hel hsz hn' hb h63 (X := fun _ _ => False)) (fun r s' ⟨own', h1, h2, h3⟩ => by subst h1; subst h2; exact hj own' h3) (fun r s' ⟨own', h1, h2, h3⟩ => by subst h1; subst h2; exact h own' h3) (fun _ _ h => h.elim)
end
end Go.AE

