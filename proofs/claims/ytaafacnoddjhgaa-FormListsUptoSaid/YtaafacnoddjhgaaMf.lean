import Derived.Test.YtaafacnoddjhgaaMe
import Derived.Test.YtaafacnoddjhgaaMc
/- Contracts of the layer 'shape': which expressions and facts are formed; depths. -/
namespace Go.Proofs.Ytaafacnoddjhgaa
open Go.AE

theorem drop_cons {α : Type} {l : List α} {j : Nat} {x : α} (h : l[j]? = some x) : l.drop j = x :: l.drop (j + 1) := by
  have hlt := (List.getElem?_eq_some_iff.1 h).1
  rw [List.drop_eq_getElem_cons hlt]; congr; exact (List.getElem?_eq_some_iff.1 h).2

/-- Is an expression formed? -/
def goodB (e : FExp) : Bool := lookB (.exp e) 120

/-- An expression that can be looked at. -/
structure FExp.Fair (e : FExp) : Prop where
  size : e.size < big
  short : (Part.exp e).Short

theorem lookE_spec (e : FExp) (s : Store) (h : e.Fair) :
    ACalls Try.prog 92 [.fptr e.cells 0] s (Tries (fun s' => goodB e = true ∧ s' = s) (fun s' => goodB e = false ∧ s' = s)) := by
  refine ACalls.of_CW tysOk call92 Try.func92 rfl rfl ?_
  repeat (first | refine CW.reg ?_ | refine RL.step tysOk rfl rfl rfl rfl ?_)
  refine RL.call rfl rfl rfl rfl rfl (look_spec (.exp e) 120 s h.size h.short (by decide)) ?_ ?_
  · rintro x s' ⟨rfl, ⟨h1, ⟨⟩⟩ | ⟨-, h1⟩⟩
    · repeat (first | refine RL.nil ?_)
      exact ⟨_, _, _, rfl, AVle.refl _, Store.sub_refl _, .inl ⟨rfl, h1, rfl⟩⟩
    · cases h1
  · rintro x s' ⟨rfl, ⟨-, h1⟩ | ⟨h1, ⟨⟩⟩⟩
    · cases h1
    · skip
      exact ⟨_, _, AVle.refl _, Store.sub_refl _, .inr ⟨rfl, h1, rfl⟩⟩

set_option maxRecDepth 10000 in
theorem good_spec (e : FExp) (s : Store) (h : e.Fair) : ACalls Try.prog 54 [e.av] s (fun o s' => o = .ret (.bool (goodB e)) ∧ s' = s) := by
  refine ACalls.of_CW tysOk call54 Try.func54 rfl rfl ?_
  repeat (first | with_reducible refine CW.seq ?_ | with_reducible refine andThen_normal ?_ | refine CW.reg (RL.run tysOk rfl (RL.nil ?_)) | refine CW.reg ?_ | refine RL.step tysOk rfl rfl rfl rfl ?_)
  refine RL.callP (v := .bool (goodB e)) rfl rfl rfl rfl rfl ((formed_spec _ [.fptr e.cells 0] s _ _ (lookE_spec e s h)).mono ?_) ?_
  · rintro o s' (⟨rfl, h1, rfl⟩ | ⟨rfl, h1, rfl⟩)
    · exact ⟨by rw [h1], rfl⟩
    · exact ⟨by rw [h1], rfl⟩
  repeat (first | with_reducible refine andThen_normal ?_ | with_reducible refine CW.ret ?_ | refine RL.nil ?_ | refine RL.step tysOk rfl rfl rfl rfl ?_)
  exact ⟨_, _, _, rfl, AVle.refl _, Store.sub_refl _, rfl, rfl⟩

/-- An error, or none. -/
def err (ok : Bool) : AV := .int .i64 (if ok then 0 else 2)

set_option maxRecDepth 10000 in
theorem checkExp_spec (e : FExp) (s : Store) (h : e.Fair) : ACalls Try.prog 36 [e.av] s (fun o s' => o = .ret (err (goodB e)) ∧ s' = s) := by
  refine ACalls.of_CW tysOk call36 Try.func36 rfl rfl ?_
  repeat (first | with_reducible refine CW.seq ?_ | with_reducible refine andThen_normal ?_ | refine CW.reg (RL.run tysOk rfl (RL.nil ?_)) | refine CW.reg ?_ | refine RL.step tysOk rfl rfl rfl rfl ?_)
  refine RL.callP rfl rfl rfl rfl rfl (good_spec e s h) ?_
  cases hg : goodB e with
  | true =>
    repeat (first | with_reducible refine CW.seq ?_ | with_reducible refine andThen_normal ?_ | with_reducible refine CW.ret ?_ | with_reducible refine CW.skip ?_ | refine CW.reg (RL.run tysOk rfl (RL.nil ?_)) | refine RL.nil ?_ | refine CW.condF rfl ?_ | refine RL.step tysOk rfl rfl rfl rfl ?_)
    exact ⟨_, _, _, rfl, AVle.refl _, Store.sub_refl _, rfl, rfl⟩
  | false =>
    repeat (first | with_reducible refine CW.seq ?_ | with_reducible refine andThen_normal ?_ | with_reducible refine andThen_ret ?_ | with_reducible refine CW.ret ?_ | refine CW.reg (RL.run tysOk rfl (RL.nil ?_)) | refine RL.nil ?_ | refine CW.condT rfl ?_ | refine RL.step tysOk rfl rfl rfl rfl ?_)
    exact ⟨_, _, _, rfl, AVle.refl _, Store.sub_refl _, rfl, rfl⟩

/-! ### All strings of a list are so -/

/-- What is asked of a function that says yes or no of strings. -/
def Says (fv : AV) (f : Str → Bool) (l : List Str) : Prop := ∀ x ∈ l, ∀ s, ACallV Try.prog fv [.str x] s (fun o s' => o = .ret (.bool (f x)) ∧ s' = s)

def idxBy (f : Str → Bool) (l : List Str) (j : Nat) : Int := match (l.drop j).findIdx? f with
  | some k => ((j + k : Nat) : Int)
  | none => -1

theorem idxBy_hit {f : Str → Bool} {l : List Str} {j : Nat} {y : Str} (hy : l[j]? = some y) (h : f y = true) : idxBy f l j = (j : Int) := by
  simp [idxBy, drop_cons hy, List.findIdx?_cons, h]
theorem idxBy_miss {f : Str → Bool} {l : List Str} {j : Nat} {y : Str} (hy : l[j]? = some y) (h : f y = false) : idxBy f l j = idxBy f l (j + 1) := by
  simp only [idxBy, drop_cons hy, List.findIdx?_cons, h]
  cases (l.drop (j + 1)).findIdx? f <;> simp [Nat.add_assoc, Nat.add_comm 1]
theorem idxBy_end {f : Str → Bool} {l : List Str} {j : Nat} (h : l.length ≤ j) : idxBy f l j = -1 := by
  simp [idxBy, List.drop_eq_nil_of_le h]
theorem idxBy_any (f : Str → Bool) (l : List Str) : decide (idxBy f l 0 ≥ 0) = l.any f := by
  simp only [idxBy, List.drop_zero]
  cases h : l.findIdx? f with
  | none =>
    have h' := List.findIdx?_eq_none_iff.1 h
    have : l.any f = false := by rw [List.any_eq_false]; intro x hx; simp [h' x hx]
    rw [this]; rfl
  | some k =>
    obtain ⟨hk, h1, -⟩ := List.findIdx?_eq_some_iff_getElem.1 h
    have : l.any f = true := List.any_eq_true.2 ⟨_, List.getElem_mem hk, h1⟩
    rw [this]; simp

set_option maxRecDepth 10000 in
theorem indexFunc_spec (l : List Str) (own : Own) (fv : AV) (f : Str → Bool) (s : Store) (hl : l.length < 9223372036854775807) (hc : cellsOf fv = some [fv]) (hf : Says fv f l) :
    ACalls Try.prog 129 [.slc 1 (strs l) own, fv] s (fun o s' => o = .ret (.int .i64 (idxBy f l 0)) ∧ s' = s) := by
  refine ACalls.of_CW tysOk call129 Try.func129 rfl rfl ?_
  repeat (first | with_reducible refine CW.seq ?_ | with_reducible refine andThen_normal ?_ | with_reducible refine CW.block ?_ | refine CW.reg (RL.run tysOk rfl (RL.nil ?_)))
  refine CW.loop (σ := Nat) (fun j => [(0, .slc 1 (strs l) own), (1, fv), (7, .int .i64 (strs l).length), (8, .int .i64 (j : Int))]) (fun _ => s) (fun j => j ≤ l.length ∧ idxBy f l 0 = idxBy f l j) (fun j => l.length - j) 0 ⟨by omega, rfl⟩ ?_ (Store.sub_refl _) ?_
  · exact ⟨⟨_, rfl, AVle.refl _⟩, ⟨_, rfl, AVle.refl _⟩, ⟨_, rfl, AVle.refl _⟩, ⟨_, rfl, AVle.refl _⟩, trivial⟩
  · rintro j ⟨hj, hI⟩
    repeat (first | with_reducible refine CW.seq ?_ | with_reducible refine andThen_normal ?_ | refine CW.reg (RL.run tysOk rfl (RL.nil ?_)))
    refine CW.cond rfl (fun h => ?_) (fun h => ?_)
    · have hlt : j < l.length := by simpa using h
      obtain ⟨y, hy⟩ : ∃ y, l[j]? = some y := ⟨_, List.getElem?_eq_getElem hlt⟩
      have hy' : (strs l)[j]? = some (.str y) := by rw [strs_get, hy]; rfl
      repeat (first | with_reducible refine CW.seq ?_ | with_reducible refine andThen_normal ?_ | with_reducible refine CW.skip ?_ | with_reducible refine CW.block ?_ | refine CW.reg (RL.run tysOk rfl (RL.nil ?_)) | refine CW.reg ?_ | refine RL.step tysOk rfl rfl rfl rfl ?_ | refine RL.idx tysOk _ rfl rfl rfl rfl rfl rfl rfl rfl rfl rfl rfl (by assumption) rfl ?_)
      refine RL.callV rfl rfl rfl rfl rfl rfl (hf y (List.mem_of_getElem? hy) s) ?_ (fun _ _ ⟨h, _⟩ => by cases h)
      rintro x s' ⟨⟨⟩, rfl⟩
      cases hfy : f y with
      | true =>
        repeat (first | with_reducible refine CW.seq ?_ | with_reducible refine andThen_normal ?_ | with_reducible refine andThen_ret ?_ | with_reducible refine inBlock_ret ?_ | with_reducible refine CW.ret ?_ | refine CW.reg (RL.run tysOk rfl (RL.nil ?_)) | refine RL.nil ?_ | refine CW.condT rfl ?_)
        exact ⟨_, _, _, rfl, AVle.refl _, Store.sub_refl _, by rw [hI, idxBy_hit hy hfy], rfl⟩
      | false =>
        repeat (first | with_reducible refine andThen_normal ?_ | with_reducible refine inBlock_normal ?_ | with_reducible refine CW.skip ?_ | refine CW.reg (RL.run tysOk rfl (RL.nil ?_)) | refine RL.nil ?_ | refine CW.condF rfl ?_)
        refine ⟨j + 1, ⟨hlt, ?_⟩, ⟨⟨_, rfl, AVle.refl _⟩, ⟨_, rfl, AVle.refl _⟩, ⟨_, rfl, AVle.refl _⟩, ⟨_, rfl, AVle.of_eq ?_⟩, trivial⟩, Store.sub_refl _, by omega⟩
        · rw [hI, idxBy_miss hy hfy]
        · rw [i64_succ (by omega)]
    · repeat (first | with_reducible refine CW.seq ?_ | with_reducible refine andThen_normal ?_ | with_reducible refine andThen_exit ?_ | with_reducible refine inBlock_here ?_ | with_reducible refine CW.ret ?_ | with_reducible refine CW.exit ?_ | refine CW.reg (RL.run tysOk rfl (RL.nil ?_)))
      refine ⟨_, _, _, rfl, AVle.refl _, Store.sub_refl _, ?_, rfl⟩
      have : l.length ≤ j := by simpa using h
      rw [hI, idxBy_end this]

set_option maxRecDepth 10000 in
theorem containsFunc_spec (l : List Str) (own : Own) (fv : AV) (f : Str → Bool) (s : Store) (hl : l.length < 9223372036854775807) (hc : cellsOf fv = some [fv]) (hf : Says fv f l) :
    ACalls Try.prog 107 [.slc 1 (strs l) own, fv] s (fun o s' => o = .ret (.bool (l.any f)) ∧ s' = s) := by
  refine ACalls.of_CW tysOk call107 Try.func107 rfl rfl ?_
  repeat (first | with_reducible refine CW.seq ?_ | with_reducible refine andThen_normal ?_ | refine CW.reg (RL.run tysOk rfl (RL.nil ?_)) | refine CW.reg ?_ | refine RL.step tysOk rfl rfl rfl rfl ?_)
  refine RL.callP rfl rfl rfl rfl rfl (indexFunc_spec l own fv f s hl hc hf) ?_
  repeat (first | with_reducible refine andThen_normal ?_ | with_reducible refine CW.ret ?_ | refine RL.nil ?_ | refine RL.step tysOk rfl rfl rfl rfl ?_)
  exact ⟨_, _, _, rfl, AVle.refl _, Store.sub_refl _, by rw [idxBy_any], rfl⟩

set_option maxRecDepth 10000 in
theorem every_spec (l : List Str) (own : Own) (g : FuncId) (cap : List AV) (f : Str → Bool) (s : Store) (hl : l.length < 9223372036854775807) (hf : Says (.func g [] cap) f l) :
    ACalls Try.prog 78 [.slc 1 (strs l) own, .func g [] cap] s (fun o s' => o = .ret (.bool (l.all f)) ∧ s' = s) := by
  refine ACalls.of_CW tysOk call78 Try.func78 rfl rfl ?_
  repeat (first | with_reducible refine CW.seq ?_ | with_reducible refine andThen_normal ?_ | refine CW.reg (RL.run tysOk rfl (RL.nil ?_)) | refine CW.reg ?_ | refine RL.step tysOk rfl rfl rfl rfl ?_)
  refine RL.callP rfl rfl rfl rfl rfl (containsFunc_spec l own _ (fun x => !f x) s hl rfl (fun x hx s' => ACallV.of_calls ?_)) ?_
  · refine ACalls.of_CW tysOk call108 Try.func108 rfl rfl ?_
    repeat (first | with_reducible refine CW.seq ?_ | with_reducible refine andThen_normal ?_ | refine CW.reg (RL.run tysOk rfl (RL.nil ?_)) | refine CW.reg ?_ | refine RL.step tysOk rfl rfl rfl rfl ?_)
    refine RL.callV rfl rfl rfl rfl rfl rfl (hf x hx s') ?_ (fun _ _ ⟨h, _⟩ => by cases h)
    rintro _ _ ⟨⟨⟩, rfl⟩
    repeat (first | with_reducible refine andThen_normal ?_ | with_reducible refine CW.ret ?_ | refine RL.nil ?_ | refine RL.step tysOk rfl rfl rfl rfl ?_)
    exact ⟨_, _, _, rfl, AVle.refl _, Store.sub_refl _, rfl, rfl⟩
  repeat (first | with_reducible refine andThen_normal ?_ | with_reducible refine CW.ret ?_ | refine RL.nil ?_ | refine RL.step tysOk rfl rfl rfl rfl ?_)
  refine ⟨_, _, _, rfl, AVle.refl _, Store.sub_refl _, ?_, rfl⟩
  rw [List.any_eq_not_all_not]; simp
end Go.Proofs.Ytaafacnoddjhgaa

/- Contracts of the layer 'shape': which facts are formed alone; depths; all nodes of an expression. -/
namespace Go.Proofs.Ytaafacnoddjhgaa
open Go.AE

def anyS : Str := [97, 110, 121]
def intS : Str := [105, 110, 116]
def noneS : Str := [110, 111, 110, 101]

def ownName (f : FFact) : Bool := f.name == [] || nameS f.name
def ownClass (f : FFact) : Bool := (((f.cls == [] || f.cls == anyS) || f.cls == intS) || f.cls == noneS) || nameS f.cls

/-- What a node of a fact that stands alone has to have besides. -/
def aloneP : Part → Bool
  | .exp _ => true
  | .fact f => ownName f && (ownClass f && f.path.all nameS)

def FFact.Texts (f : FFact) : Prop := f.name.length < 9223372036854775807 ∧ f.cls.length < 9223372036854775807 ∧ f.path.length < 9223372036854775807 ∧ ∀ x ∈ f.path, x.length < 9223372036854775807
def Part.texts : Part → Prop
  | .exp e => e.text.length < 9223372036854775807
  | .fact f => f.Texts

structure FFact.Fair (f : FFact) : Prop where
  size : f.size < big
  texts : ∀ x ∈ (Part.fact f).nodes 1, x.2.texts

theorem FFact.Fair.short {f : FFact} (h : f.Fair) : (Part.fact f).Short := fun x hx => by
  have := h.texts x hx
  cases hp : x.2 with
  | exp e => rw [hp] at this; exact this
  | fact g => trivial

def checkFactB (f : FFact) : Bool := lookB (.fact f) 120 && ((Part.fact f).nodes 1).all fun x => aloneP x.2

theorem nodes_fact' : ∀ (n : Nat) (f : FFact) (d : Nat) (x : Nat × Part), f.size ≤ n → x ∈ (Part.fact f).nodes d → ∃ g, x.2 = .fact g := by
  intro n
  induction n with
  | zero => intro f d x hf; have := f.size_pos; omega
  | succ n ih =>
    intro f d x hf hx
    rw [Part.nodes_eq] at hx
    rcases List.mem_cons.1 hx with rfl | hx
    · exact ⟨f, rfl⟩
    · obtain ⟨k, hk, hx⟩ := List.mem_flatMap.1 hx
      have hs := Part.kids_size hk
      obtain ⟨g, hg, rfl⟩ := List.mem_map.1 hk
      exact ih g _ x (by have : g.size < f.size := hs; omega) hx
theorem nodes_fact {f : FFact} {d : Nat} {x : Nat × Part} (h : x ∈ (Part.fact f).nodes d) : ∃ g, x.2 = .fact g := nodes_fact' _ f d x (Nat.le_refl _) h

theorem nodes_exp' : ∀ (n : Nat) (f : FExp) (d : Nat) (x : Nat × Part), f.size ≤ n → x ∈ (Part.exp f).nodes d → ∃ g, x.2 = .exp g := by
  intro n
  induction n with
  | zero => intro f d x hf; have := f.size_pos; omega
  | succ n ih =>
    intro f d x hf hx
    rw [Part.nodes_eq] at hx
    rcases List.mem_cons.1 hx with rfl | hx
    · exact ⟨f, rfl⟩
    · obtain ⟨k, hk, hx⟩ := List.mem_flatMap.1 hx
      have hs := Part.kids_size hk
      obtain ⟨g, hg, rfl⟩ := List.mem_map.1 hk
      exact ih g _ x (by have : g.size < f.size := hs; omega) hx
theorem nodes_exp {f : FExp} {d : Nat} {x : Nat × Part} (h : x ∈ (Part.exp f).nodes d) : ∃ g, x.2 = .exp g := nodes_exp' _ f d x (Nat.le_refl _) h

theorem says_name (l : List Str) (h : ∀ x ∈ l, x.length < 9223372036854775807) : Says (.func 10 [] []) nameS l :=
  fun x hx s => ACallV.of_calls (shapeName_spec x s (h x hx))

set_option maxRecDepth 10000 in
set_option maxHeartbeats 1000000 in
theorem checkFact1_spec (f : FFact) (s : Store) (h : f.Fair) :
    ACalls Try.prog 75 [.fptr f.cells 0] s (Tries (fun s' => checkFactB f = true ∧ s' = s) (fun s' => checkFactB f = false ∧ s' = s)) := by
  refine ACalls.of_CW tysOk call75 Try.func75 rfl rfl ?_
  repeat (first | with_reducible refine CW.seq ?_ | refine CW.reg ?_ | refine RL.step tysOk rfl rfl rfl rfl ?_)
  refine RL.call rfl rfl rfl rfl rfl (look_spec (.fact f) 120 s h.size h.short (by decide)) ?_ ?_
  · rintro x s' ⟨rfl, ⟨h1, ⟨⟩⟩ | ⟨-, h1⟩⟩
    · repeat (first | with_reducible refine CW.seq ?_ | with_reducible refine andThen_normal ?_ | refine CW.reg ?_ | refine RL.nil ?_ | refine RL.step tysOk rfl rfl rfl rfl ?_)
      refine RL.callP rfl rfl rfl rfl rfl (nodes_spec (.fact f) _) ?_
      repeat (first | with_reducible refine andThen_normal ?_ | with_reducible refine CW.block ?_ | refine RL.nil ?_)
      refine CW.rangeNodes (.fact f) rfl rfl rfl h.size (fun rem s₁ => s₁ = s' ∧ checkFactB f = rem.all fun x => aloneP x.2) (fun _ _ => False) (fun v s₁ => v = unf ∧ checkFactB f = false ∧ s₁ = s') ?_ ?_ ?_ ?_ ?_
      · exact ⟨rfl, by rw [checkFactB, h1]; rfl⟩
      · rintro d x rem s₁ hmem ⟨rfl, h2⟩
        have htx := h.texts _ hmem
        cases x with
        | exp e =>
          obtain ⟨g, hg⟩ := nodes_fact hmem
          cases hg
        | fact g =>
          obtain ⟨ht1, ht2, ht3, ht4⟩ : g.Texts := htx
          repeat (first | with_reducible refine CW.seq ?_ | with_reducible refine andThen_normal ?_ | with_reducible refine CW.block ?_ | refine CW.reg (RL.run tysOk rfl (RL.nil ?_)) | refine CW.reg ?_ | refine RL.step tysOk rfl rfl rfl rfl ?_)
          refine RL.newBox tysOk rfl rfl rfl rfl rfl rfl rfl (fun _ => rfl) rfl rfl (fun _ => rfl) rfl rfl rfl rfl ?_
          repeat (first | with_reducible refine CW.seq ?_ | with_reducible refine andThen_normal ?_ | refine CW.reg (RL.run tysOk rfl (RL.nil ?_)) | refine CW.reg ?_ | refine RL.nil ?_ | refine CW.condT rfl ?_ | refine RL.step tysOk rfl rfl rfl rfl ?_)
          refine RL.cut 5 [(3, .fptr g.cells 0), (30, .bool (ownName g))] ?_ ?_
          · repeat' (first | refine RL.nil ?_ | refine RL.step tysOk rfl rfl rfl rfl ?_ | refine RL.skip rfl rfl rfl ?_ | refine RL.gstepF tysOk rfl rfl rfl rfl rfl rfl rfl (fun _ => ?_) (fun _ => ?_) | refine RL.callP rfl rfl rfl rfl rfl (shapeName_spec _ _ ht1) ?_)
            all_goals refine ⟨rfl, ⟨⟨_, rfl, AVle.refl _⟩, ⟨_, rfl, AVle.of_eq ?_⟩, trivial⟩, rfl⟩
            all_goals simp_all [ownName]
          refine needR rfl rfl rfl rfl rfl (fun h3 => ?_) (fun h3 => ?_)
          · repeat (first | with_reducible refine CW.seq ?_ | with_reducible refine andThen_normal ?_ | refine CW.reg ?_ | refine RL.nil ?_ | refine RL.step tysOk rfl rfl rfl rfl ?_)
            refine RL.cut 23 [(3, .fptr g.cells 0), (59, .bool (ownClass g))] ?_ ?_
            · repeat' (first | refine RL.nil ?_ | refine RL.step tysOk rfl rfl rfl rfl ?_ | refine RL.skip rfl rfl rfl ?_ | refine RL.gstepF tysOk rfl rfl rfl rfl rfl rfl rfl (fun _ => ?_) (fun _ => ?_) | refine RL.callP rfl rfl rfl rfl rfl (shapeName_spec _ _ ht2) ?_)
              all_goals refine ⟨rfl, ⟨⟨_, rfl, AVle.refl _⟩, ⟨_, rfl, AVle.of_eq ?_⟩, trivial⟩, rfl⟩
              all_goals simp_all [ownClass, anyS, intS, noneS]
            refine needR rfl rfl rfl rfl rfl (fun h4 => ?_) (fun h4 => ?_)
            · repeat (first | with_reducible refine andThen_normal ?_ | refine CW.reg ?_ | refine RL.nil ?_ | refine RL.step tysOk rfl rfl rfl rfl ?_)
              refine RL.callP rfl rfl rfl rfl rfl (every_spec g.path _ _ _ nameS _ ht3 (says_name _ ht4)) ?_
              refine needR rfl rfl rfl rfl rfl (fun h5 => ?_) (fun h5 => ?_)
              · repeat (first | with_reducible refine inBlock_normal ?_ | refine RL.nil ?_)
                exact ⟨rfl, by rw [h2, List.all_cons]; simp [aloneP, h3, h4, h5]⟩
              · repeat (first | with_reducible refine inBlock_panic ?_)
                exact ⟨rfl, by rw [h2, List.all_cons]; simp [aloneP, h5], rfl⟩
            · repeat (first | with_reducible refine andThen_panic ?_ | with_reducible refine inBlock_panic ?_)
              exact ⟨rfl, by rw [h2, List.all_cons]; simp [aloneP, h4], rfl⟩
          · repeat (first | with_reducible refine andThen_panic ?_ | with_reducible refine inBlock_panic ?_)
            exact ⟨rfl, by rw [h2, List.all_cons]; simp [aloneP, h3], rfl⟩
      · rintro s₁ ⟨rfl, h2⟩
        repeat (first | with_reducible refine inBlock_normal ?_)
        exact ⟨_, _, _, rfl, AVle.refl _, Store.sub_refl _, .inl ⟨rfl, by rw [h2]; rfl, rfl⟩⟩
      · intro j s' h; exact h.elim
      · rintro v s₁ ⟨rfl, h2, rfl⟩
        repeat (first | with_reducible refine inBlock_panic ?_)
        exact ⟨_, _, AVle.refl _, Store.sub_refl _, .inr ⟨rfl, h2, rfl⟩⟩
    · cases h1
  · rintro x s' ⟨rfl, ⟨-, h1⟩ | ⟨h1, ⟨⟩⟩⟩
    · cases h1
    · repeat (first | with_reducible refine andThen_panic ?_)
      exact ⟨_, _, AVle.refl _, Store.sub_refl _, .inr ⟨rfl, by rw [checkFactB, h1]; rfl, rfl⟩⟩

set_option maxRecDepth 10000 in
theorem checkFact_spec (f : FFact) (s : Store) (h : f.Fair) : ACalls Try.prog 38 [f.av] s (fun o s' => o = .ret (err (checkFactB f)) ∧ s' = s) := by
  refine ACalls.of_CW tysOk call38 Try.func38 rfl rfl ?_
  repeat (first | with_reducible refine CW.seq ?_ | with_reducible refine andThen_normal ?_ | refine CW.reg (RL.run tysOk rfl (RL.nil ?_)) | refine CW.reg ?_ | refine RL.step tysOk rfl rfl rfl rfl ?_)
  refine RL.callP (v := .bool (checkFactB f)) rfl rfl rfl rfl rfl ((formed_spec _ [.fptr f.cells 0] s _ _ (checkFact1_spec f s h)).mono ?_) ?_
  · rintro o s' (⟨rfl, h1, rfl⟩ | ⟨rfl, h1, rfl⟩)
    · exact ⟨by rw [h1], rfl⟩
    · exact ⟨by rw [h1], rfl⟩
  repeat (first | with_reducible refine CW.seq ?_ | with_reducible refine andThen_normal ?_ | refine CW.reg (RL.run tysOk rfl (RL.nil ?_)) | refine RL.nil ?_ | refine RL.step tysOk rfl rfl rfl rfl ?_)
  cases hg : checkFactB f with
  | true =>
    repeat (first | with_reducible refine CW.seq ?_ | with_reducible refine andThen_normal ?_ | with_reducible refine CW.ret ?_ | with_reducible refine CW.skip ?_ | refine CW.reg (RL.run tysOk rfl (RL.nil ?_)) | refine CW.condF rfl ?_)
    exact ⟨_, _, _, rfl, AVle.refl _, Store.sub_refl _, rfl, rfl⟩
  | false =>
    repeat (first | with_reducible refine CW.seq ?_ | with_reducible refine andThen_normal ?_ | with_reducible refine andThen_ret ?_ | with_reducible refine CW.ret ?_ | refine CW.reg (RL.run tysOk rfl (RL.nil ?_)) | refine CW.condT rfl ?_)
    exact ⟨_, _, _, rfl, AVle.refl _, Store.sub_refl _, rfl, rfl⟩

/-! ### Depths -/

def maxD (m : Nat) (l : List (Nat × Part)) : Nat := l.foldl (fun m x => max m x.1) m

/-- The depth of an expression. -/
def depthE (e : FExp) : Nat := maxD 0 ((Part.exp e).nodes 1)

set_option maxRecDepth 10000 in
theorem depth_spec (e : FExp) (s : Store) (h : e.Fair) :
    ACalls Try.prog 34 [e.av] s (fun o s' => o = .ret (.tup [.int .i64 (if goodB e then (depthE e : Int) else 0), err (goodB e)]) ∧ s' = s) := by
  refine ACalls.of_CW tysOk call34 Try.func34 rfl rfl ?_
  repeat (first | with_reducible refine CW.seq ?_ | with_reducible refine andThen_normal ?_ | refine CW.reg (RL.run tysOk rfl (RL.nil ?_)) | refine CW.reg ?_ | refine RL.step tysOk rfl rfl rfl rfl ?_)
  refine RL.callP rfl rfl rfl rfl rfl (good_spec e s h) ?_
  cases hg : goodB e with
  | true =>
    repeat (first | with_reducible refine CW.seq ?_ | with_reducible refine andThen_normal ?_ | with_reducible refine CW.skip ?_ | refine CW.reg ?_ | refine RL.nil ?_ | refine CW.condF rfl ?_ | refine RL.step tysOk rfl rfl rfl rfl ?_)
    refine RL.alloc tysOk rfl rfl rfl rfl rfl rfl rfl (fun b hb => ?_)
    repeat (first | with_reducible refine CW.seq ?_ | with_reducible refine andThen_normal ?_ | refine CW.reg ?_ | refine RL.nil ?_ | refine RL.step tysOk rfl rfl rfl rfl ?_ | (refine RL.storeP tysOk rfl rfl rfl rfl rfl rfl rfl rfl rfl (Store.set_same _ _ _) rfl ?_; try with_reducible rw [Store.set_set]))
    refine RL.callP rfl rfl rfl rfl rfl (nodes_spec (.exp e) _) ?_
    repeat (first | with_reducible refine andThen_normal ?_ | with_reducible refine CW.block ?_ | refine RL.nil ?_)
    refine CW.rangeNodes (.exp e) rfl rfl rfl h.size (fun rem s₁ => ∃ m : Nat, s₁ = s.set b (.box 3 [.int .i64 (m : Int)]) ∧ maxD m rem = depthE e) (fun _ _ => False) (fun v s₁ => False) ?_ ?_ ?_ ?_ ?_
    · exact ⟨0, rfl, rfl⟩
    · rintro d x rem s₁ hmem ⟨m, rfl, h2⟩
      repeat (first | with_reducible refine andThen_normal ?_ | with_reducible refine inBlock_normal ?_ | with_reducible refine CW.block ?_ | refine CW.reg (RL.run tysOk rfl (RL.nil ?_)) | refine CW.reg ?_ | refine RL.nil ?_ | refine RL.step tysOk rfl rfl rfl rfl ?_ | refine RL.stepX tysOk rfl rfl rfl rfl ?_ | refine RL.loadP tysOk rfl rfl rfl rfl rfl rfl (Store.set_same _ _ _) rfl ?_ | (refine RL.storeP tysOk rfl rfl rfl rfl rfl rfl rfl rfl rfl (Store.set_same _ _ _) rfl ?_; try with_reducible rw [Store.set_set]))
      refine ⟨max m d, ?_, h2⟩
      have : (if (d : Int) > (m : Int) then (d : Int) else (m : Int)) = ((max m d : Nat) : Int) := by split <;> omega
      rw [this]; rfl
    · rintro s₁ ⟨m, rfl, h2⟩
      repeat (first | with_reducible refine CW.seq ?_ | with_reducible refine andThen_normal ?_ | with_reducible refine inBlock_normal ?_ | with_reducible refine CW.ret ?_ | refine CW.reg ?_ | refine RL.nil ?_ | refine RL.step tysOk rfl rfl rfl rfl ?_ | refine RL.loadP tysOk rfl rfl rfl rfl rfl rfl (Store.set_same _ _ _) rfl ?_)
      refine ⟨_, _, s, rfl, AVle.refl _, Store.sub_set _ _ _ hb, ?_, rfl⟩
      rw [← h2]; rfl
    · intro j s' h; exact h.elim
    · intro v s' h; exact h.elim
  | false =>
    repeat (first | with_reducible refine CW.seq ?_ | with_reducible refine andThen_normal ?_ | with_reducible refine andThen_ret ?_ | with_reducible refine CW.ret ?_ | refine CW.reg (RL.run tysOk rfl (RL.nil ?_)) | refine RL.nil ?_ | refine CW.condT rfl ?_ | refine RL.step tysOk rfl rfl rfl rfl ?_)
    exact ⟨_, _, _, rfl, AVle.refl _, Store.sub_refl _, rfl, rfl⟩
end Go.Proofs.Ytaafacnoddjhgaa

/- Contracts: copies of expressions; whether expressions are equal; free names. -/
namespace Go.Proofs.Ytaafacnoddjhgaa
open Go.AE

theorem FExp.kid_at {e : FExp} {j : Nat} (h : j < e.kids.length) : ∃ k, e.kids[j]? = some k ∧ e.kav[j]? = some (.agg k.cells) ∧ k.size < e.size := by
  refine ⟨e.kids[j], List.getElem?_eq_getElem h, ?_, FExp.kids_size (List.getElem_mem h)⟩
  rw [FExp.kav_eq, List.getElem?_map, List.getElem?_eq_getElem h]; rfl
theorem FExp.kav_length (e : FExp) : e.kav.length = e.kids.length := by rw [FExp.kav_eq]; simp

/-- An expression in the making: its first Kids. -/
def part4 (op n : Int) (text : Str) (ks : List FExp) (own : Own) : List AV := [.int .i64 op, .int .i64 n, .str text, .slc 4 (ks.map FExp.av) own]

theorem part4_le (op n : Int) (text : Str) (ks : List FExp) (own : Own) : AVle (.agg (part4 op n text ks own)) (FExp.av (.mk op n text ks)) := by
  refine AVle.agg (.cons (AVle.refl _) (.cons (AVle.refl _) (.cons (AVle.refl _) (.one ?_))))
  have : (FExp.mk op n text ks).kav = ks.map FExp.av := FExp.kav_eq _
  rw [this]
  exact AVle.fro

theorem part4_nil (op n : Int) (text : Str) : AVleL [.int .i64 op, .int .i64 n, .str text, .slc 0 [] .nil] (part4 op n text [] .nil) :=
  .cons (AVle.refl _) (.cons (AVle.refl _) (.cons (AVle.refl _) (.one (AVle.nil (by simp)))))

theorem map_take_succ {α β : Type} (f : α → β) {l : List α} {j : Nat} {x : α} (h : l[j]? = some x) : (l.take j).map f ++ [f x] = (l.take (j + 1)).map f := by
  rw [List.take_add_one, h]; simp

theorem FExp.eta (e : FExp) : FExp.mk e.op e.n e.text e.kids = e := by cases e; rfl

/- A region 'out.Kids = append(out.Kids, f(..))': i, j: the load and the call; c: the call's slot; ld, bs: the slots of the load and of the new slice; ap, st: the places of append and store. -/

set_option maxRecDepth 10000 in
theorem copied_spec : ∀ (n : Nat) (e : FExp) (s : Store), e.size ≤ n → e.size ≤ big → ACalls Try.prog 96 [e.av] s (fun o s' => o = .ret e.av ∧ s' = s) := by
  intro n
  induction n with
  | zero => intro e s h; have := e.size_pos; omega
  | succ n ih =>
    intro e s hn hbig
    have hlen := e.kids_length
    have hkl := e.kav_length
    have hb : big = 1099511627776 := rfl
    refine ACalls.of_CW tysOk call96 Try.func96 rfl rfl ?_
    repeat (first | with_reducible refine CW.seq ?_ | refine CW.reg ?_ | refine RL.step tysOk rfl rfl rfl rfl ?_)
    refine RL.alloc tysOk rfl rfl rfl rfl rfl rfl rfl (fun b2 hb2 => ?_)
    repeat (first | with_reducible refine CW.seq ?_ | with_reducible refine andThen_normal ?_ | refine CW.reg ?_ | refine RL.nil ?_ | refine RL.step tysOk rfl rfl rfl rfl ?_)
    refine RL.alloc tysOk rfl rfl rfl rfl rfl rfl rfl (fun b3 hb3 => ?_)
    repeat (first | with_reducible refine CW.seq ?_ | with_reducible refine andThen_normal ?_ | with_reducible refine CW.block ?_ | refine CW.reg (RL.run tysOk rfl (RL.nil ?_)) | refine RL.nil ?_ | (refine RL.storeP tysOk rfl rfl rfl rfl rfl rfl rfl rfl rfl (Store.set_same _ _ _) rfl ?_; try with_reducible rw [Store.set_set]))
    refine CW.boxWeak b3 (part4 e.op e.n e.text [] .nil) (Store.set_same _ _ _) (part4_nil _ _ _) ?_
    rw [Store.set_set]
    generalize hZ : AObj.box 32 _ = Z at hb3 ⊢
    refine CW.loop (σ := Nat × Own) (fun q => [(1, .fptr e.cells 0), (2, .ptr b2 0), (3, .ptr b3 0), (14, .slc 4 e.kav .fro), (15, .int .i64 e.kav.length), (16, .int .i64 (q.1 : Int))])
      (fun q => rowOf ((s.set b2 Z).set b3 (.box 32 (part4 e.op e.n e.text (e.kids.take q.1) q.2))) 32 4 q.1 q.2)
      (fun q => q.1 ≤ e.kids.length ∧ OwnOk ((s.set b2 Z).set b3 (.box 32 (part4 e.op e.n e.text (e.kids.take q.1) q.2))) q.1 q.2) (fun q => e.kids.length - q.1) (0, .nil) ⟨by simp, trivial⟩ ?_ (Store.sub_refl _) ?_
    · exact ⟨⟨_, rfl, AVle.refl _⟩, ⟨_, rfl, AVle.refl _⟩, ⟨_, rfl, AVle.refl _⟩, ⟨_, rfl, AVle.refl _⟩, ⟨_, rfl, AVle.refl _⟩, ⟨_, rfl, AVle.refl _⟩, trivial⟩
    · rintro ⟨j, own⟩ ⟨hj, hok⟩
      simp only at hj hok
      repeat (first | with_reducible refine CW.seq ?_ | with_reducible refine andThen_normal ?_ | refine CW.reg (RL.run tysOk rfl (RL.nil ?_)))
      refine CW.cond rfl (fun h => ?_) (fun h => ?_)
      · have hlt : j < e.kids.length := by rw [hkl] at h; simpa using h
        obtain ⟨k, hk, hk', hks⟩ := FExp.kid_at hlt
        repeat (first | with_reducible refine CW.seq ?_ | with_reducible refine andThen_normal ?_ | with_reducible refine CW.skip ?_ | with_reducible refine CW.block ?_ | refine CW.reg ?_ | refine RL.step tysOk rfl rfl rfl rfl ?_ | refine RL.idx tysOk _ rfl rfl rfl rfl rfl rfl rfl rfl rfl rfl rfl (by assumption) rfl ?_)
        refine RL.newBox tysOk rfl rfl rfl rfl rfl rfl rfl (fun _ => rfl) rfl rfl (fun _ => rfl) rfl rfl rfl rfl ?_
        repeat (first | with_reducible refine andThen_normal ?_ | refine RL.nil ?_ | refine CW.drw tysOk mixed rfl (RD.run rfl ?_))
        refine' RD.loadCall (i := 1) (j := 3) (σ := Unit) (P1 := _) (fun _ => k.av) (fun _ => _) (fun _ => True) tysOk rfl rfl rfl rfl rfl rfl rfl rfl rfl rfl rfl rfl (rowOf_get hok (Store.set_same _ _ _)) rfl rfl rfl rfl (OW.call rfl (fv := .func 96 [] []) rfl rfl (ACallV.of_calls (ih k _ (by omega) (by omega)))) (fun y s' ⟨h1, h2⟩ => ⟨(), trivial, by cases h1; rfl, h2⟩) ?A ?B ?C (fun _ _ ⟨h, _⟩ => by cases h)
        case A => intro _ _ hP; refine RD.run rfl ?_; exact hP
        case B =>
          intro _ _ hP
          refine RD.run rfl (RD.one (i := 1) rfl rfl rfl rfl rfl (OW.loadP tysOk rfl rfl rfl (rowOf_get hok (Store.set_same _ _ _)) rfl (X := fun _ _ => False)) ?_ (fun _ _ h => False.elim h))
          rintro _ _ ⟨rfl, rfl⟩
          refine RD.congr _ (get_mv _ _ _ [_, _] ?_) hP
          rfl
        case C =>
          intro _ _
          refine RD.append1 (i := 5) tysOk rfl rfl rfl rfl rfl rfl rfl rfl rfl (by intro k h; cases h) rfl rfl rfl rfl rfl rfl rfl (n := j) (by simp; omega) (by show (j + 1) * 56 ≤ _; omega) (by omega) rfl hok (fun b' hb' => ?_)
          refine RD.run rfl ?_
          refine RD.oneN (i := 7) rfl rfl rfl rfl (OW.storeP tysOk rfl rfl rfl rfl rfl rfl rfl (rowOf_get (n := j + 1) (m := j) (own := .own b') hb' (Store.set_same _ _ _)) rfl (X := fun _ _ => False)) ?_ (fun _ _ h => False.elim h)
          rintro _ _ rfl
          refine RD.run rfl (RD.done rfl ?_)
          repeat (first | with_reducible refine andThen_normal ?_ | with_reducible refine inBlock_normal ?_ | refine CW.reg (RL.run tysOk rfl (RL.nil ?_)))
          refine ⟨(j + 1, .own b'), ⟨hlt, ?_⟩, ⟨⟨_, rfl, AVle.refl _⟩, ⟨_, rfl, AVle.refl _⟩, ⟨_, rfl, AVle.refl _⟩, ⟨_, rfl, AVle.refl _⟩, ⟨_, rfl, AVle.refl _⟩, ⟨_, rfl, AVle.of_eq ?_⟩, trivial⟩, ?_, by show e.kids.length - (j + 1) < e.kids.length - j; omega⟩
          · have := OwnOk.set (m := j + 1) (n := j) (own := .own b') (o' := .box 32 (part4 e.op e.n e.text (e.kids.take (j + 1)) (.own b'))) hb' (Store.set_same _ _ _)
            rwa [Store.set_set] at this
          · rw [i64_succ (by omega)]
          · rw [rowOf_set (OwnOk.ne (n := j) (own := .own b') hb' (Store.set_same _ _ _)), Store.set_set]
            simp only [part4, ← map_take_succ FExp.av hk]
            exact Store.sub_refl _
      · have hge : e.kids.length ≤ j := by rw [hkl] at h; simpa using h
        have hn3 := (Store.set_none hb3).2
        repeat (first | with_reducible refine CW.seq ?_ | with_reducible refine andThen_normal ?_ | with_reducible refine andThen_exit ?_ | with_reducible refine inBlock_here ?_ | with_reducible refine CW.exit ?_ | refine CW.reg ?_)
        refine RL.loadP tysOk rfl rfl rfl rfl rfl rfl (rowOf_get hok (Store.set_same _ _ _)) rfl ?_
        subst hZ
        refine RL.storeP tysOk rfl rfl rfl rfl rfl rfl rfl rfl rfl (rowOf_get hok (by rw [Store.set_ne _ _ (Ne.symm (Store.set_none hb3).1)]; exact Store.set_same _ _ _)) rfl ?_
        refine RL.freeze 2 b2 rfl (Store.set_same _ _ _) ?_
        repeat (first | with_reducible refine andThen_normal ?_ | with_reducible refine CW.ret ?_ | refine RL.nil ?_)
        refine ⟨_, _, s, rfl, ?_, ?_, rfl, rfl⟩
        · have := part4_le e.op e.n e.text e.kids own
          rw [FExp.eta] at this
          rw [List.take_of_length_le hge]; exact this
        · exact Store.subDel (Store.subSet (Store.subRow (Store.subSet (Store.subSet (Store.sub_refl _) hb2) hn3) (OwnOk.of_set (m := j) (OwnOk.of_set (m := j) hok))) hb2) hb2

set_option maxRecDepth 10000 in
theorem refCopyExp_spec : ∀ (n : Nat) (e : FExp) (s : Store), e.size ≤ n → e.size ≤ big → ACalls Try.prog 127 [e.av] s (fun o s' => o = .ret e.av ∧ s' = s) := by
  intro n
  induction n with
  | zero => intro e s h; have := e.size_pos; omega
  | succ n ih =>
    intro e s hn hbig
    have hlen := e.kids_length
    have hkl := e.kav_length
    have hb : big = 1099511627776 := rfl
    refine ACalls.of_CW tysOk call127 Try.func127 rfl rfl ?_
    repeat (first | with_reducible refine CW.seq ?_ | refine CW.reg ?_ | refine RL.step tysOk rfl rfl rfl rfl ?_)
    refine RL.alloc tysOk rfl rfl rfl rfl rfl rfl rfl (fun b2 hb2 => ?_)
    repeat (first | with_reducible refine CW.seq ?_ | with_reducible refine andThen_normal ?_ | refine CW.reg ?_ | refine RL.nil ?_ | refine RL.step tysOk rfl rfl rfl rfl ?_)
    refine RL.alloc tysOk rfl rfl rfl rfl rfl rfl rfl (fun b3 hb3 => ?_)
    repeat (first | with_reducible refine CW.seq ?_ | with_reducible refine andThen_normal ?_ | with_reducible refine CW.block ?_ | refine CW.reg (RL.run tysOk rfl (RL.nil ?_)) | refine RL.nil ?_ | (refine RL.storeP tysOk rfl rfl rfl rfl rfl rfl rfl rfl rfl (Store.set_same _ _ _) rfl ?_; try with_reducible rw [Store.set_set]))
    refine CW.boxWeak b3 (part4 e.op e.n e.text [] .nil) (Store.set_same _ _ _) (part4_nil _ _ _) ?_
    rw [Store.set_set]
    generalize hZ : AObj.box 32 _ = Z at hb3 ⊢
    refine CW.loop (σ := Nat × Own) (fun q => [(1, .fptr e.cells 0), (2, .ptr b2 0), (3, .ptr b3 0), (4, .int .i64 (q.1 : Int))])
      (fun q => rowOf ((s.set b2 Z).set b3 (.box 32 (part4 e.op e.n e.text (e.kids.take q.1) q.2))) 32 4 q.1 q.2)
      (fun q => q.1 ≤ e.kids.length ∧ OwnOk ((s.set b2 Z).set b3 (.box 32 (part4 e.op e.n e.text (e.kids.take q.1) q.2))) q.1 q.2) (fun q => e.kids.length - q.1) (0, .nil) ⟨by simp, trivial⟩ ?_ (Store.sub_refl _) ?_
    · exact ⟨⟨_, rfl, AVle.refl _⟩, ⟨_, rfl, AVle.refl _⟩, ⟨_, rfl, AVle.refl _⟩, ⟨_, rfl, AVle.refl _⟩, trivial⟩
    · rintro ⟨j, own⟩ ⟨hj, hok⟩
      simp only at hj hok
      repeat (first | with_reducible refine CW.seq ?_ | with_reducible refine andThen_normal ?_ | refine CW.reg (RL.run tysOk rfl (RL.nil ?_)))
      refine CW.cond rfl (fun h => ?_) (fun h => ?_)
      · have hlt : j < e.kids.length := by rw [hkl] at h; simpa using h
        obtain ⟨k, hk, hk', hks⟩ := FExp.kid_at hlt
        repeat (first | with_reducible refine CW.seq ?_ | with_reducible refine andThen_normal ?_ | with_reducible refine CW.skip ?_ | with_reducible refine CW.block ?_ | refine CW.drw tysOk mixed rfl (RD.run rfl ?_))
        refine RD.idx 5 j rfl rfl rfl rfl rfl rfl rfl rfl rfl rfl rfl rfl rfl hk' rfl ?_
        refine RD.run rfl ?_
        refine' RD.loadCall (i := 1) (j := 7) (σ := Unit) (P1 := _) (fun _ => k.av) (fun _ => _) (fun _ => True) tysOk rfl rfl rfl rfl rfl rfl rfl rfl rfl rfl rfl rfl (rowOf_get hok (Store.set_same _ _ _)) rfl rfl rfl rfl (OW.call rfl (fv := .func 127 [] []) rfl rfl (ACallV.of_calls (ih k _ (by omega) (by omega)))) (fun y s' ⟨h1, h2⟩ => ⟨(), trivial, by cases h1; rfl, h2⟩) ?A ?B ?C (fun _ _ ⟨h, _⟩ => by cases h)
        case A => intro _ _ hP; refine RD.run rfl ?_; exact hP
        case B =>
          intro _ _ hP
          refine RD.run rfl (RD.one (i := 1) rfl rfl rfl rfl rfl (OW.loadP tysOk rfl rfl rfl (rowOf_get hok (Store.set_same _ _ _)) rfl (X := fun _ _ => False)) ?_ (fun _ _ h => False.elim h))
          rintro _ _ ⟨rfl, rfl⟩
          refine RD.congr _ (get_mv _ _ _ [_, _] ?_) hP
          rfl
        case C =>
          intro _ _
          refine RD.append1 (i := 9) tysOk rfl rfl rfl rfl rfl rfl rfl rfl rfl (by intro k h; cases h) rfl rfl rfl rfl rfl rfl rfl (n := j) (by simp; omega) (by show (j + 1) * 56 ≤ _; omega) (by omega) rfl hok (fun b' hb' => ?_)
          refine RD.run rfl ?_
          refine RD.oneN (i := 11) rfl rfl rfl rfl (OW.storeP tysOk rfl rfl rfl rfl rfl rfl rfl (rowOf_get (n := j + 1) (m := j) (own := .own b') hb' (Store.set_same _ _ _)) rfl (X := fun _ _ => False)) ?_ (fun _ _ h => False.elim h)
          rintro _ _ rfl
          refine RD.run rfl (RD.done rfl ?_)
          repeat (first | with_reducible refine andThen_normal ?_ | with_reducible refine inBlock_normal ?_ | refine CW.reg (RL.run tysOk rfl (RL.nil ?_)))
          refine ⟨(j + 1, .own b'), ⟨hlt, ?_⟩, ⟨⟨_, rfl, AVle.refl _⟩, ⟨_, rfl, AVle.refl _⟩, ⟨_, rfl, AVle.refl _⟩, ⟨_, rfl, AVle.of_eq ?_⟩, trivial⟩, ?_, by show e.kids.length - (j + 1) < e.kids.length - j; omega⟩
          · have := OwnOk.set (m := j + 1) (n := j) (own := .own b') (o' := .box 32 (part4 e.op e.n e.text (e.kids.take (j + 1)) (.own b'))) hb' (Store.set_same _ _ _)
            rwa [Store.set_set] at this
          · rw [i64_succ (by omega)]
          · rw [rowOf_set (OwnOk.ne (n := j) (own := .own b') hb' (Store.set_same _ _ _)), Store.set_set]
            simp only [part4, ← map_take_succ FExp.av hk]
            exact Store.sub_refl _
      · have hge : e.kids.length ≤ j := by rw [hkl] at h; simpa using h
        have hn3 := (Store.set_none hb3).2
        repeat (first | with_reducible refine CW.seq ?_ | with_reducible refine andThen_normal ?_ | with_reducible refine andThen_exit ?_ | with_reducible refine inBlock_here ?_ | with_reducible refine CW.exit ?_ | refine CW.reg ?_)
        refine RL.loadP tysOk rfl rfl rfl rfl rfl rfl (rowOf_get hok (Store.set_same _ _ _)) rfl ?_
        subst hZ
        refine RL.storeP tysOk rfl rfl rfl rfl rfl rfl rfl rfl rfl (rowOf_get hok (by rw [Store.set_ne _ _ (Ne.symm (Store.set_none hb3).1)]; exact Store.set_same _ _ _)) rfl ?_
        refine RL.freeze 2 b2 rfl (Store.set_same _ _ _) ?_
        repeat (first | with_reducible refine andThen_normal ?_ | with_reducible refine CW.ret ?_ | refine RL.nil ?_)
        refine ⟨_, _, s, rfl, ?_, ?_, rfl, rfl⟩
        · have := part4_le e.op e.n e.text e.kids own
          rw [FExp.eta] at this
          rw [List.take_of_length_le hge]; exact this
        · exact Store.subDel (Store.subSet (Store.subRow (Store.subSet (Store.subSet (Store.sub_refl _) hb2) hn3) (OwnOk.of_set (m := j) (OwnOk.of_set (m := j) hok))) hb2) hb2

/-! ### Equal expressions -/
mutual
def FExp.beq : FExp → FExp → Bool
  | .mk o n t ks, .mk o' n' t' ks' => (o == o' && n == n' && t == t') && FExp.beqs ks ks'
def FExp.beqs : List FExp → List FExp → Bool
  | [], [] => true
  | k :: r, k' :: r' => FExp.beq k k' && FExp.beqs r r'
  | _, _ => false
end

theorem FExp.beqs_length : ∀ {a b : List FExp}, FExp.beqs a b = true → a.length = b.length
  | [], [], _ => rfl
  | k :: r, k' :: r', h => by
    simp only [FExp.beqs, Bool.and_eq_true] at h
    simp [FExp.beqs_length h.2]
  | [], _ :: _, h => by simp [FExp.beqs] at h
  | _ :: _, [], h => by simp [FExp.beqs] at h

mutual
theorem FExp.beq_eq : ∀ {a b : FExp}, FExp.beq a b = true → a = b
  | .mk o n t ks, .mk o' n' t' ks', h => by
    simp only [FExp.beq, Bool.and_eq_true, beq_iff_eq] at h
    obtain ⟨⟨⟨rfl, rfl⟩, rfl⟩, h⟩ := h
    rw [FExp.beqs_eq h]
theorem FExp.beqs_eq : ∀ {a b : List FExp}, FExp.beqs a b = true → a = b
  | [], [], _ => rfl
  | k :: r, k' :: r', h => by
    simp only [FExp.beqs, Bool.and_eq_true] at h
    rw [FExp.beq_eq h.1, FExp.beqs_eq h.2]
  | [], _ :: _, h => by simp [FExp.beqs] at h
  | _ :: _, [], h => by simp [FExp.beqs] at h
end
mutual
theorem FExp.beq_refl : ∀ (a : FExp), FExp.beq a a = true
  | .mk o n t ks => by simp [FExp.beq, FExp.beqs_refl ks]
theorem FExp.beqs_refl : ∀ (a : List FExp), FExp.beqs a a = true
  | [] => rfl
  | k :: r => by simp [FExp.beqs, FExp.beq_refl k, FExp.beqs_refl r]
end

theorem FExp.beqs_drop {a b : List FExp} {j : Nat} {x y : FExp} (hx : a[j]? = some x) (hy : b[j]? = some y) : FExp.beqs (a.drop j) (b.drop j) = (FExp.beq x y && FExp.beqs (a.drop (j + 1)) (b.drop (j + 1))) := by
  rw [drop_cons hx, drop_cons hy, FExp.beqs]

theorem FExp.beq_def (a b : FExp) : FExp.beq a b = ((a.op == b.op && a.n == b.n && a.text == b.text) && FExp.beqs a.kids b.kids) := by cases a; cases b; rfl

set_option maxRecDepth 10000 in
theorem refSameExp_spec : ∀ (n : Nat) (a b : FExp) (s : Store), a.size ≤ n → a.size ≤ big → b.size ≤ big → ACalls Try.prog 20 [a.av, b.av] s (fun o s' => o = .ret (.bool (FExp.beq a b)) ∧ s' = s) := by
  intro n
  induction n with
  | zero => intro a b s h; have := a.size_pos; omega
  | succ n ih =>
    intro a b s hn hbig hbig2
    have hlen := a.kids_length
    have hkl := a.kav_length
    have hkl2 := b.kav_length
    have hb : big = 1099511627776 := rfl
    refine ACalls.of_CW tysOk call20 Try.func20 rfl rfl ?_
    repeat (first | with_reducible refine CW.seq ?_ | with_reducible refine andThen_normal ?_ | refine CW.reg (RL.run tysOk rfl (RL.nil ?_)) | refine CW.reg ?_ | refine RL.step tysOk rfl rfl rfl rfl ?_)
    refine RL.cut 22 [(2, .fptr a.cells 0), (3, .fptr b.cells 0), (33, .bool (!((a.op == b.op && a.n == b.n && a.text == b.text) && decide (a.kids.length = b.kids.length))))] ?_ ?_
    · repeat' (first | refine RL.nil ?_ | refine RL.step tysOk rfl rfl rfl rfl ?_ | refine RL.skip rfl rfl rfl ?_ | refine RL.gstepF tysOk rfl rfl rfl rfl rfl rfl rfl (fun _ => ?_) (fun _ => ?_))
      all_goals refine ⟨rfl, ⟨⟨_, rfl, AVle.refl _⟩, ⟨_, rfl, AVle.refl _⟩, ⟨_, rfl, AVle.of_eq ?_⟩, trivial⟩, rfl⟩
      all_goals simp_all
      all_goals (rw [Bool.eq_iff_iff]; simp; omega)
    · repeat (first | with_reducible refine andThen_normal ?_ | refine RL.nil ?_)
      refine CW.cond rfl (fun h => ?_) (fun h => ?_)
      · repeat (first | with_reducible refine CW.seq ?_ | with_reducible refine andThen_normal ?_ | with_reducible refine andThen_ret ?_ | with_reducible refine CW.ret ?_ | refine CW.reg (RL.run tysOk rfl (RL.nil ?_)))
        refine ⟨_, _, _, rfl, AVle.refl _, Store.sub_refl _, ?_, rfl⟩
        have : FExp.beq a b = false := by
          rw [FExp.beq_def]
          cases hq : FExp.beqs a.kids b.kids with
          | false => simp
          | true =>
            rw [FExp.beqs_length hq] at h
            simp only [decide_true, Bool.and_true] at h
            rw [Bool.and_true]; rw [Bool.not_eq_true'] at h; exact h
        rw [this]
      · have hl : a.kids.length = b.kids.length := by simp at h; exact h.2
        have hh : (a.op == b.op && a.n == b.n && a.text == b.text) = true := by simp at h; simp [h]
        repeat (first | with_reducible refine CW.seq ?_ | with_reducible refine andThen_normal ?_ | with_reducible refine CW.skip ?_ | with_reducible refine CW.block ?_ | refine CW.reg (RL.run tysOk rfl (RL.nil ?_)))
        refine CW.loop (σ := Nat) (fun j => [(2, .fptr a.cells 0), (3, .fptr b.cells 0), (5, .int .i64 (j : Int))]) (fun _ => s) (fun j => j ≤ a.kids.length ∧ FExp.beq a b = FExp.beqs (a.kids.drop j) (b.kids.drop j)) (fun j => a.kids.length - j) 0 ⟨by omega, by rw [FExp.beq_def, hh]; rfl⟩ ?_ (Store.sub_refl _) ?_
        · exact ⟨⟨_, rfl, AVle.refl _⟩, ⟨_, rfl, AVle.refl _⟩, ⟨_, rfl, AVle.refl _⟩, trivial⟩
        · rintro j ⟨hj, hI⟩
          repeat (first | with_reducible refine CW.seq ?_ | with_reducible refine andThen_normal ?_ | refine CW.reg (RL.run tysOk rfl (RL.nil ?_)))
          refine CW.cond rfl (fun h => ?_) (fun h => ?_)
          · have hlt : j < a.kids.length := by rw [hkl] at h; simpa using h
            obtain ⟨x, hx, hx', hxs⟩ := FExp.kid_at hlt
            obtain ⟨y, hy, hy', hys⟩ := FExp.kid_at (e := b) (by omega : j < b.kids.length)
            rw [FExp.beqs_drop hx hy] at hI
            repeat (first | with_reducible refine CW.seq ?_ | with_reducible refine andThen_normal ?_ | with_reducible refine CW.skip ?_ | with_reducible refine CW.block ?_ | refine CW.drw tysOk mixed rfl (RD.run rfl ?_))
            refine RD.idx 3 j rfl rfl rfl rfl rfl rfl rfl rfl rfl rfl rfl rfl rfl hx' rfl ?_
            refine RD.idx 8 j rfl rfl rfl rfl rfl rfl rfl rfl rfl rfl rfl rfl rfl hy' rfl ?_
            refine RD.run rfl ?_
            refine RD.callP (i := 10) rfl rfl rfl rfl rfl rfl rfl (ih x y s (by omega) (by omega) (by omega)) ?_
            refine RD.run rfl (RD.done rfl ?_)
            cases hxy : FExp.beq x y with
            | true =>
              repeat (first | with_reducible refine andThen_normal ?_ | with_reducible refine inBlock_normal ?_ | with_reducible refine CW.skip ?_ | refine CW.reg (RL.run tysOk rfl (RL.nil ?_)) | refine CW.condF rfl ?_)
              refine ⟨j + 1, ⟨hlt, ?_⟩, ⟨⟨_, rfl, AVle.refl _⟩, ⟨_, rfl, AVle.refl _⟩, ⟨_, rfl, AVle.of_eq ?_⟩, trivial⟩, Store.sub_refl _, by omega⟩
              · rw [hI, hxy, Bool.true_and]
              · rw [i64_succ (by omega)]
            | false =>
              repeat (first | with_reducible refine CW.seq ?_ | with_reducible refine andThen_normal ?_ | with_reducible refine andThen_ret ?_ | with_reducible refine inBlock_ret ?_ | with_reducible refine CW.ret ?_ | refine CW.reg (RL.run tysOk rfl (RL.nil ?_)) | refine CW.condT rfl ?_)
              exact ⟨_, _, _, rfl, AVle.refl _, Store.sub_refl _, by rw [hI, hxy]; rfl, rfl⟩
          · repeat (first | with_reducible refine CW.seq ?_ | with_reducible refine andThen_normal ?_ | with_reducible refine andThen_exit ?_ | with_reducible refine inBlock_here ?_ | with_reducible refine CW.ret ?_ | with_reducible refine CW.exit ?_ | refine CW.reg (RL.run tysOk rfl (RL.nil ?_)))
            refine ⟨_, _, _, rfl, AVle.refl _, Store.sub_refl _, ?_, rfl⟩
            have hge : a.kids.length ≤ j := by rw [hkl] at h; simpa using h
            rw [hI, List.drop_eq_nil_of_le hge, List.drop_eq_nil_of_le (by omega)]; rfl
end Go.Proofs.Ytaafacnoddjhgaa

/- Contracts of the layer 'shape': names that are bound; free names; what names stand for; all nodes of an expression. -/
namespace Go.Proofs.Ytaafacnoddjhgaa
open Go.AE

def boundAV : List Str → AV
  | [] => .pnil
  | x :: l => .fptr [boundAV l, .str x] 0

set_option maxRecDepth 10000 in
theorem has_spec (x : Str) (s : Store) : ∀ l : List Str, ACalls Try.prog 126 [boundAV l, .str x] s (fun o s' => o = .ret (.bool (l.contains x)) ∧ s' = s) := by
  intro l
  induction l with
  | nil =>
    refine ACalls.of_CW tysOk call126 Try.func126 rfl rfl ?_
    repeat (first | with_reducible refine CW.seq ?_ | with_reducible refine andThen_normal ?_ | with_reducible refine CW.ret ?_ | refine CW.reg (RL.run tysOk rfl (RL.nil ?_)))
    exact ⟨_, _, _, rfl, AVle.refl _, Store.sub_refl _, rfl, rfl⟩
  | cons y l ih =>
    refine ACalls.of_CW tysOk call126 Try.func126 rfl rfl ?_
    repeat (first | with_reducible refine CW.seq ?_ | with_reducible refine andThen_normal ?_ | refine CW.reg (RL.run tysOk rfl (RL.nil ?_)) | refine CW.reg ?_ | refine RL.step tysOk rfl rfl rfl rfl ?_)
    cases hy : y == x with
    | true =>
      repeat (first | with_reducible refine andThen_normal ?_ | with_reducible refine CW.ret ?_ | refine RL.nil ?_ | refine RL.step tysOk rfl rfl rfl rfl ?_ | refine RL.skip rfl rfl rfl ?_)
      exact ⟨_, _, _, rfl, AVle.refl _, Store.sub_refl _, by simp at hy; simp [hy], rfl⟩
    | false =>
      repeat (first | refine RL.step tysOk rfl rfl rfl rfl ?_)
      refine RL.callP rfl rfl rfl rfl rfl ih ?_
      repeat (first | with_reducible refine andThen_normal ?_ | with_reducible refine CW.ret ?_ | refine RL.nil ?_ | refine RL.step tysOk rfl rfl rfl rfl ?_)
      refine ⟨_, _, _, rfl, AVle.refl _, Store.sub_refl _, ?_, rfl⟩
      have : (x == y) = false := by rw [BEq.comm]; exact hy
      rw [List.contains_cons, this, Bool.false_or]

mutual
/-- The free names of an expression, as they stand. -/
def FExp.loose : List Str → FExp → List Str
  | b, .mk o _ t ks => (if o == 3 && !b.contains t then [t] else []) ++ FExp.looses (o == 9) t b 0 ks
def FExp.looses (isLet : Bool) (t : Str) (b : List Str) : Nat → List FExp → List Str
  | _, [] => []
  | i, k :: r => FExp.loose (if isLet && i == 1 then t :: b else b) k ++ FExp.looses isLet t b (i + 1) r
end

theorem FExp.loose_eq (b : List Str) (e : FExp) : e.loose b = (if e.op == 3 && !b.contains e.text then [e.text] else []) ++ FExp.looses (e.op == 9) e.text b 0 e.kids := by cases e; rw [FExp.loose]; rfl

/-- A set to which strings are added. -/
def addAll (acc l : List Str) : List Str := l.foldl insS acc
theorem addAll_append (acc a b : List Str) : addAll acc (a ++ b) = addAll (addAll acc a) b := by simp [addAll]

set_option maxRecDepth 10000 in
theorem free_spec (mb : Nat) : ∀ (n : Nat) (e : FExp) (b acc : List Str) (s : Store), e.size ≤ n → e.size ≤ big → s mb = some (.map (setA acc)) →
    ACalls Try.prog 93 [e.av, boundAV b, .map mb] s (fun o s' => o = .ret (.tup []) ∧ s' = s.set mb (.map (setA (addAll acc (e.loose b))))) := by
  intro n
  induction n with
  | zero => intro e b acc s h; have := e.size_pos; omega
  | succ n ih =>
    intro e b acc s hn hbig hs
    have hlen := e.kids_length
    have hkl := e.kav_length
    have hb : big = 1099511627776 := rfl
    refine ACalls.of_CW tysOk call93 Try.func93 rfl rfl ?_
    refine CW.seqCut [(1, boundAV b), (2, .map mb), (3, .fptr e.cells 0)] s ?_ ?_
    · repeat (first | refine CW.reg (RL.run tysOk rfl (RL.nil ?_)))
      exact ⟨rfl, ⟨⟨_, rfl, AVle.refl _⟩, ⟨_, rfl, AVle.refl _⟩, ⟨_, rfl, AVle.refl _⟩, trivial⟩, Store.sub_refl _⟩
    refine CW.seqCut [(1, boundAV b), (2, .map mb), (3, .fptr e.cells 0)] (s.set mb (.map (setA (addAll acc (if e.op == 3 && !b.contains e.text then [e.text] else []))))) ?_ ?_
    · refine CW.seqCut [(1, boundAV b), (2, .map mb), (3, .fptr e.cells 0), (18, .bool (e.op == 3 && !b.contains e.text))] s ?_ ?_
      · repeat' (first | refine CW.reg ?_ | refine RL.nil ?_ | refine RL.step tysOk rfl rfl rfl rfl ?_ | refine RL.skip rfl rfl rfl ?_ | refine RL.gstepT tysOk rfl rfl rfl rfl rfl rfl rfl (fun _ => ?_) (fun _ => ?_) | refine RL.callP rfl rfl rfl rfl rfl (has_spec _ _ b) ?_)
        all_goals refine ⟨rfl, ⟨⟨_, rfl, AVle.refl _⟩, ⟨_, rfl, AVle.refl _⟩, ⟨_, rfl, AVle.refl _⟩, ⟨_, rfl, AVle.of_eq ?_⟩, trivial⟩, Store.sub_refl _⟩
        all_goals simp_all
      cases hc : e.op == 3 && !b.contains e.text with
      | true =>
        repeat (first | refine CW.reg ?_ | refine CW.condT rfl ?_ | refine RL.step tysOk rfl rfl rfl rfl ?_)
        refine RL.mapUpdate tysOk rfl rfl (.inl rfl) rfl rfl rfl rfl rfl rfl hs rfl (putA_set acc e.text) ?_
        repeat (first | refine RL.nil ?_)
        exact ⟨rfl, ⟨⟨_, rfl, AVle.refl _⟩, ⟨_, rfl, AVle.refl _⟩, ⟨_, rfl, AVle.refl _⟩, trivial⟩, Store.sub_refl _⟩
      | false =>
        repeat (first | with_reducible refine CW.skip ?_ | refine CW.condF rfl ?_)
        refine ⟨rfl, ⟨⟨_, rfl, AVle.refl _⟩, ⟨_, rfl, AVle.refl _⟩, ⟨_, rfl, AVle.refl _⟩, trivial⟩, ?_⟩
        show Store.Sub (s.set mb (.map (setA acc))) s
        rw [Store.set_eq _ _ _ hs]; exact Store.sub_refl _
    repeat (first | with_reducible refine CW.seq ?_ | with_reducible refine andThen_normal ?_ | with_reducible refine CW.block ?_ | refine CW.reg (RL.run tysOk rfl (RL.nil ?_)))
    refine CW.loop (σ := Nat × List Str) (fun q => [(1, boundAV b), (2, .map mb), (3, .fptr e.cells 0), (23, .slc 4 e.kav .fro), (24, .int .i64 e.kav.length), (25, .int .i64 (q.1 : Int))]) (fun q => s.set mb (.map (setA q.2)))
      (fun q => q.1 ≤ e.kids.length ∧ addAll q.2 (FExp.looses (e.op == 9) e.text b q.1 (e.kids.drop q.1)) = addAll acc (e.loose b)) (fun q => e.kids.length - q.1)
      (0, addAll acc (if e.op == 3 && !b.contains e.text then [e.text] else [])) ⟨by simp, by rw [FExp.loose_eq, addAll_append]; rfl⟩ ?_ (Store.sub_refl _) ?_
    · exact ⟨⟨_, rfl, AVle.refl _⟩, ⟨_, rfl, AVle.refl _⟩, ⟨_, rfl, AVle.refl _⟩, ⟨_, rfl, AVle.refl _⟩, ⟨_, rfl, AVle.refl _⟩, ⟨_, rfl, AVle.refl _⟩, trivial⟩
    · rintro ⟨j, ac⟩ ⟨hj, hI⟩
      simp only at hj hI
      repeat (first | with_reducible refine CW.seq ?_ | with_reducible refine andThen_normal ?_ | refine CW.reg (RL.run tysOk rfl (RL.nil ?_)))
      refine CW.cond rfl (fun h => ?_) (fun h => ?_)
      · have hlt : j < e.kids.length := by rw [hkl] at h; simpa using h
        obtain ⟨k, hk, hk', hks⟩ := FExp.kid_at hlt
        rw [drop_cons hk, FExp.looses, addAll_append] at hI
        repeat (first | with_reducible refine CW.seq ?_ | with_reducible refine andThen_normal ?_ | with_reducible refine CW.skip ?_ | with_reducible refine CW.block ?_ | refine CW.reg ?_ | refine RL.step tysOk rfl rfl rfl rfl ?_ | refine RL.idx tysOk _ rfl rfl rfl rfl rfl rfl rfl rfl rfl rfl rfl (by assumption) rfl ?_)
        refine RL.alloc tysOk rfl rfl rfl rfl rfl rfl rfl (fun b7 hb7 => ?_)
        repeat (first | with_reducible refine CW.seq ?_ | with_reducible refine andThen_normal ?_ | refine CW.reg (RL.run tysOk rfl (RL.nil ?_)) | refine CW.reg ?_ | refine RL.nil ?_ | refine RL.step tysOk rfl rfl rfl rfl ?_ | (refine RL.storeP tysOk rfl rfl rfl rfl rfl rfl rfl rfl rfl (Store.set_same _ _ _) rfl ?_; try with_reducible rw [Store.set_set]))
        refine RL.freeze 7 b7 rfl (Store.set_same _ _ _) ?_
        rw [Store.del_set _ _ _ hb7]
        have hmb : (s.set mb (.map (setA ac))) mb = some (.map (setA ac)) := Store.set_same _ _ _
        refine RL.cut 3 [(1, boundAV b), (2, .map mb), (3, .fptr e.cells 0), (6, .int .i64 (j : Int)), (7, .fptr k.cells 0), (8, boundAV b), (23, .slc 4 e.kav .fro), (24, .int .i64 e.kav.length), (25, .int .i64 (j : Int)), (37, .bool (e.op == 9 && j == 1))] ?_ ?_
        · repeat' (first | refine RL.nil ?_ | refine RL.step tysOk rfl rfl rfl rfl ?_ | refine RL.skip rfl rfl rfl ?_ | refine RL.gstepT tysOk rfl rfl rfl rfl rfl rfl rfl (fun _ => ?_) (fun _ => ?_))
          all_goals refine ⟨rfl, ⟨⟨_, rfl, AVle.refl _⟩, ⟨_, rfl, AVle.refl _⟩, ⟨_, rfl, AVle.refl _⟩, ⟨_, rfl, AVle.refl _⟩, ⟨_, rfl, AVle.refl _⟩, ⟨_, rfl, AVle.refl _⟩, ⟨_, rfl, AVle.refl _⟩, ⟨_, rfl, AVle.refl _⟩, ⟨_, rfl, AVle.refl _⟩, ⟨_, rfl, AVle.of_eq ?_⟩, trivial⟩, rfl⟩
          all_goals simp_all
          all_goals (rw [Bool.eq_iff_iff]; simp; omega)
        cases hc : e.op == 9 && j == 1 with
        | true =>
          rw [hc, if_pos rfl] at hI
          cases b with
          | nil =>
            repeat (first | with_reducible refine andThen_normal ?_ | refine CW.reg (RL.run tysOk rfl (RL.nil ?_)) | refine CW.reg ?_ | refine RL.nil ?_ | refine CW.condT rfl ?_ | refine RL.step tysOk rfl rfl rfl rfl ?_)
            refine RL.call rfl rfl rfl rfl rfl (ih k [e.text] ac _ (by omega) (by omega) hmb) ?_ (fun _ _ ⟨h, _⟩ => by cases h)
            rintro _ _ ⟨⟨⟩, rfl⟩
            rw [Store.set_set]
            repeat (first | with_reducible refine andThen_normal ?_ | with_reducible refine inBlock_normal ?_ | refine CW.reg (RL.run tysOk rfl (RL.nil ?_)) | refine RL.nil ?_)
            refine ⟨(j + 1, _), ⟨hlt, hI⟩, ⟨⟨_, rfl, AVle.refl _⟩, ⟨_, rfl, AVle.refl _⟩, ⟨_, rfl, AVle.refl _⟩, ⟨_, rfl, AVle.refl _⟩, ⟨_, rfl, AVle.refl _⟩, ⟨_, rfl, AVle.of_eq ?_⟩, trivial⟩, Store.sub_refl _, by show e.kids.length - (j + 1) < e.kids.length - j; omega⟩
            rw [i64_succ (by omega)]
          | cons y b =>
            repeat (first | with_reducible refine andThen_normal ?_ | refine CW.reg (RL.run tysOk rfl (RL.nil ?_)) | refine CW.reg ?_ | refine RL.nil ?_ | refine CW.condT rfl ?_ | refine RL.step tysOk rfl rfl rfl rfl ?_)
            refine RL.call rfl rfl rfl rfl rfl (ih k (e.text::y::b) ac _ (by omega) (by omega) hmb) ?_ (fun _ _ ⟨h, _⟩ => by cases h)
            rintro _ _ ⟨⟨⟩, rfl⟩
            rw [Store.set_set]
            repeat (first | with_reducible refine andThen_normal ?_ | with_reducible refine inBlock_normal ?_ | refine CW.reg (RL.run tysOk rfl (RL.nil ?_)) | refine RL.nil ?_)
            refine ⟨(j + 1, _), ⟨hlt, hI⟩, ⟨⟨_, rfl, AVle.refl _⟩, ⟨_, rfl, AVle.refl _⟩, ⟨_, rfl, AVle.refl _⟩, ⟨_, rfl, AVle.refl _⟩, ⟨_, rfl, AVle.refl _⟩, ⟨_, rfl, AVle.of_eq ?_⟩, trivial⟩, Store.sub_refl _, by show e.kids.length - (j + 1) < e.kids.length - j; omega⟩
            rw [i64_succ (by omega)]
        | false =>
          rw [hc, if_neg (by simp)] at hI
          repeat (first | with_reducible refine andThen_normal ?_ | with_reducible refine CW.skip ?_ | refine CW.reg ?_ | refine RL.nil ?_ | refine CW.condF rfl ?_ | refine RL.step tysOk rfl rfl rfl rfl ?_)
          refine RL.call rfl rfl rfl rfl rfl (ih k b ac _ (by omega) (by omega) hmb) ?_ (fun _ _ ⟨h, _⟩ => by cases h)
          rintro _ _ ⟨⟨⟩, rfl⟩
          rw [Store.set_set]
          repeat (first | with_reducible refine andThen_normal ?_ | with_reducible refine inBlock_normal ?_ | refine CW.reg (RL.run tysOk rfl (RL.nil ?_)) | refine RL.nil ?_)
          refine ⟨(j + 1, _), ⟨hlt, hI⟩, ⟨⟨_, rfl, AVle.refl _⟩, ⟨_, rfl, AVle.refl _⟩, ⟨_, rfl, AVle.refl _⟩, ⟨_, rfl, AVle.refl _⟩, ⟨_, rfl, AVle.refl _⟩, ⟨_, rfl, AVle.of_eq ?_⟩, trivial⟩, Store.sub_refl _, by show e.kids.length - (j + 1) < e.kids.length - j; omega⟩
          rw [i64_succ (by omega)]
      · repeat (first | with_reducible refine andThen_exit ?_ | with_reducible refine inBlock_here ?_ | with_reducible refine CW.exit ?_)
        have hge : e.kids.length ≤ j := by rw [hkl] at h; simpa using h
        rw [List.drop_eq_nil_of_le hge, FExp.looses] at hI
        exact ⟨_, _, _, rfl, AVle.refl _, Store.sub_refl _, rfl, by rw [← hI]; rfl⟩

/-- The free names of an expression, each once. -/
def FExp.frees (e : FExp) : List Str := addAll [] (e.loose [])

set_option maxRecDepth 10000 in
theorem freeOf_spec (e : FExp) (s : Store) (h : e.size ≤ big) :
    ACalls Try.prog 55 [e.av] s (fun o s' => ∃ b, s b = none ∧ o = .ret (.map b) ∧ s' = s.set b (.map (setA e.frees))) := by
  refine ACalls.of_CW tysOk call55 Try.func55 rfl rfl ?_
  repeat (first | with_reducible refine CW.seq ?_ | with_reducible refine andThen_normal ?_ | refine CW.reg (RL.run tysOk rfl (RL.nil ?_)) | refine CW.reg ?_)
  refine RL.makeMap rfl rfl rfl rfl (fun b hb => ?_)
  repeat (first | with_reducible refine CW.seq ?_ | with_reducible refine andThen_normal ?_ | refine CW.reg ?_ | refine RL.nil ?_ | refine RL.step tysOk rfl rfl rfl rfl ?_)
  refine RL.call rfl rfl rfl rfl rfl (free_spec b _ e [] [] _ (Nat.le_refl _) h (Store.set_same _ _ _)) ?_ (fun _ _ ⟨h, _⟩ => by cases h)
  rintro _ _ ⟨⟨⟩, rfl⟩
  rw [Store.set_set]
  repeat (first | with_reducible refine CW.seq ?_ | with_reducible refine andThen_normal ?_ | with_reducible refine CW.ret ?_ | refine CW.reg (RL.run tysOk rfl (RL.nil ?_)) | refine RL.nil ?_)
  exact ⟨_, _, _, rfl, AVle.refl _, Store.sub_refl _, b, hb, rfl, rfl⟩

/-! ### What names stand for -/

def scopeAV : List (Str × Str) → AV
  | [] => .pnil
  | x :: l => .fptr [scopeAV l, .str x.1, .str x.2] 0

def stands : List (Str × Str) → Str → Option Str
  | [], _ => none
  | x :: l, s => if x.1 == s then some x.2 else stands l s

set_option maxRecDepth 10000 in
theorem scopeLook_spec (x : Str) (s : Store) : ∀ l : List (Str × Str), ACalls Try.prog 95 [scopeAV l, .str x] s (fun o s' => o = .ret (.tup [.str ((stands l x).getD x), .bool (stands l x).isSome]) ∧ s' = s) := by
  intro l
  induction l with
  | nil =>
    refine ACalls.of_CW tysOk call95 Try.func95 rfl rfl ?_
    repeat (first | with_reducible refine CW.seq ?_ | with_reducible refine andThen_normal ?_ | with_reducible refine andThen_ret ?_ | with_reducible refine CW.ret ?_ | refine CW.reg (RL.run tysOk rfl (RL.nil ?_)) | refine CW.condT rfl ?_)
    exact ⟨_, _, _, rfl, AVle.refl _, Store.sub_refl _, rfl, rfl⟩
  | cons y l ih =>
    refine ACalls.of_CW tysOk call95 Try.func95 rfl rfl ?_
    repeat (first | with_reducible refine CW.seq ?_ | with_reducible refine andThen_normal ?_ | with_reducible refine CW.skip ?_ | refine CW.reg (RL.run tysOk rfl (RL.nil ?_)) | refine CW.condF rfl ?_)
    cases hy : y.1 == x with
    | true =>
      repeat (first | with_reducible refine CW.seq ?_ | with_reducible refine andThen_normal ?_ | with_reducible refine andThen_ret ?_ | with_reducible refine CW.ret ?_ | refine CW.reg (RL.run tysOk rfl (RL.nil ?_)) | refine CW.condT rfl ?_)
      exact ⟨_, _, _, rfl, AVle.refl _, Store.sub_refl _, by simp [stands, hy], rfl⟩
    | false =>
      repeat (first | with_reducible refine CW.seq ?_ | with_reducible refine andThen_normal ?_ | with_reducible refine CW.skip ?_ | refine CW.reg ?_ | refine CW.condF rfl ?_ | refine RL.step tysOk rfl rfl rfl rfl ?_)
      refine RL.callP rfl rfl rfl rfl rfl ih ?_
      repeat (first | with_reducible refine andThen_normal ?_ | with_reducible refine CW.ret ?_ | refine RL.nil ?_ | refine RL.step tysOk rfl rfl rfl rfl ?_)
      exact ⟨_, _, _, rfl, AVle.refl _, Store.sub_refl _, by simp [stands, hy], rfl⟩
end Go.Proofs.Ytaafacnoddjhgaa

/- Contracts of the layer 'shape': all nodes of an expression, one after the other. -/
namespace Go.Proofs.Ytaafacnoddjhgaa
open Go.AE

mutual
/-- All nodes of an expression, in order. -/
def FExp.allE : FExp → List FExp
  | .mk o n t ks => .mk o n t ks :: FExp.allEs ks
def FExp.allEs : List FExp → List FExp
  | [] => []
  | k :: r => FExp.allE k ++ FExp.allEs r
end

theorem FExp.allEs_eq : ∀ l : List FExp, FExp.allEs l = l.flatMap FExp.allE
  | [] => by simp [FExp.allEs]
  | k :: r => by rw [FExp.allEs, FExp.allEs_eq r]; simp
theorem FExp.allE_eq (e : FExp) : e.allE = e :: e.kids.flatMap FExp.allE := by cases e with | mk o n t ks => rw [FExp.allE, FExp.allEs_eq]; rfl

def Part.expOf : Part → FExp
  | .exp e => e
  | .fact _ => .mk 0 0 [] []

theorem allE_nodes' : ∀ (n : Nat) (e : FExp) (d : Nat), e.size ≤ n → ((Part.exp e).nodes d).map (fun x => x.2.expOf) = e.allE := by
  intro n
  induction n with
  | zero => intro e d h; have := e.size_pos; omega
  | succ n ih =>
    intro e d h
    rw [Part.nodes_eq, FExp.allE_eq, List.map_cons, List.map_flatMap]
    congr 1
    simp only [Part.kids, List.flatMap_map]
    rw [List.flatMap_def, List.flatMap_def]
    congr 1
    refine List.map_congr_left fun k hk => ih k _ ?_
    have := FExp.kids_size hk; omega
theorem allE_nodes (e : FExp) (d : Nat) : ((Part.exp e).nodes d).map (fun x => x.2.expOf) = e.allE := allE_nodes' _ e d (Nat.le_refl _)

theorem allE_length (e : FExp) : e.allE.length = e.size := by
  rw [← allE_nodes e 1, List.length_map]; exact Part.nodes_size _ _ _ (Nat.le_refl _)

theorem mem_nodes_all {e : FExp} {d : Nat} {x : Nat × Part} (h : x ∈ (Part.exp e).nodes d) : x.2.expOf ∈ e.allE := by
  rw [← allE_nodes e d]; exact List.mem_map_of_mem h

/-- What is asked of the function to which expressions are handed. -/
def YieldsE (l : Nat) (Go : List FExp → Store → Prop) (Done : Store → Prop) (Pan : AV → Store → Prop) : Prop :=
  ∀ x rem s, Go (x :: rem) s → ACallV Try.prog (yieldV l) [x.av] s (fun o s' => (o = .ret (.bool true) ∧ Go rem s') ∨ (o = .ret (.bool false) ∧ Done s') ∨ ∃ v, o = .panic v ∧ Pan v s')

set_option maxRecDepth 10000 in
theorem all1_spec (l : Nat) (Go : List FExp → Store → Prop) (Done : Store → Prop) (Pan : AV → Store → Prop) (hY : YieldsE l Go Done Pan) (e : FExp) (rest : List FExp) (s : Store) (he : e.size < big) (hg : Go (e.allE ++ rest) s) :
    ACalls Try.prog 94 [yieldV l, .fptr e.cells 0] s (fun o s' => (o = .ret (.tup []) ∧ (Go rest s' ∨ Done s')) ∨ ∃ v, o = .panic v ∧ Pan v s') := by
  refine ACalls.of_CW tysOk call94 Try.func94 rfl rfl ?_
  repeat (first | with_reducible refine CW.seq ?_ | with_reducible refine andThen_normal ?_ | refine CW.reg (RL.run tysOk rfl (RL.nil ?_)) | refine CW.reg ?_ | refine RL.step tysOk rfl rfl rfl rfl ?_)
  refine RL.callP rfl rfl rfl rfl rfl (nodes_spec (.exp e) _) ?_
  repeat (first | with_reducible refine andThen_normal ?_ | with_reducible refine CW.block ?_ | refine RL.nil ?_)
  refine CW.rangeNodes (.exp e) rfl rfl rfl he (fun rem s₁ => Go (rem.map (fun x => x.2.expOf) ++ rest) s₁) (fun j s₁ => j = .ret ∧ Done s₁) (fun v s₁ => Pan v s₁) (by rw [allE_nodes]; exact hg) ?_ ?_ ?_ ?_
  · rintro d x rem s₁ hmem hI
    cases x with
    | fact g => obtain ⟨g', hg'⟩ := nodes_exp hmem; cases hg'
    | exp g =>
      repeat (first | with_reducible refine CW.seq ?_ | with_reducible refine andThen_normal ?_ | with_reducible refine CW.block ?_ | refine CW.reg (RL.run tysOk rfl (RL.nil ?_)) | refine CW.reg ?_ | refine RL.step tysOk rfl rfl rfl rfl ?_)
      refine RL.newBox tysOk rfl rfl rfl rfl rfl rfl rfl (fun _ => rfl) rfl rfl (fun _ => rfl) rfl rfl rfl rfl ?_
      repeat (first | with_reducible refine CW.seq ?_ | with_reducible refine andThen_normal ?_ | refine CW.reg ?_ | refine RL.nil ?_ | refine RL.step tysOk rfl rfl rfl rfl ?_)
      refine RL.callV rfl rfl rfl rfl rfl rfl (hY g _ s₁ hI) ?_ ?_
      · rintro y s' (⟨⟨⟩, h⟩ | ⟨⟨⟩, h⟩ | ⟨v, h, -⟩)
        · repeat (first | with_reducible refine andThen_normal ?_ | with_reducible refine inBlock_normal ?_ | with_reducible refine CW.skip ?_ | refine RL.nil ?_ | refine CW.condF rfl ?_ | refine RL.step tysOk rfl rfl rfl rfl ?_)
          exact h
        · repeat (first | with_reducible refine andThen_normal ?_ | with_reducible refine inBlock_ret ?_ | with_reducible refine CW.ret ?_ | refine RL.nil ?_ | refine CW.condT rfl ?_ | refine RL.step tysOk rfl rfl rfl rfl ?_)
          exact ⟨rfl, h⟩
        · cases h
      · rintro y s' (⟨h, -⟩ | ⟨h, -⟩ | ⟨v, ⟨⟩, h⟩)
        · cases h
        · cases h
        · repeat (first | with_reducible refine andThen_panic ?_ | with_reducible refine inBlock_panic ?_)
          exact h
  · intro s' h
    repeat (first | with_reducible refine inBlock_normal ?_)
    exact ⟨_, _, s', rfl, AVle.refl _, Store.sub_refl _, .inl ⟨rfl, .inl h⟩⟩
  · rintro j s' ⟨rfl, h⟩
    repeat (first | with_reducible refine inBlock_ret ?_ | with_reducible refine CW.ret ?_)
    exact ⟨_, _, s', rfl, AVle.refl _, Store.sub_refl _, .inl ⟨rfl, .inr h⟩⟩
  · intro v s' h
    repeat (first | with_reducible refine inBlock_panic ?_)
    exact ⟨_, s', AVle.refl _, Store.sub_refl _, .inr ⟨_, rfl, h⟩⟩

set_option maxRecDepth 10000 in
theorem all_spec (e : FExp) (s : Store) :
    ACalls Try.prog 56 [e.av] s (fun o s' => o = .ret (.func 94 [] [.fptr e.cells 0]) ∧ s' = s) := by
  refine ACalls.of_CW tysOk call56 Try.func56 rfl rfl ?_
  repeat (first | with_reducible refine CW.seq ?_ | with_reducible refine andThen_normal ?_ | with_reducible refine CW.ret ?_ | refine CW.reg (RL.run tysOk rfl (RL.nil ?_)))
  exact ⟨_, _, _, rfl, AVle.refl _, Store.sub_refl _, rfl, rfl⟩

section
variable {N : Nat} {Q : AEx → Env → Store → Prop} {env : Env} {s : Store}

theorem CW.rangeAll {g : Operand} {asg body : Code} {a : Tmp} (e : FExp) (hg : ev env g = some (.func 94 [] [.fptr e.cells 0])) (ha : Nat.blt a N = true) (hp : e.size < big)
    (I : List FExp → Store → Prop) (J : Code → Store → Prop) (X : AV → Store → Prop) (h0 : I e.allE s)
    (round : ∀ x rem s₁, x ∈ e.allE → I (x :: rem) s₁ → CW Try.prog N asg (AEx.andThen (CW Try.prog N body (RoundQ (I rem) J X)) (fun _ _ _ => False)) ((a, x.av) :: env) s₁)
    (hend : ∀ s', I [] s' → Q .normal env s') (hj : ∀ j s', J j s' → CW Try.prog N j Q env s') (hx : ∀ v s', X v s' → Q (.panic v) env s') :
    CW Try.prog N (.rangeFunc g #[a] asg body) Q env s := by
  refine CW.rangeF (f := 94) (first := []) (cap := [.fptr e.cells 0]) hg (by
    intro t ht
    simp at ht
    subst ht
    simpa [Nat.blt_eq] using ha) ?_
  intro l r hl hyield
  have hcall := all1_spec l (fun rem s' => (∃ pre, e.allE = pre ++ rem) ∧ ∃ s₂, s₂ l = none ∧ s' = s₂.set l (.loop r env) ∧ I rem s₂) (fun s' => ∃ j s₂, s₂ l = none ∧ s' = s₂.set l (.loop (over r j) env) ∧ J j s₂)
    (fun v s' => ∃ s₂, s₂ l = none ∧ s' = s₂.set l (.loop (busy r) env) ∧ X v s₂) ?_ e [] (s.set l (.loop r env)) hp ⟨⟨[], by simp⟩, s, hl, rfl, by simpa using h0⟩
  · refine hcall.mono ?_
    rintro o s' (⟨rfl, ⟨-, s₂, k1, rfl, k2⟩ | ⟨j, s₂, k1, rfl, k2⟩⟩ | ⟨v, rfl, s₂, k1, rfl, k2⟩)
    · exact .inl ⟨s₂, k1, rfl, hend _ k2⟩
    · exact .inr ⟨j, s₂, k1, rfl, hj _ _ k2⟩
    · exact ⟨s₂, _, k1, rfl, hx _ _ k2⟩
  · rintro x rem s' ⟨⟨pre, hpre⟩, s₂, k1, rfl, k2⟩
    have hm : x ∈ e.allE := by rw [hpre]; simp
    refine (hyield [x.av] _ (I rem) J X (Store.set_same _ _ _) rfl ?_).mono ?_
    · rw [Store.del_set _ _ _ k1]
      exact round x rem s₂ hm k2
    · rintro o s' (⟨rfl, s₃, q1, rfl, q2⟩ | ⟨rfl, j, s₃, q1, rfl, q2⟩ | ⟨v, s₃, rfl, q1, rfl, q2⟩)
      · exact .inl ⟨rfl, ⟨pre ++ [x], by simp [hpre]⟩, s₃, q1, rfl, q2⟩
      · exact .inr (.inl ⟨rfl, j, s₃, q1, rfl, q2⟩)
      · exact .inr (.inr ⟨v, rfl, s₃, q1, rfl, q2⟩)
end
end Go.Proofs.Ytaafacnoddjhgaa

