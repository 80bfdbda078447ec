import Derived.Test.YtaafacnoddjhgaaGreatRTys
import Derived.Test.YtaafacnoddjhgaaGreatRb
import Derived.WalkKit
import Derived.Defers
import Derived.Recover
/- Shorter names for rules that are used often. -/
namespace Go.Proofs.YtaafacnoddjhgaaGreat
open Go.AE

theorem wR {N : Nat} {Q : AEx → Env → Store → Prop} {env env' : Env} {s : Store} {id : Nat} {l : List Oper} (h : runL tys N l.toArray l env = ([], env')) (k : Q .normal env' s) : CW Tryz.prog N (.region id l.toArray false) Q env s :=
 CW.reg (RL.run tO h (RL.nil k))
theorem wS {N : Nat} {Q : AEx → Env → Store → Prop} {ops : Array Oper} {env : Env} {s : Store} {o : Oper} {l : List Oper} {d : Nat} {v : AV} (h : tryO tys N ops env o = some (d, v)) (k : RL Tryz.prog N ops l Q ((d, v) :: env) s) : RL Tryz.prog N ops (o :: l) Q env s := by
 obtain ⟨hd, hN, hs⟩ := tryO_ok (J := JT) (P := Tryz.prog) h
 have hN' : Nat.blt d N = true := by simpa [Nat.blt_eq] using hN
 rcases hs with ⟨hg, hv⟩ | ⟨hg, rfl⟩ | ⟨hg, hv⟩
 ·exact RL.pure tO hg hd hN' hv k
 ·exact RL.skip hg hd hN' k
 ·exact RL.op hg hd hN' (hv s trivial) (fun x s' ⟨h1, h2⟩ => by subst h1; subst h2; exact k) (fun _ _ h => h.elim)
theorem sSub {s : Store} : Store.Sub s s := Store.sub_refl s
theorem sSam {s : Store} {b : Nat} {o : AObj} : s.set b o b = some o := Store.set_same s b o
theorem aRfl {x : AV} : AVle x x := AVle.refl x
def gets (env : Env) : Env → List (Option AV)
 | [] => []
 | q :: e => env.get? q.1 :: gets env e
def haves : Env → List (Option AV)
 | [] => []
 | q :: e => some q.2 :: haves e
theorem wE {env : Env} : ∀ {E : Env}, gets env E = haves E → Env.Sub E env
  | [], _ => trivial
  | (t, v) :: e, h => by
    simp only [gets, haves, List.cons.injEq] at h
    exact ⟨⟨v, h.1, AVle.refl _⟩, wE h.2⟩
end Go.Proofs.YtaafacnoddjhgaaGreat

/- Contracts of the layer 'shape' and of its reference: lists of strings. -/
namespace Go.Proofs.YtaafacnoddjhgaaGreat
open Go.AE

abbrev Str := List UInt8

def strs (l : List Str) : List AV := l.map .str

@[simp] theorem strs_length (l : List Str) : (strs l).length = l.length := by simp [strs]
theorem strs_get (l : List Str) (j : Nat) : (strs l)[j]? = l[j]?.map .str := by simp [strs]

def idxFrom (l : List Str) (s : Str) : Nat → Int := fun j => match (l.drop j).findIdx? (· == s) with
 | some k => ((j + k : Nat) : Int)
 | none => -1

theorem idxFrom_hit {l : List Str} {j : Nat} {x y : Str} (hy : l[j]? = some y) (h : (x == y) = true) : idxFrom l x j = (j : Int) := by
 have hlt := (List.getElem?_eq_some_iff.1 hy).1
 have hd : l.drop j = y :: l.drop (j + 1) := by rw [List.drop_eq_getElem_cons hlt]; congr; exact (List.getElem?_eq_some_iff.1 hy).2
 have hxy : x = y := by simpa using h
 simp [idxFrom, hd, List.findIdx?_cons, hxy]

theorem idxFrom_miss {l : List Str} {j : Nat} {x y : Str} (hy : l[j]? = some y) (h : (x == y) = false) : idxFrom l x j = idxFrom l x (j + 1) := by
 have hlt := (List.getElem?_eq_some_iff.1 hy).1
 have hd : l.drop j = y :: l.drop (j + 1) := by rw [List.drop_eq_getElem_cons hlt]; congr; exact (List.getElem?_eq_some_iff.1 hy).2
 have hxy : ¬ y = x := fun e => by subst e; simp at h
 simp only [idxFrom, hd, List.findIdx?_cons]
 have : (y == x) = false := by simpa using hxy
 rw [this]
 cases (l.drop (j + 1)).findIdx? (· == x) <;> simp [Nat.add_assoc, Nat.add_comm 1]

theorem idxFrom_end {l : List Str} {j : Nat} {x : Str} (h : l.length ≤ j) : idxFrom l x j = -1 := by
 simp [idxFrom, List.drop_eq_nil_of_le h]

set_option maxRecDepth 10000 in
theorem index1_spec (l : List Str) (own : Own) (x : Str) (s : Store) (hl : l.length < 9223372036854775807) :
  ACalls Tryz.prog 147 [.slc 1 (strs l) own, .str x] s (fun o s' => o = .ret (.int .i64 (idxFrom l x 0)) ∧ s' = s) := by
 refine ACalls.of_CW tO call147 Tryz.func147 rfl rfl ?_
 repeat (first | (with_reducible first | apply CW.seq | apply aN | apply CW.block) | refine wR rfl ?_)
 refine CW.loop (σ := Nat) (fun j => [(0, .slc 1 (strs l) own), (1, .str x), (7, .int .i64 (strs l).length), (8, .int .i64 (j : Int))]) (fun _ => s) (fun j => j ≤ l.length ∧ idxFrom l x 0 = idxFrom l x j) (fun j => l.length - j) 0 ⟨by omega, rfl⟩ ?_ sSub ?_
 ·exact ⟨⟨_, rfl, aRfl⟩, ⟨_, rfl, aRfl⟩, ⟨_, rfl, aRfl⟩, ⟨_, rfl, aRfl⟩, trivial⟩
 ·rintro j ⟨hj, hI⟩
  repeat (first | (with_reducible first | apply CW.seq | apply aN) | refine wR rfl ?_)
  refine CW.cond rfl (fun h => ?_) (fun h => ?_)
  ·have hlt : j < l.length := by simpa using h
   obtain ⟨y, hy⟩ : ∃ y, l[j]? = some y := ⟨_, List.getElem?_eq_getElem hlt⟩
   repeat (first | (with_reducible first | apply CW.seq | apply aN | apply CW.skip | apply CW.block) | refine wR rfl ?_ | refine CW.reg ?_ | refine wS rfl ?_)
   refine RL.idx tO j rfl rfl rfl rfl rfl rfl rfl rfl rfl rfl rfl (by rw [strs_get, hy]; rfl) rfl ?_
   repeat (first | with_reducible apply aN | refine RL.nil ?_ | refine wS rfl ?_)
   refine CW.cond rfl (fun h1 => ?_) (fun h1 => ?_)
   ·repeat (first | (with_reducible first | apply CW.seq | apply aN | apply aR | apply iR | apply CW.ret) | refine wR rfl ?_)
    refine ⟨_, _, _, rfl, aRfl, sSub, ?_, rfl⟩
    rw [hI, idxFrom_hit hy h1]
   ·repeat (first | (with_reducible first | apply aN | apply iN | apply CW.skip) | refine wR rfl ?_)
    refine ⟨j + 1, ⟨hlt, ?_⟩, ⟨⟨_, rfl, aRfl⟩, ⟨_, rfl, aRfl⟩, ⟨_, rfl, aRfl⟩, ⟨_, rfl, AVle.of_eq ?_⟩, trivial⟩, sSub, by omega⟩
    ·rw [hI, idxFrom_miss hy h1]
    ·rw [i64_succ (by omega)]
  ·repeat (first | (with_reducible first | apply CW.seq | apply aN | apply aX | apply iH | apply CW.ret | apply CW.exit) | refine wR rfl ?_)
   refine ⟨_, _, _, rfl, aRfl, sSub, ?_, rfl⟩
   have : l.length ≤ j := by simpa using h
   rw [hI, idxFrom_end this]

set_option maxRecDepth 10000 in
theorem refIndex_spec (l : List Str) (own : Own) (x : Str) (s : Store) (hl : l.length < 9223372036854775807) :
  ACalls Tryz.prog 103 [.slc 1 (strs l) own, .str x] s (fun o s' => o = .ret (.int .i64 (idxFrom l x 0)) ∧ s' = s) := by
 refine ACalls.of_CW tO call103 Tryz.func103 rfl rfl ?_
 repeat (first | (with_reducible first | apply CW.seq | apply aN | apply CW.block) | refine wR rfl ?_)
 refine CW.loop (σ := Nat) (fun j => [(0, .slc 1 (strs l) own), (1, .str x), (5, .int .i64 (j : Int))]) (fun _ => s) (fun j => j ≤ l.length ∧ idxFrom l x 0 = idxFrom l x j) (fun j => l.length - j) 0 ⟨by omega, rfl⟩ ?_ sSub ?_
 ·exact ⟨⟨_, rfl, aRfl⟩, ⟨_, rfl, aRfl⟩, ⟨_, rfl, aRfl⟩, trivial⟩
 ·rintro j ⟨hj, hI⟩
  repeat (first | (with_reducible first | apply CW.seq | apply aN) | refine wR rfl ?_)
  refine CW.cond rfl (fun h => ?_) (fun h => ?_)
  ·have hlt : j < l.length := by simpa using h
   obtain ⟨y, hy⟩ : ∃ y, l[j]? = some y := ⟨_, List.getElem?_eq_getElem hlt⟩
   repeat (first | (with_reducible first | apply CW.seq | apply aN | apply CW.skip | apply CW.block) | refine CW.reg ?_ | refine wS rfl ?_)
   refine RL.idx tO j rfl rfl rfl rfl rfl rfl rfl rfl rfl rfl rfl (by rw [strs_get, hy]; rfl) rfl ?_
   repeat (first | with_reducible apply aN | refine RL.nil ?_ | refine wS rfl ?_)
   refine CW.cond rfl (fun h1 => ?_) (fun h1 => ?_)
   ·repeat (first | (with_reducible first | apply CW.seq | apply aN | apply aR | apply iR | apply CW.ret) | refine wR rfl ?_)
    refine ⟨_, _, _, rfl, aRfl, sSub, ?_, rfl⟩
    rw [hI, idxFrom_hit hy (by rw [BEq.comm]; exact h1)]
   ·repeat (first | (with_reducible first | apply aN | apply iN | apply CW.skip) | refine wR rfl ?_)
    refine ⟨j + 1, ⟨hlt, ?_⟩, ⟨⟨_, rfl, aRfl⟩, ⟨_, rfl, aRfl⟩, ⟨_, rfl, AVle.of_eq ?_⟩, trivial⟩, sSub, by omega⟩
    ·rw [hI, idxFrom_miss hy (by rw [BEq.comm]; exact h1)]
    ·rw [i64_succ (by omega)]
  ·repeat (first | (with_reducible first | apply CW.seq | apply aN | apply aX | apply iH | apply CW.ret | apply CW.exit) | refine wR rfl ?_)
   refine ⟨_, _, _, rfl, aRfl, sSub, ?_, rfl⟩
   have : l.length ≤ j := by simpa using h
   rw [hI, idxFrom_end this]

theorem idxFrom_nonneg (l : List Str) (x : Str) : decide (idxFrom l x 0 ≥ 0) = l.contains x := by
 simp only [idxFrom, List.drop_zero]
 cases h : l.findIdx? (· == x) with
 | none =>
  have h' := List.findIdx?_eq_none_iff.1 h
  have : l.contains x = false := by
   rw [Bool.eq_false_iff]; intro hc
   have hm : x ∈ l := by simpa using hc
   have := h' x hm; simp at this
  rw [this]; rfl
 | some k =>
  obtain ⟨hk, h1, -⟩ := List.findIdx?_eq_some_iff_getElem.1 h
  have hm : x ∈ l := by
   have : l[k] = x := by simpa using h1
   rw [← this]; exact List.getElem_mem hk
  have : l.contains x = true := by simpa using hm
  rw [this]; simp

set_option maxRecDepth 10000 in
theorem refHas_spec (l : List Str) (own : Own) (x : Str) (s : Store) (hl : l.length < 9223372036854775807) :
  ACalls Tryz.prog 95 [.slc 1 (strs l) own, .str x] s (fun o s' => o = .ret (.bool (l.contains x)) ∧ s' = s) := by
 refine ACalls.of_CW tO call95 Tryz.func95 rfl rfl ?_
 repeat (first | (with_reducible first | apply CW.seq | apply aN) | refine wR rfl ?_ | refine CW.reg ?_ | refine wS rfl ?_)
 refine RL.callP rfl rfl rfl rfl rfl (refIndex_spec l own x s hl) ?_
 repeat (first | (with_reducible first | apply aN | apply CW.ret) | refine RL.nil ?_ | refine wS rfl ?_)
 exact ⟨_, _, _, rfl, aRfl, sSub, by rw [idxFrom_nonneg], rfl⟩

set_option maxRecDepth 10000 in
theorem contains1_spec (l : List Str) (own : Own) (x : Str) (s : Store) (hl : l.length < 9223372036854775807) :
  ACalls Tryz.prog 130 [.slc 1 (strs l) own, .str x] s (fun o s' => o = .ret (.bool (l.contains x)) ∧ s' = s) := by
 refine ACalls.of_CW tO call130 Tryz.func130 rfl rfl ?_
 repeat (first | (with_reducible first | apply CW.seq | apply aN) | refine wR rfl ?_ | refine CW.reg ?_ | refine wS rfl ?_)
 refine RL.callP rfl rfl rfl rfl rfl (index1_spec l own x s hl) ?_
 repeat (first | (with_reducible first | apply aN | apply CW.ret) | refine RL.nil ?_ | refine wS rfl ?_)
 exact ⟨_, _, _, rfl, aRfl, sSub, by rw [idxFrom_nonneg], rfl⟩

def sameTo (a b : List Str) (j : Nat) : Prop := ∀ i, i < j → a[i]? = b[i]?

set_option maxRecDepth 10000 in
theorem sameTexts_spec (a b : List Str) (oa ob : Own) (s : Store) (hl : a.length < 9223372036854775807) :
  ACalls Tryz.prog 14 [.slc 1 (strs a) oa, .slc 1 (strs b) ob] s (fun o s' => o = .ret (.bool (a == b)) ∧ s' = s) := by
 refine ACalls.of_CW tO call14 Tryz.func14 rfl rfl ?_
 repeat (first | (with_reducible first | apply CW.seq | apply aN) | refine wR rfl ?_)
 refine CW.cond rfl (fun h => ?_) (fun h => ?_)
 ·repeat (first | (with_reducible first | apply CW.seq | apply aN | apply aR | apply CW.ret) | refine wR rfl ?_)
  refine ⟨_, _, _, rfl, aRfl, sSub, ?_, rfl⟩
  have hne : a.length ≠ b.length := fun e => by simp [e] at h
  have : (a == b) = false := by
   rw [Bool.eq_false_iff]; intro hc
   have : a = b := by simpa using hc
   exact hne (by rw [this])
  rw [this]
 ·have hlen : a.length = b.length := by simp at h; omega
  repeat (first | (with_reducible first | apply CW.seq | apply aN | apply CW.skip | apply CW.block) | refine wR rfl ?_)
  refine CW.loop (σ := Nat) (fun j => [(0, .slc 1 (strs a) oa), (1, .slc 1 (strs b) ob), (5, .int .i64 (j : Int))]) (fun _ => s) (fun j => j ≤ a.length ∧ sameTo a b j) (fun j => a.length - j) 0 ⟨by omega, fun i hi => by omega⟩ ?_ sSub ?_
  ·exact ⟨⟨_, rfl, aRfl⟩, ⟨_, rfl, aRfl⟩, ⟨_, rfl, aRfl⟩, trivial⟩
  ·rintro j ⟨hj, hI⟩
   repeat (first | (with_reducible first | apply CW.seq | apply aN) | refine wR rfl ?_)
   refine CW.cond rfl (fun h => ?_) (fun h => ?_)
   ·have hlt : j < a.length := by simpa using h
    obtain ⟨y, hy⟩ : ∃ y, a[j]? = some y := ⟨_, List.getElem?_eq_getElem hlt⟩
    obtain ⟨z, hz⟩ : ∃ z, b[j]? = some z := ⟨_, List.getElem?_eq_getElem (by omega)⟩
    repeat (first | (with_reducible first | apply CW.seq | apply aN | apply CW.skip | apply CW.block) | refine CW.drw tO mixed rfl (RD.run rfl ?_))
    refine RD.idx 2 j rfl rfl rfl rfl rfl rfl rfl rfl rfl rfl rfl rfl rfl (by rw [strs_get, hy]; rfl) rfl ?_
    refine RD.idx 6 j rfl rfl rfl rfl rfl rfl rfl rfl rfl rfl rfl rfl rfl (by rw [strs_get, hz]; rfl) rfl ?_
    refine RD.run rfl (RD.done rfl ?_)
    repeat (first | with_reducible apply aN)
    refine CW.cond rfl (fun h1 => ?_) (fun h1 => ?_)
    ·repeat (first | (with_reducible first | apply CW.seq | apply aN | apply aR | apply iR | apply CW.ret) | refine wR rfl ?_)
     refine ⟨_, _, _, rfl, aRfl, sSub, ?_, rfl⟩
     have : (a == b) = false := by
      rw [Bool.eq_false_iff]; intro hc
      have hab : a = b := by simpa using hc
      subst hab
      rw [hy] at hz; cases hz; simp at h1
     rw [this]
    ·repeat (first | (with_reducible first | apply aN | apply iN | apply CW.skip) | refine wR rfl ?_)
     refine ⟨j + 1, ⟨hlt, fun i hi => ?_⟩, ⟨⟨_, rfl, aRfl⟩, ⟨_, rfl, aRfl⟩, ⟨_, rfl, AVle.of_eq ?_⟩, trivial⟩, sSub, by omega⟩
     ·have hyz : y = z := by simpa using h1
      by_cases e : i = j
      ·subst e; rw [hy, hz, hyz]
      ·exact hI i (by omega)
     ·rw [i64_succ (by omega)]
   ·repeat (first | (with_reducible first | apply CW.seq | apply aN | apply aX | apply iH | apply CW.ret | apply CW.exit) | refine wR rfl ?_)
    refine ⟨_, _, _, rfl, aRfl, sSub, ?_, rfl⟩
    have hge : a.length ≤ j := by simpa using h
    have : a = b := List.ext_getElem? fun i => by
     by_cases hi : i < j
     ·exact hI i hi
     ·rw [List.getElem?_eq_none (by omega), List.getElem?_eq_none (by omega)]
    subst this; simp
end Go.Proofs.YtaafacnoddjhgaaGreat

/- Contracts of the layer 'shape' and of its reference: sets of strings; keywords; which strings are names. -/
namespace Go.Proofs.YtaafacnoddjhgaaGreat
open Go.AE

def kws : List Str := [[97, 102, 116, 101, 114],
 [97, 110, 100],
 [97, 110, 121],
 [97, 114, 111, 117, 110, 100],
 [98, 101, 102, 111, 114, 101],
 [99, 108, 97, 115, 115],
 [101, 108, 115, 101],
 [105, 102],
 [105, 110],
 [105, 110, 116],
 [105, 115],
 [108, 101, 116],
 [109, 101, 116, 104, 111, 100],
 [110, 101, 119],
 [110, 101, 120, 116],
 [110, 111, 110, 101],
 [110, 111, 116],
 [111, 114],
 [111, 117, 116],
 [115, 101, 116],
 [116, 104, 101, 110],
 [116, 114, 117, 101],
 [116, 117, 114, 110],
 [119, 104, 101, 114, 101]]

def setOf (l : List Str) : List Str := l.foldl insS []

theorem setOf_succ (l : List Str) (j : Nat) (y : Str) (hy : l[j]? = some y) : setOf (l.take (j + 1)) = insS (setOf (l.take j)) y := by
 rw [List.take_add_one, hy]
 simp [setOf]

set_option maxRecDepth 10000 in
theorem set_spec (l : List Str) (own : Own) (s : Store) (hl : l.length < 9223372036854775807) :
  ACalls Tryz.prog 73 [.slc 1 (strs l) own] s (fun o s' => ∃ b, s b = none ∧ o = .ret (.map b) ∧ s' = s.set b (.map (setA (setOf l)))) := by
 refine ACalls.of_CW tO call73 Tryz.func73 rfl rfl ?_
 repeat (first | (with_reducible first | apply CW.seq | apply aN) | refine wR rfl ?_ | refine CW.reg ?_)
 refine RL.makeMap rfl rfl rfl rfl (fun b hb => ?_)
 repeat (first | (with_reducible first | apply CW.seq | apply aN | apply CW.block) | refine wR rfl ?_ | refine RL.nil ?_ | refine wS rfl ?_)
 refine CW.loop (σ := Nat) (fun j => [(3, .map b), (7, .slc 1 (strs l) own), (8, .int .i64 (strs l).length), (9, .int .i64 (j : Int))]) (fun j => s.set b (.map (setA (setOf (l.take j))))) (fun j => j ≤ l.length) (fun j => l.length - j) 0 (by omega) ?_ sSub ?_
 ·exact ⟨⟨_, rfl, aRfl⟩, ⟨_, rfl, aRfl⟩, ⟨_, rfl, aRfl⟩, ⟨_, rfl, aRfl⟩, trivial⟩
 ·rintro j hj
  repeat (first | (with_reducible first | apply CW.seq | apply aN) | refine wR rfl ?_)
  refine CW.cond rfl (fun h => ?_) (fun h => ?_)
  ·have hlt : j < l.length := by simpa using h
   obtain ⟨y, hy⟩ : ∃ y, l[j]? = some y := ⟨_, List.getElem?_eq_getElem hlt⟩
   repeat (first | (with_reducible first | apply CW.seq | apply aN | apply CW.skip | apply CW.block) | refine CW.reg ?_)
   refine RL.idx tO j rfl rfl rfl rfl rfl rfl rfl rfl rfl rfl rfl (by rw [strs_get, hy]; rfl) rfl ?_
   repeat (first | with_reducible apply aN | refine CW.reg ?_ | refine RL.nil ?_ | refine wS rfl ?_)
   refine RL.mapUpdate tO rfl rfl (.inl rfl) rfl rfl rfl rfl rfl rfl sSam rfl (putA_set _ _) ?_
   rw [Store.set_set]
   repeat (first | (with_reducible first | apply aN | apply iN) | refine wR rfl ?_ | refine RL.nil ?_)
   refine ⟨j + 1, hlt, ⟨⟨_, rfl, aRfl⟩, ⟨_, rfl, aRfl⟩, ⟨_, rfl, aRfl⟩, ⟨_, rfl, AVle.of_eq ?_⟩, trivial⟩, ?_, by omega⟩
   ·rw [i64_succ (by omega)]
   ·rw [setOf_succ l j y hy]; exact sSub
  ·repeat (first | (with_reducible first | apply CW.seq | apply aN | apply aX | apply iH | apply CW.ret | apply CW.exit) | refine wR rfl ?_)
   have : l.length ≤ j := by simpa using h
   rw [List.take_of_length_le this]
   exact ⟨_, _, _, rfl, aRfl, sSub, b, hb, rfl, rfl⟩

set_option maxRecDepth 10000 in
theorem keywords_spec (s : Store) :
  ACalls Tryz.prog 71 [] s (fun o s' => ∃ b, s b = none ∧ o = .ret (.map b) ∧ s' = s.set b (.map (setA kws))) := by
 refine ACalls.of_CW tO call71 Tryz.func71 rfl rfl ?_
 repeat (first | (with_reducible first | apply CW.seq | apply aN) | refine wR rfl ?_ | refine CW.reg ?_)
 refine RL.makeMap rfl rfl rfl rfl (fun b hb => ?_)
 repeat (first | (with_reducible first | apply CW.seq | apply aN | apply CW.block) | refine wR rfl ?_ | refine RL.nil ?_ | refine wS rfl ?_)
 refine CW.loop (σ := Nat) (fun j => [(1, .map b), (5, .slc 1 (strs kws) .clip), (6, .int .i64 24), (7, .int .i64 (j : Int))]) (fun j => s.set b (.map (setA (setOf (kws.take j))))) (fun j => j ≤ 24) (fun j => 24 - j) 0 (by omega) ?_ sSub ?_
 ·exact ⟨⟨_, rfl, aRfl⟩, ⟨_, rfl, aRfl⟩, ⟨_, rfl, aRfl⟩, ⟨_, rfl, aRfl⟩, trivial⟩
 ·rintro j hj
  repeat (first | (with_reducible first | apply CW.seq | apply aN) | refine wR rfl ?_)
  refine CW.cond rfl (fun h => ?_) (fun h => ?_)
  ·have hlt : j < 24 := by simp at h; omega
   obtain ⟨y, hy⟩ : ∃ y, kws[j]? = some y := ⟨_, List.getElem?_eq_getElem hlt⟩
   repeat (first | (with_reducible first | apply CW.seq | apply aN | apply CW.skip | apply CW.block) | refine CW.reg ?_)
   refine RL.idx tO j rfl rfl rfl rfl rfl rfl rfl rfl rfl rfl rfl (by rw [strs_get, hy]; rfl) rfl ?_
   repeat (first | with_reducible apply aN | refine CW.reg ?_ | refine RL.nil ?_ | refine wS rfl ?_)
   refine RL.mapUpdate tO rfl rfl (.inl rfl) rfl rfl rfl rfl rfl rfl sSam rfl (putA_set _ _) ?_
   rw [Store.set_set]
   repeat (first | (with_reducible first | apply aN | apply iN) | refine wR rfl ?_ | refine RL.nil ?_)
   refine ⟨j + 1, hlt, ⟨⟨_, rfl, aRfl⟩, ⟨_, rfl, aRfl⟩, ⟨_, rfl, aRfl⟩, ⟨_, rfl, AVle.of_eq ?_⟩, trivial⟩, ?_, by omega⟩
   ·rw [i64_succ (by omega)]
   ·rw [setOf_succ kws j y hy]; exact sSub
  ·repeat (first | (with_reducible first | apply CW.seq | apply aN | apply aX | apply iH | apply CW.ret | apply CW.exit) | refine wR rfl ?_)
   have : j = 24 := by simp at h; omega
   subst this
   exact ⟨_, _, _, rfl, aRfl, sSub, b, hb, rfl, rfl⟩

set_option maxRecDepth 10000 in
theorem refKeywords_spec (s : Store) : ACalls Tryz.prog 134 [] s (fun o s' => o = .ret (.slc 1 (strs kws) .clip) ∧ s' = s) := by
 refine ACalls.of_CW tO call134 Tryz.func134 rfl rfl ?_
 repeat (first | (with_reducible first | apply CW.seq | apply aN | apply CW.ret) | refine wR rfl ?_)
 exact ⟨_, _, _, rfl, aRfl, sSub, rfl, rfl⟩
end Go.Proofs.YtaafacnoddjhgaaGreat

/- Contracts of the layer 'shape' and of its reference: which strings are names. -/
namespace Go.Proofs.YtaafacnoddjhgaaGreat
open Go.AE

def letter (c : UInt8) : Bool := decide (97 ≤ c.toNat) && decide (c.toNat ≤ 122)

def nameIn (x : Str) (no : List Str) : Bool := !(x == []) && decide (x.length ≤ 8) && !no.contains x && x.all letter
def nameS (x : Str) : Bool := nameIn x kws

theorem all_take_succ {x : Str} {j : Nat} {c : UInt8} (hc : x[j]? = some c) (h : (x.take j).all letter = true) (hl : letter c = true) : (x.take (j + 1)).all letter = true := by
 rw [List.take_add_one, hc]; simp [hl]
 simpa using h

theorem not_all {x : Str} {j : Nat} {c : UInt8} (hc : x[j]? = some c) (hl : letter c = false) : x.all letter = false := by
 rw [Bool.eq_false_iff]; intro h
 have := List.all_eq_true.1 h c (List.mem_of_getElem? hc)
 rw [hl] at this; cases this

theorem bts_get (l : List UInt8) (j : Nat) : (bts l)[j]? = l[j]?.map fun b => .int .u8 b.toNat := by simp [bts]

set_option maxRecDepth 10000 in
theorem name_spec (x : Str) (no : List Str) (b : Nat) (s : Store) (hs : s b = some (.map (setA no))) (hx : x.length < 9223372036854775807) :
  ACalls Tryz.prog 70 [.str x, .map b] s (fun o s' => o = .ret (.bool (nameIn x no)) ∧ s' = s) := by
 refine ACalls.of_CW tO call70 Tryz.func70 rfl rfl ?_
 repeat (first | (with_reducible first | apply CW.seq | apply aN) | refine wR rfl ?_ | refine CW.reg ?_ | refine wS rfl ?_)
 cases h0 : (x == []) with
 | true =>
  repeat (first | (with_reducible first | apply CW.seq | apply aN | apply aR | apply CW.ret) | refine wR rfl ?_ | refine RL.nil ?_ | refine CW.condT rfl ?_ | refine wS rfl ?_ | refine RL.skip rfl rfl rfl ?_)
  refine ⟨_, _, _, rfl, aRfl, sSub, ?_, rfl⟩
  simp [nameIn, h0]
 | false =>
  repeat (first | refine wS rfl ?_)
  by_cases h8 : x.length ≤ 8
  ·refine RL.knowF 14 rfl (by simp; omega) ?_
   repeat (first | refine wS rfl ?_)
   refine RL.lookup tO rfl rfl rfl rfl rfl rfl rfl rfl rfl rfl hs rfl (getA_set _ _) rfl ?_
   rw [gotA_set]
   repeat (first | with_reducible apply aN | refine RL.nil ?_ | refine wS rfl ?_)
   refine CW.cond rfl (fun h => ?_) (fun h => ?_)
   ·repeat (first | (with_reducible first | apply CW.seq | apply aN | apply aR | apply CW.ret) | refine wR rfl ?_)
    refine ⟨_, _, _, rfl, aRfl, sSub, ?_, rfl⟩
    simp only [nameIn, h]; simp
   ·repeat (first | (with_reducible first | apply CW.seq | apply aN | apply CW.skip) | refine CW.reg ?_ | refine wS rfl ?_)
    refine RL.toBytes tO rfl rfl rfl rfl rfl rfl rfl rfl rfl rfl rfl (by omega) ?_
    repeat (first | (with_reducible first | apply aN | apply CW.block) | refine RL.nil ?_ | refine wS rfl ?_)
    refine CW.loop (σ := Nat) (fun j => [(20, .slc 1 (bts x) .fro), (21, .int .i64 (bts x).length), (22, .int .i64 (j : Int))]) (fun _ => s) (fun j => j ≤ x.length ∧ (x.take j).all letter = true) (fun j => x.length - j) 0 ⟨by omega, rfl⟩ ?_ sSub ?_
    ·exact ⟨⟨_, rfl, aRfl⟩, ⟨_, rfl, aRfl⟩, ⟨_, rfl, aRfl⟩, trivial⟩
    ·rintro j ⟨hj, hI⟩
     repeat (first | (with_reducible first | apply CW.seq | apply aN) | refine wR rfl ?_)
     refine CW.cond rfl (fun h' => ?_) (fun h' => ?_)
     ·have hlt : j < x.length := by simpa [bts_length] using h'
      obtain ⟨c, hc⟩ : ∃ c, x[j]? = some c := ⟨_, List.getElem?_eq_getElem hlt⟩
      repeat (first | (with_reducible first | apply CW.seq | apply aN | apply CW.skip | apply CW.block) | refine CW.reg ?_)
      refine RL.idx tO j rfl rfl rfl rfl rfl rfl rfl rfl rfl rfl rfl (by rw [bts_get, hc]; rfl) rfl ?_
      repeat (first | (with_reducible first | apply CW.seq | apply aN) | refine CW.reg ?_ | refine RL.nil ?_ | refine wS rfl ?_)
      by_cases h1 : c.toNat < 97
      ·refine RL.knowT 28 rfl (by simp; omega) ?_
       repeat (first | (with_reducible first | apply CW.seq | apply aN | apply aR | apply iR | apply CW.ret) | refine wR rfl ?_ | refine RL.nil ?_ | refine CW.condT rfl ?_ | refine wS rfl ?_ | refine RL.skip rfl rfl rfl ?_)
       refine ⟨_, _, _, rfl, aRfl, sSub, ?_, rfl⟩
       have : x.all letter = false := not_all hc (by simp [letter]; omega)
       simp [nameIn, this]
      ·refine RL.knowF 28 rfl (by simp; omega) ?_
       repeat (first | with_reducible apply aN | refine RL.nil ?_ | refine wS rfl ?_)
       refine CW.cond rfl (fun h2 => ?_) (fun h2 => ?_)
       ·repeat (first | (with_reducible first | apply CW.seq | apply aN | apply aR | apply iR | apply CW.ret) | refine wR rfl ?_)
        refine ⟨_, _, _, rfl, aRfl, sSub, ?_, rfl⟩
        have h2' : 122 < c.toNat := by simp at h2; omega
        have : x.all letter = false := not_all hc (by simp [letter]; omega)
        simp [nameIn, this]
       ·have h2' : c.toNat ≤ 122 := by simp at h2; omega
        repeat (first | (with_reducible first | apply aN | apply iN | apply CW.skip) | refine wR rfl ?_)
        refine ⟨j + 1, ⟨hlt, all_take_succ hc hI (by simp [letter]; omega)⟩, ⟨⟨_, rfl, aRfl⟩, ⟨_, rfl, aRfl⟩, ⟨_, rfl, AVle.of_eq ?_⟩, trivial⟩, sSub, by omega⟩
        rw [i64_succ (by omega)]
     ·repeat (first | (with_reducible first | apply CW.seq | apply aN | apply aX | apply iH | apply CW.ret | apply CW.exit) | refine wR rfl ?_)
      refine ⟨_, _, _, rfl, aRfl, sSub, ?_, rfl⟩
      have : x.length ≤ j := by simpa [bts_length] using h'
      rw [List.take_of_length_le this] at hI
      simp only [nameIn, h0, hI, h, h8]
      rfl
  ·refine RL.knowT 14 rfl (by simp; omega) ?_
   repeat (first | (with_reducible first | apply CW.seq | apply aN | apply aR | apply CW.ret) | refine wR rfl ?_ | refine RL.nil ?_ | refine CW.condT rfl ?_ | refine wS rfl ?_ | refine RL.skip rfl rfl rfl ?_)
   refine ⟨_, _, _, rfl, aRfl, sSub, ?_, rfl⟩
   simp [nameIn, h8]

set_option maxRecDepth 10000 in
theorem shapeName_spec (x : Str) (s : Store) (hx : x.length < 9223372036854775807) :
  ACalls Tryz.prog 31 [.str x] s (fun o s' => o = .ret (.bool (nameS x)) ∧ s' = s) := by
 refine ACalls.of_CW tO call31 Tryz.func31 rfl rfl ?_
 repeat (first | (with_reducible first | apply CW.seq | apply aN) | refine wR rfl ?_ | refine CW.reg ?_ | refine wS rfl ?_)
 refine RL.call rfl rfl rfl rfl rfl (keywords_spec s) ?_ (fun _ _ ⟨_, _, h, _⟩ => by cases h)
 rintro _ _ ⟨b, hb, ⟨⟩, rfl⟩
 refine RL.callP rfl rfl rfl rfl rfl (name_spec x kws b _ sSam hx) ?_
 repeat (first | (with_reducible first | apply aN | apply CW.ret) | refine RL.nil ?_ | refine wS rfl ?_)
 exact ⟨_, _, _, rfl, aRfl, Store.sub_set _ _ _ hb, rfl, rfl⟩

set_option maxRecDepth 10000 in
theorem refName_spec (x : Str) (s : Store) (hx : x.length < 9223372036854775807) :
  ACalls Tryz.prog 99 [.str x] s (fun o s' => o = .ret (.bool (nameS x)) ∧ s' = s) := by
 refine ACalls.of_CW tO call99 Tryz.func99 rfl rfl ?_
 repeat (first | (with_reducible first | apply CW.seq | apply aN | apply CW.block) | refine wR rfl ?_)
 refine CW.loop (σ := Nat) (fun j => [(0, .str x), (3, .int .i64 (j : Int))]) (fun _ => s) (fun j => j ≤ x.length ∧ (x.take j).all letter = true) (fun j => x.length - j) 0 ⟨by omega, rfl⟩ ?_ sSub ?_
 ·exact ⟨⟨_, rfl, aRfl⟩, ⟨_, rfl, aRfl⟩, trivial⟩
 ·rintro j ⟨hj, hI⟩
  repeat (first | (with_reducible first | apply CW.seq | apply aN) | refine wR rfl ?_)
  refine CW.cond rfl (fun h' => ?_) (fun h' => ?_)
  ·have hlt : j < x.length := by simpa using h'
   obtain ⟨c, hc⟩ : ∃ c, x[j]? = some c := ⟨_, List.getElem?_eq_getElem hlt⟩
   repeat (first | (with_reducible first | apply CW.seq | apply aN | apply CW.skip | apply CW.block) | refine CW.reg ?_ | refine wS rfl ?_)
   refine RL.sidx tO j rfl rfl rfl rfl rfl rfl rfl rfl rfl hc ?_
   repeat (first | refine wS rfl ?_)
   by_cases h1 : c.toNat < 97
   ·refine RL.knowT 14 rfl (by simp; omega) ?_
    repeat (first | (with_reducible first | apply CW.seq | apply aN | apply aR | apply iR | apply CW.ret) | refine wR rfl ?_ | refine RL.nil ?_ | refine CW.condT rfl ?_ | refine wS rfl ?_ | refine RL.skip rfl rfl rfl ?_)
    refine ⟨_, _, _, rfl, aRfl, sSub, ?_, rfl⟩
    have : x.all letter = false := not_all hc (by simp [letter]; omega)
    simp [nameS, nameIn, this]
   ·refine RL.knowF 14 rfl (by simp; omega) ?_
    repeat (first | refine wS rfl ?_)
    refine RL.sidx tO j rfl rfl rfl rfl rfl rfl rfl rfl rfl hc ?_
    repeat (first | with_reducible apply aN | refine RL.nil ?_ | refine wS rfl ?_)
    refine CW.cond rfl (fun h2 => ?_) (fun h2 => ?_)
    ·repeat (first | (with_reducible first | apply CW.seq | apply aN | apply aR | apply iR | apply CW.ret) | refine wR rfl ?_)
     refine ⟨_, _, _, rfl, aRfl, sSub, ?_, rfl⟩
     have h2' : 122 < c.toNat := by simp at h2; omega
     have : x.all letter = false := not_all hc (by simp [letter]; omega)
     simp [nameS, nameIn, this]
    ·have h2' : c.toNat ≤ 122 := by simp at h2; omega
     repeat (first | (with_reducible first | apply aN | apply iN | apply CW.skip) | refine wR rfl ?_)
     refine ⟨j + 1, ⟨hlt, all_take_succ hc hI (by simp [letter]; omega)⟩, ⟨⟨_, rfl, aRfl⟩, ⟨_, rfl, AVle.of_eq ?_⟩, trivial⟩, sSub, by omega⟩
     rw [i64_succ (by omega)]
  ·repeat (first | (with_reducible first | apply CW.seq | apply aN | apply aX | apply iH | apply CW.exit) | refine CW.reg ?_ | refine wS rfl ?_)
   have hle : x.length ≤ j := by simpa using h'
   rw [List.take_of_length_le hle] at hI
   by_cases h1 : x.length ≥ 1
   ·refine RL.knowT 23 rfl (by simp; omega) ?_
    repeat (first | refine wS rfl ?_)
    by_cases h8 : x.length ≤ 8
    ·refine RL.knowT 28 rfl (by simp; omega) ?_
     skip
     refine RL.callP rfl rfl rfl rfl rfl (refKeywords_spec s) ?_
     repeat (first | refine wS rfl ?_)
     refine RL.callP rfl rfl rfl rfl rfl (refHas_spec kws _ x s (by decide)) ?_
     repeat (first | (with_reducible first | apply aN | apply CW.ret) | refine RL.nil ?_ | refine wS rfl ?_)
     refine ⟨_, _, _, rfl, aRfl, sSub, ?_, rfl⟩
     have h0 : (x == []) = false := by cases x <;> simp at h1 ⊢
     simp only [nameS, nameIn, h0, hI, h8]
     simp
    ·refine RL.knowF 28 rfl (by simp; omega) ?_
     repeat (first | (with_reducible first | apply aN | apply CW.ret) | refine RL.nil ?_ | refine wS rfl ?_ | refine RL.skip rfl rfl rfl ?_)
     refine ⟨_, _, _, rfl, aRfl, sSub, ?_, rfl⟩
     simp [nameS, nameIn, h8]
   ·refine RL.knowF 23 rfl (by simp; omega) ?_
    repeat (first | (with_reducible first | apply aN | apply CW.ret) | refine RL.nil ?_ | refine wS rfl ?_ | refine RL.skip rfl rfl rfl ?_)
    refine ⟨_, _, _, rfl, aRfl, sSub, ?_, rfl⟩
    have h0 : x = [] := List.eq_nil_of_length_eq_zero (by omega)
    simp [nameS, nameIn, h0]
end Go.Proofs.YtaafacnoddjhgaaGreat

/- Contracts of the reference's layer 1: words by numbers, the first free name. -/
namespace Go.Proofs.YtaafacnoddjhgaaGreat
open Go.AE

def letterOf (n : Nat) : UInt8 := UInt8.ofNat (97 + n % 26)

def wordF : Nat → Nat → Str → Str
 | 0, _, s => s
 | f + 1, n, s => if n = 0 then s else wordF f ((n - 1) / 26) (letterOf (n - 1) :: s)

def word (n : Nat) : Str := wordF n n []

theorem wordF_fuel : ∀ (f g n : Nat) (s : Str), n ≤ f → n ≤ g → wordF f n s = wordF g n s := by
 intro f
 induction f with
 | zero =>
  intro g n s h1 h2
  have : n = 0 := by omega
  subst this
  cases g <;> simp [wordF]
 | succ f ih =>
  intro g n s h1 h2
  by_cases h0 : n = 0
  ·subst h0; cases g <;> simp [wordF]
  ·cases g with
   | zero => omega
   | succ g =>
    simp only [wordF, h0, if_false]
    exact ih g _ _ (by omega) (by omega)

theorem wordF_step {n : Nat} (h : n ≠ 0) (s : Str) : wordF n n s = wordF ((n - 1) / 26) ((n - 1) / 26) (letterOf (n - 1) :: s) := by
 cases n with
 | zero => exact absurd rfl h
 | succ n =>
  simp only [wordF, h, if_false]
  exact wordF_fuel _ _ _ _ (by omega) (Nat.le_refl _)

theorem letterOf_toNat (n : Nat) : (letterOf n).toNat = 97 + n % 26 := by
 unfold letterOf
 rw [UInt8.toNat_ofNat']
 omega

theorem u8_wrap {n : Int} (h0 : 0 ≤ n) (h1 : n ≤ 255) : IntKind.wrap .u8 n = n := by
 unfold IntKind.wrap IntKind.bits IntKind.signed
 simp
 omega

def free1 (l : List Str) (k : Nat) : Bool := nameS (word (k + 1)) && !l.contains (word (k + 1))

def freshK (l : List Str) : Nat := ((List.range 702).findIdx? (free1 l)).getD 0
def freshS (l : List Str) : Str := word (freshK l + 1)

def HasFree (l : List Str) : Prop := ∃ k, k < 702 ∧ free1 l k = true

theorem freshK_spec {l : List Str} (h : HasFree l) : freshK l < 702 ∧ free1 l (freshK l) = true ∧ ∀ j, j < freshK l → free1 l j = false := by
 obtain ⟨k, hk, hf⟩ := h
 unfold freshK
 cases hx : (List.range 702).findIdx? (free1 l) with
 | none =>
  have := List.findIdx?_eq_none_iff.1 hx k (List.mem_range.2 hk)
  rw [hf] at this; cases this
 | some i =>
  obtain ⟨h1, h2, h3⟩ := List.findIdx?_eq_some_iff_getElem.1 hx
  simp only [List.length_range] at h1
  refine ⟨h1, by simpa using h2, fun j hj => ?_⟩
  have := h3 j hj
  simpa using this

theorem word_len {k : Nat} (hk : k < 702) : (word (k + 1)).length ≤ 2 := by
 unfold word
 rw [wordF_step (by omega)]
 by_cases h : (k + 1 - 1) / 26 = 0
 ·rw [h]; simp [wordF]
 ·rw [wordF_step h]
  have : ((k + 1 - 1) / 26 - 1) / 26 = 0 := by omega
  rw [this]; simp [wordF]

end Go.Proofs.YtaafacnoddjhgaaGreat

/- Contracts of the layer 'shape': the names one after the other, the first free one. -/
namespace Go.Proofs.YtaafacnoddjhgaaGreat
open Go.AE

theorem ne_of_set_none {s : Store} {b b' : Nat} {o : AObj} (h : (s.set b o) b' = none) : b ≠ b' := Ne.symm (Store.set_none h).1

def leaves : Nat → Str → List Str
 | 0, p => [p]
 | d + 1, p => (List.range 26).flatMap fun j => leaves d (p ++ [letterOf j])

def nonKw (l : List Str) : List Str := l.filter fun w => !kws.contains w

theorem nonKw_append (a b : List Str) : nonKw (a ++ b) = nonKw a ++ nonKw b := by simp [nonKw]

def growAV (size kb b4 l : Nat) : AV := .func 138 [] [.fptr [.int .i64 (size : Int)] 0, .fptr [.map kb] 0, .fptr [yieldV l] 0, .ptr b4 0]

def grows (T : TypeId) (size kb b4 l : Nat) (s : Store) : Store := (s.set kb (.map (setA kws))).set b4 (.box T [growAV size kb b4 l])

set_option maxRecDepth 10000 in
theorem clipBytes_spec (p : Str) (sz : Nat) (own : Own) (s : Store) (hsz : p = [] ∨ sz = 1) :
  ACalls Tryz.prog 139 [.slc sz (bts p) own] s (fun o s' => o = .ret (.slc sz (bts p) .clip) ∧ s' = s) := by
 refine ACalls.of_CW tO call139 Tryz.func139 rfl rfl ?_
 repeat (first | (with_reducible first | apply CW.seq | apply aN) | refine wR rfl ?_ | refine CW.reg ?_ | refine wS rfl ?_)
 refine RL.slice tO 0 (bts p).length rfl rfl rfl rfl rfl rfl rfl rfl (by rcases hsz with rfl | rfl; exact .inl rfl; exact .inr rfl) (.inl ⟨rfl, rfl⟩) (.inr ⟨_, _, rfl, rfl⟩) (.inr ⟨_, _, rfl, rfl, rfl⟩) (by omega) (Nat.le_refl _) ?_
 rw [List.take_length, List.drop_zero]
 repeat (first | (with_reducible first | apply aN | apply CW.ret) | refine RL.nil ?_ | refine wS rfl ?_)
 exact ⟨_, _, _, rfl, aRfl, sSub, rfl, rfl⟩

theorem bts_append (a b : Str) : bts (a ++ b) = bts a ++ bts b := by simp [bts]

theorem leaves_drop (d : Nat) (p : Str) (j : Nat) (hj : j < 26) :
  ((List.range 26).drop j).flatMap (fun j => leaves d (p ++ [letterOf j])) = leaves d (p ++ [letterOf j]) ++ ((List.range 26).drop (j + 1)).flatMap (fun j => leaves d (p ++ [letterOf j])) := by
 rw [List.drop_eq_getElem_cons (by simpa using hj)]
 simp

def Yields (l : Nat) (Go : List Str → Store → Prop) (Done : Store → Prop) : Prop :=
 ∀ w rem s, Go (w :: rem) s → ACallV Tryz.prog (yieldV l) [.str w] s (fun o s' => (o = .ret (.bool true) ∧ Go rem s') ∨ (o = .ret (.bool false) ∧ Done s'))

def GrowEnds (T : TypeId) (size kb b4 l : Nat) (Go Done : Store → Prop) (o : AOut) (s' : Store) : Prop :=
 ∃ s₁, s₁ kb = none ∧ s₁ b4 = none ∧ s' = grows T size kb b4 l s₁ ∧ ((o = .ret (.bool true) ∧ Go s₁) ∨ (o = .ret (.bool false) ∧ Done s₁))

theorem yield_grows {T : TypeId} {size kb b4 l : Nat} (hne : kb ≠ b4) {Go : List Str → Store → Prop} {Done : Store → Prop} (hY : Yields l Go Done) {w : Str} {rem : List Str} {s : Store} (hg : Go (w :: rem) s) (h1 : s kb = none) (h2 : s b4 = none) :
  ACallV Tryz.prog (yieldV l) [.str w] (grows T size kb b4 l s) (GrowEnds T size kb b4 l (Go rem) Done) := by
 have f1 := ACallV.frame kb (.map (setA kws)) h1 rfl (hY w rem s hg)
 have f2 := ACallV.frame b4 (.box T [growAV size kb b4 l]) (by rw [Store.set_ne _ _ (Ne.symm hne)]; exact h2) rfl f1
 refine f2.mono ?_
 rintro o s' ⟨s₂, k1, rfl, s₁, k2, rfl, h⟩
 exact ⟨s₁, k2, by rw [Store.set_ne _ _ (Ne.symm hne)] at k1; exact k1, rfl, h⟩

set_option maxRecDepth 10000 in
theorem grow_spec (T : TypeId) (size kb b4 l : Nat) (hne : kb ≠ b4) (Go : List Str → Store → Prop) (Done : Store → Prop) (hY : Yields l Go Done) (h8 : size ≤ 8) :
  ∀ d p sz own rest s, p.length + d = size → (p = [] ∨ sz = 1) → Go (nonKw (leaves d p) ++ rest) s → s kb = none → s b4 = none →
  ACalls Tryz.prog 138 [.slc sz (bts p) own, .fptr [.int .i64 (size : Int)] 0, .fptr [.map kb] 0, .fptr [yieldV l] 0, .ptr b4 0] (grows T size kb b4 l s)
   (GrowEnds T size kb b4 l (Go rest) Done) := by
 intro d
 induction d with
 | zero =>
  intro p sz own rest s hp hsz hg h1 h2
  have hkb : grows T size kb b4 l s kb = some (.map (setA kws)) := by rw [grows, Store.set_ne _ _ hne, Store.set_same]
  refine ACalls.of_CW tO call138 Tryz.func138 rfl rfl ?_
  repeat (first | (with_reducible first | apply CW.seq | apply aN) | refine wR rfl ?_)
  refine CW.cond rfl (fun h => ?_) (fun h => ?_)
  ·repeat (first | with_reducible apply CW.seq | refine CW.reg ?_ | refine wS rfl ?_)
   refine RL.toStr (u := p) tO rfl rfl rfl rfl rfl rfl rfl rfl rfl rfl rfl ?_
   skip
   refine RL.lookup tO rfl rfl rfl rfl rfl rfl rfl rfl rfl rfl hkb rfl (getA_set _ _) rfl ?_
   rw [gotA_set]
   cases hk : kws.contains p with
   | true =>
    repeat (first | (with_reducible first | apply aN | apply aR | apply CW.ret) | refine RL.nil ?_ | refine wS rfl ?_ | refine RL.skip rfl rfl rfl ?_)
    refine ⟨_, _, _, rfl, aRfl, sSub, s, h1, h2, rfl, .inl ⟨rfl, ?_⟩⟩
    have : nonKw (leaves 0 p) = [] := by simp only [nonKw, leaves, List.filter_cons, hk]; rfl
    rw [this] at hg; exact hg
   | false =>
    have : nonKw (leaves 0 p) = [p] := by simp only [nonKw, leaves, List.filter_cons, hk]; rfl
    rw [this] at hg
    repeat (first | refine wS rfl ?_)
    refine RL.toStr (u := p) tO rfl rfl rfl rfl rfl rfl rfl rfl rfl rfl rfl ?_
    skip
    refine RL.callV rfl rfl rfl rfl rfl rfl (yield_grows hne hY hg h1 h2) ?_ ?_
    ·rintro x s' ⟨s₁, k1, k2, rfl, h⟩
     rcases h with ⟨⟨⟩, hgo⟩ | ⟨⟨⟩, hdo⟩
     ·repeat (first | (with_reducible first | apply aN | apply aR | apply CW.ret) | refine RL.nil ?_ | refine wS rfl ?_)
      exact ⟨_, _, _, rfl, aRfl, sSub, s₁, k1, k2, rfl, .inl ⟨rfl, hgo⟩⟩
     ·repeat (first | (with_reducible first | apply aN | apply aR | apply CW.ret) | refine RL.nil ?_ | refine wS rfl ?_)
      exact ⟨_, _, _, rfl, aRfl, sSub, s₁, k1, k2, rfl, .inr ⟨rfl, hdo⟩⟩
    ·rintro x s' ⟨s₁, k1, k2, rfl, h⟩
     rcases h with ⟨h, -⟩ | ⟨h, -⟩ <;> cases h
  ·exfalso
   simp [bts_length] at h; omega
 | succ d ih =>
  intro p sz own rest s hp hsz hg h1 h2
  have hsz1 : p ≠ [] → sz = 1 := fun h => hsz.resolve_left h
  refine ACalls.of_CW tO call138 Tryz.func138 rfl rfl ?_
  repeat (first | (with_reducible first | apply CW.seq | apply aN) | refine wR rfl ?_)
  refine CW.cond rfl (fun h => ?_) (fun h => ?_)
  ·exfalso
   simp [bts_length] at h; omega
  ·repeat (first | (with_reducible first | apply CW.seq | apply aN | apply CW.skip | apply CW.block) | refine wR rfl ?_)
   refine CW.loop (σ := Nat × Store) (fun q => [(0, .slc sz (bts p) own), (4, .ptr b4 0), (7, .int .u8 ((97 + q.1 : Nat) : Int))]) (fun q => grows T size kb b4 l q.2)
    (fun q => q.1 ≤ 26 ∧ Go (nonKw (((List.range 26).drop q.1).flatMap fun j => leaves d (p ++ [letterOf j])) ++ rest) q.2 ∧ q.2 kb = none ∧ q.2 b4 = none) (fun q => 26 - q.1) (0, s) ⟨by omega, hg, h1, h2⟩ ?_ sSub ?_
   ·exact ⟨⟨_, rfl, aRfl⟩, ⟨_, rfl, aRfl⟩, ⟨_, rfl, aRfl⟩, trivial⟩
   ·rintro ⟨j, s₀⟩ ⟨hj, hI, k1, k2⟩
    simp only at hj hI k1 k2
    repeat (first | (with_reducible first | apply CW.seq | apply aN) | refine wR rfl ?_)
    refine CW.cond rfl (fun h => ?_) (fun h => ?_)
    ·have hlt : j < 26 := by simp at h; omega
     rw [leaves_drop d p j hlt, nonKw_append, List.append_assoc] at hI
     have hsb : bts p = [] ∨ sz = 1 := by rcases hsz with rfl | rfl; exact .inl rfl; exact .inr rfl
     have hel : ∀ y ∈ [AV.int .u8 ((97 + j : Nat) : Int)], elemOk 1 y = true := by intro y hy; simp at hy; subst hy; rfl
     have hlet : bts p ++ [AV.int .u8 ((97 + j : Nat) : Int)] = bts (p ++ [letterOf j]) := by
      rw [bts_append]; simp only [bts, List.map_cons, List.map_nil, letterOf_toNat]
      rw [Nat.mod_eq_of_lt hlt]
     repeat (first | (with_reducible first | apply CW.seq | apply aN | apply CW.skip | apply CW.block) | refine CW.drw tO mixed rfl (RD.run rfl ?_))
     refine RD.two (i := 0) (j := 2) rfl rfl rfl rfl rfl rfl rfl rfl rfl rfl (OW.loadP tO rfl rfl rfl sSam rfl (X := fun _ _ => False))
      (OW.call rfl (fv := .func 139 [] []) rfl rfl (ACallV.of_calls (clipBytes_spec p sz own _ hsz))) ?_ ?_ (fun _ _ h => h.elim) (fun _ _ ⟨h, _⟩ => by cases h)
     ·rintro x s' ⟨rfl, rfl⟩
      refine RD.callP (i := 2) rfl rfl rfl rfl rfl rfl rfl (clipBytes_spec p sz own _ hsz) ?_
      refine RD.append0 (i := 5) tO rfl rfl rfl rfl rfl rfl rfl rfl rfl (by intro k h; cases h) rfl rfl rfl hsb (.inr rfl) rfl hel (by simp [bts_length]; omega) (by simp [bts_length]; omega) (.inr rfl) (fun h => by cases h) (fun b hb => ?_)
      refine RD.callV (i := 6) rfl rfl rfl rfl rfl rfl rfl rfl (ACallV.drop (Store.sub_set _ _ _ hb) (ACallV.of_calls (by
       rw [hlet]; exact ih (p ++ [letterOf j]) 1 (.own b) _ s₀ (by simp; omega) (.inr rfl) hI k1 k2))) ?_ ?_
      ·rintro x s' ⟨s₁, q1, q2, rfl, h⟩
       rcases h with ⟨⟨⟩, hgo⟩ | ⟨⟨⟩, hdo⟩
       ·refine RD.run rfl (RD.done rfl ?_)
        repeat (first | (with_reducible first | apply aN | apply iN | apply CW.skip) | refine wR rfl ?_ | refine CW.condF rfl ?_)
        refine ⟨(j + 1, s₁), ⟨by show j + 1 ≤ 26; omega, hgo, q1, q2⟩, ⟨⟨_, rfl, aRfl⟩, ⟨_, rfl, aRfl⟩, ⟨_, rfl, AVle.of_eq ?_⟩, trivial⟩, sSub, by show 26 - (j + 1) < 26 - j; omega⟩
        rw [u8_wrap (by omega) (by omega)]; simp; omega
       ·refine RD.run rfl (RD.done rfl ?_)
        repeat (first | (with_reducible first | apply CW.seq | apply aN | apply aR | apply iR | apply CW.ret) | refine wR rfl ?_ | refine CW.condT rfl ?_)
        exact ⟨_, _, _, rfl, aRfl, sSub, s₁, q1, q2, rfl, .inr ⟨rfl, hdo⟩⟩
      ·rintro x s' ⟨s₁, q1, q2, rfl, h⟩
       rcases h with ⟨h, -⟩ | ⟨h, -⟩ <;> cases h
     ·rintro x s' ⟨⟨⟩, rfl⟩
      refine RD.two (i := 0) (j := 5) rfl rfl rfl rfl rfl rfl rfl rfl rfl rfl (OW.loadP tO rfl rfl rfl sSam rfl (X := fun _ _ => False))
       (OW.append tO rfl rfl rfl rfl (by intro k h; cases h) rfl rfl rfl hsb (.inr rfl) rfl hel (by simp [bts_length]; omega) (by simp [bts_length]; omega) (.inl (.inr rfl)) (X := fun _ _ => False)) ?_ ?_ (fun _ _ h => h.elim) (fun _ _ h => h.elim)
      ·rintro x s' ⟨rfl, rfl⟩
       refine RD.append0 (i := 5) tO rfl rfl rfl rfl rfl rfl rfl rfl rfl (by intro k h; cases h) rfl rfl rfl hsb (.inr rfl) rfl hel (by simp [bts_length]; omega) (by simp [bts_length]; omega) (.inr rfl) (fun h => by cases h) (fun b hb => ?_)
       refine RD.callV (i := 6) rfl rfl rfl rfl rfl rfl rfl rfl (ACallV.drop (Store.sub_set _ _ _ hb) (ACallV.of_calls (by
        rw [hlet]; exact ih (p ++ [letterOf j]) 1 (.own b) _ s₀ (by simp; omega) (.inr rfl) hI k1 k2))) ?_ ?_
       ·rintro x s' ⟨s₁, q1, q2, rfl, h⟩
        rcases h with ⟨⟨⟩, hgo⟩ | ⟨⟨⟩, hdo⟩
        ·refine RD.run rfl (RD.done rfl ?_)
         repeat (first | (with_reducible first | apply aN | apply iN | apply CW.skip) | refine wR rfl ?_ | refine CW.condF rfl ?_)
         refine ⟨(j + 1, s₁), ⟨by show j + 1 ≤ 26; omega, hgo, q1, q2⟩, ⟨⟨_, rfl, aRfl⟩, ⟨_, rfl, aRfl⟩, ⟨_, rfl, AVle.of_eq ?_⟩, trivial⟩, sSub, by show 26 - (j + 1) < 26 - j; omega⟩
         rw [u8_wrap (by omega) (by omega)]; simp; omega
        ·refine RD.run rfl (RD.done rfl ?_)
         repeat (first | (with_reducible first | apply CW.seq | apply aN | apply aR | apply iR | apply CW.ret) | refine wR rfl ?_ | refine CW.condT rfl ?_)
         exact ⟨_, _, _, rfl, aRfl, sSub, s₁, q1, q2, rfl, .inr ⟨rfl, hdo⟩⟩
       ·rintro x s' ⟨s₁, q1, q2, rfl, h⟩
        rcases h with ⟨h, -⟩ | ⟨h, -⟩ <;> cases h
      ·rintro x s' (⟨h, -⟩ | ⟨s₁, hs₁, b, hb, rfl, rfl⟩)
       ·cases h
       ·rcases hs₁ with rfl | ⟨b', h, -⟩
        ·refine RD.one (i := 0) rfl rfl rfl rfl rfl (OW.loadP tO rfl rfl rfl (by rw [Store.set_ne _ _ (ne_of_set_none hb)]; exact sSam) rfl (X := fun _ _ => False)) ?_ (fun _ _ h => h.elim)
         rintro x s' ⟨rfl, rfl⟩
         refine RD.callV (i := 6) rfl rfl rfl rfl rfl rfl rfl rfl (ACallV.drop (Store.sub_set _ _ _ hb) (ACallV.of_calls (by
          rw [hlet]; exact ih (p ++ [letterOf j]) 1 (.own b) _ s₀ (by simp; omega) (.inr rfl) hI k1 k2))) ?_ ?_
         ·rintro x s' ⟨s₁, q1, q2, rfl, h⟩
          rcases h with ⟨⟨⟩, hgo⟩ | ⟨⟨⟩, hdo⟩
          ·refine RD.run rfl (RD.done rfl ?_)
           repeat (first | (with_reducible first | apply aN | apply iN | apply CW.skip) | refine wR rfl ?_ | refine CW.condF rfl ?_)
           refine ⟨(j + 1, s₁), ⟨by show j + 1 ≤ 26; omega, hgo, q1, q2⟩, ⟨⟨_, rfl, aRfl⟩, ⟨_, rfl, aRfl⟩, ⟨_, rfl, AVle.of_eq ?_⟩, trivial⟩, sSub, by show 26 - (j + 1) < 26 - j; omega⟩
           rw [u8_wrap (by omega) (by omega)]; simp; omega
          ·refine RD.run rfl (RD.done rfl ?_)
           repeat (first | (with_reducible first | apply CW.seq | apply aN | apply aR | apply iR | apply CW.ret) | refine wR rfl ?_ | refine CW.condT rfl ?_)
           exact ⟨_, _, _, rfl, aRfl, sSub, s₁, q1, q2, rfl, .inr ⟨rfl, hdo⟩⟩
         ·rintro x s' ⟨s₁, q1, q2, rfl, h⟩
          rcases h with ⟨h, -⟩ | ⟨h, -⟩ <;> cases h
        ·cases h
    ·repeat (first | (with_reducible first | apply CW.seq | apply aN | apply aX | apply iH | apply CW.ret | apply CW.exit) | refine wR rfl ?_)
     have : j = 26 := by simp at h; omega
     subst this
     exact ⟨_, _, _, rfl, aRfl, sSub, s₀, k1, k2, rfl, .inl ⟨rfl, by rw [List.drop_of_length_le (by simp)] at hI; exact hI⟩⟩
end Go.Proofs.YtaafacnoddjhgaaGreat

/- Contracts of the layer 'shape': the names one after the other, the first free one. -/
namespace Go.Proofs.YtaafacnoddjhgaaGreat
open Go.AE

def names12 : List Str := nonKw (leaves 1 []) ++ nonKw (leaves 2 [])

def kwStore (kb : Nat) (s : Store) : Store := s.set kb (.map (setA kws))

def sized (kb b3 size : Nat) (s : Store) : Store := (kwStore kb s).set b3 (.box 3 [.int .i64 (size : Int)])

set_option maxRecDepth 10000 in
theorem names_spec (l : Nat) (Go : List Str → Store → Prop) (Done : Store → Prop) (hY : Yields l Go Done) (hN : ∀ s, ¬ Go [] s) (s : Store) (hg : Go names12 s) :
  ACalls Tryz.prog 110 [yieldV l] s (fun o s' => o = .ret (.tup []) ∧ Done s') := by
 refine ACalls.of_CW tO call110 Tryz.func110 rfl rfl ?_
 repeat (first | (with_reducible first | apply CW.seq | apply aN) | refine wR rfl ?_ | refine CW.reg ?_)
 refine RL.call rfl rfl rfl rfl rfl (keywords_spec s) ?_ (fun _ _ ⟨_, _, h, _⟩ => by cases h)
 rintro _ _ ⟨kb, hkb, ⟨⟩, rfl⟩
 refine RL.alloc tO rfl rfl rfl rfl rfl rfl rfl (fun b2 hb2 => ?_)
 refine RL.storeP tO rfl rfl rfl rfl rfl rfl rfl rfl rfl sSam rfl ?_
 rw [Store.set_set]
 refine RL.freeze 2 b2 rfl sSam ?_
 rw [Store.del_set _ _ _ hb2]
 repeat (first | (with_reducible first | apply CW.seq | apply aN) | refine CW.reg ?_ | refine RL.nil ?_)
 refine RL.alloc tO rfl rfl rfl rfl rfl rfl rfl (fun b3 hb3 => ?_)
 refine RL.storeP tO rfl rfl rfl rfl rfl rfl rfl rfl rfl sSam rfl ?_
 rw [Store.set_set]
 repeat (first | (with_reducible first | apply aN | apply CW.block) | refine RL.nil ?_)
 refine CW.loop (σ := Nat × Nat × Store) (fun q => [(1, .fptr [yieldV l] 0), (2, .fptr [.map kb] 0), (3, .ptr q.2.1 0)]) (fun q => sized kb q.2.1 q.1 q.2.2)
  (fun q => ((q.1 = 1 ∧ Go (nonKw (leaves 1 []) ++ (nonKw (leaves 2 []) ++ [])) q.2.2) ∨ (q.1 = 2 ∧ Go (nonKw (leaves 2 []) ++ []) q.2.2)) ∧ q.2.2 kb = none ∧ q.2.2 q.2.1 = none ∧ q.2.1 ≠ kb) (fun q => 3 - q.1) (1, b3, s) ⟨.inl ⟨rfl, by simpa [names12] using hg⟩, hkb, (Store.set_none hb3).2, (Store.set_none hb3).1⟩ ?_ sSub ?_
 ·exact ⟨⟨_, rfl, aRfl⟩, ⟨_, rfl, aRfl⟩, ⟨_, rfl, aRfl⟩, trivial⟩
 ·rintro ⟨size, b, s₀⟩ ⟨hI, k1, k2, k3⟩
  simp only at hI k1 k2 k3
  have hs2 : size ≤ 2 := by rcases hI with ⟨h, -⟩ | ⟨h, -⟩ <;> omega
  repeat (first | with_reducible apply CW.seq | refine CW.reg ?_)
  refine RL.loadP tO rfl rfl rfl rfl rfl rfl sSam rfl ?_
  repeat (first | with_reducible apply aN | refine RL.nil ?_ | refine wS rfl ?_)
  refine CW.cond rfl (fun h => ?_) (fun h => by simp at h; omega)
  repeat (first | (with_reducible first | apply CW.seq | apply aN | apply CW.skip | apply CW.block) | refine CW.reg ?_)
  refine RL.alloc tO rfl rfl rfl rfl rfl rfl rfl (fun b4 hb4 => ?_)
  obtain ⟨n1, n2⟩ := Store.set_none hb4
  obtain ⟨n3, n4⟩ := Store.set_none n2
  refine RL.freeze 3 b rfl (by rw [Store.set_ne _ _ (Ne.symm n1)]; exact sSam) ?_
  repeat (first | (with_reducible first | apply CW.seq | apply aN) | refine CW.reg ?_ | refine RL.nil ?_ | refine wS rfl ?_)
  refine RL.storeP tO rfl rfl rfl rfl rfl rfl rfl rfl rfl (by rw [Store.del_ne _ n1]; exact sSam) rfl ?_
  repeat (first | (with_reducible first | apply CW.seq | apply aN) | refine CW.reg ?_ | refine RL.nil ?_)
  refine RL.loadP tO rfl rfl rfl rfl rfl rfl sSam rfl ?_
  obtain ⟨rest, hgo, hrest⟩ : ∃ rest, Go (nonKw (leaves size []) ++ rest) s₀ ∧ ∀ s₁, Go rest s₁ → size = 1 ∧ Go (nonKw (leaves 2 []) ++ []) s₁ := by
   rcases hI with ⟨rfl, hh⟩ | ⟨rfl, hh⟩
   ·exact ⟨_, hh, fun _ h => ⟨rfl, h⟩⟩
   ·exact ⟨[], hh, fun _ h => absurd h (hN _)⟩
  have n4' : s₀ b4 = none := n4
  have n1' : b4 ≠ b := n1
  refine RL.callV rfl rfl rfl rfl rfl rfl (ACallV.drop (s' := grows 197 size kb b4 l s₀) ?_ (ACallV.of_calls (grow_spec 197 size kb b4 l (Ne.symm n3) Go Done hY (by omega) size [] 0 .nil rest s₀ (by simp) (.inl rfl) hgo k1 n4))) ?_ ?_
  ·intro x
   by_cases e1 : x = b4
   ·subst e1; left; rw [grows, Store.set_same, Store.set_same]; rfl
   ·by_cases e2 : x = b
    ·subst e2; right; rw [grows, Store.set_ne _ _ e1, Store.set_ne _ _ k3]; exact k2
    ·left; rw [grows, Store.set_ne _ _ e1, Store.set_ne _ _ e1, Store.del_ne _ e2, Store.set_ne _ _ e1, sized, Store.set_ne _ _ e2]; rfl
  ·rintro x s' ⟨s₁, q1, q2, rfl, h⟩
   rcases h with ⟨⟨⟩, hgo'⟩ | ⟨⟨⟩, hdo⟩
   ·obtain ⟨hsz, hgo2⟩ := hrest _ hgo'
    subst hsz
    repeat (first | (with_reducible first | apply CW.seq | apply aN | apply iN | apply CW.skip) | refine wR rfl ?_ | refine CW.reg ?_ | refine RL.nil ?_ | refine CW.condF rfl ?_ | refine wS rfl ?_)
    refine RL.alloc tO rfl rfl rfl rfl rfl rfl rfl (fun b5 hb5 => ?_)
    refine RL.storeP tO rfl rfl rfl rfl rfl rfl rfl rfl rfl sSam rfl ?_
    rw [Store.set_set]
    repeat (first | with_reducible apply aN | refine CW.reg ?_ | refine RL.nil ?_)
    refine RL.loadP tO rfl rfl rfl rfl rfl rfl sSam rfl ?_
    repeat (first | refine wS rfl ?_)
    refine RL.storeP tO rfl rfl rfl rfl rfl rfl rfl rfl rfl sSam rfl ?_
    rw [Store.set_set]
    repeat (first | with_reducible apply aN | refine RL.nil ?_)
    obtain ⟨m1, m2⟩ := Store.set_none hb5
    obtain ⟨m3, m4⟩ := Store.set_none m2
    refine ⟨(2, b5, s₁), ⟨.inr ⟨rfl, hgo2⟩, q1, m4, m3⟩, ⟨⟨_, rfl, aRfl⟩, ⟨_, rfl, aRfl⟩, ⟨_, rfl, aRfl⟩, trivial⟩, ?_, by show 3 - 2 < 3 - 1; omega⟩
    intro x
    by_cases e1 : x = b5
    ·subst e1; left; rw [Store.set_same, sized, Store.set_same]; rfl
    ·by_cases e2 : x = b4
     ·subst e2; right; rw [sized, Store.set_ne _ _ e1, kwStore, Store.set_ne _ _ n3]; exact q2
     ·left; rw [sized, Store.set_ne _ _ e1, Store.set_ne _ _ e1, grows, Store.set_ne _ _ e2]; rfl
   ·repeat (first | (with_reducible first | apply aN | apply aR | apply iR | apply CW.ret) | refine RL.nil ?_ | refine CW.condT rfl ?_ | refine wS rfl ?_)
    refine ⟨_, _, s₁, rfl, aRfl, ?_, rfl, hdo⟩
    intro x
    by_cases e1 : x = b4
    ·subst e1; exact .inr q2
    ·by_cases e2 : x = kb
     ·subst e2; exact .inr q1
     ·left; rw [grows, Store.set_ne _ _ e1, Store.set_ne _ _ e2]
  ·rintro x s' ⟨s₁, q1, q2, rfl, h⟩
   rcases h with ⟨h, -⟩ | ⟨h, -⟩ <;> cases h
end Go.Proofs.YtaafacnoddjhgaaGreat

/- Contracts of the layer 'shape': the first free name; that there is one. -/
namespace Go.Proofs.YtaafacnoddjhgaaGreat
open Go.AE

theorem names12_eq : names12 = ((List.range 702).map fun k => word (k + 1)).filter nameS := by decide +kernel

theorem find_names (l : List Str) (h : HasFree l) : names12.find? (fun w => !l.contains w) = some (freshS l) := by
 obtain ⟨h1, h2, h3⟩ := freshK_spec h
 rw [names12_eq, List.find?_filter, List.find?_map]
 have : (List.range 702).find? ((fun w => decide (nameS w = true ∧ (!l.contains w) = true)) ∘ fun k => word (k + 1)) = some (freshK l) := by
  rw [List.find?_range_eq_some]
  refine ⟨by simpa [free1] using h2, List.mem_range.2 h1, fun j hj => ?_⟩
  have := h3 j hj
  simp only [free1] at this
  cases hn : nameS (word (j + 1)) <;> simp_all
 rw [this]; rfl

set_option maxRecDepth 10000 in
theorem fresh_spec (tk : List Str) (mb : Nat) (s : Store) (hs : s mb = some (.map (setA tk))) (hf : HasFree tk) :
  ACalls Tryz.prog 72 [.map mb] s (fun o s' => o = .ret (.str (freshS tk)) ∧ s' = s) := by
 refine ACalls.of_CW tO call72 Tryz.func72 rfl rfl ?_
 repeat (first | with_reducible apply CW.seq | refine CW.reg ?_ | refine wS rfl ?_)
 refine RL.alloc tO rfl rfl rfl rfl rfl rfl rfl (fun b2 hb2 => ?_)
 have hne : mb ≠ b2 := fun e => by rw [e, hb2] at hs; cases hs
 repeat (first | (with_reducible first | apply CW.seq | apply aN | apply CW.block) | refine RL.nil ?_)
 refine CW.rangeF (f := 110) (first := []) (cap := []) rfl (by intro t ht; simp at ht; subst ht; decide) ?_
 intro l r hl hyield
 generalize hB : s.set b2 (.box 9 [.str []]) = sB at hl hyield ⊢
 have hBm : sB mb = some (.map (setA tk)) := by rw [← hB, Store.set_ne _ _ hne]; exact hs
 have hBl : (s.set b2 (.box 9 [.str (freshS tk)])) l = none := by
  rw [← hB] at hl
  obtain ⟨q1, q2⟩ := Store.set_none hl
  rw [Store.set_ne _ _ q1]; exact q2
 have hcall := names_spec l (fun rem s' => s' = sB.set l (.loop r ((2, .ptr b2 0) :: (1, .fptr [.map mb] 0) :: envOf 0 [.map mb])) ∧ rem.find? (fun w => !tk.contains w) = some (freshS tk))
  (fun s' => s' = (s.set b2 (.box 9 [.str (freshS tk)])).set l (.loop (over r .ret) ((2, .ptr b2 0) :: (1, .fptr [.map mb] 0) :: envOf 0 [.map mb]))) ?_ (fun _ h => by cases h.2) _ ⟨rfl, find_names tk hf⟩
 ·refine hcall.mono ?_
  rintro o s' ⟨rfl, rfl⟩
  refine .inr ⟨.ret, _, hBl, rfl, ?_⟩
  refine CW.freeze 2 b2 rfl sSam ?_
  rw [Store.del_set _ _ _ hb2]
  refine CW.ret ?_
  repeat (with_reducible first | apply aR | apply iR)
  exact ⟨_, _, _, rfl, aRfl, sSub, rfl, rfl⟩
 ·rintro w rem s' ⟨rfl, hfind⟩
  refine (hyield [.str w] _ (fun s₂ => s₂ = sB ∧ rem.find? (fun w => !tk.contains w) = some (freshS tk)) (fun j s₂ => j = .ret ∧ s₂ = s.set b2 (.box 9 [.str (freshS tk)])) (fun _ _ => False) sSam rfl ?_).mono ?_
  ·rw [Store.del_set _ _ _ hl]
   repeat (first | (with_reducible first | apply CW.seq | apply aN | apply CW.block) | refine wR rfl ?_ | refine CW.reg ?_ | refine wS rfl ?_)
   refine RL.lookup tO rfl rfl rfl rfl rfl rfl rfl rfl rfl rfl hBm rfl (getA_set _ _) rfl ?_
   rw [gotA_set]
   cases hc : tk.contains w with
   | true =>
    repeat (first | (with_reducible first | apply aN | apply iN | apply CW.skip) | refine RL.nil ?_ | refine CW.condF rfl ?_ | refine wS rfl ?_)
    refine ⟨rfl, ?_⟩
    rw [List.find?_cons, hc] at hfind
    exact hfind
   | false =>
    have hw : w = freshS tk := by rw [List.find?_cons, hc] at hfind; cases hfind; rfl
    repeat (first | (with_reducible first | apply CW.seq | apply aN) | refine CW.reg ?_ | refine RL.nil ?_ | refine CW.condT rfl ?_ | refine wS rfl ?_)
    refine RL.storeP tO rfl rfl rfl rfl rfl rfl rfl rfl rfl (by rw [← hB]; exact sSam) rfl ?_
    repeat (first | (with_reducible first | apply aN | apply iR | apply CW.ret) | refine RL.nil ?_)
    refine ⟨rfl, ?_⟩
    rw [← hB, Store.set_set, ← hw]; rfl
  ·rintro o s' (⟨rfl, s₂, -, rfl, rfl, h⟩ | ⟨rfl, j, s₂, -, rfl, rfl, rfl⟩ | ⟨v, s₂, -, -, -, h⟩)
   ·exact .inl ⟨rfl, rfl, h⟩
   ·exact .inr ⟨rfl, rfl⟩
   ·exact h.elim

set_option maxRecDepth 10000 in
theorem shapeFresh_spec (l : List Str) (own : Own) (s : Store) (hl : l.length < 9223372036854775807) (hf : HasFree (setOf l)) :
  ACalls Tryz.prog 32 [.slc 1 (strs l) own] s (fun o s' => o = .ret (.str (freshS (setOf l))) ∧ s' = s) := by
 refine ACalls.of_CW tO call32 Tryz.func32 rfl rfl ?_
 repeat (first | (with_reducible first | apply CW.seq | apply aN) | refine wR rfl ?_ | refine CW.reg ?_ | refine wS rfl ?_)
 refine RL.call rfl rfl rfl rfl rfl (set_spec l own s hl) ?_ (fun _ _ ⟨_, _, h, _⟩ => by cases h)
 rintro _ _ ⟨b, hb, ⟨⟩, rfl⟩
 refine RL.callP rfl rfl rfl rfl rfl (fresh_spec (setOf l) b _ sSam hf) ?_
 repeat (first | (with_reducible first | apply aN | apply CW.ret) | refine RL.nil ?_ | refine wS rfl ?_)
 exact ⟨_, _, _, rfl, aRfl, Store.sub_set _ _ _ hb, rfl, rfl⟩

/-! ### There is a free name -/

theorem free1_congr {l m : List Str} (h : ∀ x, l.contains x = m.contains x) : free1 l = free1 m := by
 funext k; simp only [free1, h]

theorem freshS_congr {l m : List Str} (h : ∀ x, l.contains x = m.contains x) : freshS l = freshS m := by
 unfold freshS freshK; rw [free1_congr h]

theorem nodup_length : ∀ (xs l : List Str), xs.Nodup → (∀ x ∈ xs, x ∈ l) → xs.length ≤ l.length := by
 intro xs
 induction xs with
 | nil => intro l _ _; simp
 | cons x xs ih =>
  intro l hn hs
  obtain ⟨h1, h2⟩ := List.nodup_cons.1 hn
  have hx := hs x (List.mem_cons_self ..)
  have := ih (l.erase x) h2 (fun y hy => (List.mem_erase_of_ne (fun e => h1 (by rw [← e]; exact hy))).2 (hs y (List.mem_cons_of_mem _ hy)))
  rw [List.length_erase_of_mem hx] at this
  have : 0 < l.length := List.length_pos_of_mem hx
  simp; omega

def unword (w : Str) : Nat := w.foldl (fun n c => n * 26 + (c.toNat - 96)) 0

theorem unword_word : ∀ k, k < 702 → unword (word (k + 1)) = k + 1 := by
 have : (List.range 702).all (fun k => unword (word (k + 1)) == k + 1) = true := by decide +kernel
 intro k hk
 simpa using List.all_eq_true.1 this k (List.mem_range.2 hk)

theorem names12_length : (((List.range 702).map fun k => word (k + 1)).filter nameS).length = 698 := by decide +kernel

theorem names12_nodup : (((List.range 702).map fun k => word (k + 1)).filter nameS).Nodup := by
 refine List.Nodup.sublist List.filter_sublist ?_
 rw [List.nodup_iff_pairwise_ne, List.pairwise_map]
 refine List.Pairwise.imp_of_mem ?_ List.nodup_range
 intro a b ha hb hab e
 have h1 := unword_word a (List.mem_range.1 ha)
 have h2 := unword_word b (List.mem_range.1 hb)
 rw [e] at h1
 omega

theorem hasFree_of {l : List Str} (h : l.length < 698) : HasFree l := by
 refine Classical.byContradiction fun hc => ?_
 have hall : ∀ x ∈ ((List.range 702).map fun k => word (k + 1)).filter nameS, x ∈ l := by
  intro x hx
  obtain ⟨h1, h2⟩ := List.mem_filter.1 hx
  obtain ⟨k, hk, rfl⟩ := List.mem_map.1 h1
  refine Classical.byContradiction fun hn => hc ⟨k, List.mem_range.1 hk, ?_⟩
  have : l.contains (word (k + 1)) = false := by rw [Bool.eq_false_iff]; simpa using hn
  simp [free1, h2]
  simpa using hn
 have := nodup_length _ l names12_nodup hall
 rw [names12_length] at this
 omega
end Go.Proofs.YtaafacnoddjhgaaGreat

/- The layer's data: expressions and facts as trees; how they stand as values. -/
namespace Go.Proofs.YtaafacnoddjhgaaGreat
open Go.AE

inductive FExp where
 | mk (op n : Int) (text : Str) (kids : List FExp)

namespace FExp
def op : FExp → Int | .mk o _ _ _ => o
def n : FExp → Int | .mk _ n _ _ => n
def text : FExp → Str | .mk _ _ t _ => t
def kids : FExp → List FExp | .mk _ _ _ k => k
mutual
def kav : FExp → List AV
 | .mk _ _ _ ks => kavs ks
def kavs : List FExp → List AV
 | [] => []
 | k :: r => .agg [.int .i64 k.op, .int .i64 k.n, .str k.text, .slc 4 k.kav .fro] :: kavs r
end
def cells (e : FExp) : List AV := [.int .i64 e.op, .int .i64 e.n, .str e.text, .slc 4 e.kav .fro]
def av (e : FExp) : AV := .agg e.cells
theorem kavs_eq : ∀ l : List FExp, kavs l = l.map av
 | [] => by simp [kavs]
 | k :: r => by rw [kavs, kavs_eq r]; rfl
theorem kav_eq (e : FExp) : e.kav = e.kids.map av := by cases e with | mk o n t ks => rw [kav, kavs_eq]; rfl
mutual
def size : FExp → Nat
 | .mk _ _ _ ks => 1 + sizes ks
def sizes : List FExp → Nat
 | [] => 0
 | k :: r => k.size + sizes r
end
mutual
def nodes : Nat → FExp → List (Nat × FExp)
 | d, .mk o n t ks => (d, .mk o n t ks) :: nodesL (d + 1) ks
def nodesL : Nat → List FExp → List (Nat × FExp)
 | _, [] => []
 | d, k :: r => k.nodes d ++ nodesL d r
end
end FExp

inductive FFact where
 | mk (op : Int) (name : Str) (path : List Str) (cls : Str) (n : Int) (kids : List FFact)

namespace FFact
def op : FFact → Int | .mk o _ _ _ _ _ => o
def name : FFact → Str | .mk _ x _ _ _ _ => x
def path : FFact → List Str | .mk _ _ x _ _ _ => x
def cls : FFact → Str | .mk _ _ _ x _ _ => x
def n : FFact → Int | .mk _ _ _ _ x _ => x
def kids : FFact → List FFact | .mk _ _ _ _ _ x => x
mutual
def kav : FFact → List AV
 | .mk _ _ _ _ _ ks => kavs ks
def kavs : List FFact → List AV
 | [] => []
 | k :: r => .agg [.int .i64 k.op, .str k.name, .slc 1 (strs k.path) .fro, .str k.cls, .int .i64 k.n, .slc 6 k.kav .fro] :: kavs r
end
def cells (f : FFact) : List AV := [.int .i64 f.op, .str f.name, .slc 1 (strs f.path) .fro, .str f.cls, .int .i64 f.n, .slc 6 f.kav .fro]
def av (f : FFact) : AV := .agg f.cells
theorem kavs_eq : ∀ l : List FFact, kavs l = l.map av
 | [] => by simp [kavs]
 | k :: r => by rw [kavs, kavs_eq r]; rfl
theorem kav_eq (f : FFact) : f.kav = f.kids.map av := by cases f with | mk o a b c n ks => rw [kav, kavs_eq]; rfl
mutual
def size : FFact → Nat
 | .mk _ _ _ _ _ ks => 1 + sizes ks
def sizes : List FFact → Nat
 | [] => 0
 | k :: r => k.size + sizes r
end
end FFact

inductive Part where
 | exp (e : FExp)
 | fact (f : FFact)

namespace Part
def av : Part → AV
 | .exp e => .iface 126 e.av
 | .fact f => .iface 188 f.av
def kids : Part → List Part
 | .exp e => e.kids.map .exp
 | .fact f => f.kids.map .fact
def size : Part → Nat
 | .exp e => e.size
 | .fact f => f.size
end Part

theorem FExp.sizes_mem : ∀ {l : List FExp} {k : FExp}, k ∈ l → k.size ≤ FExp.sizes l
  | x :: l, k, h => by
    rw [FExp.sizes]
    rcases List.mem_cons.1 h with rfl | h
    · omega
    · have := FExp.sizes_mem h; omega
theorem FFact.sizes_mem : ∀ {l : List FFact} {k : FFact}, k ∈ l → k.size ≤ FFact.sizes l
  | x :: l, k, h => by
    rw [FFact.sizes]
    rcases List.mem_cons.1 h with rfl | h
    · omega
    · have := FFact.sizes_mem h; omega
theorem FExp.size_pos (e : FExp) : 0 < e.size := by cases e; rw [FExp.size]; omega
theorem FFact.size_pos (e : FFact) : 0 < e.size := by cases e; rw [FFact.size]; omega
theorem FExp.length_le : ∀ l : List FExp, l.length ≤ FExp.sizes l
 | [] => by simp
 | k :: l => by rw [FExp.sizes]; have := FExp.length_le l; have := k.size_pos; simp; omega
theorem FFact.length_le : ∀ l : List FFact, l.length ≤ FFact.sizes l
 | [] => by simp
 | k :: l => by rw [FFact.sizes]; have := FFact.length_le l; have := k.size_pos; simp; omega
theorem FExp.kids_size {e k : FExp} (h : k ∈ e.kids) : k.size < e.size := by
 cases e with | mk o n t ks => rw [FExp.size]; have := FExp.sizes_mem (k := k) (l := ks) h; omega
theorem FFact.kids_size {e k : FFact} (h : k ∈ e.kids) : k.size < e.size := by
 cases e with | mk o a b c n ks => rw [FFact.size]; have := FFact.sizes_mem (k := k) (l := ks) h; omega
theorem FExp.kids_length (e : FExp) : e.kids.length < e.size := by
 cases e with | mk o n t ks => rw [FExp.size]; have := FExp.length_le ks; show ks.length < _; omega
theorem FFact.kids_length (e : FFact) : e.kids.length < e.size := by
 cases e with | mk o a b c n ks => rw [FFact.size]; have := FFact.length_le ks; show ks.length < _; omega
theorem Part.kids_size {p k : Part} (h : k ∈ p.kids) : k.size < p.size := by
 cases p with
 | exp e => obtain ⟨x, hx, rfl⟩ := List.mem_map.1 h; exact FExp.kids_size hx
 | fact e => obtain ⟨x, hx, rfl⟩ := List.mem_map.1 h; exact FFact.kids_size hx
theorem Part.kids_length (p : Part) : p.kids.length < p.size := by
 cases p with
 | exp e => simpa [Part.kids, Part.size] using e.kids_length
 | fact e => simpa [Part.kids, Part.size] using e.kids_length

def Part.nodes (d : Nat) (p : Part) : List (Nat × Part) :=
 (d, p) :: (p.kids.attach.map fun ⟨k, h⟩ => Part.nodes (d + 1) k).flatten
termination_by p.size
decreasing_by exact Part.kids_size h

theorem Part.nodes_eq (d : Nat) (p : Part) : p.nodes d = (d, p) :: p.kids.flatMap (Part.nodes (d + 1)) := by
 rw [Part.nodes, List.flatMap_def]
 congr 2
 exact List.attach_map_val (f := Part.nodes (d + 1))

def big : Nat := 1099511627776

theorem expParts_get (l : List FExp) (j : Nat) (k : FExp) (h : l[j]? = some k) : (l.map FExp.av)[j]? = some (.agg k.cells) := by simp [h, FExp.av]

theorem take_succ_map {α β : Type} (f : α → β) {l : List α} {j : Nat} {x : α} (h : l[j]? = some x) : (l.take j).map f ++ [f x] = (l.take (j + 1)).map f := by
 rw [List.take_add_one, h]; simp

theorem OwnOk.sub' {s : Store} {n m : Nat} {own : Own} (h : OwnOk s n own) : OwnOk s m own := by cases own <;> exact h

set_option maxRecDepth 10000 in
theorem expParts_spec (e : FExp) (s : Store) (hs : e.size ≤ big) :
  ACalls Tryz.prog 167 [e.av] s (fun o s' => o = .ret (.slc 1 ((Part.exp e).kids.map Part.av) .fro) ∧ s' = s) := by
 have hlen := e.kids_length
 have hk := e.kav_eq
 have hbig : big = 1099511627776 := rfl
 refine ACalls.of_CW tO call167 Tryz.func167 rfl rfl ?_
 repeat (first | (with_reducible first | apply CW.seq | apply aN | apply CW.block) | refine wR rfl ?_)
 refine CW.loop (σ := Nat × Own) (fun q => [(3, .slc 1 ((e.kids.take q.1).map fun k => Part.av (.exp k)) q.2), (8, .slc 4 e.kav .fro), (9, .int .i64 e.kav.length), (10, .int .i64 (q.1 : Int))])
  (fun q => rowOf s 161 1 q.1 q.2) (fun q => q.1 ≤ e.kids.length ∧ OwnOk s q.1 q.2) (fun q => e.kids.length - q.1) (0, .nil) ⟨by simp, trivial⟩ ?_ sSub ?_
 ·exact ⟨⟨_, rfl, AVle.nil (by simp)⟩, ⟨_, rfl, aRfl⟩, ⟨_, rfl, aRfl⟩, ⟨_, rfl, aRfl⟩, trivial⟩
 ·rintro ⟨j, own⟩ ⟨hj, hok⟩
  simp only at hj hok
  have hkl : e.kav.length = e.kids.length := by rw [hk]; simp
  repeat (first | (with_reducible first | apply CW.seq | apply aN) | refine wR rfl ?_)
  refine CW.cond rfl (fun h => ?_) (fun h => ?_)
  ·have hlt : j < e.kids.length := by rw [hkl] at h; simpa using h
   obtain ⟨k, hkj⟩ : ∃ k, e.kids[j]? = some k := ⟨_, List.getElem?_eq_getElem hlt⟩
   repeat (first | (with_reducible first | apply CW.seq | apply aN | apply CW.skip | apply CW.block) | refine CW.reg ?_)
   refine RL.idx tO j rfl rfl rfl rfl rfl rfl rfl rfl rfl rfl rfl (by rw [hk]; exact expParts_get _ _ _ hkj) rfl ?_
   repeat (first | refine wS rfl ?_)
   refine RL.alloc tO rfl rfl rfl rfl rfl rfl rfl (fun b hb => ?_)
   refine RL.storeP tO rfl rfl rfl rfl rfl rfl rfl rfl rfl sSam rfl ?_
   rw [Store.set_set]
   refine RL.freeze 5 b rfl sSam ?_
   rw [Store.del_set _ _ _ hb]
   repeat (first | with_reducible apply aN | refine CW.reg ?_ | refine RL.nil ?_ | refine wS rfl ?_)
   refine RL.append1 tO rfl rfl rfl rfl rfl rfl rfl (by intro k h; cases h) rfl rfl rfl rfl rfl rfl rfl (by simp; omega) (by show (j + 1) * 16 ≤ _; omega) (by omega) rfl hok (fun b' hb' => ?_)
   repeat (first | (with_reducible first | apply aN | apply iN) | refine wR rfl ?_ | refine RL.nil ?_ | refine wS rfl ?_)
   refine ⟨(j + 1, .own b'), ⟨hlt, hb'⟩, ⟨⟨_, rfl, AVle.of_eq ?_⟩, ⟨_, rfl, aRfl⟩, ⟨_, rfl, aRfl⟩, ⟨_, rfl, AVle.of_eq ?_⟩, trivial⟩, sSub, by show e.kids.length - (j + 1) < e.kids.length - j; omega⟩
   ·congr 1; exact take_succ_map (fun k => Part.av (.exp k)) hkj
   ·rw [i64_succ (by omega)]
  ·repeat (first | (with_reducible first | apply CW.seq | apply aN | apply aX | apply iH | apply CW.ret | apply CW.exit) | refine wR rfl ?_)
   have hge : e.kids.length ≤ j := by rw [hkl] at h; simpa using h
   refine ⟨_, _, s, rfl, AVle.fro, rowOf_sub hok, ?_, rfl⟩
   rw [List.take_of_length_le hge]
   simp [Part.kids]
theorem factParts_get (l : List FFact) (j : Nat) (k : FFact) (h : l[j]? = some k) : (l.map FFact.av)[j]? = some (.agg k.cells) := by simp [h, FFact.av]

set_option maxRecDepth 10000 in
theorem factParts_spec (e : FFact) (s : Store) (hs : e.size ≤ big) :
  ACalls Tryz.prog 168 [e.av] s (fun o s' => o = .ret (.slc 1 ((Part.fact e).kids.map Part.av) .fro) ∧ s' = s) := by
 have hlen := e.kids_length
 have hk := e.kav_eq
 have hbig : big = 1099511627776 := rfl
 refine ACalls.of_CW tO call168 Tryz.func168 rfl rfl ?_
 repeat (first | (with_reducible first | apply CW.seq | apply aN | apply CW.block) | refine wR rfl ?_)
 refine CW.loop (σ := Nat × Own) (fun q => [(3, .slc 1 ((e.kids.take q.1).map fun k => Part.av (.fact k)) q.2), (8, .slc 6 e.kav .fro), (9, .int .i64 e.kav.length), (10, .int .i64 (q.1 : Int))])
  (fun q => rowOf s 161 1 q.1 q.2) (fun q => q.1 ≤ e.kids.length ∧ OwnOk s q.1 q.2) (fun q => e.kids.length - q.1) (0, .nil) ⟨by simp, trivial⟩ ?_ sSub ?_
 ·exact ⟨⟨_, rfl, AVle.nil (by simp)⟩, ⟨_, rfl, aRfl⟩, ⟨_, rfl, aRfl⟩, ⟨_, rfl, aRfl⟩, trivial⟩
 ·rintro ⟨j, own⟩ ⟨hj, hok⟩
  simp only at hj hok
  have hkl : e.kav.length = e.kids.length := by rw [hk]; simp
  repeat (first | (with_reducible first | apply CW.seq | apply aN) | refine wR rfl ?_)
  refine CW.cond rfl (fun h => ?_) (fun h => ?_)
  ·have hlt : j < e.kids.length := by rw [hkl] at h; simpa using h
   obtain ⟨k, hkj⟩ : ∃ k, e.kids[j]? = some k := ⟨_, List.getElem?_eq_getElem hlt⟩
   repeat (first | (with_reducible first | apply CW.seq | apply aN | apply CW.skip | apply CW.block) | refine CW.reg ?_)
   refine RL.idx tO j rfl rfl rfl rfl rfl rfl rfl rfl rfl rfl rfl (by rw [hk]; exact factParts_get _ _ _ hkj) rfl ?_
   repeat (first | refine wS rfl ?_)
   refine RL.alloc tO rfl rfl rfl rfl rfl rfl rfl (fun b hb => ?_)
   refine RL.storeP tO rfl rfl rfl rfl rfl rfl rfl rfl rfl sSam rfl ?_
   rw [Store.set_set]
   refine RL.freeze 5 b rfl sSam ?_
   rw [Store.del_set _ _ _ hb]
   repeat (first | with_reducible apply aN | refine CW.reg ?_ | refine RL.nil ?_ | refine wS rfl ?_)
   refine RL.append1 tO rfl rfl rfl rfl rfl rfl rfl (by intro k h; cases h) rfl rfl rfl rfl rfl rfl rfl (by simp; omega) (by show (j + 1) * 16 ≤ _; omega) (by omega) rfl hok (fun b' hb' => ?_)
   repeat (first | (with_reducible first | apply aN | apply iN) | refine wR rfl ?_ | refine RL.nil ?_ | refine wS rfl ?_)
   refine ⟨(j + 1, .own b'), ⟨hlt, hb'⟩, ⟨⟨_, rfl, AVle.of_eq ?_⟩, ⟨_, rfl, aRfl⟩, ⟨_, rfl, aRfl⟩, ⟨_, rfl, AVle.of_eq ?_⟩, trivial⟩, sSub, by show e.kids.length - (j + 1) < e.kids.length - j; omega⟩
   ·congr 1; exact take_succ_map (fun k => Part.av (.fact k)) hkj
   ·rw [i64_succ (by omega)]
  ·repeat (first | (with_reducible first | apply CW.seq | apply aN | apply aX | apply iH | apply CW.ret | apply CW.exit) | refine wR rfl ?_)
   have hge : e.kids.length ≤ j := by rw [hkl] at h; simpa using h
   refine ⟨_, _, s, rfl, AVle.fro, rowOf_sub hok, ?_, rfl⟩
   rw [List.take_of_length_le hge]
   simp [Part.kids]
end Go.Proofs.YtaafacnoddjhgaaGreat

/- Contracts of the layer 'shape': the nodes of what has parts. -/
namespace Go.Proofs.YtaafacnoddjhgaaGreat
open Go.AE

theorem methodExp : MethodIs Tryz.prog 126 "consort/shape.parts" 167 := methodIs_of_B (by kernel_rfl)
theorem methodFact : MethodIs Tryz.prog 188 "consort/shape.parts" 168 := methodIs_of_B (by kernel_rfl)

theorem OW.parts {N : Nat} {env : Env} {s : Store} {o : Oper} {g : Operand} {p : Part} (ho : o.op = .call { callee := .invoke g "consort/shape.parts", args := #[], argTypes := #[] }) (hg : ev env g = some p.av) (hs : p.size ≤ big) :
  OW Tryz.prog N o env s (fun r s' => r = .slc 1 (p.kids.map Part.av) .fro ∧ s' = s) (fun _ _ => False) := by
 cases p with
 | exp e => exact (OW.invoke ho hg rfl methodExp (expParts_spec e s hs)).mono (fun x s' ⟨h1, h2⟩ => by cases h1; exact ⟨rfl, h2⟩) (fun x s' ⟨h1, _⟩ => by cases h1)
 | fact e => exact (OW.invoke ho hg rfl methodFact (factParts_spec e s hs)).mono (fun x s' ⟨h1, h2⟩ => by cases h1; exact ⟨rfl, h2⟩) (fun x s' ⟨h1, _⟩ => by cases h1)

def walkAV (l b3 : Nat) : AV := .func 137 [] [.fptr [yieldV l] 0, .ptr b3 0]
def walks (T : TypeId) (l b3 : Nat) (s : Store) : Store := s.set b3 (.box T [walkAV l b3])

def Yields2 (l : Nat) (Go : List (Nat × Part) → Store → Prop) (Done : Store → Prop) (Pan : AV → Store → Prop) : Prop :=
 ∀ d x rem s, Go ((d, x) :: rem) s → ACallV Tryz.prog (yieldV l) [.int .i64 (d : Nat), x.av] s (fun o s' => (o = .ret (.bool true) ∧ Go rem s') ∨ (o = .ret (.bool false) ∧ Done s') ∨ ∃ v, o = .panic v ∧ Pan v s')

def WalkEnds (T : TypeId) (l b3 : Nat) (Go Done : Store → Prop) (Pan : AV → Store → Prop) (o : AOut) (s' : Store) : Prop :=
 ∃ s₁, s₁ b3 = none ∧ s' = walks T l b3 s₁ ∧ ((o = .ret (.bool true) ∧ Go s₁) ∨ (o = .ret (.bool false) ∧ Done s₁) ∨ ∃ v, o = .panic v ∧ Pan v s₁)

theorem yield_walks {T : TypeId} {l b3 : Nat} {Go : List (Nat × Part) → Store → Prop} {Done : Store → Prop} {Pan : AV → Store → Prop} (hY : Yields2 l Go Done Pan) {d : Nat} {x : Part} {rem : List (Nat × Part)} {s : Store} (hg : Go ((d, x) :: rem) s) (h1 : s b3 = none) :
  ACallV Tryz.prog (yieldV l) [.int .i64 (d : Nat), x.av] (walks T l b3 s) (WalkEnds T l b3 (Go rem) Done Pan) := by
 refine (ACallV.frame b3 (.box T [walkAV l b3]) h1 rfl (hY d x rem s hg)).mono ?_
 rintro o s' ⟨s₁, k1, rfl, h⟩
 exact ⟨s₁, k1, rfl, h⟩

set_option maxRecDepth 10000 in
theorem walk_spec (T : TypeId) (l b3 : Nat) (Go : List (Nat × Part) → Store → Prop) (Done : Store → Prop) (Pan : AV → Store → Prop) (hY : Yields2 l Go Done Pan) :
  ∀ (n : Nat) (p : Part) (d : Nat) (rest : List (Nat × Part)) (s : Store), p.size ≤ n → p.size + d ≤ big → Go (p.nodes d ++ rest) s → s b3 = none →
  ACalls Tryz.prog 137 [p.av, .int .i64 (d : Nat), .fptr [yieldV l] 0, .ptr b3 0] (walks T l b3 s) (WalkEnds T l b3 (Go rest) Done Pan) := by
 intro n
 induction n with
 | zero =>
  intro p d rest s hp
  have : 0 < p.size := by cases p with | exp e => exact e.size_pos | fact e => exact e.size_pos
  omega
 | succ n ih =>
  intro p d rest s hp hbig hg h1
  have hb : big = 1099511627776 := rfl
  have hkl := p.kids_length
  rw [Part.nodes_eq] at hg
  refine ACalls.of_CW tO call137 Tryz.func137 rfl rfl ?_
  repeat (first | (with_reducible first | apply CW.seq | apply aN) | refine wR rfl ?_ | refine CW.reg ?_ | refine wS rfl ?_)
  refine RL.callV rfl rfl rfl rfl rfl rfl (yield_walks hY (by simpa using hg) h1) ?_ ?_
  ·rintro x s' ⟨s₁, k1, rfl, h⟩
   rcases h with ⟨⟨⟩, hgo⟩ | ⟨⟨⟩, hdo⟩ | ⟨v, h, -⟩
   ·repeat (first | (with_reducible first | apply CW.seq | apply aN | apply CW.skip) | refine CW.reg ?_ | refine RL.nil ?_ | refine CW.condF rfl ?_ | refine wS rfl ?_)
    refine RL.op rfl rfl rfl (OW.parts rfl rfl (by omega)) ?_ (fun _ _ h => h.elim)
    rintro x s' ⟨rfl, rfl⟩
    repeat (first | (with_reducible first | apply aN | apply CW.block) | refine RL.nil ?_ | refine wS rfl ?_)
    refine CW.loop (σ := Nat × Store) (fun q => [(1, .int .i64 (d : Nat)), (3, .ptr b3 0), (15, .slc 1 (p.kids.map Part.av) .fro), (16, .int .i64 (p.kids.map Part.av).length), (17, .int .i64 (q.1 : Int))]) (fun q => walks T l b3 q.2)
     (fun q => q.1 ≤ p.kids.length ∧ Go ((p.kids.drop q.1).flatMap (Part.nodes (d + 1)) ++ rest) q.2 ∧ q.2 b3 = none) (fun q => p.kids.length - q.1) (0, s₁) ⟨by simp, hgo, k1⟩ ?_ sSub ?_
    ·exact ⟨⟨_, rfl, aRfl⟩, ⟨_, rfl, aRfl⟩, ⟨_, rfl, aRfl⟩, ⟨_, rfl, aRfl⟩, ⟨_, rfl, aRfl⟩, trivial⟩
    ·rintro ⟨j, s₀⟩ ⟨hj, hI, k2⟩
     simp only at hj hI k2
     repeat (first | (with_reducible first | apply CW.seq | apply aN) | refine wR rfl ?_)
     refine CW.cond rfl (fun h => ?_) (fun h => ?_)
     ·have hlt : j < p.kids.length := by simpa using h
      obtain ⟨k, hk⟩ : ∃ k, p.kids[j]? = some k := ⟨_, List.getElem?_eq_getElem hlt⟩
      have hks := Part.kids_size (List.mem_of_getElem? hk)
      have hdrop : p.kids.drop j = k :: p.kids.drop (j + 1) := by rw [List.drop_eq_getElem_cons hlt]; congr; exact (List.getElem?_eq_some_iff.1 hk).2
      rw [hdrop, List.flatMap_cons, List.append_assoc] at hI
      repeat (first | (with_reducible first | apply CW.seq | apply aN | apply CW.skip | apply CW.block) | refine CW.reg ?_)
      refine RL.idx tO j rfl rfl rfl rfl rfl rfl rfl rfl rfl rfl rfl (by rw [List.getElem?_map, hk]; rfl) (cs := [k.av]) (by cases k <;> rfl) ?_
      repeat (first | (with_reducible first | apply CW.seq | apply aN) | refine CW.reg ?_ | refine RL.nil ?_ | refine wS rfl ?_)
      refine RL.loadP tO rfl rfl rfl rfl rfl rfl sSam rfl ?_
      repeat (first | refine wS rfl ?_)
      refine RL.know 24 (v' := .int .i64 ((d + 1 : Nat) : Int)) rfl (by rw [i64_succ (by omega)]) ?_
      refine RL.callV rfl rfl rfl rfl rfl rfl (ACallV.of_calls (ih k (d + 1) _ s₀ (by omega) (by omega) hI k2)) ?_ ?_
      ·rintro x s' ⟨s₁, q1, rfl, h⟩
       rcases h with ⟨⟨⟩, hgo⟩ | ⟨⟨⟩, hdo⟩ | ⟨v, h, -⟩
       ·repeat (first | (with_reducible first | apply aN | apply iN | apply CW.skip) | refine wR rfl ?_ | refine RL.nil ?_ | refine CW.condF rfl ?_ | refine wS rfl ?_)
        refine ⟨(j + 1, s₁), ⟨hlt, hgo, q1⟩, ⟨⟨_, rfl, aRfl⟩, ⟨_, rfl, aRfl⟩, ⟨_, rfl, aRfl⟩, ⟨_, rfl, aRfl⟩, ⟨_, rfl, AVle.of_eq ?_⟩, trivial⟩, sSub, by show p.kids.length - (j + 1) < p.kids.length - j; omega⟩
        rw [i64_succ (by omega)]
       ·repeat (first | (with_reducible first | apply CW.seq | apply aN | apply aR | apply iR | apply CW.ret) | refine wR rfl ?_ | refine RL.nil ?_ | refine CW.condT rfl ?_ | refine wS rfl ?_)
        exact ⟨_, _, _, rfl, aRfl, sSub, s₁, q1, rfl, .inr (.inl ⟨rfl, hdo⟩)⟩
       ·cases h
      ·rintro x s' ⟨s₁, q1, rfl, h⟩
       rcases h with ⟨h, -⟩ | ⟨h, -⟩ | ⟨v, ⟨⟩, hpan⟩
       ·cases h
       ·cases h
       ·repeat (with_reducible first | apply aP | apply iP)
        exact ⟨_, _, aRfl, sSub, s₁, q1, rfl, .inr (.inr ⟨_, rfl, hpan⟩)⟩
     ·repeat (first | (with_reducible first | apply CW.seq | apply aN | apply aX | apply iH | apply CW.ret | apply CW.exit) | refine wR rfl ?_)
      have hge : p.kids.length ≤ j := by simpa using h
      rw [List.drop_of_length_le hge] at hI
      exact ⟨_, _, _, rfl, aRfl, sSub, s₀, k2, rfl, .inl ⟨rfl, hI⟩⟩
   ·repeat (first | (with_reducible first | apply CW.seq | apply aN | apply aR | apply CW.ret) | refine wR rfl ?_ | refine RL.nil ?_ | refine CW.condT rfl ?_ | refine wS rfl ?_)
    exact ⟨_, _, _, rfl, aRfl, sSub, s₁, k1, rfl, .inr (.inl ⟨rfl, hdo⟩)⟩
   ·cases h
  ·rintro x s' ⟨s₁, k1, rfl, h⟩
   rcases h with ⟨h, -⟩ | ⟨h, -⟩ | ⟨v, ⟨⟩, hpan⟩
   ·cases h
   ·cases h
   ·repeat (first | with_reducible apply aP)
    exact ⟨_, _, aRfl, sSub, s₁, k1, rfl, .inr (.inr ⟨_, rfl, hpan⟩)⟩

set_option maxRecDepth 10000 in
theorem nodes1_spec (l : Nat) (Go : List (Nat × Part) → Store → Prop) (Done : Store → Prop) (Pan : AV → Store → Prop) (hY : Yields2 l Go Done Pan) (p : Part) (rest : List (Nat × Part)) (s : Store) (hp : p.size < big) (hg : Go (p.nodes 1 ++ rest) s) :
  ACalls Tryz.prog 136 [yieldV l, .fptr [p.av] 0] s (fun o s' => (o = .ret (.tup []) ∧ (Go rest s' ∨ Done s')) ∨ ∃ v, o = .panic v ∧ Pan v s') := by
 refine ACalls.of_CW tO call136 Tryz.func136 rfl rfl ?_
 repeat (first | (with_reducible first | apply CW.seq | apply aN) | refine wR rfl ?_ | refine CW.reg ?_)
 refine RL.alloc tO rfl rfl rfl rfl rfl rfl rfl (fun b3 hb3 => ?_)
 repeat (first | (with_reducible first | apply CW.seq | apply aN) | refine CW.reg ?_ | refine RL.nil ?_ | refine wS rfl ?_)
 refine RL.storeP tO rfl rfl rfl rfl rfl rfl rfl rfl rfl sSam rfl ?_
 rw [Store.set_set]
 repeat (first | with_reducible apply aN | refine CW.reg ?_ | refine RL.nil ?_)
 refine RL.loadP tO rfl rfl rfl rfl rfl rfl sSam rfl ?_
 repeat (first | refine wS rfl ?_)
 refine RL.callV rfl rfl rfl rfl rfl rfl (ACallV.of_calls (walk_spec _ l b3 Go Done Pan hY p.size p 1 rest s (Nat.le_refl _) (by omega) hg hb3)) ?_ ?_
 ·rintro x s' ⟨s₁, q1, rfl, h⟩
  rcases h with ⟨⟨⟩, hgo⟩ | ⟨⟨⟩, hdo⟩ | ⟨v, h, -⟩
  ·repeat (first | refine RL.nil ?_)
   exact ⟨_, _, s₁, rfl, aRfl, Store.sub_set _ _ _ q1, .inl ⟨rfl, .inl hgo⟩⟩
  ·repeat (first | refine RL.nil ?_)
   exact ⟨_, _, s₁, rfl, aRfl, Store.sub_set _ _ _ q1, .inl ⟨rfl, .inr hdo⟩⟩
  ·cases h
 ·rintro x s' ⟨s₁, q1, rfl, h⟩
  rcases h with ⟨h, -⟩ | ⟨h, -⟩ | ⟨v, ⟨⟩, hpan⟩
  ·cases h
  ·cases h
  ·skip
   exact ⟨_, s₁, aRfl, Store.sub_set _ _ _ q1, .inr ⟨_, rfl, hpan⟩⟩

set_option maxRecDepth 10000 in
theorem nodes_spec (p : Part) (s : Store) :
  ACalls Tryz.prog 106 [p.av] s (fun o s' => o = .ret (.func 136 [] [.fptr [p.av] 0]) ∧ s' = s) := by
 have hc : cellsOf p.av = some [p.av] := by cases p <;> rfl
 refine ACalls.of_CW tO call106 Tryz.func106 rfl rfl ?_
 cases p with
 | exp e =>
  repeat (first | (with_reducible first | apply CW.seq | apply aN | apply CW.ret) | refine wR rfl ?_)
  exact ⟨_, _, _, rfl, aRfl, sSub, rfl, rfl⟩
 | fact e =>
  repeat (first | (with_reducible first | apply CW.seq | apply aN | apply CW.ret) | refine wR rfl ?_)
  exact ⟨_, _, _, rfl, aRfl, sSub, rfl, rfl⟩
end Go.Proofs.YtaafacnoddjhgaaGreat

/- Contracts of the layer 'shape': what gives up; between; what kinds of expressions have. -/
namespace Go.Proofs.YtaafacnoddjhgaaGreat
open Go.AE

def unf : AV := .iface 168 (.agg [])

def Needs (c : Bool) (s : Store) (o : AOut) (s' : Store) : Prop := s' = s ∧ ((c = true ∧ o = .ret (.tup [])) ∨ (c = false ∧ o = .panic unf))

set_option maxRecDepth 10000 in
theorem need_spec (c : Bool) (s : Store) : ACalls Tryz.prog 89 [.bool c] s (Needs c s) := by
 refine ACalls.of_CW tO call89 Tryz.func89 rfl rfl ?_
 cases c with
 | true =>
  repeat (first | (with_reducible first | apply CW.seq | apply aN | apply CW.skip) | refine wR rfl ?_ | refine CW.condF rfl ?_)
  exact ⟨_, _, _, rfl, aRfl, sSub, rfl, .inl ⟨rfl, rfl⟩⟩
 | false =>
  repeat (first | (with_reducible first | apply CW.seq | apply aN) | refine wR rfl ?_ | refine CW.reg ?_ | refine CW.condT rfl ?_ | refine wS rfl ?_)
  refine RL.panic rfl rfl rfl rfl ?_
  skip
  exact ⟨_, _, aRfl, sSub, rfl, .inr ⟨rfl, rfl⟩⟩

def between (n : Int) : Bool := decide (n ≥ -1000000000) && decide (n ≤ 1000000000)

set_option maxRecDepth 10000 in
theorem between_spec (n : Int) (s : Store) : ACalls Tryz.prog 129 [.int .i64 n] s (fun o s' => o = .ret (.bool (between n)) ∧ s' = s) := by
 refine ACalls.of_CW tO call129 Tryz.func129 rfl rfl ?_
 repeat' (first | (with_reducible first | apply CW.seq | apply aN | apply CW.ret) | refine wR rfl ?_ | refine CW.reg ?_ | refine RL.nil ?_ | refine wS rfl ?_ | refine RL.skip rfl rfl rfl ?_ | refine RL.gstepT tO rfl rfl rfl rfl rfl rfl rfl (fun _ => ?_) (fun _ => ?_))
 all_goals refine ⟨_, _, _, rfl, aRfl, sSub, ?_, rfl⟩
 all_goals first | (simp_all [between]; done) | (simp_all [between]; omega)

def shapeL : List (Int × Bool × Int × Int) :=
  [(1, false, 0, 0), (2, false, 0, 0), (18, false, 0, 0), (3, true, 0, 0), (6, true, 0, 0), (4, true, 1, 1), (8, true, 1, 1), (7, true, 2, 2), (9, true, 2, 2), (5, true, 1, 3), (10, false, 3, 3), (17, false, 1, 1), (11, false, 2, 2),
   (12, false, 2, 2), (13, false, 2, 2), (14, false, 2, 2), (15, false, 2, 2), (16, false, 2, 2)]

def shapeA (l : List (Int × Bool × Int × Int)) : List (AV × AV) := l.map fun r => (.int .i64 r.1, .agg [.bool r.2.1, .int .i64 r.2.2.1, .int .i64 r.2.2.2])
def shapeOf (op : Int) : Option (Bool × Int × Int) := (shapeL.find? (fun r => op == r.1)).map (·.2)
def shapeV (r : Bool × Int × Int) : AV := .agg [.bool r.1, .int .i64 r.2.1, .int .i64 r.2.2]

theorem getA_shape (l : List (Int × Bool × Int × Int)) (op : Int) : getA (shapeA l) (.int .i64 op) = some (((l.find? (fun r => op == r.1)).map (·.2)).map shapeV) := by
 induction l with
 | nil => rfl
 | cons r l ih =>
  simp only [shapeA, List.map_cons, getA, keyEq, if_true, List.find?_cons]
  cases h : op == r.1 with
  | true => rfl
  | false => simp only [shapeA] at ih; exact ih

set_option maxRecDepth 10000 in
theorem shapes_spec (s : Store) : ACalls Tryz.prog 140 [] s (fun o s' => ∃ b, s b = none ∧ o = .ret (.map b) ∧ s' = s.set b (.map (shapeA shapeL))) := by
 refine ACalls.of_CW tO call140 Tryz.func140 rfl rfl ?_
 repeat (first | (with_reducible first | apply CW.seq | apply aN) | refine wR rfl ?_ | refine CW.reg ?_)
 refine RL.makeMap rfl rfl rfl rfl (fun b hb => ?_)
 repeat (first
  | refine wS rfl ?_
  | (refine RL.mapUpdate tO rfl rfl (.inr rfl) rfl rfl rfl rfl rfl rfl sSam rfl rfl ?_; rw [Store.set_set]))
 repeat (first | (with_reducible first | apply CW.seq | apply aN | apply CW.block) | refine wR rfl ?_ | refine RL.nil ?_)
 refine CW.loop (σ := Nat) (fun j => [(1, .map b), (2, .int .i64 ((12 + j : Nat) : Int))]) (fun j => s.set b (.map (shapeA (shapeL.take (13 + j))))) (fun j => j ≤ 5) (fun j => 5 - j) 0 (by omega) ?_ ?_ ?_
 ·exact ⟨⟨_, rfl, aRfl⟩, ⟨_, rfl, aRfl⟩, trivial⟩
 ·exact sSub
 ·rintro j hj
  repeat (first | (with_reducible first | apply CW.seq | apply aN) | refine wR rfl ?_)
  refine CW.cond rfl (fun h => ?_) (fun h => ?_)
  ·have hlt : j < 5 := by simp at h; omega
   repeat (first | (with_reducible first | apply CW.seq | apply aN | apply CW.skip | apply CW.block) | refine CW.reg ?_ | refine wS rfl ?_)
   refine RL.mapUpdate tO rfl rfl (.inl rfl) rfl rfl rfl rfl rfl rfl sSam rfl (es' := shapeA (shapeL.take (13 + (j + 1)))) ?_ ?_
   ·have : j = 0 ∨ j = 1 ∨ j = 2 ∨ j = 3 ∨ j = 4 := by omega
    rcases this with rfl | rfl | rfl | rfl | rfl <;> rfl
   rw [Store.set_set]
   repeat (first | (with_reducible first | apply aN | apply iN) | refine wR rfl ?_ | refine RL.nil ?_)
   refine ⟨j + 1, hlt, ⟨⟨_, rfl, aRfl⟩, ⟨_, rfl, AVle.of_eq ?_⟩, trivial⟩, sSub, by omega⟩
   rw [i64_wrap (by omega) (by omega)]; congr 1
  ·repeat (first | (with_reducible first | apply CW.seq | apply aN | apply aX | apply iH | apply CW.ret | apply CW.exit) | refine wR rfl ?_)
   have : j = 5 := by simp at h; omega
   subst this
   exact ⟨_, _, _, rfl, aRfl, sSub, b, hb, rfl, rfl⟩

section
variable {N : Nat} {ops : Array Oper} {Q : AEx → Env → Store → Prop} {env : Env} {s : Store} {l : List Oper} {o : Oper} {d : Nat}

theorem needR {xa : Array Operand} {ats : Array TypeId} {c : Bool} (hg : guardOf ops env o = some true) (hd : o.dst = some d) (hN : Nat.blt d N = true)
  (hop : o.op = .call { callee := .value (.func 89), args := xa, argTypes := ats }) (ha : evs env xa.toList = some [.bool c])
  (hk : c = true → RL Tryz.prog N ops l Q ((d, .tup []) :: env) s) (hx : c = false → Q (.panic unf) env s) : RL Tryz.prog N ops (o :: l) Q env s :=
 RL.call hg hd hN hop ha (need_spec c s) (fun x s' h => by
  obtain ⟨rfl, ⟨hc, h⟩ | ⟨hc, h⟩⟩ := h
  ·cases h; exact hk hc
  ·cases h) (fun x s' h => by
  obtain ⟨rfl, ⟨hc, h⟩ | ⟨hc, h⟩⟩ := h
  ·cases h
  ·cases h; exact hx hc)
end

def shN : Option (Bool × Int × Int) → Bool | some r => r.1 | none => false
def shA : Option (Bool × Int × Int) → Int | some r => r.2.1 | none => 0
def shB : Option (Bool × Int × Int) → Int | some r => r.2.2 | none => 0

theorem gotA_shape (op : Int) : gotA true (.agg [.bool false, .int .i64 0, .int .i64 0]) ((shapeOf op).map shapeV) = .tup [.agg [.bool (shN (shapeOf op)), .int .i64 (shA (shapeOf op)), .int .i64 (shB (shapeOf op))], .bool (shapeOf op).isSome] := by
 cases shapeOf op <;> rfl

def nodeE1 (e : FExp) : Bool := (shapeOf e.op).isSome && (decide ((e.kav.length : Int) ≥ shA (shapeOf e.op)) && (decide ((e.kav.length : Int) ≤ shB (shapeOf e.op)) && (shN (shapeOf e.op) == !(e.text == []))))
def nodeE2 (e : FExp) : Bool := (!shN (shapeOf e.op) || nameS e.text) && (e.n == 0 || (e.op == 1 && between e.n))
def nodeE (e : FExp) : Bool := nodeE1 e && nodeE2 e

set_option maxRecDepth 10000 in
set_option maxHeartbeats 4000000 in
theorem nodeExp_spec (e : FExp) (d : Nat) (s : Store) (ht : e.text.length < 9223372036854775807) :
  ACalls Tryz.prog 114 [(Part.exp e).av, .int .i64 (d : Int)] s (Needs (decide (d ≤ 12) && nodeE e) s) := by
 refine ACalls.of_CW tO call114 Tryz.func114 rfl rfl ?_
 repeat (first | with_reducible apply CW.seq | refine CW.reg ?_ | refine wS rfl ?_)
 refine needR rfl rfl rfl rfl rfl (fun hd => ?_) (fun hd => ?_)
 ·have hd' : d ≤ 12 := by simp at hd; omega
  repeat (first | (with_reducible first | apply CW.seq | apply aN | apply CW.block) | refine wR rfl ?_ | refine CW.reg ?_ | refine RL.nil ?_ | refine CW.condT rfl ?_)
  refine RL.alloc tO rfl rfl rfl rfl rfl rfl rfl (fun b hb => ?_)
  refine RL.storeP tO rfl rfl rfl rfl rfl rfl rfl rfl rfl sSam rfl ?_
  rw [Store.set_set]
  refine RL.freeze 4 b rfl sSam ?_
  rw [Store.del_set _ _ _ hb]
  refine RL.nil (aN ?_)
  refine CW.seqCutX (fun b5 => [(4, .fptr e.cells 0), (5, .ptr b5 0), (6, .bool (shapeOf e.op).isSome)]) (fun b5 => s.set b5 (.box 200 [.bool (shN (shapeOf e.op)), .int .i64 (shA (shapeOf e.op)), .int .i64 (shB (shapeOf e.op))])) (fun b5 => s b5 = none) ?_ ?_
  ·refine CW.drw tO mixed rfl (RD.run rfl ?_)
   refine RD.two (i := 0) (j := 8) rfl rfl rfl rfl rfl rfl rfl rfl rfl rfl (OW.call rfl (fv := .func 140 [] []) rfl rfl (ACallV.of_calls (shapes_spec s))) (OW.alloc tO rfl rfl rfl rfl (X := fun _ _ => False)) ?_ ?_ (fun _ _ ⟨_, _, h, _⟩ => by cases h) (fun _ _ h => h.elim)
   ·rintro x s' ⟨mb, hmb, ⟨⟩, rfl⟩
    refine RD.two (i := 4) (j := 8) rfl rfl rfl rfl rfl rfl rfl rfl rfl rfl (OW.lookup tO rfl rfl rfl rfl rfl rfl rfl (.inl ⟨mb, rfl, sSam⟩) rfl (getA_shape _ _) rfl (X := fun _ _ => False)) (OW.alloc tO rfl rfl rfl rfl (X := fun _ _ => False)) ?_ ?_ (fun _ _ h => h.elim) (fun _ _ h => h.elim)
    ·rintro x s' ⟨hx, rfl⟩
     rw [show x = _ from hx.trans (gotA_shape e.op)]
     refine RD.run rfl ?_
     refine RD.one (i := 8) rfl rfl rfl rfl rfl (OW.alloc tO rfl rfl rfl rfl (X := fun _ _ => False)) ?_ (fun _ _ h => h.elim)
     rintro x s' ⟨b5, hb5, rfl, rfl⟩
     obtain ⟨n1, n2⟩ := Store.set_none hb5
     have hsub : Store.Sub (s.set b5 (.box 200 [.bool (shN (shapeOf e.op)), .int .i64 (shA (shapeOf e.op)), .int .i64 (shB (shapeOf e.op))])) (((s.set mb (.map (shapeA shapeL))).set b5 (.box 200 [.bool false, .int .i64 0, .int .i64 0])).set b5 (.box 200 [.bool (shN (shapeOf e.op)), .int .i64 (shA (shapeOf e.op)), .int .i64 (shB (shapeOf e.op))])) := by
      intro y
      by_cases e1 : y = b5
      ·subst e1; left; rw [Store.set_same, Store.set_same]
      ·rw [Store.set_ne _ _ e1, Store.set_ne _ _ e1, Store.set_ne _ _ e1]
       exact Store.sub_set _ _ _ hmb y
     refine RD.oneN (i := 9) rfl rfl rfl rfl (OW.storeP tO rfl rfl rfl rfl rfl rfl rfl sSam rfl (X := fun _ _ => False)) ?_ (fun _ _ h => h.elim)
     rintro x s' rfl
     refine RD.run rfl (RD.done rfl ?_)
     exact ⟨rfl, b5, n2, ⟨⟨_, rfl, aRfl⟩, ⟨_, rfl, aRfl⟩, ⟨_, rfl, aRfl⟩, trivial⟩, hsub⟩
    ·rintro x s' ⟨b5, hb5, rfl, rfl⟩
     obtain ⟨n1, n2⟩ := Store.set_none hb5
     refine RD.one (i := 4) rfl rfl rfl rfl rfl (OW.lookup tO rfl rfl rfl rfl rfl rfl rfl (.inl ⟨mb, rfl, by rw [Store.set_ne _ _ (Ne.symm n1)]; exact sSam⟩) rfl (getA_shape _ _) rfl (X := fun _ _ => False)) ?_ (fun _ _ h => h.elim)
     rintro x s' ⟨hx, rfl⟩
     rw [show x = _ from hx.trans (gotA_shape e.op)]
     refine RD.run rfl ?_
     have hsub : Store.Sub (s.set b5 (.box 200 [.bool (shN (shapeOf e.op)), .int .i64 (shA (shapeOf e.op)), .int .i64 (shB (shapeOf e.op))])) (((s.set mb (.map (shapeA shapeL))).set b5 (.box 200 [.bool false, .int .i64 0, .int .i64 0])).set b5 (.box 200 [.bool (shN (shapeOf e.op)), .int .i64 (shA (shapeOf e.op)), .int .i64 (shB (shapeOf e.op))])) := by
      intro y
      by_cases e1 : y = b5
      ·subst e1; left; rw [Store.set_same, Store.set_same]
      ·rw [Store.set_ne _ _ e1, Store.set_ne _ _ e1, Store.set_ne _ _ e1]
       exact Store.sub_set _ _ _ hmb y
     refine RD.oneN (i := 9) rfl rfl rfl rfl (OW.storeP tO rfl rfl rfl rfl rfl rfl rfl sSam rfl (X := fun _ _ => False)) ?_ (fun _ _ h => h.elim)
     rintro x s' rfl
     refine RD.run rfl (RD.done rfl ?_)
     exact ⟨rfl, b5, n2, ⟨⟨_, rfl, aRfl⟩, ⟨_, rfl, aRfl⟩, ⟨_, rfl, aRfl⟩, trivial⟩, hsub⟩
   ·rintro x s' ⟨b5, n2, rfl, rfl⟩
    refine RD.call (i := 0) rfl rfl rfl rfl rfl rfl rfl (shapes_spec _) ?_ (fun _ _ ⟨_, _, h, _⟩ => by cases h)
    rintro x s' ⟨mb, hmb, ⟨⟩, rfl⟩
    obtain ⟨n1, n3⟩ := Store.set_none hmb
    refine RD.one (i := 4) rfl rfl rfl rfl rfl (OW.lookup tO rfl rfl rfl rfl rfl rfl rfl (.inl ⟨mb, rfl, sSam⟩) rfl (getA_shape _ _) rfl (X := fun _ _ => False)) ?_ (fun _ _ h => h.elim)
    rintro x s' ⟨hx, rfl⟩
    rw [show x = _ from hx.trans (gotA_shape e.op)]
    refine RD.run rfl ?_
    refine RD.oneN (i := 9) rfl rfl rfl rfl (OW.storeP tO rfl rfl rfl rfl rfl rfl rfl (by rw [Store.set_ne _ _ (Ne.symm n1)]; exact sSam) rfl (X := fun _ _ => False)) ?_ (fun _ _ h => h.elim)
    rintro x s' rfl
    refine RD.run rfl (RD.done rfl ?_)
    refine ⟨rfl, b5, n2, ⟨⟨_, rfl, aRfl⟩, ⟨_, rfl, aRfl⟩, ⟨_, rfl, aRfl⟩, trivial⟩, fun y => ?_⟩
    by_cases e1 : y = b5
    ·subst e1; left; rw [Store.set_same, Store.set_same]; rfl
    ·rw [Store.set_ne _ _ e1, Store.set_ne _ _ e1]
     by_cases e2 : y = mb
     ·subst e2; right; exact n3
     ·left; rw [Store.set_ne _ _ e2, Store.set_ne _ _ e1]
  ·rintro b5 hb5
   refine CW.freeze 5 b5 rfl sSam ?_
   rw [Store.del_set _ _ _ hb5]
   repeat (first | with_reducible apply CW.seq | refine CW.reg ?_ | refine wS rfl ?_)
   refine RL.cut 26 [(4, .fptr e.cells 0), (5, .fptr [.bool (shN (shapeOf e.op)), .int .i64 (shA (shapeOf e.op)), .int .i64 (shB (shapeOf e.op))] 0), (52, .bool (nodeE1 e))] ?_ ?_
   ·repeat' (first | refine RL.nil ?_ | refine wS rfl ?_ | refine RL.skip rfl rfl rfl ?_ | refine RL.gstepT tO rfl rfl rfl rfl rfl rfl rfl (fun _ => ?_) (fun _ => ?_))
    all_goals refine ⟨rfl, ⟨⟨_, rfl, aRfl⟩, ⟨_, rfl, aRfl⟩, ⟨_, rfl, AVle.of_eq ?_⟩, trivial⟩, rfl⟩
    all_goals first | (simp_all [nodeE1]; done) | (simp_all [nodeE1]; intros; omega)
   refine needR rfl rfl rfl rfl rfl (fun h1 => ?_) (fun h1 => ?_)
   ·repeat (first | with_reducible apply aN | refine CW.reg ?_ | refine RL.nil ?_ | refine wS rfl ?_)
    refine RL.cut 23 [(80, .bool (nodeE2 e))] ?_ ?_
    ·repeat' (first | refine RL.nil ?_ | refine wS rfl ?_ | refine RL.skip rfl rfl rfl ?_ | refine RL.gstepT tO rfl rfl rfl rfl rfl rfl rfl (fun _ => ?_) (fun _ => ?_) | refine RL.gstepF tO rfl rfl rfl rfl rfl rfl rfl (fun _ => ?_) (fun _ => ?_) | refine RL.callP rfl rfl rfl rfl rfl (shapeName_spec _ _ ht) ?_ | refine RL.callP rfl rfl rfl rfl rfl (between_spec _ _) ?_)
     all_goals refine ⟨rfl, ⟨⟨_, rfl, AVle.of_eq ?_⟩, trivial⟩, rfl⟩
     all_goals simp_all [nodeE2]
    refine needR rfl rfl rfl rfl rfl (fun h2 => ?_) (fun h2 => ?_)
    ·repeat (first | with_reducible apply iN | refine RL.nil ?_)
     exact ⟨_, _, _, rfl, aRfl, sSub, rfl, .inl ⟨by simp [hd', nodeE, h1, h2], rfl⟩⟩
    ·repeat (first | with_reducible apply iP)
     exact ⟨_, _, aRfl, sSub, rfl, .inr ⟨by simp [nodeE, h2], rfl⟩⟩
   ·repeat (with_reducible first | apply aP | apply iP)
    exact ⟨_, _, aRfl, sSub, rfl, .inr ⟨by simp [nodeE, h1], rfl⟩⟩
 ·repeat (first | with_reducible apply aP)
  exact ⟨_, _, aRfl, sSub, rfl, .inr ⟨by simp at hd; simp; omega, rfl⟩⟩
end Go.Proofs.YtaafacnoddjhgaaGreat

/- Contracts of the layer 'shape': what a node of a fact has to have. -/
namespace Go.Proofs.YtaafacnoddjhgaaGreat
open Go.AE

def atomF (f : FFact) : Bool := (f.op == 2 || f.op == 3) || f.op == 4
def nodeF1 (f : FFact) : Bool := decide (f.op ≥ 1) && decide (f.op ≤ 7) && (atomF f == !(f.name == [])) && (atomF f || (((strs f.path).length : Int) == 0)) && decide (((strs f.path).length : Int) ≤ 2) && ((f.op == 2) == !(f.cls == []))
def nodeF2 (f : FFact) : Bool := ((f.op == 3 || f.op == 4) && between f.n) || f.n == 0
def kidsF (op : Int) : Int := if op == 5 then 1 else if op == 6 || op == 7 then 2 else 0
def nodeF (f : FFact) : Bool := nodeF1 f && nodeF2 f && ((f.kav.length : Int) == kidsF f.op)

set_option maxRecDepth 10000 in
set_option maxHeartbeats 4000000 in
theorem nodeFact_spec (f : FFact) (d : Nat) (s : Store) :
  ACalls Tryz.prog 114 [(Part.fact f).av, .int .i64 (d : Int)] s (Needs (decide (d ≤ 12) && nodeF f) s) := by
 refine ACalls.of_CW tO call114 Tryz.func114 rfl rfl ?_
 repeat (first | with_reducible apply CW.seq | refine CW.reg ?_ | refine wS rfl ?_)
 refine needR rfl rfl rfl rfl rfl (fun hd => ?_) (fun hd => ?_)
 ·have hd' : d ≤ 12 := by simp at hd; omega
  repeat (first | (with_reducible first | apply CW.seq | apply aN | apply CW.block) | refine wR rfl ?_ | refine CW.reg ?_ | refine RL.nil ?_ | refine CW.condT rfl ?_ | refine CW.condF rfl ?_)
  refine RL.alloc tO rfl rfl rfl rfl rfl rfl rfl (fun b hb => ?_)
  refine RL.storeP tO rfl rfl rfl rfl rfl rfl rfl rfl rfl sSam rfl ?_
  rw [Store.set_set]
  refine RL.freeze 7 b rfl sSam ?_
  rw [Store.del_set _ _ _ hb]
  refine RL.nil (aN ?_)
  refine CW.seqCut [(7, .fptr f.cells 0), (8, .bool (atomF f))] s ?_ ?_
  ·repeat' (first | refine CW.reg ?_ | refine RL.nil ?_ | refine wS rfl ?_ | refine RL.skip rfl rfl rfl ?_ | refine RL.gstepF tO rfl rfl rfl rfl rfl rfl rfl (fun _ => ?_) (fun _ => ?_))
   all_goals refine ⟨rfl, ⟨⟨_, rfl, aRfl⟩, ⟨_, rfl, AVle.of_eq ?_⟩, trivial⟩, sSub⟩
   all_goals simp_all [atomF]
  ·repeat (first | with_reducible apply CW.seq | refine CW.reg ?_ | refine wS rfl ?_)
   refine RL.cut 41 [(7, .fptr f.cells 0), (146, .bool (nodeF1 f))] ?_ ?_
   ·repeat' (first | refine RL.nil ?_ | refine wS rfl ?_ | refine RL.skip rfl rfl rfl ?_ | refine RL.gstepT tO rfl rfl rfl rfl rfl rfl rfl (fun _ => ?_) (fun _ => ?_) | refine RL.gstepF tO rfl rfl rfl rfl rfl rfl rfl (fun _ => ?_) (fun _ => ?_))
    all_goals refine ⟨rfl, ⟨⟨_, rfl, aRfl⟩, ⟨_, rfl, AVle.of_eq ?_⟩, trivial⟩, rfl⟩
    all_goals first | (simp_all [nodeF1]; done) | (simp_all [nodeF1]; intros; omega)
   refine needR rfl rfl rfl rfl rfl (fun h1 => ?_) (fun h1 => ?_)
   ·repeat (first | (with_reducible first | apply CW.seq | apply aN) | refine CW.reg ?_ | refine RL.nil ?_ | refine wS rfl ?_)
    refine RL.cut 17 [(7, .fptr f.cells 0), (169, .bool (nodeF2 f))] ?_ ?_
    ·repeat' (first | refine RL.nil ?_ | refine wS rfl ?_ | refine RL.skip rfl rfl rfl ?_ | refine RL.gstepT tO rfl rfl rfl rfl rfl rfl rfl (fun _ => ?_) (fun _ => ?_) | refine RL.gstepF tO rfl rfl rfl rfl rfl rfl rfl (fun _ => ?_) (fun _ => ?_) | refine RL.callP rfl rfl rfl rfl rfl (between_spec _ _) ?_)
     all_goals refine ⟨rfl, ⟨⟨_, rfl, aRfl⟩, ⟨_, rfl, AVle.of_eq ?_⟩, trivial⟩, rfl⟩
     all_goals simp_all [nodeF2]
    refine needR rfl rfl rfl rfl rfl (fun h2 => ?_) (fun h2 => ?_)
    ·repeat (first | (with_reducible first | apply CW.seq | apply aN | apply CW.block) | refine wR rfl ?_ | refine RL.nil ?_)
     cases h5 : (f.op == 5) with
     | true =>
      repeat (first | (with_reducible first | apply aN | apply iN) | refine wR rfl ?_ | refine CW.reg ?_ | refine CW.condT rfl ?_ | refine wS rfl ?_)
      refine needR rfl rfl rfl rfl rfl (fun h3 => ?_) (fun h3 => ?_)
      ·repeat (first | with_reducible apply iN | refine RL.nil ?_)
       exact ⟨_, _, _, rfl, aRfl, sSub, rfl, .inl ⟨by simp_all [nodeF, kidsF], rfl⟩⟩
      ·repeat (first | with_reducible apply iP)
       exact ⟨_, _, aRfl, sSub, rfl, .inr ⟨by simp_all [nodeF, kidsF], rfl⟩⟩
     | false =>
      repeat (first | (with_reducible first | apply CW.seq | apply aN) | refine wR rfl ?_ | refine CW.condF rfl ?_)
      cases h6 : (f.op == 6) with
      | true =>
       repeat (first | (with_reducible first | apply aN | apply iN | apply CW.skip) | refine wR rfl ?_ | refine CW.reg ?_ | refine CW.condT rfl ?_ | refine wS rfl ?_)
       refine needR rfl rfl rfl rfl rfl (fun h3 => ?_) (fun h3 => ?_)
       ·repeat (first | with_reducible apply iN | refine RL.nil ?_)
        exact ⟨_, _, _, rfl, aRfl, sSub, rfl, .inl ⟨by simp_all [nodeF, kidsF], rfl⟩⟩
       ·repeat (first | with_reducible apply iP)
        exact ⟨_, _, aRfl, sSub, rfl, .inr ⟨by simp_all [nodeF, kidsF], rfl⟩⟩
      | false =>
       repeat (first | with_reducible apply aN | refine wR rfl ?_ | refine CW.condF rfl ?_)
       cases h7 : (f.op == 7) with
       | true =>
        repeat (first | (with_reducible first | apply aN | apply iN) | refine wR rfl ?_ | refine CW.reg ?_ | refine CW.condT rfl ?_ | refine wS rfl ?_)
        refine needR rfl rfl rfl rfl rfl (fun h3 => ?_) (fun h3 => ?_)
        ·repeat (first | with_reducible apply iN | refine RL.nil ?_)
         exact ⟨_, _, _, rfl, aRfl, sSub, rfl, .inl ⟨by simp_all [nodeF, kidsF], rfl⟩⟩
        ·repeat (first | with_reducible apply iP)
         exact ⟨_, _, aRfl, sSub, rfl, .inr ⟨by simp_all [nodeF, kidsF], rfl⟩⟩
       | false =>
        repeat (first | (with_reducible first | apply aN | apply iN | apply CW.skip) | refine CW.reg ?_ | refine CW.condF rfl ?_ | refine wS rfl ?_)
        refine needR rfl rfl rfl rfl rfl (fun h3 => ?_) (fun h3 => ?_)
        ·repeat (first | with_reducible apply iN | refine RL.nil ?_)
         exact ⟨_, _, _, rfl, aRfl, sSub, rfl, .inl ⟨by simp_all [nodeF, kidsF], rfl⟩⟩
        ·repeat (first | with_reducible apply iP)
         exact ⟨_, _, aRfl, sSub, rfl, .inr ⟨by simp_all [nodeF, kidsF], rfl⟩⟩
    ·repeat (with_reducible first | apply aP | apply iP)
     exact ⟨_, _, aRfl, sSub, rfl, .inr ⟨by simp [nodeF, h2], rfl⟩⟩
   ·repeat (with_reducible first | apply aP | apply iP)
    exact ⟨_, _, aRfl, sSub, rfl, .inr ⟨by simp [nodeF, h1], rfl⟩⟩
 ·repeat (first | with_reducible apply aP)
  exact ⟨_, _, aRfl, sSub, rfl, .inr ⟨by simp at hd; simp; omega, rfl⟩⟩
end Go.Proofs.YtaafacnoddjhgaaGreat

/- Contracts of the layer 'shape': a string that has to be new in a set. -/
namespace Go.Proofs.YtaafacnoddjhgaaGreat
open Go.AE

set_option maxRecDepth 10000 in
theorem one_spec (x : Str) (l : List Str) (b : Nat) (s : Store) (hs : s b = some (.map (setA l))) (hx : x.length < 9223372036854775807) :
  ACalls Tryz.prog 91 [.str x, .map b] s (fun o s' => ((nameS x && !l.contains x) = true ∧ o = .ret (.tup []) ∧ s' = s.set b (.map (setA (insS l x)))) ∨ ((nameS x && !l.contains x) = false ∧ o = .panic unf ∧ s' = s)) := by
 refine ACalls.of_CW tO call91 Tryz.func91 rfl rfl ?_
 repeat (first | with_reducible apply CW.seq | refine CW.reg ?_ | refine wS rfl ?_)
 refine RL.callP rfl rfl rfl rfl rfl (shapeName_spec x s hx) ?_
 cases hn : nameS x with
 | false =>
  repeat (first | refine wS rfl ?_ | refine RL.skip rfl rfl rfl ?_)
  refine needR rfl rfl rfl rfl rfl (fun h => by cases h) (fun _ => ?_)
  repeat (first | with_reducible apply aP)
  exact ⟨_, _, aRfl, sSub, .inr ⟨rfl, rfl, rfl⟩⟩
 | true =>
  repeat (first | refine wS rfl ?_)
  refine RL.lookup tO rfl rfl rfl rfl rfl rfl rfl rfl rfl rfl hs rfl (getA_set _ _) rfl ?_
  rw [gotA_set]
  repeat (first | refine wS rfl ?_)
  refine needR rfl rfl rfl rfl rfl (fun h => ?_) (fun h => ?_)
  ·repeat (first | with_reducible apply aN | refine CW.reg ?_ | refine RL.nil ?_ | refine wS rfl ?_)
   refine RL.mapUpdate tO rfl rfl (.inl rfl) rfl rfl rfl rfl rfl rfl hs rfl (putA_set _ _) ?_
   repeat (first | refine RL.nil ?_)
   exact ⟨_, _, _, rfl, aRfl, sSub, .inl ⟨by rw [h]; rfl, rfl, rfl⟩⟩
  ·repeat (first | with_reducible apply aP)
   exact ⟨_, _, aRfl, sSub, .inr ⟨by rw [h]; rfl, rfl, rfl⟩⟩
end Go.Proofs.YtaafacnoddjhgaaGreat

/- Contracts of the layer 'shape': what gives up is caught. -/
namespace Go.Proofs.YtaafacnoddjhgaaGreat
open Go.AE

theorem run_store1 (b : Nat) (w : World) (vs : Array Value) (hc : w.heap[b]? = some (.cells vs 4 (0, 0))) (hs : vs.size = 1) (x : Bool) :
  (Instr.storeAt 4 (.pointer (some ⟨b, 0, none⟩)) (.bool x)).run Tryz.prog w = .ok () (w.setRow b #[.bool x]) := by
 have hst := run_storeCells_at Tryz.prog b 0 4 [.bool x] 0 vs w hc (by simp [hs]) (by simp [Value.oneCell'])
 obtain ⟨info, d, g1, g2, g3, g4, -⟩ := tO.parts (t := 4) (i := ⟨.bool, 1, 1, .bool false⟩) rfl
 have hv : (vs.toList.take 0 ++ [Value.bool x] ++ vs.toList.drop (0 + [Value.bool x].length)).toArray = #[.bool x] := by
  have : vs.toList.length = 1 := by simpa using hs
  rw [List.drop_eq_nil_of_le (by simp [hs])]
  rfl
 rw [Nat.zero_add, hv] at hst
 simp only [Instr.storeAt, Instr.sureAddr, storeVar, sizeOf, typeInfo, Sem.run_bind, Sem.run_pure, Result.andThen_ok, run_program, g1]
 rw [if_neg (by rw [g4]; simp [Value.cells])]
 exact hst

theorem catch_idle (b : Nat) (w : World) :
  CallsD Tryz.prog 113 #[.pointer (some ⟨b, 0, none⟩)] .returning w fun e u' w' => e = .returned (.tuple #[]) ∧ u' = .returning ∧ w' = w := by
 have hnil : ∀ w : World, (binOp BinOp.neq 20 .nilIface .nilIface).run Tryz.prog w = .ok (.bool false) w := fun _ => by kernel_rfl
 refine callsD_of_wpS Tryz.func113 rfl fun c₀ cs hu => ?_
 apply wpS_seq
 apply wpS_region
 simp [wpOpsS, go_sem, recoverD, hu, Tryz.ntmps113, Exit.thenS]
 apply wpS_seq
 apply wpS_region
 simp [wpOpsS, go_sem, Exit.thenS, hnil]
 refine wpS_cond (t := false) (by simp [Act.eval, Array.replicate]) ?_
 simp only [Bool.false_eq_true, if_false]
 refine wpS_of_wp (wp_skip ?_)
 cases c₀
 simp_all [bodyPostS, results, Tryz.results113, Exit.thenS]

def unfV : Value := .iface 168 (.agg #[])

theorem catch_hit (b : Nat) (w : World) (vs : Array Value) (hc : w.heap[b]? = some (.cells vs 4 (0, 0))) (hs : vs.size = 1) :
  CallsD Tryz.prog 113 #[.pointer (some ⟨b, 0, none⟩)] (.panicking [{ v := unfV, recovered := false }]) w
   fun e u' w' => e = .returned (.tuple #[]) ∧ u' = .panicking [{ v := unfV, recovered := true }] ∧ w' = (w.alloc (.cells #[] 168)).setRow b #[.bool false] := by
 have hneq : ∀ w : World, (binOp BinOp.neq 20 unfV .nilIface).run Tryz.prog w = .ok (.bool true) w := fun _ => by kernel_rfl
 have hta : ∀ w : World, (Instr.typeAssert unfV 20 168 true).run Tryz.prog w = .ok (.tuple #[.agg #[], .bool true]) w := fun _ => by kernel_rfl
 refine callsD_of_wpS Tryz.func113 rfl fun c₀ cs hu => ?_
 apply wpS_seq
 apply wpS_region
 simp [wpOpsS, go_sem, recoverD, hu, Tryz.ntmps113, Exit.thenS]
 apply wpS_seq
 apply wpS_region
 simp [wpOpsS, go_sem, Exit.thenS, hneq]
 refine wpS_cond (t := true) (by simp [Act.eval, Act.put]) ?_
 simp only [if_true]
 apply wpS_seq
 apply wpS_seq
 apply wpS_region
 simp [wpOpsS, go_sem, Exit.thenS, hta]
 apply wpS_seq
 apply wpS_region
 simp [wpOpsS, go_sem, Exit.thenS]
 refine wpS_cond (t := false) (by simp [Act.eval, Act.put]) ?_
 simp only [Bool.false_eq_true, if_false]
 refine wpS_of_wp (wp_skip ?_)
 simp only [Exit.thenS]
 apply wpS_region
 have hb : b < w.heap.size := (Array.getElem?_eq_some_iff.1 hc).1
 have hst := run_store1 b (w.alloc (.cells #[] 168)) vs ((heap_alloc_lt w _ b hb).trans hc) hs false
 simp [wpOpsS, execOp, Act.eval, Act.put, Region.wanted, Exit.thenS, Sem.run_bind, hst, Oper.upon]
 cases c₀
 simp_all [bodyPostS, results, Tryz.results113, Exit.thenS]

theorem after_box {s s1 : Store} {w w1 : World} {p p1 : Prot} (hle : Le w p w1 p1) (hk : Kept s s1 w p w1 p1) (hwf : Wf w1 p1 s1) (hbox : ∃ v, w1.heap[w.heap.size]? = some (.cells #[Value.bool v] 4 (0, 0)))
  (hp : ∀ o, ¬ p1 w.heap.size o) (hs : s1 w.heap.size = none) (x : Bool) :
  Le w p (w1.setRow w.heap.size #[.bool x]) p1 ∧ Kept s s1 w p (w1.setRow w.heap.size #[.bool x]) p1 ∧ Wf (w1.setRow w.heap.size #[.bool x]) p1 s1 ∧
   (w1.setRow w.heap.size #[.bool x]).heap[w.heap.size]? = some (.cells #[Value.bool x] 4 (0, 0)) := by
 obtain ⟨v, hbox⟩ := hbox
 have hsub : Store.Sub s1 (s1.set w.heap.size (.box 4 [.bool v])) := Store.sub_set _ _ _ hs
 have hwf' : Wf w1 p1 (s1.set w.heap.size (.box 4 [.bool v])) := by
  refine ⟨fun b o hb => ?_, hwf.lt⟩
  by_cases e : b = w.heap.size
  ·subst e; rw [Store.set_same] at hb; cases hb
   exact ⟨_, hbox, .cons _ _ _ _ (.bool v) .nil, hp⟩
  ·rw [Store.set_ne _ _ e] at hb; exact hwf.obj b o hb
 obtain ⟨k1, k2, k3⟩ := box_write hwf' sSam (vs' := #[.bool x]) (cs' := [.bool x]) (fun vs hv => by rw [hbox] at hv; cases hv; rfl) (.cons _ _ _ _ (.bool x) .nil) _ rfl
 have hheap : ∀ b, b ≠ w.heap.size → (w1.setRow w.heap.size #[.bool x]).heap[b]? = w1.heap[b]? := by
  intro b hb
  simp only [World.setRow]
  rw [Array.getElem?_modify, if_neg (Ne.symm hb)]
 have hlt : w.heap.size < w1.heap.size := (Array.getElem?_eq_some_iff.1 hbox).1
 refine ⟨hle.trans k1, ⟨fun b hb hn => (hheap b (by omega)).trans (hk.heap b hb hn), hk.dom, hk.prot⟩, k3.sub (fun b => ?_), ?_⟩
 ·by_cases e : b = w.heap.size
  ·subst e; exact .inr hs
  ·left; rw [Store.set_ne _ _ e, Store.set_ne _ _ e]
 ·simp only [World.setRow]
  rw [Array.getElem?_modify, if_pos rfl, hbox]; rfl

theorem setCell_row {w : World} {b : Nat} {v x : Value} {T : TypeId} (h : w.heap[b]? = some (.cells #[v] T (0, 0))) : w.setCell ⟨b, 0, none⟩ x = w.setRow b #[x] := by
 simp only [World.setCell, World.setRow]
 congr 1
 refine Array.ext_getElem? fun i => ?_
 rw [Array.getElem?_modify, Array.getElem?_modify]
 by_cases e : b = i
 ·subst e; rw [if_pos rfl, if_pos rfl, h]; rfl
 ·rw [if_neg e, if_neg e]

theorem rel_unf {w : World} {p : Prot} {v : Value} (h : Rel w p v unf) : v = unfV := by
 cases h with
 | iface _ v x h =>
  cases h with
  | agg cs xs h =>
   have := h.length
   have : cs = #[] := by simpa using this
   subst this; rfl

def Tries (Ok Bad : Store → Prop) (o : AOut) (s' : Store) : Prop := (o = .ret (.tup []) ∧ Ok s') ∨ (o = .panic unf ∧ Bad s')
def Formed (Ok Bad : Store → Prop) (o : AOut) (s' : Store) : Prop := (o = .ret (.bool true) ∧ Ok s') ∨ (o = .ret (.bool false) ∧ Bad s')

set_option maxRecDepth 10000 in
theorem formed_spec (f : FuncId) (cap : List AV) (s : Store) (Ok Bad : Store → Prop) (h : ACalls Tryz.prog f cap s (Tries Ok Bad)) :
  ACalls Tryz.prog 78 [.func f [] cap] s (Formed Ok Bad) := by
 refine ⟨call78, fun w p vs hwf hrel => ?_⟩
 cases hrel with
 | cons v _ vs _ hv ht =>
 cases ht
 cases hv with
 | func _ fa cs _ _ ha hc =>
 have hcall := h.1
 obtain rfl : fa = #[] := by have := ha.length; simpa using this
 unfold CallsX
 go_enter_defers Tryz.func78, Tryz.ntmps78
 go_wp2_with fail
 obtain ⟨hn, hle, hk, hwf0⟩ := new_obj hwf (.cells #[Value.bool false] 4) (.box 4 [.bool false]) (fun w' h1 h2 h3 => ⟨#[.bool false], h1, h3 _ _ (.cons _ _ _ _ (.bool false) .nil), fun o hp => absurd (hwf.lt _ _ hp) (by omega)⟩)
 have hlt : w.heap.size < (w.alloc (.cells #[Value.bool false] 4)).heap.size := by simp
 have hsub : Store.Sub s (s.set w.heap.size (.box 4 [.bool false])) := Store.sub_set _ _ _ hn
 rw [hcall]
 have hcc := h.2 _ p cs.toList (hwf0.sub hsub) (hc.mono hle)
 rw [Array.toArray_toList] at hcc
 show Calls _ _ _ _ _
 refine Calls.mono hcc ?_
 rintro e w1 ⟨hno, o, s1, p1, h1, h2, h3, h4, h5⟩
 have hbox : w1.heap[w.heap.size]? = some (.cells #[Value.bool false] 4 (0, 0)) := (h4.heap _ hlt hn).trans (heap_alloc_here _ _)
 have hs1 : s1 w.heap.size = none := h4.dom _ hlt hn
 have hpA : ∀ o, ¬ p1 w.heap.size o := fun o hp => absurd (hwf.lt _ _ (h4.prot _ _ hlt hn hp)) (by omega)
 have hkA : Kept s s w p (w.alloc (.cells #[Value.bool false] 4)) p := hk.sub hsub
 rcases h2 with ⟨rfl, hok⟩ | ⟨rfl, hbad⟩
 ·cases e with
  | returned r =>
   have hcell : w1.cell? ⟨w.heap.size, 0, none⟩ = some (.bool false) := by rw [cells_of_box hbox]; rfl
   have hfro : w1.frozen? ⟨w.heap.size, 0, none⟩ = false := by simp [World.frozen?, hbox]
   go_wp2
   rw [setCell_row hbox]
   obtain ⟨q1, q2, q3, q4⟩ := after_box (hle.trans h3) (hkA.trans hle.size h4) h5 ⟨_, hbox⟩ hpA hs1 true
   have hcell2 : (w1.setRow w.heap.size #[Value.bool true]).cell? ⟨w.heap.size, 0, none⟩ = some (.bool true) := by rw [cells_of_box q4]; rfl
   refine leaves_cons (f := 113) (args := #[.pointer (some ⟨w.heap.size, 0, none⟩)]) (by simp) (by simp [go_sem]) ?_
   refine (catch_idle w.heap.size _).mono ?_
   rintro e u' w'' ⟨rfl, rfl, rfl⟩
   refine ⟨.bool true, by simp [results, Tryz.results78, go_sem, hcell2], by simp, .ret (.bool true), s1, p1, .bool true, .inl ⟨rfl, hok⟩, q1, q2, q3⟩
  | panicked ch => exact h1.elim
  | outgrown => exact absurd rfl hno
 ·cases e with
  | returned r => exact h1.elim
  | panicked ch =>
   obtain ⟨v, rfl, hv⟩ := h1
   obtain rfl : v = unfV := rel_unf hv
   obtain ⟨m1, m2, m3, m4⟩ := new_obj h5 (.cells #[] 168) (.box 168 []) (fun w' h1 h2 h3 => ⟨#[], h1, h3 _ _ .nil, fun o hp => absurd (h5.lt _ _ hp) (by omega)⟩)
   have hlt1 : w.heap.size < w1.heap.size := (Array.getElem?_eq_some_iff.1 hbox).1
   have hbox' := (heap_alloc_lt w1 (.cells #[] 168) _ hlt1).trans hbox
   obtain ⟨q1, q2, q3, q4⟩ := after_box ((hle.trans h3).trans m2) ((hkA.trans hle.size h4).trans (hle.trans h3).size (m3.sub (Store.sub_set _ _ _ m1))) (m4.sub (Store.sub_set _ _ _ m1)) ⟨_, hbox'⟩ hpA hs1 false
   have hcell2 : ((w1.alloc (.cells #[] 168)).setRow w.heap.size #[Value.bool false]).cell? ⟨w.heap.size, 0, none⟩ = some (.bool false) := by rw [cells_of_box q4]; rfl
   show Leaves _ _ _ _ _ _ _
   refine leaves_cons (f := 113) (args := #[.pointer (some ⟨w.heap.size, 0, none⟩)]) (by simp) (by simp [go_sem]) ?_
   refine (catch_hit w.heap.size _ _ hbox rfl).mono ?_
   rintro e u' w'' ⟨rfl, rfl, rfl⟩
   refine ⟨.bool false, by simp [results, Tryz.results78, go_sem, hcell2], by simp, .ret (.bool false), s1, p1, .bool false, .inr ⟨rfl, hbad⟩, q1, q2, q3⟩
  | outgrown => exact absurd rfl hno
end Go.Proofs.YtaafacnoddjhgaaGreat

/- Contracts of the layer 'shape': a range over the nodes of what has parts; looking at them. -/
namespace Go.Proofs.YtaafacnoddjhgaaGreat
open Go.AE

section
variable {N : Nat} {Q : AEx → Env → Store → Prop} {env : Env} {s : Store}

theorem CW.rangeNodes {g : Operand} {asg body : Code} {a b : Tmp} (p : Part) (hg : ev env g = some (.func 136 [] [.fptr [p.av] 0])) (ha : Nat.blt a N = true) (hb : Nat.blt b N = true) (hp : p.size < big)
  (I : List (Nat × Part) → Store → Prop) (J : Code → Store → Prop) (X : AV → Store → Prop) (h0 : I (p.nodes 1) s)
  (round : ∀ d x rem s₁, (d, x) ∈ p.nodes 1 → I ((d, x) :: rem) s₁ → CW Tryz.prog N asg (AEx.andThen (CW Tryz.prog N body (RoundQ (I rem) J X)) (fun _ _ _ => False)) ((b, x.av) :: (a, .int .i64 (d : Nat)) :: env) s₁)
  (hend : ∀ s', I [] s' → Q .normal env s') (hj : ∀ j s', J j s' → CW Tryz.prog N j Q env s') (hx : ∀ v s', X v s' → Q (.panic v) env s') :
  CW Tryz.prog N (.rangeFunc g #[a, b] asg body) Q env s := by
 refine CW.rangeF (f := 136) (first := []) (cap := [.fptr [p.av] 0]) hg (by
  intro t ht
  simp at ht
  rcases ht with rfl | rfl
  ·simpa [Nat.blt_eq] using ha
  ·simpa [Nat.blt_eq] using hb) ?_
 intro l r hl hyield
 have hcall := nodes1_spec l (fun rem s' => (∃ pre, p.nodes 1 = pre ++ rem) ∧ ∃ s₂, s₂ l = none ∧ s' = s₂.set l (.loop r env) ∧ I rem s₂) (fun s' => ∃ j s₂, s₂ l = none ∧ s' = s₂.set l (.loop (over r j) env) ∧ J j s₂)
  (fun v s' => ∃ s₂, s₂ l = none ∧ s' = s₂.set l (.loop (busy r) env) ∧ X v s₂) ?_ p [] (s.set l (.loop r env)) hp ⟨⟨[], by simp⟩, s, hl, rfl, by simpa using h0⟩
 ·refine hcall.mono ?_
  rintro o s' (⟨rfl, ⟨-, s₂, k1, rfl, k2⟩ | ⟨j, s₂, k1, rfl, k2⟩⟩ | ⟨v, rfl, s₂, k1, rfl, k2⟩)
  ·exact .inl ⟨s₂, k1, rfl, hend _ k2⟩
  ·exact .inr ⟨j, s₂, k1, rfl, hj _ _ k2⟩
  ·exact ⟨s₂, _, k1, rfl, hx _ _ k2⟩
 ·rintro d x rem s' ⟨⟨pre, hpre⟩, s₂, k1, rfl, k2⟩
  have hm : (d, x) ∈ p.nodes 1 := by rw [hpre]; simp
  refine (hyield [.int .i64 (d : Nat), x.av] _ (I rem) J X sSam rfl ?_).mono ?_
  ·rw [Store.del_set _ _ _ k1]
   exact round d x rem s₂ hm k2
  ·rintro o s' (⟨rfl, s₃, q1, rfl, q2⟩ | ⟨rfl, j, s₃, q1, rfl, q2⟩ | ⟨v, s₃, rfl, q1, rfl, q2⟩)
   ·exact .inl ⟨rfl, ⟨pre ++ [(d, x)], by simp [hpre]⟩, s₃, q1, rfl, q2⟩
   ·exact .inr (.inl ⟨rfl, j, s₃, q1, rfl, q2⟩)
   ·exact .inr (.inr ⟨v, rfl, s₃, q1, rfl, q2⟩)
end

def nodeP : Part → Bool
 | .exp e => nodeE e
 | .fact f => nodeF f

def Part.short : Part → Prop
 | .exp e => e.text.length < 9223372036854775807
 | .fact _ => True

theorem node_spec (p : Part) (d : Nat) (s : Store) (ht : p.short) : ACalls Tryz.prog 114 [p.av, .int .i64 (d : Int)] s (Needs (decide (d ≤ 12) && nodeP p) s) := by
 cases p with
 | exp e => exact nodeExp_spec e d s ht
 | fact f => exact nodeFact_spec f d s

def nodeOk (x : Nat × Part) : Bool := decide (x.1 ≤ 12) && nodeP x.2

def lookB (p : Part) (most : Nat) : Bool := decide ((p.nodes 1).length ≤ most) && (p.nodes 1).all nodeOk

def Part.Short (p : Part) : Prop := ∀ x ∈ p.nodes 1, x.2.short

theorem FExp.sizes_eq : ∀ l : List FExp, FExp.sizes l = (l.map FExp.size).sum
 | [] => by simp [FExp.sizes]
 | k :: l => by rw [FExp.sizes, FExp.sizes_eq l]; simp
theorem FFact.sizes_eq : ∀ l : List FFact, FFact.sizes l = (l.map FFact.size).sum
 | [] => by simp [FFact.sizes]
 | k :: l => by rw [FFact.sizes, FFact.sizes_eq l]; simp
theorem Part.size_eq (p : Part) : p.size = 1 + (p.kids.map Part.size).sum := by
 cases p with
 | exp e => cases e with | mk o n t ks => simp only [Part.size, Part.kids, FExp.size, FExp.sizes_eq, FExp.kids, List.map_map]; rfl
 | fact e => cases e with | mk o a b c n ks => simp only [Part.size, Part.kids, FFact.size, FFact.sizes_eq, FFact.kids, List.map_map]; rfl

theorem Part.nodes_size : ∀ (n : Nat) (p : Part) (d : Nat), p.size ≤ n → (p.nodes d).length = p.size := by
 intro n
 induction n with
 | zero => intro p d h; rw [Part.size_eq] at h; omega
 | succ n ih =>
  intro p d h
  rw [Part.nodes_eq, List.length_cons, List.length_flatMap, Part.size_eq, Nat.add_comm]
  congr 2
  refine List.map_congr_left fun k hk => ih k _ ?_
  have := Part.kids_size hk; omega

set_option maxRecDepth 10000 in
theorem look_spec (p : Part) (most : Nat) (s : Store) (hp : p.size < big) (hs : p.Short) (hm : most < 9223372036854775807) :
  ACalls Tryz.prog 80 [p.av, .int .i64 (most : Int)] s (fun o s' => s' = s ∧ ((lookB p most = true ∧ o = .ret (.int .i64 (p.size : Int))) ∨ (lookB p most = false ∧ o = .panic unf))) := by
 have hb : big = 1099511627776 := rfl
 have hlen := p.nodes_size _ 1 (Nat.le_refl _)
 refine ACalls.of_CW tO call80 Tryz.func80 rfl rfl ?_
 repeat (first | (with_reducible first | apply CW.seq | apply aN) | refine wR rfl ?_ | refine CW.reg ?_)
 refine RL.alloc tO rfl rfl rfl rfl rfl rfl rfl (fun b5 hb5 => ?_)
 refine RL.storeP tO rfl rfl rfl rfl rfl rfl rfl rfl rfl sSam rfl ?_
 rw [Store.set_set]
 repeat (first | (with_reducible first | apply CW.seq | apply aN) | refine CW.reg ?_ | refine RL.nil ?_ | refine wS rfl ?_)
 refine RL.callP rfl rfl rfl rfl rfl (nodes_spec p _) ?_
 repeat (first | (with_reducible first | apply aN | apply CW.block) | refine RL.nil ?_)
 refine CW.rangeNodes p rfl rfl rfl hp (fun rem s' => rem.length ≤ p.size ∧ s' = s.set b5 (.box 3 [.int .i64 ((p.size - rem.length : Nat) : Int)]) ∧ p.size - rem.length ≤ most ∧ lookB p most = (rem.all nodeOk && decide (p.size ≤ most)))
  (fun _ _ => False) (fun v s' => v = unf ∧ lookB p most = false ∧ ∃ x, s' = s.set b5 x) ?_ ?_ ?_ ?_ ?_
 ·refine ⟨by omega, by rw [hlen, Nat.sub_self]; rfl, by omega, ?_⟩
  rw [lookB, hlen, Bool.and_comm]
 ·rintro d x rem s₁ hmem ⟨h1, rfl, h2, h3⟩
  simp only [List.length_cons] at h1 h2
  repeat (first | (with_reducible first | apply CW.seq | apply aN | apply CW.block) | refine wR rfl ?_ | refine CW.reg ?_ | refine RL.nil ?_ | refine wS rfl ?_ | refine RL.loadP tO rfl rfl rfl rfl rfl rfl sSam rfl ?_ | (refine RL.storeP tO rfl rfl rfl rfl rfl rfl rfl rfl rfl sSam rfl ?_; try with_reducible rw [Store.set_set]))
  have he : IntKind.wrap .i64 (((p.size - ((d, x) :: rem).length : Nat) : Int) + 1) = ((p.size - rem.length : Nat) : Int) := by
   rw [i64_wrap (by simp; omega) (by simp; omega)]; simp; omega
  simp only [he, setL]
  refine needR rfl rfl rfl rfl rfl (fun h4 => ?_) (fun h4 => ?_)
  ·repeat (first | with_reducible apply aN | refine CW.reg ?_ | refine RL.nil ?_ | refine wS rfl ?_)
   refine RL.call rfl rfl rfl rfl rfl (node_spec x d _ (hs _ hmem)) ?_ ?_
   ·rintro y s' ⟨rfl, ⟨h5, ⟨⟩⟩ | ⟨-, h⟩⟩
    ·repeat (first | with_reducible apply iN | refine RL.nil ?_)
     refine ⟨by omega, rfl, by simpa using h4, ?_⟩
     rw [h3, List.all_cons, show nodeOk (d, x) = true from h5, Bool.true_and]
    ·cases h
   ·rintro y s' ⟨rfl, ⟨-, h⟩ | ⟨h5, ⟨⟩⟩⟩
    ·cases h
    ·repeat (first | with_reducible apply iP)
     refine ⟨rfl, ?_, _, rfl⟩
     rw [h3, List.all_cons, show nodeOk (d, x) = false from h5]; rfl
  ·repeat (with_reducible first | apply aP | apply iP)
   refine ⟨rfl, ?_, _, rfl⟩
   have : ¬ p.size ≤ most := by simp at h4; omega
   rw [h3, decide_eq_false this, Bool.and_false]
 ·rintro s' ⟨-, rfl, h2, h3⟩
  repeat (first | (with_reducible first | apply CW.seq | apply aN | apply iN | apply CW.ret) | refine CW.reg ?_ | refine RL.nil ?_ | refine wS rfl ?_ | refine RL.loadP tO rfl rfl rfl rfl rfl rfl sSam rfl ?_)
  refine ⟨_, _, s, rfl, aRfl, Store.sub_set _ _ _ hb5, rfl, .inl ⟨?_, by simp⟩⟩
  simp [h3]; simpa using h2
 ·intro j s' h; exact h.elim
 ·rintro v s' ⟨rfl, h1, x, rfl⟩
  repeat (with_reducible first | apply aP | apply iP)
  exact ⟨_, s, aRfl, Store.sub_set _ _ _ hb5, rfl, .inr ⟨h1, rfl⟩⟩
end Go.Proofs.YtaafacnoddjhgaaGreat

/- Contracts of the layer 'shape': which expressions and facts are formed; depths. -/
namespace Go.Proofs.YtaafacnoddjhgaaGreat
open Go.AE

theorem drop_cons {α : Type} {l : List α} {j : Nat} {x : α} (h : l[j]? = some x) : l.drop j = x :: l.drop (j + 1) := by
 have hlt := (List.getElem?_eq_some_iff.1 h).1
 rw [List.drop_eq_getElem_cons hlt]; congr; exact (List.getElem?_eq_some_iff.1 h).2

def goodB (e : FExp) : Bool := lookB (.exp e) 120

structure FExp.Fair (e : FExp) : Prop where
 size : e.size < big
 short : (Part.exp e).Short

theorem lookE_spec (e : FExp) (s : Store) (h : e.Fair) :
  ACalls Tryz.prog 79 [.fptr e.cells 0] s (Tries (fun s' => goodB e = true ∧ s' = s) (fun s' => goodB e = false ∧ s' = s)) := by
 refine ACalls.of_CW tO call79 Tryz.func79 rfl rfl ?_
 repeat (first | refine CW.reg ?_ | refine wS rfl ?_)
 refine RL.call rfl rfl rfl rfl rfl (look_spec (.exp e) 120 s h.size h.short (by decide)) ?_ ?_
 ·rintro x s' ⟨rfl, ⟨h1, ⟨⟩⟩ | ⟨-, h1⟩⟩
  ·repeat (first | refine RL.nil ?_)
   exact ⟨_, _, _, rfl, aRfl, sSub, .inl ⟨rfl, h1, rfl⟩⟩
  ·cases h1
 ·rintro x s' ⟨rfl, ⟨-, h1⟩ | ⟨h1, ⟨⟩⟩⟩
  ·cases h1
  ·skip
   exact ⟨_, _, aRfl, sSub, .inr ⟨rfl, h1, rfl⟩⟩

set_option maxRecDepth 10000 in
theorem good_spec (e : FExp) (s : Store) (h : e.Fair) : ACalls Tryz.prog 41 [e.av] s (fun o s' => o = .ret (.bool (goodB e)) ∧ s' = s) := by
 refine ACalls.of_CW tO call41 Tryz.func41 rfl rfl ?_
 repeat (first | (with_reducible first | apply CW.seq | apply aN) | refine wR rfl ?_ | refine CW.reg ?_ | refine wS rfl ?_)
 refine RL.callP (v := .bool (goodB e)) rfl rfl rfl rfl rfl ((formed_spec _ [.fptr e.cells 0] s _ _ (lookE_spec e s h)).mono ?_) ?_
 ·rintro o s' (⟨rfl, h1, rfl⟩ | ⟨rfl, h1, rfl⟩)
  ·exact ⟨by rw [h1], rfl⟩
  ·exact ⟨by rw [h1], rfl⟩
 repeat (first | (with_reducible first | apply aN | apply CW.ret) | refine RL.nil ?_ | refine wS rfl ?_)
 exact ⟨_, _, _, rfl, aRfl, sSub, rfl, rfl⟩

def err (ok : Bool) : AV := .int .i64 (if ok then 0 else 2)

/-! ### All strings of a list are so -/

def idxBy (f : Str → Bool) (l : List Str) (j : Nat) : Int := match (l.drop j).findIdx? f with
 | some k => ((j + k : Nat) : Int)
 | none => -1

theorem idxBy_hit {f : Str → Bool} {l : List Str} {j : Nat} {y : Str} (hy : l[j]? = some y) (h : f y = true) : idxBy f l j = (j : Int) := by
 simp [idxBy, drop_cons hy, List.findIdx?_cons, h]
theorem idxBy_miss {f : Str → Bool} {l : List Str} {j : Nat} {y : Str} (hy : l[j]? = some y) (h : f y = false) : idxBy f l j = idxBy f l (j + 1) := by
 simp only [idxBy, drop_cons hy, List.findIdx?_cons, h]
 cases (l.drop (j + 1)).findIdx? f <;> simp [Nat.add_assoc, Nat.add_comm 1]
theorem idxBy_end {f : Str → Bool} {l : List Str} {j : Nat} (h : l.length ≤ j) : idxBy f l j = -1 := by
 simp [idxBy, List.drop_eq_nil_of_le h]
theorem idxBy_any (f : Str → Bool) (l : List Str) : decide (idxBy f l 0 ≥ 0) = l.any f := by
 simp only [idxBy, List.drop_zero]
 cases h : l.findIdx? f with
 | none =>
  have h' := List.findIdx?_eq_none_iff.1 h
  have : l.any f = false := by rw [List.any_eq_false]; intro x hx; simp [h' x hx]
  rw [this]; rfl
 | some k =>
  obtain ⟨hk, h1, -⟩ := List.findIdx?_eq_some_iff_getElem.1 h
  have : l.any f = true := List.any_eq_true.2 ⟨_, List.getElem_mem hk, h1⟩
  rw [this]; simp

end Go.Proofs.YtaafacnoddjhgaaGreat

/- Contracts of the layer 'shape': which facts are formed alone; depths; all nodes of an expression. -/
namespace Go.Proofs.YtaafacnoddjhgaaGreat
open Go.AE

def anyS : Str := [97, 110, 121]
def intS : Str := [105, 110, 116]
def noneS : Str := [110, 111, 110, 101]

def FFact.Texts (f : FFact) : Prop := f.name.length < 9223372036854775807 ∧ f.cls.length < 9223372036854775807 ∧ f.path.length < 9223372036854775807 ∧ ∀ x ∈ f.path, x.length < 9223372036854775807
def Part.texts : Part → Prop
 | .exp e => e.text.length < 9223372036854775807
 | .fact f => f.Texts

structure FFact.Fair (f : FFact) : Prop where
 size : f.size < big
 texts : ∀ x ∈ (Part.fact f).nodes 1, x.2.texts

theorem FFact.Fair.short {f : FFact} (h : f.Fair) : (Part.fact f).Short := fun x hx => by
 have := h.texts x hx
 cases hp : x.2 with
 | exp e => rw [hp] at this; exact this
 | fact g => trivial

theorem nodes_fact' : ∀ (n : Nat) (f : FFact) (d : Nat) (x : Nat × Part), f.size ≤ n → x ∈ (Part.fact f).nodes d → ∃ g, x.2 = .fact g := by
 intro n
 induction n with
 | zero => intro f d x hf; have := f.size_pos; omega
 | succ n ih =>
  intro f d x hf hx
  rw [Part.nodes_eq] at hx
  rcases List.mem_cons.1 hx with rfl | hx
  ·exact ⟨f, rfl⟩
  ·obtain ⟨k, hk, hx⟩ := List.mem_flatMap.1 hx
   have hs := Part.kids_size hk
   obtain ⟨g, hg, rfl⟩ := List.mem_map.1 hk
   exact ih g _ x (by have : g.size < f.size := hs; omega) hx
theorem nodes_fact {f : FFact} {d : Nat} {x : Nat × Part} (h : x ∈ (Part.fact f).nodes d) : ∃ g, x.2 = .fact g := nodes_fact' _ f d x (Nat.le_refl _) h

theorem nodes_exp' : ∀ (n : Nat) (f : FExp) (d : Nat) (x : Nat × Part), f.size ≤ n → x ∈ (Part.exp f).nodes d → ∃ g, x.2 = .exp g := by
 intro n
 induction n with
 | zero => intro f d x hf; have := f.size_pos; omega
 | succ n ih =>
  intro f d x hf hx
  rw [Part.nodes_eq] at hx
  rcases List.mem_cons.1 hx with rfl | hx
  ·exact ⟨f, rfl⟩
  ·obtain ⟨k, hk, hx⟩ := List.mem_flatMap.1 hx
   have hs := Part.kids_size hk
   obtain ⟨g, hg, rfl⟩ := List.mem_map.1 hk
   exact ih g _ x (by have : g.size < f.size := hs; omega) hx
theorem nodes_exp {f : FExp} {d : Nat} {x : Nat × Part} (h : x ∈ (Part.exp f).nodes d) : ∃ g, x.2 = .exp g := nodes_exp' _ f d x (Nat.le_refl _) h

/-! ### Depths -/

end Go.Proofs.YtaafacnoddjhgaaGreat

/- Contracts: copies of expressions; whether expressions are equal; free names. -/
namespace Go.Proofs.YtaafacnoddjhgaaGreat
open Go.AE

theorem FExp.kid_at {e : FExp} {j : Nat} (h : j < e.kids.length) : ∃ k, e.kids[j]? = some k ∧ e.kav[j]? = some (.agg k.cells) ∧ k.size < e.size := by
 refine ⟨e.kids[j], List.getElem?_eq_getElem h, ?_, FExp.kids_size (List.getElem_mem h)⟩
 rw [FExp.kav_eq, List.getElem?_map, List.getElem?_eq_getElem h]; rfl
theorem FExp.kav_length (e : FExp) : e.kav.length = e.kids.length := by rw [FExp.kav_eq]; simp

def part4 (op n : Int) (text : Str) (ks : List FExp) (own : Own) : List AV := [.int .i64 op, .int .i64 n, .str text, .slc 4 (ks.map FExp.av) own]

theorem part4_le (op n : Int) (text : Str) (ks : List FExp) (own : Own) : AVle (.agg (part4 op n text ks own)) (FExp.av (.mk op n text ks)) := by
 refine AVle.agg (.cons aRfl (.cons aRfl (.cons aRfl (.one ?_))))
 have : (FExp.mk op n text ks).kav = ks.map FExp.av := FExp.kav_eq _
 rw [this]
 exact AVle.fro

theorem part4_nil (op n : Int) (text : Str) : AVleL [.int .i64 op, .int .i64 n, .str text, .slc 0 [] .nil] (part4 op n text [] .nil) :=
 .cons aRfl (.cons aRfl (.cons aRfl (.one (AVle.nil (by simp)))))

theorem map_take_succ {α β : Type} (f : α → β) {l : List α} {j : Nat} {x : α} (h : l[j]? = some x) : (l.take j).map f ++ [f x] = (l.take (j + 1)).map f := by
 rw [List.take_add_one, h]; simp

theorem FExp.eta (e : FExp) : FExp.mk e.op e.n e.text e.kids = e := by cases e; rfl

/- A region 'out.Kids = append(out.Kids, f(..))': i, j: the load and the call; c: the call's slot; ld, bs: the slots of the load and of the new slice; ap, st: the places of append and store. -/

set_option maxRecDepth 10000 in
theorem copied_spec : ∀ (n : Nat) (e : FExp) (s : Store), e.size ≤ n → e.size ≤ big → ACalls Tryz.prog 107 [e.av] s (fun o s' => o = .ret e.av ∧ s' = s) := by
 intro n
 induction n with
 | zero => intro e s h; have := e.size_pos; omega
 | succ n ih =>
  intro e s hn hbig
  have hlen := e.kids_length
  have hkl := e.kav_length
  have hb : big = 1099511627776 := rfl
  refine ACalls.of_CW tO call107 Tryz.func107 rfl rfl ?_
  repeat (first | with_reducible apply CW.seq | refine CW.reg ?_ | refine wS rfl ?_)
  refine RL.alloc tO rfl rfl rfl rfl rfl rfl rfl (fun b2 hb2 => ?_)
  repeat (first | (with_reducible first | apply CW.seq | apply aN) | refine CW.reg ?_ | refine RL.nil ?_ | refine wS rfl ?_)
  refine RL.alloc tO rfl rfl rfl rfl rfl rfl rfl (fun b3 hb3 => ?_)
  repeat (first | (with_reducible first | apply CW.seq | apply aN | apply CW.block) | refine wR rfl ?_ | refine RL.nil ?_ | (refine RL.storeP tO rfl rfl rfl rfl rfl rfl rfl rfl rfl sSam rfl ?_; try with_reducible rw [Store.set_set]))
  refine CW.boxWeak b3 (part4 e.op e.n e.text [] .nil) sSam (part4_nil _ _ _) ?_
  rw [Store.set_set]
  generalize hZ : AObj.box 27 _ = Z at hb3 ⊢
  refine CW.loop (σ := Nat × Own) (fun q => [(1, .fptr e.cells 0), (2, .ptr b2 0), (3, .ptr b3 0), (14, .slc 4 e.kav .fro), (15, .int .i64 e.kav.length), (16, .int .i64 (q.1 : Int))])
   (fun q => rowOf ((s.set b2 Z).set b3 (.box 27 (part4 e.op e.n e.text (e.kids.take q.1) q.2))) 27 4 q.1 q.2)
   (fun q => q.1 ≤ e.kids.length ∧ OwnOk ((s.set b2 Z).set b3 (.box 27 (part4 e.op e.n e.text (e.kids.take q.1) q.2))) q.1 q.2) (fun q => e.kids.length - q.1) (0, .nil) ⟨by simp, trivial⟩ ?_ sSub ?_
  ·exact ⟨⟨_, rfl, aRfl⟩, ⟨_, rfl, aRfl⟩, ⟨_, rfl, aRfl⟩, ⟨_, rfl, aRfl⟩, ⟨_, rfl, aRfl⟩, ⟨_, rfl, aRfl⟩, trivial⟩
  ·rintro ⟨j, own⟩ ⟨hj, hok⟩
   simp only at hj hok
   repeat (first | (with_reducible first | apply CW.seq | apply aN) | refine wR rfl ?_)
   refine CW.cond rfl (fun h => ?_) (fun h => ?_)
   ·have hlt : j < e.kids.length := by rw [hkl] at h; simpa using h
    obtain ⟨k, hk, hk', hks⟩ := FExp.kid_at hlt
    repeat (first | (with_reducible first | apply CW.seq | apply aN | apply CW.skip | apply CW.block) | refine CW.reg ?_ | refine wS rfl ?_ | refine RL.idx tO _ rfl rfl rfl rfl rfl rfl rfl rfl rfl rfl rfl (by assumption) rfl ?_)
    refine RL.newBox tO rfl rfl rfl rfl rfl rfl rfl (fun _ => rfl) rfl rfl (fun _ => rfl) rfl rfl rfl rfl ?_
    repeat (first | with_reducible apply aN | refine RL.nil ?_ | refine CW.drw tO mixed rfl (RD.run rfl ?_))
    refine' RD.loadCall (i := 1) (j := 3) (σ := Unit) (P1 := _) (fun _ => k.av) (fun _ => _) (fun _ => True) tO rfl rfl rfl rfl rfl rfl rfl rfl rfl rfl rfl rfl (rowOf_get hok sSam) rfl rfl rfl rfl (OW.call rfl (fv := .func 107 [] []) rfl rfl (ACallV.of_calls (ih k _ (by omega) (by omega)))) (fun y s' ⟨h1, h2⟩ => ⟨(), trivial, by cases h1; rfl, h2⟩) ?A ?B ?C (fun _ _ ⟨h, _⟩ => by cases h)
    case A => intro _ _ hP; refine RD.run rfl ?_; exact hP
    case B =>
     intro _ _ hP
     refine RD.run rfl (RD.one (i := 1) rfl rfl rfl rfl rfl (OW.loadP tO rfl rfl rfl (rowOf_get hok sSam) rfl (X := fun _ _ => False)) ?_ (fun _ _ h => False.elim h))
     rintro _ _ ⟨rfl, rfl⟩
     refine RD.congr _ (get_mv _ _ _ [_, _] ?_) hP
     rfl
    case C =>
     intro _ _
     refine RD.append1 (i := 5) tO rfl rfl rfl rfl rfl rfl rfl rfl rfl (by intro k h; cases h) rfl rfl rfl rfl rfl rfl rfl (n := j) (by simp; omega) (by show (j + 1) * 56 ≤ _; omega) (by omega) rfl hok (fun b' hb' => ?_)
     refine RD.run rfl ?_
     refine RD.oneN (i := 7) rfl rfl rfl rfl (OW.storeP tO rfl rfl rfl rfl rfl rfl rfl (rowOf_get (n := j + 1) (m := j) (own := .own b') hb' sSam) rfl (X := fun _ _ => False)) ?_ (fun _ _ h => False.elim h)
     rintro _ _ rfl
     refine RD.run rfl (RD.done rfl ?_)
     repeat (first | (with_reducible first | apply aN | apply iN) | refine wR rfl ?_)
     refine ⟨(j + 1, .own b'), ⟨hlt, ?_⟩, ⟨⟨_, rfl, aRfl⟩, ⟨_, rfl, aRfl⟩, ⟨_, rfl, aRfl⟩, ⟨_, rfl, aRfl⟩, ⟨_, rfl, aRfl⟩, ⟨_, rfl, AVle.of_eq ?_⟩, trivial⟩, ?_, by show e.kids.length - (j + 1) < e.kids.length - j; omega⟩
     ·have := OwnOk.set (m := j + 1) (n := j) (own := .own b') (o' := .box 27 (part4 e.op e.n e.text (e.kids.take (j + 1)) (.own b'))) hb' sSam
      rwa [Store.set_set] at this
     ·rw [i64_succ (by omega)]
     ·rw [rowOf_set (OwnOk.ne (n := j) (own := .own b') hb' sSam), Store.set_set]
      simp only [part4, ← map_take_succ FExp.av hk]
      exact sSub
   ·have hge : e.kids.length ≤ j := by rw [hkl] at h; simpa using h
    have hn3 := (Store.set_none hb3).2
    repeat (first | (with_reducible first | apply CW.seq | apply aN | apply aX | apply iH | apply CW.exit) | refine CW.reg ?_)
    refine RL.loadP tO rfl rfl rfl rfl rfl rfl (rowOf_get hok sSam) rfl ?_
    subst hZ
    refine RL.storeP tO rfl rfl rfl rfl rfl rfl rfl rfl rfl (rowOf_get hok (by rw [Store.set_ne _ _ (Ne.symm (Store.set_none hb3).1)]; exact sSam)) rfl ?_
    refine RL.freeze 2 b2 rfl sSam ?_
    repeat (first | (with_reducible first | apply aN | apply CW.ret) | refine RL.nil ?_)
    refine ⟨_, _, s, rfl, ?_, ?_, rfl, rfl⟩
    ·have := part4_le e.op e.n e.text e.kids own
     rw [FExp.eta] at this
     rw [List.take_of_length_le hge]; exact this
    ·exact Store.subDel (Store.subSet (Store.subRow (Store.subSet (Store.subSet sSub hb2) hn3) (OwnOk.of_set (m := j) (OwnOk.of_set (m := j) hok))) hb2) hb2

/-! ### Equal expressions -/
mutual
def FExp.beq : FExp → FExp → Bool
 | .mk o n t ks, .mk o' n' t' ks' => (o == o' && n == n' && t == t') && FExp.beqs ks ks'
def FExp.beqs : List FExp → List FExp → Bool
 | [], [] => true
 | k :: r, k' :: r' => FExp.beq k k' && FExp.beqs r r'
 | _, _ => false
end

theorem FExp.beqs_length : ∀ {a b : List FExp}, FExp.beqs a b = true → a.length = b.length
  | [], [], _ => rfl
  | k :: r, k' :: r', h => by
    simp only [FExp.beqs, Bool.and_eq_true] at h
    simp [FExp.beqs_length h.2]
  | [], _ :: _, h => by simp [FExp.beqs] at h
  | _ :: _, [], h => by simp [FExp.beqs] at h

mutual
theorem FExp.beq_refl : ∀ (a : FExp), FExp.beq a a = true
 | .mk o n t ks => by simp [FExp.beq, FExp.beqs_refl ks]
theorem FExp.beqs_refl : ∀ (a : List FExp), FExp.beqs a a = true
 | [] => rfl
 | k :: r => by simp [FExp.beqs, FExp.beq_refl k, FExp.beqs_refl r]
end

theorem FExp.beqs_drop {a b : List FExp} {j : Nat} {x y : FExp} (hx : a[j]? = some x) (hy : b[j]? = some y) : FExp.beqs (a.drop j) (b.drop j) = (FExp.beq x y && FExp.beqs (a.drop (j + 1)) (b.drop (j + 1))) := by
 rw [drop_cons hx, drop_cons hy, FExp.beqs]

theorem FExp.beq_def (a b : FExp) : FExp.beq a b = ((a.op == b.op && a.n == b.n && a.text == b.text) && FExp.beqs a.kids b.kids) := by cases a; cases b; rfl

set_option maxRecDepth 10000 in
theorem refSameExp_spec : ∀ (n : Nat) (a b : FExp) (s : Store), a.size ≤ n → a.size ≤ big → b.size ≤ big → ACalls Tryz.prog 19 [a.av, b.av] s (fun o s' => o = .ret (.bool (FExp.beq a b)) ∧ s' = s) := by
 intro n
 induction n with
 | zero => intro a b s h; have := a.size_pos; omega
 | succ n ih =>
  intro a b s hn hbig hbig2
  have hlen := a.kids_length
  have hkl := a.kav_length
  have hkl2 := b.kav_length
  have hb : big = 1099511627776 := rfl
  refine ACalls.of_CW tO call19 Tryz.func19 rfl rfl ?_
  repeat (first | (with_reducible first | apply CW.seq | apply aN) | refine wR rfl ?_ | refine CW.reg ?_ | refine wS rfl ?_)
  refine RL.cut 22 [(2, .fptr a.cells 0), (3, .fptr b.cells 0), (33, .bool (!((a.op == b.op && a.n == b.n && a.text == b.text) && decide (a.kids.length = b.kids.length))))] ?_ ?_
  ·repeat' (first | refine RL.nil ?_ | refine wS rfl ?_ | refine RL.skip rfl rfl rfl ?_ | refine RL.gstepF tO rfl rfl rfl rfl rfl rfl rfl (fun _ => ?_) (fun _ => ?_))
   all_goals refine ⟨rfl, ⟨⟨_, rfl, aRfl⟩, ⟨_, rfl, aRfl⟩, ⟨_, rfl, AVle.of_eq ?_⟩, trivial⟩, rfl⟩
   all_goals simp_all
   all_goals (rw [Bool.eq_iff_iff]; simp; omega)
  ·repeat (first | with_reducible apply aN | refine RL.nil ?_)
   refine CW.cond rfl (fun h => ?_) (fun h => ?_)
   ·repeat (first | (with_reducible first | apply CW.seq | apply aN | apply aR | apply CW.ret) | refine wR rfl ?_)
    refine ⟨_, _, _, rfl, aRfl, sSub, ?_, rfl⟩
    have : FExp.beq a b = false := by
     rw [FExp.beq_def]
     cases hq : FExp.beqs a.kids b.kids with
     | false => simp
     | true =>
      rw [FExp.beqs_length hq] at h
      simp only [decide_true, Bool.and_true] at h
      rw [Bool.and_true]; rw [Bool.not_eq_true'] at h; exact h
    rw [this]
   ·have hl : a.kids.length = b.kids.length := by simp at h; exact h.2
    have hh : (a.op == b.op && a.n == b.n && a.text == b.text) = true := by simp at h; simp [h]
    repeat (first | (with_reducible first | apply CW.seq | apply aN | apply CW.skip | apply CW.block) | refine wR rfl ?_)
    refine CW.loop (σ := Nat) (fun j => [(2, .fptr a.cells 0), (3, .fptr b.cells 0), (5, .int .i64 (j : Int))]) (fun _ => s) (fun j => j ≤ a.kids.length ∧ FExp.beq a b = FExp.beqs (a.kids.drop j) (b.kids.drop j)) (fun j => a.kids.length - j) 0 ⟨by omega, by rw [FExp.beq_def, hh]; rfl⟩ ?_ sSub ?_
    ·exact ⟨⟨_, rfl, aRfl⟩, ⟨_, rfl, aRfl⟩, ⟨_, rfl, aRfl⟩, trivial⟩
    ·rintro j ⟨hj, hI⟩
     repeat (first | (with_reducible first | apply CW.seq | apply aN) | refine wR rfl ?_)
     refine CW.cond rfl (fun h => ?_) (fun h => ?_)
     ·have hlt : j < a.kids.length := by rw [hkl] at h; simpa using h
      obtain ⟨x, hx, hx', hxs⟩ := FExp.kid_at hlt
      obtain ⟨y, hy, hy', hys⟩ := FExp.kid_at (e := b) (by omega : j < b.kids.length)
      rw [FExp.beqs_drop hx hy] at hI
      repeat (first | (with_reducible first | apply CW.seq | apply aN | apply CW.skip | apply CW.block) | refine CW.drw tO mixed rfl (RD.run rfl ?_))
      refine RD.idx 3 j rfl rfl rfl rfl rfl rfl rfl rfl rfl rfl rfl rfl rfl hx' rfl ?_
      refine RD.idx 8 j rfl rfl rfl rfl rfl rfl rfl rfl rfl rfl rfl rfl rfl hy' rfl ?_
      refine RD.run rfl ?_
      refine RD.callP (i := 10) rfl rfl rfl rfl rfl rfl rfl (ih x y s (by omega) (by omega) (by omega)) ?_
      refine RD.run rfl (RD.done rfl ?_)
      cases hxy : FExp.beq x y with
      | true =>
       repeat (first | (with_reducible first | apply aN | apply iN | apply CW.skip) | refine wR rfl ?_ | refine CW.condF rfl ?_)
       refine ⟨j + 1, ⟨hlt, ?_⟩, ⟨⟨_, rfl, aRfl⟩, ⟨_, rfl, aRfl⟩, ⟨_, rfl, AVle.of_eq ?_⟩, trivial⟩, sSub, by omega⟩
       ·rw [hI, hxy, Bool.true_and]
       ·rw [i64_succ (by omega)]
      | false =>
       repeat (first | (with_reducible first | apply CW.seq | apply aN | apply aR | apply iR | apply CW.ret) | refine wR rfl ?_ | refine CW.condT rfl ?_)
       exact ⟨_, _, _, rfl, aRfl, sSub, by rw [hI, hxy]; rfl, rfl⟩
     ·repeat (first | (with_reducible first | apply CW.seq | apply aN | apply aX | apply iH | apply CW.ret | apply CW.exit) | refine wR rfl ?_)
      refine ⟨_, _, _, rfl, aRfl, sSub, ?_, rfl⟩
      have hge : a.kids.length ≤ j := by rw [hkl] at h; simpa using h
      rw [hI, List.drop_eq_nil_of_le hge, List.drop_eq_nil_of_le (by omega)]; rfl
end Go.Proofs.YtaafacnoddjhgaaGreat

/- Contracts of the layer 'shape': names that are bound; free names; what names stand for; all nodes of an expression. -/
namespace Go.Proofs.YtaafacnoddjhgaaGreat
open Go.AE

def boundAV : List Str → AV
 | [] => .pnil
 | x :: l => .fptr [boundAV l, .str x] 0

set_option maxRecDepth 10000 in
theorem has_spec (x : Str) (s : Store) : ∀ l : List Str, ACalls Tryz.prog 115 [boundAV l, .str x] s (fun o s' => o = .ret (.bool (l.contains x)) ∧ s' = s) := by
 intro l
 induction l with
 | nil =>
  refine ACalls.of_CW tO call115 Tryz.func115 rfl rfl ?_
  repeat (first | (with_reducible first | apply CW.seq | apply aN | apply CW.ret) | refine wR rfl ?_)
  exact ⟨_, _, _, rfl, aRfl, sSub, rfl, rfl⟩
 | cons y l ih =>
  refine ACalls.of_CW tO call115 Tryz.func115 rfl rfl ?_
  repeat (first | (with_reducible first | apply CW.seq | apply aN) | refine wR rfl ?_ | refine CW.reg ?_ | refine wS rfl ?_)
  cases hy : y == x with
  | true =>
   repeat (first | (with_reducible first | apply aN | apply CW.ret) | refine RL.nil ?_ | refine wS rfl ?_ | refine RL.skip rfl rfl rfl ?_)
   exact ⟨_, _, _, rfl, aRfl, sSub, by simp at hy; simp [hy], rfl⟩
  | false =>
   repeat (first | refine wS rfl ?_)
   refine RL.callP rfl rfl rfl rfl rfl ih ?_
   repeat (first | (with_reducible first | apply aN | apply CW.ret) | refine RL.nil ?_ | refine wS rfl ?_)
   refine ⟨_, _, _, rfl, aRfl, sSub, ?_, rfl⟩
   have : (x == y) = false := by rw [BEq.comm]; exact hy
   rw [List.contains_cons, this, Bool.false_or]

mutual
def FExp.loose : List Str → FExp → List Str
 | b, .mk o _ t ks => (if o == 3 && !b.contains t then [t] else []) ++ FExp.looses (o == 9) t b 0 ks
def FExp.looses (isLet : Bool) (t : Str) (b : List Str) : Nat → List FExp → List Str
 | _, [] => []
 | i, k :: r => FExp.loose (if isLet && i == 1 then t :: b else b) k ++ FExp.looses isLet t b (i + 1) r
end

theorem FExp.loose_eq (b : List Str) (e : FExp) : e.loose b = (if e.op == 3 && !b.contains e.text then [e.text] else []) ++ FExp.looses (e.op == 9) e.text b 0 e.kids := by cases e; rw [FExp.loose]; rfl

def addAll (acc l : List Str) : List Str := l.foldl insS acc
theorem addAll_append (acc a b : List Str) : addAll acc (a ++ b) = addAll (addAll acc a) b := by simp [addAll]

set_option maxRecDepth 10000 in
theorem free_spec (mb : Nat) : ∀ (n : Nat) (e : FExp) (b acc : List Str) (s : Store), e.size ≤ n → e.size ≤ big → s mb = some (.map (setA acc)) →
  ACalls Tryz.prog 81 [e.av, boundAV b, .map mb] s (fun o s' => o = .ret (.tup []) ∧ s' = s.set mb (.map (setA (addAll acc (e.loose b))))) := by
 intro n
 induction n with
 | zero => intro e b acc s h; have := e.size_pos; omega
 | succ n ih =>
  intro e b acc s hn hbig hs
  have hlen := e.kids_length
  have hkl := e.kav_length
  have hb : big = 1099511627776 := rfl
  refine ACalls.of_CW tO call81 Tryz.func81 rfl rfl ?_
  refine CW.seqCut [(1, boundAV b), (2, .map mb), (3, .fptr e.cells 0)] s ?_ ?_
  ·repeat (first | refine wR rfl ?_)
   exact ⟨rfl, ⟨⟨_, rfl, aRfl⟩, ⟨_, rfl, aRfl⟩, ⟨_, rfl, aRfl⟩, trivial⟩, sSub⟩
  refine CW.seqCut [(1, boundAV b), (2, .map mb), (3, .fptr e.cells 0)] (s.set mb (.map (setA (addAll acc (if e.op == 3 && !b.contains e.text then [e.text] else []))))) ?_ ?_
  ·refine CW.seqCut [(1, boundAV b), (2, .map mb), (3, .fptr e.cells 0), (18, .bool (e.op == 3 && !b.contains e.text))] s ?_ ?_
   ·repeat' (first | refine CW.reg ?_ | refine RL.nil ?_ | refine wS rfl ?_ | refine RL.skip rfl rfl rfl ?_ | refine RL.gstepT tO rfl rfl rfl rfl rfl rfl rfl (fun _ => ?_) (fun _ => ?_) | refine RL.callP rfl rfl rfl rfl rfl (has_spec _ _ b) ?_)
    all_goals refine ⟨rfl, ⟨⟨_, rfl, aRfl⟩, ⟨_, rfl, aRfl⟩, ⟨_, rfl, aRfl⟩, ⟨_, rfl, AVle.of_eq ?_⟩, trivial⟩, sSub⟩
    all_goals simp_all
   cases hc : e.op == 3 && !b.contains e.text with
   | true =>
    repeat (first | refine CW.reg ?_ | refine CW.condT rfl ?_ | refine wS rfl ?_)
    refine RL.mapUpdate tO rfl rfl (.inl rfl) rfl rfl rfl rfl rfl rfl hs rfl (putA_set acc e.text) ?_
    repeat (first | refine RL.nil ?_)
    exact ⟨rfl, ⟨⟨_, rfl, aRfl⟩, ⟨_, rfl, aRfl⟩, ⟨_, rfl, aRfl⟩, trivial⟩, sSub⟩
   | false =>
    repeat (first | with_reducible apply CW.skip | refine CW.condF rfl ?_)
    refine ⟨rfl, ⟨⟨_, rfl, aRfl⟩, ⟨_, rfl, aRfl⟩, ⟨_, rfl, aRfl⟩, trivial⟩, ?_⟩
    show Store.Sub (s.set mb (.map (setA acc))) s
    rw [Store.set_eq _ _ _ hs]; exact sSub
  repeat (first | (with_reducible first | apply CW.seq | apply aN | apply CW.block) | refine wR rfl ?_)
  refine CW.loop (σ := Nat × List Str) (fun q => [(1, boundAV b), (2, .map mb), (3, .fptr e.cells 0), (23, .slc 4 e.kav .fro), (24, .int .i64 e.kav.length), (25, .int .i64 (q.1 : Int))]) (fun q => s.set mb (.map (setA q.2)))
   (fun q => q.1 ≤ e.kids.length ∧ addAll q.2 (FExp.looses (e.op == 9) e.text b q.1 (e.kids.drop q.1)) = addAll acc (e.loose b)) (fun q => e.kids.length - q.1)
   (0, addAll acc (if e.op == 3 && !b.contains e.text then [e.text] else [])) ⟨by simp, by rw [FExp.loose_eq, addAll_append]; rfl⟩ ?_ sSub ?_
  ·exact ⟨⟨_, rfl, aRfl⟩, ⟨_, rfl, aRfl⟩, ⟨_, rfl, aRfl⟩, ⟨_, rfl, aRfl⟩, ⟨_, rfl, aRfl⟩, ⟨_, rfl, aRfl⟩, trivial⟩
  ·rintro ⟨j, ac⟩ ⟨hj, hI⟩
   simp only at hj hI
   repeat (first | (with_reducible first | apply CW.seq | apply aN) | refine wR rfl ?_)
   refine CW.cond rfl (fun h => ?_) (fun h => ?_)
   ·have hlt : j < e.kids.length := by rw [hkl] at h; simpa using h
    obtain ⟨k, hk, hk', hks⟩ := FExp.kid_at hlt
    rw [drop_cons hk, FExp.looses, addAll_append] at hI
    repeat (first | (with_reducible first | apply CW.seq | apply aN | apply CW.skip | apply CW.block) | refine CW.reg ?_ | refine wS rfl ?_ | refine RL.idx tO _ rfl rfl rfl rfl rfl rfl rfl rfl rfl rfl rfl (by assumption) rfl ?_)
    refine RL.alloc tO rfl rfl rfl rfl rfl rfl rfl (fun b7 hb7 => ?_)
    repeat (first | (with_reducible first | apply CW.seq | apply aN) | refine wR rfl ?_ | refine CW.reg ?_ | refine RL.nil ?_ | refine wS rfl ?_ | (refine RL.storeP tO rfl rfl rfl rfl rfl rfl rfl rfl rfl sSam rfl ?_; try with_reducible rw [Store.set_set]))
    refine RL.freeze 7 b7 rfl sSam ?_
    rw [Store.del_set _ _ _ hb7]
    have hmb : (s.set mb (.map (setA ac))) mb = some (.map (setA ac)) := sSam
    refine RL.cut 3 [(1, boundAV b), (2, .map mb), (3, .fptr e.cells 0), (6, .int .i64 (j : Int)), (7, .fptr k.cells 0), (8, boundAV b), (23, .slc 4 e.kav .fro), (24, .int .i64 e.kav.length), (25, .int .i64 (j : Int)), (37, .bool (e.op == 9 && j == 1))] ?_ ?_
    ·repeat' (first | refine RL.nil ?_ | refine wS rfl ?_ | refine RL.skip rfl rfl rfl ?_ | refine RL.gstepT tO rfl rfl rfl rfl rfl rfl rfl (fun _ => ?_) (fun _ => ?_))
     all_goals refine ⟨rfl, ⟨⟨_, rfl, aRfl⟩, ⟨_, rfl, aRfl⟩, ⟨_, rfl, aRfl⟩, ⟨_, rfl, aRfl⟩, ⟨_, rfl, aRfl⟩, ⟨_, rfl, aRfl⟩, ⟨_, rfl, aRfl⟩, ⟨_, rfl, aRfl⟩, ⟨_, rfl, aRfl⟩, ⟨_, rfl, AVle.of_eq ?_⟩, trivial⟩, rfl⟩
     all_goals simp_all
     all_goals (rw [Bool.eq_iff_iff]; simp; omega)
    cases hc : e.op == 9 && j == 1 with
    | true =>
     rw [hc, if_pos rfl] at hI
     cases b with
     | nil =>
      repeat (first | with_reducible apply aN | refine wR rfl ?_ | refine CW.reg ?_ | refine RL.nil ?_ | refine CW.condT rfl ?_ | refine wS rfl ?_)
      refine RL.call rfl rfl rfl rfl rfl (ih k [e.text] ac _ (by omega) (by omega) hmb) ?_ (fun _ _ ⟨h, _⟩ => by cases h)
      rintro _ _ ⟨⟨⟩, rfl⟩
      rw [Store.set_set]
      repeat (first | (with_reducible first | apply aN | apply iN) | refine wR rfl ?_ | refine RL.nil ?_)
      refine ⟨(j + 1, _), ⟨hlt, hI⟩, ⟨⟨_, rfl, aRfl⟩, ⟨_, rfl, aRfl⟩, ⟨_, rfl, aRfl⟩, ⟨_, rfl, aRfl⟩, ⟨_, rfl, aRfl⟩, ⟨_, rfl, AVle.of_eq ?_⟩, trivial⟩, sSub, by show e.kids.length - (j + 1) < e.kids.length - j; omega⟩
      rw [i64_succ (by omega)]
     | cons y b =>
      repeat (first | with_reducible apply aN | refine wR rfl ?_ | refine CW.reg ?_ | refine RL.nil ?_ | refine CW.condT rfl ?_ | refine wS rfl ?_)
      refine RL.call rfl rfl rfl rfl rfl (ih k (e.text::y::b) ac _ (by omega) (by omega) hmb) ?_ (fun _ _ ⟨h, _⟩ => by cases h)
      rintro _ _ ⟨⟨⟩, rfl⟩
      rw [Store.set_set]
      repeat (first | (with_reducible first | apply aN | apply iN) | refine wR rfl ?_ | refine RL.nil ?_)
      refine ⟨(j + 1, _), ⟨hlt, hI⟩, ⟨⟨_, rfl, aRfl⟩, ⟨_, rfl, aRfl⟩, ⟨_, rfl, aRfl⟩, ⟨_, rfl, aRfl⟩, ⟨_, rfl, aRfl⟩, ⟨_, rfl, AVle.of_eq ?_⟩, trivial⟩, sSub, by show e.kids.length - (j + 1) < e.kids.length - j; omega⟩
      rw [i64_succ (by omega)]
    | false =>
     rw [hc, if_neg (by simp)] at hI
     repeat (first | (with_reducible first | apply aN | apply CW.skip) | refine CW.reg ?_ | refine RL.nil ?_ | refine CW.condF rfl ?_ | refine wS rfl ?_)
     refine RL.call rfl rfl rfl rfl rfl (ih k b ac _ (by omega) (by omega) hmb) ?_ (fun _ _ ⟨h, _⟩ => by cases h)
     rintro _ _ ⟨⟨⟩, rfl⟩
     rw [Store.set_set]
     repeat (first | (with_reducible first | apply aN | apply iN) | refine wR rfl ?_ | refine RL.nil ?_)
     refine ⟨(j + 1, _), ⟨hlt, hI⟩, ⟨⟨_, rfl, aRfl⟩, ⟨_, rfl, aRfl⟩, ⟨_, rfl, aRfl⟩, ⟨_, rfl, aRfl⟩, ⟨_, rfl, aRfl⟩, ⟨_, rfl, AVle.of_eq ?_⟩, trivial⟩, sSub, by show e.kids.length - (j + 1) < e.kids.length - j; omega⟩
     rw [i64_succ (by omega)]
   ·repeat (with_reducible first | apply aX | apply iH | apply CW.exit)
    have hge : e.kids.length ≤ j := by rw [hkl] at h; simpa using h
    rw [List.drop_eq_nil_of_le hge, FExp.looses] at hI
    exact ⟨_, _, _, rfl, aRfl, sSub, rfl, by rw [← hI]; rfl⟩

def FExp.frees (e : FExp) : List Str := addAll [] (e.loose [])

set_option maxRecDepth 10000 in
theorem freeOf_spec (e : FExp) (s : Store) (h : e.size ≤ big) :
  ACalls Tryz.prog 42 [e.av] s (fun o s' => ∃ b, s b = none ∧ o = .ret (.map b) ∧ s' = s.set b (.map (setA e.frees))) := by
 refine ACalls.of_CW tO call42 Tryz.func42 rfl rfl ?_
 repeat (first | (with_reducible first | apply CW.seq | apply aN) | refine wR rfl ?_ | refine CW.reg ?_)
 refine RL.makeMap rfl rfl rfl rfl (fun b hb => ?_)
 repeat (first | (with_reducible first | apply CW.seq | apply aN) | refine CW.reg ?_ | refine RL.nil ?_ | refine wS rfl ?_)
 refine RL.call rfl rfl rfl rfl rfl (free_spec b _ e [] [] _ (Nat.le_refl _) h sSam) ?_ (fun _ _ ⟨h, _⟩ => by cases h)
 rintro _ _ ⟨⟨⟩, rfl⟩
 rw [Store.set_set]
 repeat (first | (with_reducible first | apply CW.seq | apply aN | apply CW.ret) | refine wR rfl ?_ | refine RL.nil ?_)
 exact ⟨_, _, _, rfl, aRfl, sSub, b, hb, rfl, rfl⟩

/-! ### What names stand for -/

def scopeAV : List (Str × Str) → AV
 | [] => .pnil
 | x :: l => .fptr [scopeAV l, .str x.1, .str x.2] 0

def stands : List (Str × Str) → Str → Option Str
 | [], _ => none
 | x :: l, s => if x.1 == s then some x.2 else stands l s

set_option maxRecDepth 10000 in
theorem scopeLook_spec (x : Str) (s : Store) : ∀ l : List (Str × Str), ACalls Tryz.prog 93 [scopeAV l, .str x] s (fun o s' => o = .ret (.tup [.str ((stands l x).getD x), .bool (stands l x).isSome]) ∧ s' = s) := by
 intro l
 induction l with
 | nil =>
  refine ACalls.of_CW tO call93 Tryz.func93 rfl rfl ?_
  repeat (first | (with_reducible first | apply CW.seq | apply aN | apply aR | apply CW.ret) | refine wR rfl ?_ | refine CW.condT rfl ?_)
  exact ⟨_, _, _, rfl, aRfl, sSub, rfl, rfl⟩
 | cons y l ih =>
  refine ACalls.of_CW tO call93 Tryz.func93 rfl rfl ?_
  repeat (first | (with_reducible first | apply CW.seq | apply aN | apply CW.skip) | refine wR rfl ?_ | refine CW.condF rfl ?_)
  cases hy : y.1 == x with
  | true =>
   repeat (first | (with_reducible first | apply CW.seq | apply aN | apply aR | apply CW.ret) | refine wR rfl ?_ | refine CW.condT rfl ?_)
   exact ⟨_, _, _, rfl, aRfl, sSub, by simp [stands, hy], rfl⟩
  | false =>
   repeat (first | (with_reducible first | apply CW.seq | apply aN | apply CW.skip) | refine CW.reg ?_ | refine CW.condF rfl ?_ | refine wS rfl ?_)
   refine RL.callP rfl rfl rfl rfl rfl ih ?_
   repeat (first | (with_reducible first | apply aN | apply CW.ret) | refine RL.nil ?_ | refine wS rfl ?_)
   exact ⟨_, _, _, rfl, aRfl, sSub, by simp [stands, hy], rfl⟩
end Go.Proofs.YtaafacnoddjhgaaGreat

/- Contracts of the layer 'shape': all nodes of an expression, one after the other. -/
namespace Go.Proofs.YtaafacnoddjhgaaGreat
open Go.AE

mutual
def FExp.allE : FExp → List FExp
 | .mk o n t ks => .mk o n t ks :: FExp.allEs ks
def FExp.allEs : List FExp → List FExp
 | [] => []
 | k :: r => FExp.allE k ++ FExp.allEs r
end

theorem FExp.allEs_eq : ∀ l : List FExp, FExp.allEs l = l.flatMap FExp.allE
 | [] => by simp [FExp.allEs]
 | k :: r => by rw [FExp.allEs, FExp.allEs_eq r]; simp
theorem FExp.allE_eq (e : FExp) : e.allE = e :: e.kids.flatMap FExp.allE := by cases e with | mk o n t ks => rw [FExp.allE, FExp.allEs_eq]; rfl

def Part.expOf : Part → FExp
 | .exp e => e
 | .fact _ => .mk 0 0 [] []

theorem allE_nodes' : ∀ (n : Nat) (e : FExp) (d : Nat), e.size ≤ n → ((Part.exp e).nodes d).map (fun x => x.2.expOf) = e.allE := by
 intro n
 induction n with
 | zero => intro e d h; have := e.size_pos; omega
 | succ n ih =>
  intro e d h
  rw [Part.nodes_eq, FExp.allE_eq, List.map_cons, List.map_flatMap]
  congr 1
  simp only [Part.kids, List.flatMap_map]
  rw [List.flatMap_def, List.flatMap_def]
  congr 1
  refine List.map_congr_left fun k hk => ih k _ ?_
  have := FExp.kids_size hk; omega
theorem allE_nodes (e : FExp) (d : Nat) : ((Part.exp e).nodes d).map (fun x => x.2.expOf) = e.allE := allE_nodes' _ e d (Nat.le_refl _)

theorem allE_length (e : FExp) : e.allE.length = e.size := by
 rw [← allE_nodes e 1, List.length_map]; exact Part.nodes_size _ _ _ (Nat.le_refl _)

theorem mem_nodes_all {e : FExp} {d : Nat} {x : Nat × Part} (h : x ∈ (Part.exp e).nodes d) : x.2.expOf ∈ e.allE := by
 rw [← allE_nodes e d]; exact List.mem_map_of_mem h

def YieldsE (l : Nat) (Go : List FExp → Store → Prop) (Done : Store → Prop) (Pan : AV → Store → Prop) : Prop :=
 ∀ x rem s, Go (x :: rem) s → ACallV Tryz.prog (yieldV l) [x.av] s (fun o s' => (o = .ret (.bool true) ∧ Go rem s') ∨ (o = .ret (.bool false) ∧ Done s') ∨ ∃ v, o = .panic v ∧ Pan v s')

set_option maxRecDepth 10000 in
theorem all1_spec (l : Nat) (Go : List FExp → Store → Prop) (Done : Store → Prop) (Pan : AV → Store → Prop) (hY : YieldsE l Go Done Pan) (e : FExp) (rest : List FExp) (s : Store) (he : e.size < big) (hg : Go (e.allE ++ rest) s) :
  ACalls Tryz.prog 105 [yieldV l, .fptr e.cells 0] s (fun o s' => (o = .ret (.tup []) ∧ (Go rest s' ∨ Done s')) ∨ ∃ v, o = .panic v ∧ Pan v s') := by
 refine ACalls.of_CW tO call105 Tryz.func105 rfl rfl ?_
 repeat (first | (with_reducible first | apply CW.seq | apply aN) | refine wR rfl ?_ | refine CW.reg ?_ | refine wS rfl ?_)
 refine RL.callP rfl rfl rfl rfl rfl (nodes_spec (.exp e) _) ?_
 repeat (first | (with_reducible first | apply aN | apply CW.block) | refine RL.nil ?_)
 refine CW.rangeNodes (.exp e) rfl rfl rfl he (fun rem s₁ => Go (rem.map (fun x => x.2.expOf) ++ rest) s₁) (fun j s₁ => j = .ret ∧ Done s₁) (fun v s₁ => Pan v s₁) (by rw [allE_nodes]; exact hg) ?_ ?_ ?_ ?_
 ·rintro d x rem s₁ hmem hI
  cases x with
  | fact g => obtain ⟨g', hg'⟩ := nodes_exp hmem; cases hg'
  | exp g =>
   repeat (first | (with_reducible first | apply CW.seq | apply aN | apply CW.block) | refine wR rfl ?_ | refine CW.reg ?_ | refine wS rfl ?_)
   refine RL.newBox tO rfl rfl rfl rfl rfl rfl rfl (fun _ => rfl) rfl rfl (fun _ => rfl) rfl rfl rfl rfl ?_
   repeat (first | (with_reducible first | apply CW.seq | apply aN) | refine CW.reg ?_ | refine RL.nil ?_ | refine wS rfl ?_)
   refine RL.callV rfl rfl rfl rfl rfl rfl (hY g _ s₁ hI) ?_ ?_
   ·rintro y s' (⟨⟨⟩, h⟩ | ⟨⟨⟩, h⟩ | ⟨v, h, -⟩)
    ·repeat (first | (with_reducible first | apply aN | apply iN | apply CW.skip) | refine RL.nil ?_ | refine CW.condF rfl ?_ | refine wS rfl ?_)
     exact h
    ·repeat (first | (with_reducible first | apply aN | apply iR | apply CW.ret) | refine RL.nil ?_ | refine CW.condT rfl ?_ | refine wS rfl ?_)
     exact ⟨rfl, h⟩
    ·cases h
   ·rintro y s' (⟨h, -⟩ | ⟨h, -⟩ | ⟨v, ⟨⟩, h⟩)
    ·cases h
    ·cases h
    ·repeat (with_reducible first | apply aP | apply iP)
     exact h
 ·intro s' h
  repeat (first | with_reducible apply iN)
  exact ⟨_, _, s', rfl, aRfl, sSub, .inl ⟨rfl, .inl h⟩⟩
 ·rintro j s' ⟨rfl, h⟩
  repeat (with_reducible first | apply iR | apply CW.ret)
  exact ⟨_, _, s', rfl, aRfl, sSub, .inl ⟨rfl, .inr h⟩⟩
 ·intro v s' h
  repeat (first | with_reducible apply iP)
  exact ⟨_, s', aRfl, sSub, .inr ⟨_, rfl, h⟩⟩

set_option maxRecDepth 10000 in
theorem all_spec (e : FExp) (s : Store) :
  ACalls Tryz.prog 67 [e.av] s (fun o s' => o = .ret (.func 105 [] [.fptr e.cells 0]) ∧ s' = s) := by
 refine ACalls.of_CW tO call67 Tryz.func67 rfl rfl ?_
 repeat (first | (with_reducible first | apply CW.seq | apply aN | apply CW.ret) | refine wR rfl ?_)
 exact ⟨_, _, _, rfl, aRfl, sSub, rfl, rfl⟩

section
variable {N : Nat} {Q : AEx → Env → Store → Prop} {env : Env} {s : Store}

theorem CW.rangeAll {g : Operand} {asg body : Code} {a : Tmp} (e : FExp) (hg : ev env g = some (.func 105 [] [.fptr e.cells 0])) (ha : Nat.blt a N = true) (hp : e.size < big)
  (I : List FExp → Store → Prop) (J : Code → Store → Prop) (X : AV → Store → Prop) (h0 : I e.allE s)
  (round : ∀ x rem s₁, x ∈ e.allE → I (x :: rem) s₁ → CW Tryz.prog N asg (AEx.andThen (CW Tryz.prog N body (RoundQ (I rem) J X)) (fun _ _ _ => False)) ((a, x.av) :: env) s₁)
  (hend : ∀ s', I [] s' → Q .normal env s') (hj : ∀ j s', J j s' → CW Tryz.prog N j Q env s') (hx : ∀ v s', X v s' → Q (.panic v) env s') :
  CW Tryz.prog N (.rangeFunc g #[a] asg body) Q env s := by
 refine CW.rangeF (f := 105) (first := []) (cap := [.fptr e.cells 0]) hg (by
  intro t ht
  simp at ht
  subst ht
  simpa [Nat.blt_eq] using ha) ?_
 intro l r hl hyield
 have hcall := all1_spec l (fun rem s' => (∃ pre, e.allE = pre ++ rem) ∧ ∃ s₂, s₂ l = none ∧ s' = s₂.set l (.loop r env) ∧ I rem s₂) (fun s' => ∃ j s₂, s₂ l = none ∧ s' = s₂.set l (.loop (over r j) env) ∧ J j s₂)
  (fun v s' => ∃ s₂, s₂ l = none ∧ s' = s₂.set l (.loop (busy r) env) ∧ X v s₂) ?_ e [] (s.set l (.loop r env)) hp ⟨⟨[], by simp⟩, s, hl, rfl, by simpa using h0⟩
 ·refine hcall.mono ?_
  rintro o s' (⟨rfl, ⟨-, s₂, k1, rfl, k2⟩ | ⟨j, s₂, k1, rfl, k2⟩⟩ | ⟨v, rfl, s₂, k1, rfl, k2⟩)
  ·exact .inl ⟨s₂, k1, rfl, hend _ k2⟩
  ·exact .inr ⟨j, s₂, k1, rfl, hj _ _ k2⟩
  ·exact ⟨s₂, _, k1, rfl, hx _ _ k2⟩
 ·rintro x rem s' ⟨⟨pre, hpre⟩, s₂, k1, rfl, k2⟩
  have hm : x ∈ e.allE := by rw [hpre]; simp
  refine (hyield [x.av] _ (I rem) J X sSam rfl ?_).mono ?_
  ·rw [Store.del_set _ _ _ k1]
   exact round x rem s₂ hm k2
  ·rintro o s' (⟨rfl, s₃, q1, rfl, q2⟩ | ⟨rfl, j, s₃, q1, rfl, q2⟩ | ⟨v, s₃, rfl, q1, rfl, q2⟩)
   ·exact .inl ⟨rfl, ⟨pre ++ [x], by simp [hpre]⟩, s₃, q1, rfl, q2⟩
   ·exact .inr (.inl ⟨rfl, j, s₃, q1, rfl, q2⟩)
   ·exact .inr (.inr ⟨v, rfl, s₃, q1, rfl, q2⟩)
end
end Go.Proofs.YtaafacnoddjhgaaGreat

/- Contracts of the layer 'shape': an expression in place of a name. -/
namespace Go.Proofs.YtaafacnoddjhgaaGreat
open Go.AE

def letS (x : Str) (fr tk : List Str) (on : Bool) (t : Str) (ks : List FExp) : Str × List Str :=
 if !on || t == x || !fr.contains t || !(match ks[1]? with | some k => k.frees.contains x | none => false) then (t, tk) else (freshS tk, insS tk (freshS tk))

def nameE (s : Str) : FExp := .mk 3 0 s []

mutual
def FExp.put (x : Str) (y : FExp) (fr : List Str) : List (Str × Str) → Bool → List Str → FExp → FExp × List Str
 | sc, on, tk, .mk o n t ks =>
  if o == 3 then ((match stands sc t with | some to => nameE to | none => if on && t == x then y else nameE t), tk)
  else
   let r := if o == 9 then letS x fr tk on t ks else (t, tk)
   let q := FExp.puts x y fr (o == 9) t r.1 sc on 0 r.2 ks
   (.mk o n r.1 q.1, q.2)
def FExp.puts (x : Str) (y : FExp) (fr : List Str) (isLet : Bool) (t t' : Str) (sc : List (Str × Str)) (on : Bool) : Nat → List Str → List FExp → List FExp × List Str
 | _, tk, [] => ([], tk)
 | i, tk, k :: r =>
  let a := FExp.put x y fr (if isLet && i == 1 then (t, t') :: sc else sc) (if isLet && i == 1 then on && !(t == x) else on) tk k
  let b := FExp.puts x y fr isLet t t' sc on (i + 1) a.2 r
  (a.1 :: b.1, b.2)
end

def putterCells (x : Str) (y : FExp) (fb tb : Nat) : List AV := .str x :: (y.cells ++ [.map fb, .map tb])

theorem RD_step {P : Program} {Γ : Tys} {N : Nat} {l : List Oper} {Q : AEx → Env → Store → Prop} {env : Env} {s : Store} {m : Nat} (x x' : AV) {d : Nat} (h : x = x') (k : RD P Γ N l.toArray Q (dn m) ((d, x') :: env) s) :
  RD P Γ N l.toArray Q (dn m) ((d, x) :: env) s := h ▸ k

set_option maxRecDepth 10000 in
theorem let_spec (x : Str) (y : FExp) (fb tb : Nat) (fr tk : List Str) (e : FExp) (on : Bool) (s : Store) (hfb : s fb = some (.map (setA fr))) (htb : s tb = some (.map (setA tk))) (he : e.size ≤ big) (hk : e.kids.length = 2) (hf : HasFree tk) :
  ACalls Tryz.prog 108 [.fptr (putterCells x y fb tb) 0, e.av, .bool on] s (fun o s' => o = .ret (.str (letS x fr tk on e.text e.kids).1) ∧ s' = s.set tb (.map (setA (letS x fr tk on e.text e.kids).2))) := by
 refine ACalls.of_CW tO call108 Tryz.func108 rfl rfl ?_
 have hst : s.set tb (.map (setA tk)) = s := Store.set_eq _ _ _ htb
 obtain ⟨k, hk1, hk1', hks⟩ := FExp.kid_at (e := e) (by omega : 1 < e.kids.length)
 cases on with
 | false =>
  repeat (first | (with_reducible first | apply CW.seq | apply aN | apply aR | apply CW.ret) | refine wR rfl ?_ | refine CW.condT rfl ?_ | refine CW.drw tO mixed rfl (RD.run rfl (RD.done rfl ?_)))
  exact ⟨_, _, _, rfl, aRfl, sSub, by simp [letS], by simp [letS, hst]⟩
 | true =>
  repeat (first | (with_reducible first | apply CW.seq | apply aN) | refine wR rfl ?_)
  refine CW.drw tO mixed rfl (RD.runs (is := List.range 12) rfl ?_)
  cases h2 : e.text == x with
  | true =>
   refine RD.run rfl (RD.done rfl ?_)
   repeat (first | (with_reducible first | apply CW.seq | apply aN | apply aR | apply CW.ret) | refine wR rfl ?_ | refine CW.condT rfl ?_)
   exact ⟨_, _, _, rfl, aRfl, sSub, by simp [letS, h2], by simp [letS, h2, hst]⟩
  | false =>
   refine RD.runs (is := [12, 13, 14, 15, 16, 17]) rfl ?_
   refine RD.one (i := 18) rfl rfl rfl rfl rfl (OW.lookup tO rfl rfl rfl rfl rfl rfl rfl (.inl ⟨fb, rfl, hfb⟩) rfl (getA_set _ _) rfl (X := fun _ _ => False)) ?_ (fun _ _ h => False.elim h)
   rintro z s' ⟨hz, rfl⟩
   refine RD_step _ _ (hz.trans (gotA_set _ _)) ?_
   refine RD.runs (is := [19, 20, 21]) rfl ?_
   cases h3 : fr.contains e.text with
   | false =>
    refine RD.run rfl (RD.done rfl ?_)
    repeat (first | (with_reducible first | apply CW.seq | apply aN | apply aR | apply CW.ret) | refine wR rfl ?_ | refine CW.condT rfl ?_)
    exact ⟨_, _, _, rfl, aRfl, sSub, by simp only [letS, h3]; simp, by simp only [letS, h3]; simp [hst]⟩
   | true =>
    refine RD.run rfl ?_
    refine RD.idx 24 1 rfl rfl rfl rfl rfl rfl rfl rfl rfl rfl rfl rfl rfl hk1' rfl ?_
    refine RD.run rfl ?_
    refine RD.call (i := 26) rfl rfl rfl rfl rfl rfl rfl (freeOf_spec k _ (by omega)) ?_ (fun _ _ ⟨_, _, h, _⟩ => by cases h)
    rintro _ _ ⟨b, hb, ⟨⟩, rfl⟩
    refine RD.run rfl ?_
    refine RD.one (i := 31) rfl rfl rfl rfl rfl (OW.lookup tO rfl rfl rfl rfl rfl rfl rfl (.inl ⟨b, rfl, sSam⟩) rfl (getA_set _ _) rfl (X := fun _ _ => False)) ?_ (fun _ _ h => False.elim h)
    rintro z s' ⟨hz, rfl⟩
    refine RD_step _ _ (hz.trans (gotA_set _ _)) ?_
    refine RD.run rfl (RD.done rfl ?_)
    have hne : tb ≠ b := fun e => by subst e; rw [hb] at htb; cases htb
    have hS : (letS x fr tk true e.text e.kids) = if k.frees.contains x then (freshS tk, insS tk (freshS tk)) else (e.text, tk) := by
     simp only [letS, h2, h3, hk1]
     cases k.frees.contains x <;> rfl
    rw [hS]
    cases h4 : k.frees.contains x with
    | false =>
     repeat (first | (with_reducible first | apply CW.seq | apply aN | apply aR | apply CW.ret) | refine wR rfl ?_ | refine CW.condT rfl ?_)
     exact ⟨_, _, _, rfl, aRfl, Store.sub_set _ _ _ hb, rfl, hst.symm⟩
    | true =>
     repeat (first | (with_reducible first | apply CW.seq | apply aN | apply CW.skip) | refine CW.reg ?_ | refine CW.condF rfl ?_ | refine wS rfl ?_)
     refine RL.callP rfl rfl rfl rfl rfl (fresh_spec tk tb _ (by rw [Store.set_ne _ _ hne]; exact htb) hf) ?_
     repeat (first | (with_reducible first | apply CW.seq | apply aN) | refine CW.reg ?_ | refine RL.nil ?_ | refine wS rfl ?_)
     refine RL.mapUpdate tO rfl rfl (.inl rfl) rfl rfl rfl rfl rfl rfl (by rw [Store.set_ne _ _ hne]; exact htb) rfl (putA_set _ _) ?_
     repeat (first | (with_reducible first | apply CW.seq | apply aN | apply CW.ret) | refine wR rfl ?_ | refine RL.nil ?_)
     refine ⟨_, _, _, rfl, aRfl, ?_, rfl, rfl⟩
     rw [Store.set_comm _ _ _ (Ne.symm hne)]
     exact Store.sub_set _ _ _ (by rw [Store.set_ne _ _ (Ne.symm hne)]; exact hb)

theorem rowOf_upd1 {B : Store} {c m : Nat} {o o' o'' : AObj} {e : TypeId} {sz n : Nat} {own : Own} (h : ∀ b', own = .own b' → b' ≠ m) :
  (rowOf ((B.set c o).set m o') e sz n own).set m o'' = rowOf ((B.set c o).set m o'') e sz n own := by
 rw [rowOf_set h, Store.set_set]
theorem rowOf_upd2 {B : Store} {c m : Nat} {o o' o'' : AObj} {e : TypeId} {sz n : Nat} {own : Own} (h : ∀ b', own = .own b' → b' ≠ c) (hcm : c ≠ m) :
  (rowOf ((B.set c o).set m o') e sz n own).set c o'' = rowOf ((B.set c o'').set m o') e sz n own := by
 rw [rowOf_set h, ← Store.set_comm _ _ _ hcm, Store.set_set]

theorem OwnOk.congr {s t : Store} {n m : Nat} {own : Own} (h : ∀ x, s x = none → t x = none) (hok : OwnOk s n own) : OwnOk t m own := by
 cases own with
 | own b => exact h b hok
 | nil => trivial
 | clip => trivial
 | fro => exact hok

mutual
def FExp.lets2 : FExp → Bool
 | .mk o _ _ ks => (!(o == 9) || ks.length == 2) && FExp.letss2 ks
def FExp.letss2 : List FExp → Bool
 | [] => true
 | k :: r => FExp.lets2 k && FExp.letss2 r
end

theorem letS_taken (x : Str) (fr tk : List Str) (on : Bool) (t : Str) (ks : List FExp) : (letS x fr tk on t ks).2.length ≤ tk.length + 1 := by
 unfold letS insS
 split
 ·split
  ·simp
  ·split <;> simp
 ·split
  ·simp
  ·split <;> simp

mutual
theorem put_taken (x : Str) (y : FExp) (fr : List Str) : ∀ (e : FExp) (sc : List (Str × Str)) (on : Bool) (tk : List Str), (FExp.put x y fr sc on tk e).2.length ≤ tk.length + e.size
  | .mk o n t ks, sc, on, tk => by
    rw [FExp.put]
    split
    · simp
    · simp only [FExp.size]
      have h1 := puts_taken x y fr ks (o == 9) t (if o == 9 then letS x fr tk on t ks else (t, tk)).1 sc on 0 (if o == 9 then letS x fr tk on t ks else (t, tk)).2
      have h2 : (if o == 9 then letS x fr tk on t ks else (t, tk)).2.length ≤ tk.length + 1 := by
        cases o == 9
        · simp
        · exact letS_taken _ _ _ _ _ _
      omega
theorem puts_taken (x : Str) (y : FExp) (fr : List Str) : ∀ (ks : List FExp) (isLet : Bool) (t t' : Str) (sc : List (Str × Str)) (on : Bool) (i : Nat) (tk : List Str), (FExp.puts x y fr isLet t t' sc on i tk ks).2.length ≤ tk.length + FExp.sizes ks
  | [], _, _, _, _, _, _, _ => by simp [FExp.puts]
  | k :: r, isLet, t, t', sc, on, i, tk => by
    simp only [FExp.puts, FExp.sizes]
    have h1 := put_taken x y fr k (if isLet && i == 1 then (t, t') :: sc else sc) (if isLet && i == 1 then on && !(t == x) else on) tk
    have h2 := puts_taken x y fr r isLet t t' sc on (i + 1) (FExp.put x y fr (if isLet && i == 1 then (t, t') :: sc else sc) (if isLet && i == 1 then on && !(t == x) else on) tk k).2
    omega
end

theorem resA_cell {Γ : Tys} {env : Env} {s : Store} {a b : Nat} {t T : TypeId} {i : TI} {cs : List AV} {v : AV} (he : env.get? a = some (.ptr b 0)) (hi : Γ.get? t = some i) (hs : s b = some (.box T cs)) (hl : loadC i cs 0 = some v) :
  resA Γ env s [.cell a t] = some v := by simp [resA, resAll, resOne, he, hi, hs, hl]
theorem resA_cellT {Γ : Tys} {env : Env} {s : Store} {a b c : Nat} {t T : TypeId} {i : TI} {cs : List AV} {v u : AV} (he : env.get? a = some (.ptr b 0)) (hi : Γ.get? t = some i) (hs : s b = some (.box T cs)) (hl : loadC i cs 0 = some v) (hc : env.get? c = some u) :
  resA Γ env s [.cell a t, .tmp c] = some (.tup [v, u]) := by simp [resA, resAll, resOne, he, hi, hs, hl, hc]

def box0 : AObj := .box 27 [.int .i64 0, .int .i64 0, .str [], .slc 0 [] .nil]

theorem name_le (s : Str) : AVle (.agg [.int .i64 3, .int .i64 0, .str s, .slc 0 [] .nil]) (nameE s).av :=
 AVle.agg (.cons aRfl (.cons aRfl (.cons aRfl (.one AVle.empty))))

theorem put_name {x : Str} {y : FExp} {fr : List Str} {sc : List (Str × Str)} {on : Bool} {tk : List Str} {e : FExp} (h : (e.op == 3) = true) :
  FExp.put x y fr sc on tk e = ((match stands sc e.text with | some to => nameE to | none => if on && e.text == x then y else nameE e.text), tk) := by
 cases e with | mk o n t ks => have h' : (o == 3) = true := h; rw [FExp.put, if_pos h']; rfl

def textS (x : Str) (fr tk : List Str) (on : Bool) (e : FExp) : Str × List Str := if e.op == 9 then letS x fr tk on e.text e.kids else (e.text, tk)

theorem put_other {x : Str} {y : FExp} {fr : List Str} {sc : List (Str × Str)} {on : Bool} {tk : List Str} {e : FExp} (h : (e.op == 3) = false) :
  FExp.put x y fr sc on tk e = (.mk e.op e.n (textS x fr tk on e).1 (FExp.puts x y fr (e.op == 9) e.text (textS x fr tk on e).1 sc on 0 (textS x fr tk on e).2 e.kids).1, (FExp.puts x y fr (e.op == 9) e.text (textS x fr tk on e).1 sc on 0 (textS x fr tk on e).2 e.kids).2) := by
 cases e with | mk o n t ks => rw [FExp.put, if_neg (by rw [show (o == 3) = false from h]; simp)]; rfl

theorem letss2_mem : ∀ {l : List FExp} {k : FExp}, FExp.letss2 l = true → k ∈ l → k.lets2 = true
  | [], _, _, h => by cases h
  | c :: l, k, h, hk => by
    simp only [FExp.letss2, Bool.and_eq_true] at h
    rcases List.mem_cons.1 hk with rfl | hk
    · exact h.1
    · exact letss2_mem h.2 hk

theorem lets2_def (e : FExp) : e.lets2 = ((!(e.op == 9) || e.kids.length == 2) && FExp.letss2 e.kids) := by cases e; rw [FExp.lets2]; rfl

theorem FExp.sizes_drop {l : List FExp} {j : Nat} {k : FExp} (h : l[j]? = some k) : FExp.sizes (l.drop j) = k.size + FExp.sizes (l.drop (j + 1)) := by rw [drop_cons h, FExp.sizes]
theorem FExp.size_def (e : FExp) : e.size = 1 + FExp.sizes e.kids := by cases e; rw [FExp.size]; rfl

theorem textS_taken (x : Str) (fr tk : List Str) (on : Bool) (e : FExp) : (textS x fr tk on e).2.length ≤ tk.length + 1 := by
 unfold textS
 cases e.op == 9
 ·simp
 ·exact letS_taken _ _ _ _ _ _

set_option maxRecDepth 10000 in
set_option maxHeartbeats 1000000 in
theorem put_spec (x : Str) (y : FExp) (fb tb : Nat) (fr : List Str) (hy : y.size ≤ big) (hft : fb ≠ tb) : ∀ (n : Nat) (e : FExp) (sc : List (Str × Str)) (on : Bool) (tk : List Str) (s : Store), e.size ≤ n → e.size ≤ big → e.lets2 = true → tk.length + e.size < 698 →
    s fb = some (.map (setA fr)) → s tb = some (.map (setA tk)) →
    ACalls Tryz.prog 68 [.fptr (putterCells x y fb tb) 0, e.av, scopeAV sc, .bool on] s (fun o s' => o = .ret (FExp.put x y fr sc on tk e).1.av ∧ s' = s.set tb (.map (setA (FExp.put x y fr sc on tk e).2))) := by
  intro n
  induction n with
  | zero => intro e sc on tk s h; have := e.size_pos; omega
  | succ n ih =>
    intro e sc on tk s hn hbig hl2 htk hfb htb
    have hlen := e.kids_length
    have hkl := e.kav_length
    have hb : big = 1099511627776 := rfl
    have hst : s.set tb (.map (setA tk)) = s := Store.set_eq _ _ _ htb
    refine ACalls.of_CW tO call68 Tryz.func68 rfl rfl ?_
    refine CW.seqCutX (σ := Nat) (fun b8 => [(0, .fptr (putterCells x y fb tb) 0), (2, scopeAV sc), (3, .bool on), (5, .fptr e.cells 0), (8, .ptr b8 0)]) (fun b8 => s.set b8 box0) (fun b8 => s b8 = none) ?_ ?_
    · repeat (first | refine CW.reg ?_ | refine wS rfl ?_)
      refine RL.alloc tO rfl rfl rfl rfl rfl rfl rfl (fun b8 hb8 => ?_)
      repeat (first | refine RL.nil ?_)
      exact ⟨rfl, b8, hb8, ⟨⟨_, rfl, aRfl⟩, ⟨_, rfl, aRfl⟩, ⟨_, rfl, aRfl⟩, ⟨_, rfl, aRfl⟩, ⟨_, rfl, aRfl⟩, trivial⟩, sSub⟩
    intro b8 hb8
    have h8f : fb ≠ b8 := fun e => by subst e; rw [hb8] at hfb; cases hfb
    have h8t : tb ≠ b8 := fun e => by subst e; rw [hb8] at htb; cases htb
    repeat (first | (with_reducible first | apply CW.seq | apply aN) | refine wR rfl ?_)
    refine CW.cond rfl (fun h3 => ?_) (fun h3 => ?_)
    · have hl := scopeLook_spec e.text (s.set b8 box0) sc
      cases h1 : stands sc e.text with
      | some to =>
        rw [h1] at hl
        repeat (first | with_reducible apply CW.seq | refine CW.reg ?_ | refine wS rfl ?_)
        refine RL.callP rfl rfl rfl rfl rfl hl ?_
        repeat (first | (with_reducible first | apply CW.seq | apply aN | apply aR | apply CW.ret | apply CW.skip) | refine CW.reg ?_ | refine RL.nil ?_ | refine CW.condF rfl ?_ | refine wS rfl ?_ | refine CW.drw tO mixed rfl (RD.run rfl (RD.done rfl ?_)) | (refine RL.storeP tO rfl rfl rfl rfl rfl rfl rfl rfl rfl sSam rfl ?_; try with_reducible rw [Store.set_set]))
        refine ⟨_, _, s, resA_cell rfl rfl sSam rfl, name_le _, Store.sub_set _ _ _ hb8, ?_, ?_⟩
        · rw [put_name h3, h1]; rfl
        · rw [put_name h3]; exact hst.symm
      | none =>
        rw [h1] at hl
        cases on with
        | false =>
          repeat (first | with_reducible apply CW.seq | refine CW.reg ?_ | refine wS rfl ?_)
          refine RL.callP rfl rfl rfl rfl rfl hl ?_
          repeat (first | (with_reducible first | apply CW.seq | apply aN | apply aR | apply CW.ret | apply CW.skip) | refine CW.reg ?_ | refine RL.nil ?_ | refine CW.condF rfl ?_ | refine wS rfl ?_ | refine CW.drw tO mixed rfl (RD.run rfl (RD.done rfl ?_)) | (refine RL.storeP tO rfl rfl rfl rfl rfl rfl rfl rfl rfl sSam rfl ?_; try with_reducible rw [Store.set_set]))
          refine ⟨_, _, s, resA_cell rfl rfl sSam rfl, name_le _, Store.sub_set _ _ _ hb8, ?_, ?_⟩
          · rw [put_name h3, h1]; rfl
          · rw [put_name h3]; exact hst.symm
        | true =>
          repeat (first | with_reducible apply CW.seq | refine CW.reg ?_ | refine wS rfl ?_)
          refine RL.callP rfl rfl rfl rfl rfl hl ?_
          repeat (first | (with_reducible first | apply CW.seq | apply aN) | refine RL.nil ?_ | refine wS rfl ?_)
          refine CW.drw tO mixed rfl (RD.runs (is := List.range 14) rfl (RD.done rfl ?_))
          refine CW.cond rfl (fun h2 => ?_) (fun h2 => ?_)
          · repeat (first | with_reducible apply CW.seq | refine CW.reg ?_ | refine wS rfl ?_)
            refine RL.callP rfl rfl rfl rfl rfl (copied_spec _ y _ (Nat.le_refl _) hy) ?_
            repeat (first | (with_reducible first | apply aN | apply aR | apply CW.ret) | refine RL.nil ?_ | (refine RL.storeP tO rfl rfl rfl rfl rfl rfl rfl rfl rfl sSam rfl ?_; try with_reducible rw [Store.set_set]))
            refine ⟨_, _, s, resA_cell rfl rfl sSam rfl, aRfl, Store.sub_set _ _ _ hb8, ?_, ?_⟩
            · rw [put_name h3, h1]; simp only [h2, Bool.true_and, if_true]; rfl
            · rw [put_name h3]; exact hst.symm
          · repeat (first | (with_reducible first | apply CW.seq | apply aN | apply aR | apply CW.ret | apply CW.skip) | refine CW.reg ?_ | refine RL.nil ?_ | refine wS rfl ?_ | (refine RL.storeP tO rfl rfl rfl rfl rfl rfl rfl rfl rfl sSam rfl ?_; try with_reducible rw [Store.set_set]))
            refine ⟨_, _, s, resA_cell rfl rfl sSam rfl, name_le _, Store.sub_set _ _ _ hb8, ?_, ?_⟩
            · rw [put_name h3, h1]; simp only [h2]; rfl
            · rw [put_name h3]; exact hst.symm
    · repeat (first | (with_reducible first | apply CW.seq | apply aN | apply CW.skip) | refine CW.reg ?_ | refine wS rfl ?_)
      refine RL.alloc tO rfl rfl rfl rfl rfl rfl rfl (fun b11 hb11 => ?_)
      refine RL.storeP tO rfl rfl rfl rfl rfl rfl rfl rfl rfl sSam rfl ?_
      rw [Store.set_set]
      refine RL.nil (aN ?_)
      refine CW.boxWeak b11 (part4 e.op e.n e.text [] .nil) sSam (part4_nil _ _ _) ?_
      rw [Store.set_set]
      obtain ⟨hn8, hn11⟩ := Store.set_none hb11
      have h11f : fb ≠ b11 := fun e => by subst e; rw [hn11] at hfb; cases hfb
      have h11t : tb ≠ b11 := fun e => by subst e; rw [hn11] at htb; cases htb
      have hS : ∀ o, ((s.set b8 box0).set b11 o).set tb (.map (setA tk)) = (s.set b8 box0).set b11 o := fun o => Store.set_eq _ _ _ (by rw [Store.set_ne _ _ h11t, Store.set_ne _ _ h8t]; exact htb)
      rw [← hS]
      refine CW.seqCut [(0, .fptr (putterCells x y fb tb) 0), (2, scopeAV sc), (3, .bool on), (5, .fptr e.cells 0), (8, .ptr b8 0), (11, .ptr b11 0)]
        (((s.set b8 box0).set b11 (.box 27 (part4 e.op e.n (textS x fr tk on e).1 [] .nil))).set tb (.map (setA (textS x fr tk on e).2))) ?_ ?_
      · repeat (first | (with_reducible first | apply CW.seq | apply aN) | refine wR rfl ?_)
        refine CW.cond rfl (fun h9 => ?_) (fun h9 => ?_)
        · have hk2 : e.kids.length = 2 := by
            rw [lets2_def] at hl2
            have h9' : (e.op == 9) = true := h9
            rw [h9'] at hl2; simp at hl2; exact hl2.1
          have hT : textS x fr tk on e = letS x fr tk on e.text e.kids := by rw [textS, if_pos h9]
          rw [hT]
          repeat (first | refine CW.reg ?_ | refine wS rfl ?_)
          refine RL.call rfl rfl rfl rfl rfl (let_spec x y fb tb fr tk e on _ (by rw [Store.set_ne _ _ hft, Store.set_ne _ _ h11f, Store.set_ne _ _ h8f]; exact hfb) sSam hbig hk2 (hasFree_of (by omega))) ?_ (fun _ _ ⟨h, _⟩ => by cases h)
          rintro _ _ ⟨⟨⟩, rfl⟩
          rw [Store.set_set]
          repeat (first | refine wS rfl ?_)
          refine RL.storeP tO rfl rfl rfl rfl rfl rfl rfl rfl rfl (by rw [Store.set_ne _ _ (Ne.symm h11t)]; exact sSam) rfl ?_
          rw [← Store.set_comm _ _ _ (Ne.symm h11t), Store.set_set]
          repeat (first | refine RL.nil ?_)
          exact ⟨rfl, ⟨⟨_, rfl, aRfl⟩, ⟨_, rfl, aRfl⟩, ⟨_, rfl, aRfl⟩, ⟨_, rfl, aRfl⟩, ⟨_, rfl, aRfl⟩, ⟨_, rfl, aRfl⟩, trivial⟩, sSub⟩
        · have hT : textS x fr tk on e = (e.text, tk) := by rw [textS, if_neg (by have h9' : (e.op == 9) = false := h9; rw [h9']; simp)]
          rw [hT]
          repeat (first | with_reducible apply CW.skip)
          exact ⟨rfl, ⟨⟨_, rfl, aRfl⟩, ⟨_, rfl, aRfl⟩, ⟨_, rfl, aRfl⟩, ⟨_, rfl, aRfl⟩, ⟨_, rfl, aRfl⟩, ⟨_, rfl, aRfl⟩, trivial⟩, sSub⟩
      have hput := put_other (x := x) (y := y) (fr := fr) (sc := sc) (on := on) (tk := tk) (e := e) h3
      have htx := textS_taken x fr tk on e
      generalize textS x fr tk on e = tx at hput htx ⊢
      obtain ⟨t', tk1⟩ := tx
      simp only at hput htx ⊢
      rw [FExp.size_def] at htk
      repeat (first | (with_reducible first | apply CW.seq | apply aN | apply CW.block) | refine wR rfl ?_)
      refine CW.loop (σ := Nat × Own × List FExp × List Str) (fun q => [(0, .fptr (putterCells x y fb tb) 0), (2, scopeAV sc), (3, .bool on), (5, .fptr e.cells 0), (8, .ptr b8 0), (11, .ptr b11 0), (63, .slc 4 e.kav .fro), (64, .int .i64 e.kav.length), (65, .int .i64 (q.1 : Int))])
        (fun q => rowOf (((s.set b8 box0).set b11 (.box 27 (part4 e.op e.n t' q.2.2.1 q.2.1))).set tb (.map (setA q.2.2.2))) 27 4 q.1 q.2.1)
        (fun q => q.1 ≤ e.kids.length ∧ q.2.2.1.length = q.1 ∧ OwnOk (((s.set b8 box0).set b11 (.box 27 (part4 e.op e.n t' q.2.2.1 q.2.1))).set tb (.map (setA q.2.2.2))) q.1 q.2.1 ∧
          q.2.2.2.length + FExp.sizes (e.kids.drop q.1) < 698 ∧
          FExp.put x y fr sc on tk e = (.mk e.op e.n t' (q.2.2.1 ++ (FExp.puts x y fr (e.op == 9) e.text t' sc on q.1 q.2.2.2 (e.kids.drop q.1)).1), (FExp.puts x y fr (e.op == 9) e.text t' sc on q.1 q.2.2.2 (e.kids.drop q.1)).2))
        (fun q => e.kids.length - q.1) (0, .nil, [], tk1) ⟨by simp, rfl, trivial, by simp; omega, hput⟩ ?_ sSub ?_
      · exact ⟨⟨_, rfl, aRfl⟩, ⟨_, rfl, aRfl⟩, ⟨_, rfl, aRfl⟩, ⟨_, rfl, aRfl⟩, ⟨_, rfl, aRfl⟩, ⟨_, rfl, aRfl⟩, ⟨_, rfl, aRfl⟩, ⟨_, rfl, aRfl⟩, ⟨_, rfl, aRfl⟩, trivial⟩
      · rintro ⟨j, own, rs, tk2⟩ ⟨hj, hrs, hok, htk2, hP⟩
        simp only at hj hrs hok htk2 hP
        repeat (first | (with_reducible first | apply CW.seq | apply aN) | refine wR rfl ?_)
        refine CW.cond rfl (fun h => ?_) (fun h => ?_)
        · have hlt : j < e.kids.length := by rw [hkl] at h; simpa using h
          obtain ⟨k, hk, hk', hks⟩ := FExp.kid_at hlt
          rw [drop_cons hk, FExp.puts] at hP
          rw [FExp.sizes_drop hk] at htk2
          repeat (first | (with_reducible first | apply CW.seq | apply aN | apply CW.skip | apply CW.block) | refine CW.reg ?_ | refine wS rfl ?_ | refine RL.idx tO _ rfl rfl rfl rfl rfl rfl rfl rfl rfl rfl rfl (by assumption) rfl ?_)
          refine RL.alloc tO rfl rfl rfl rfl rfl rfl rfl (fun b13 hb13 => ?_)
          refine wS rfl ?_
          refine RL.storeP tO rfl rfl rfl rfl rfl rfl rfl rfl rfl sSam rfl ?_
          rw [Store.set_set]
          refine RL.freeze 13 b13 rfl sSam ?_
          rw [Store.del_set _ _ _ hb13]
          refine RL.nil (aN ?_)
          have hnb11 : ∀ b', own = .own b' → b' ≠ b11 := OwnOk.ne (n := j) hok (by rw [Store.set_ne _ _ (Ne.symm h11t)]; exact sSam)
          have hnbt : ∀ b', own = .own b' → b' ≠ tb := OwnOk.ne (n := j) hok sSam
          have hg11 : ∀ M, rowOf (((s.set b8 box0).set b11 (.box 27 (part4 e.op e.n t' rs own))).set tb M) 27 4 j own b11 = some (.box 27 (part4 e.op e.n t' rs own)) := fun M =>
            rowOf_get (m := j) (OwnOk.congr (n := j) (fun z hz => by
              by_cases ez : z = tb
              · subst ez; rw [Store.set_same] at hz; cases hz
              · rw [Store.set_ne _ _ ez] at hz ⊢; exact hz) hok) (by rw [Store.set_ne _ _ (Ne.symm h11t)]; exact sSam)
          refine CW.seqCut [(0, .fptr (putterCells x y fb tb) 0), (2, scopeAV sc), (3, .bool on), (5, .fptr e.cells 0), (8, .ptr b8 0), (11, .ptr b11 0), (63, .slc 4 e.kav .fro), (64, .int .i64 e.kav.length), (65, .int .i64 (j : Int)), (13, .fptr k.cells 0), (12, .int .i64 (j : Int)), (14, scopeAV sc), (15, .bool on)] (rowOf (((s.set b8 box0).set b11 (.box 27 (part4 e.op e.n t' rs own))).set tb (.map (setA tk2))) 27 4 j own) ?_ ?_
          · repeat (first | refine wR rfl ?_)
            exact ⟨rfl, ⟨⟨_, rfl, aRfl⟩, ⟨_, rfl, aRfl⟩, ⟨_, rfl, aRfl⟩, ⟨_, rfl, aRfl⟩, ⟨_, rfl, aRfl⟩, ⟨_, rfl, aRfl⟩, ⟨_, rfl, aRfl⟩, ⟨_, rfl, aRfl⟩, ⟨_, rfl, aRfl⟩, ⟨_, rfl, aRfl⟩, ⟨_, rfl, aRfl⟩, ⟨_, rfl, aRfl⟩, ⟨_, rfl, aRfl⟩, trivial⟩, sSub⟩
          refine CW.seqCut [(0, .fptr (putterCells x y fb tb) 0), (2, scopeAV sc), (3, .bool on), (5, .fptr e.cells 0), (8, .ptr b8 0), (11, .ptr b11 0), (63, .slc 4 e.kav .fro), (64, .int .i64 e.kav.length), (65, .int .i64 (j : Int)), (13, .fptr k.cells 0), (14, scopeAV (if e.op == 9 && j == 1 then (e.text, t') :: sc else sc)), (15, .bool (if e.op == 9 && j == 1 then on && !(e.text == x) else on))] (rowOf (((s.set b8 box0).set b11 (.box 27 (part4 e.op e.n t' rs own))).set tb (.map (setA tk2))) 27 4 j own) ?_ ?_
          · repeat (first | with_reducible apply CW.seq | refine CW.reg ?_ | refine wS rfl ?_)
            refine RL.cut 3 [(0, .fptr (putterCells x y fb tb) 0), (2, scopeAV sc), (3, .bool on), (5, .fptr e.cells 0), (8, .ptr b8 0), (11, .ptr b11 0), (63, .slc 4 e.kav .fro), (64, .int .i64 e.kav.length), (65, .int .i64 (j : Int)), (13, .fptr k.cells 0), (14, scopeAV sc), (15, .bool on), (78, .bool (e.op == 9 && j == 1))] ?_ ?_
            · repeat' (first | refine RL.nil ?_ | refine wS rfl ?_ | refine RL.skip rfl rfl rfl ?_ | refine RL.gstepT tO rfl rfl rfl rfl rfl rfl rfl (fun _ => ?_) (fun _ => ?_))
              all_goals refine ⟨rfl, ⟨⟨_, rfl, aRfl⟩, ⟨_, rfl, aRfl⟩, ⟨_, rfl, aRfl⟩, ⟨_, rfl, aRfl⟩, ⟨_, rfl, aRfl⟩, ⟨_, rfl, aRfl⟩, ⟨_, rfl, aRfl⟩, ⟨_, rfl, aRfl⟩, ⟨_, rfl, aRfl⟩, ⟨_, rfl, aRfl⟩, ⟨_, rfl, aRfl⟩, ⟨_, rfl, aRfl⟩, ⟨_, rfl, AVle.of_eq ?_⟩, trivial⟩, rfl⟩
              all_goals simp_all
              all_goals (rw [Bool.eq_iff_iff]; simp; omega)
            cases hc : e.op == 9 && j == 1 with
            | false =>
              repeat (first | (with_reducible first | apply aN | apply CW.skip) | refine RL.nil ?_ | refine CW.condF rfl ?_)
              exact ⟨rfl, ⟨⟨_, rfl, aRfl⟩, ⟨_, rfl, aRfl⟩, ⟨_, rfl, aRfl⟩, ⟨_, rfl, aRfl⟩, ⟨_, rfl, aRfl⟩, ⟨_, rfl, aRfl⟩, ⟨_, rfl, aRfl⟩, ⟨_, rfl, aRfl⟩, ⟨_, rfl, aRfl⟩, ⟨_, rfl, aRfl⟩, ⟨_, rfl, aRfl⟩, ⟨_, rfl, aRfl⟩, trivial⟩, sSub⟩
            | true =>
              cases on with
              | true =>
                cases sc with
                | nil =>
                  repeat (first | with_reducible apply aN | refine RL.nil ?_ | refine CW.condT rfl ?_)
                  refine CW.drw tO mixed rfl (RD.run rfl ?_)
                  refine RD.one (i := 4) rfl rfl rfl rfl rfl (OW.loadP tO rfl rfl rfl (hg11 _) rfl (X := fun _ _ => False)) ?_ (fun _ _ h => False.elim h)
                  rintro _ _ ⟨rfl, rfl⟩
                  refine RD.run rfl (RD.done rfl ?_)
                  skip
                  exact ⟨rfl, ⟨⟨_, rfl, aRfl⟩, ⟨_, rfl, aRfl⟩, ⟨_, rfl, aRfl⟩, ⟨_, rfl, aRfl⟩, ⟨_, rfl, aRfl⟩, ⟨_, rfl, aRfl⟩, ⟨_, rfl, aRfl⟩, ⟨_, rfl, aRfl⟩, ⟨_, rfl, aRfl⟩, ⟨_, rfl, aRfl⟩, ⟨_, rfl, aRfl⟩, ⟨_, rfl, aRfl⟩, trivial⟩, sSub⟩
                | cons _ _ =>
                  repeat (first | with_reducible apply aN | refine RL.nil ?_ | refine CW.condT rfl ?_)
                  refine CW.drw tO mixed rfl (RD.run rfl ?_)
                  refine RD.one (i := 4) rfl rfl rfl rfl rfl (OW.loadP tO rfl rfl rfl (hg11 _) rfl (X := fun _ _ => False)) ?_ (fun _ _ h => False.elim h)
                  rintro _ _ ⟨rfl, rfl⟩
                  refine RD.run rfl (RD.done rfl ?_)
                  skip
                  exact ⟨rfl, ⟨⟨_, rfl, aRfl⟩, ⟨_, rfl, aRfl⟩, ⟨_, rfl, aRfl⟩, ⟨_, rfl, aRfl⟩, ⟨_, rfl, aRfl⟩, ⟨_, rfl, aRfl⟩, ⟨_, rfl, aRfl⟩, ⟨_, rfl, aRfl⟩, ⟨_, rfl, aRfl⟩, ⟨_, rfl, aRfl⟩, ⟨_, rfl, aRfl⟩, ⟨_, rfl, aRfl⟩, trivial⟩, sSub⟩
              | false =>
                cases sc with
                | nil =>
                  repeat (first | with_reducible apply aN | refine RL.nil ?_ | refine CW.condT rfl ?_)
                  refine CW.drw tO mixed rfl (RD.run rfl ?_)
                  refine RD.one (i := 4) rfl rfl rfl rfl rfl (OW.loadP tO rfl rfl rfl (hg11 _) rfl (X := fun _ _ => False)) ?_ (fun _ _ h => False.elim h)
                  rintro _ _ ⟨rfl, rfl⟩
                  refine RD.run rfl (RD.done rfl ?_)
                  skip
                  exact ⟨rfl, ⟨⟨_, rfl, aRfl⟩, ⟨_, rfl, aRfl⟩, ⟨_, rfl, aRfl⟩, ⟨_, rfl, aRfl⟩, ⟨_, rfl, aRfl⟩, ⟨_, rfl, aRfl⟩, ⟨_, rfl, aRfl⟩, ⟨_, rfl, aRfl⟩, ⟨_, rfl, aRfl⟩, ⟨_, rfl, aRfl⟩, ⟨_, rfl, aRfl⟩, ⟨_, rfl, aRfl⟩, trivial⟩, sSub⟩
                | cons _ _ =>
                  repeat (first | with_reducible apply aN | refine RL.nil ?_ | refine CW.condT rfl ?_)
                  refine CW.drw tO mixed rfl (RD.run rfl ?_)
                  refine RD.one (i := 4) rfl rfl rfl rfl rfl (OW.loadP tO rfl rfl rfl (hg11 _) rfl (X := fun _ _ => False)) ?_ (fun _ _ h => False.elim h)
                  rintro _ _ ⟨rfl, rfl⟩
                  refine RD.run rfl (RD.done rfl ?_)
                  skip
                  exact ⟨rfl, ⟨⟨_, rfl, aRfl⟩, ⟨_, rfl, aRfl⟩, ⟨_, rfl, aRfl⟩, ⟨_, rfl, aRfl⟩, ⟨_, rfl, aRfl⟩, ⟨_, rfl, aRfl⟩, ⟨_, rfl, aRfl⟩, ⟨_, rfl, aRfl⟩, ⟨_, rfl, aRfl⟩, ⟨_, rfl, aRfl⟩, ⟨_, rfl, aRfl⟩, ⟨_, rfl, aRfl⟩, trivial⟩, sSub⟩
          generalize (if (e.op == 9 && j == 1) = true then (e.text, t') :: sc else sc) = sc' at hP ⊢
          generalize (if (e.op == 9 && j == 1) = true then on && !(e.text == x) else on) = on' at hP ⊢
          have hlk : k.lets2 = true := by
            rw [lets2_def] at hl2
            exact letss2_mem (by simp only [Bool.and_eq_true] at hl2; exact hl2.2) (List.mem_of_getElem? hk)
          have hcall := ih k sc' on' tk2 (rowOf (((s.set b8 box0).set b11 (.box 27 (part4 e.op e.n t' rs own))).set tb (.map (setA tk2))) 27 4 j own) (by omega) (by omega) hlk (by omega)
            (rowOf_get hok (by rw [Store.set_ne _ _ hft, Store.set_ne _ _ h11f, Store.set_ne _ _ h8f]; exact hfb)) (rowOf_get hok sSam)
          rw [rowOf_upd1 hnbt] at hcall
          skip
          refine CW.drw tO mixed rfl (RD.run rfl ?_)
          generalize hq : FExp.put x y fr sc' on' tk2 k = pk at hcall hP ⊢
          obtain ⟨k', tk3⟩ := pk
          simp only at hcall hP
          have htk3 : tk3.length ≤ tk2.length + k.size := by
            have := put_taken x y fr k sc' on' tk2
            rw [hq] at this; exact this
          refine' RD.loadCall (i := 1) (j := 6) (σ := Unit) (P1 := _) (fun _ => k'.av) (fun _ => rowOf (((s.set b8 box0).set b11 (.box 27 (part4 e.op e.n t' rs own))).set tb (.map (setA tk3))) 27 4 j own) (fun _ => True) tO rfl rfl rfl rfl rfl rfl rfl rfl rfl rfl rfl rfl (hg11 _) rfl rfl rfl rfl (OW.call rfl (fv := .func 68 [] []) rfl rfl (ACallV.of_calls hcall)) (fun y s' ⟨h1, h2⟩ => ⟨(), trivial, by cases h1; rfl, h2⟩) ?A ?B ?C (fun _ _ ⟨h, _⟩ => by cases h)
          case A => intro _ _ hP; refine RD.run rfl ?_; exact hP
          case B =>
            intro _ _ hP
            refine RD.run rfl (RD.one (i := 1) rfl rfl rfl rfl rfl (OW.loadP tO rfl rfl rfl (hg11 _) rfl (X := fun _ _ => False)) ?_ (fun _ _ h => False.elim h))
            rintro _ _ ⟨rfl, rfl⟩
            refine RD.congr _ (get_mv _ _ _ [_, _] ?_) hP
            rfl
          case C =>
            intro _ _
            have hok3 : OwnOk (((s.set b8 box0).set b11 (.box 27 (part4 e.op e.n t' rs own))).set tb (.map (setA tk3))) j own := by
              have := OwnOk.set (m := j) (o' := .map (setA tk3)) hok sSam
              rwa [Store.set_set] at this
            refine RD.append1 (i := 8) tO rfl rfl rfl rfl rfl rfl rfl rfl rfl (by intro k h; cases h) rfl rfl rfl rfl rfl rfl rfl (n := j) (by simp [hrs]) (by show (j + 1) * 56 ≤ _; omega) (by omega) rfl hok3 (fun b' hb' => ?_)
            have hb11' : ∀ b'', Own.own b' = .own b'' → b'' ≠ b11 := OwnOk.ne (n := j) (own := .own b') hb' (by rw [Store.set_ne _ _ (Ne.symm h11t)]; exact sSam)
            refine RD.run rfl ?_
            refine RD.oneN (i := 10) rfl rfl rfl rfl (OW.storeP tO rfl rfl rfl rfl rfl rfl rfl (rowOf_get (n := j + 1) (m := j) (own := .own b') hb' (by rw [Store.set_ne _ _ (Ne.symm h11t)]; exact sSam)) rfl (X := fun _ _ => False)) ?_ (fun _ _ h => False.elim h)
            rintro _ _ rfl
            refine RD.run rfl (RD.done rfl ?_)
            rw [rowOf_upd2 hb11' (Ne.symm h11t)]
            repeat (first | (with_reducible first | apply aN | apply iN) | refine wR rfl ?_)
            refine ⟨(j + 1, .own b', rs ++ [k'], tk3), ⟨hlt, by simp [hrs], ?_, by show tk3.length + FExp.sizes (e.kids.drop (j + 1)) < 698; omega, by rw [hP]; simp⟩, ⟨⟨_, rfl, aRfl⟩, ⟨_, rfl, aRfl⟩, ⟨_, rfl, aRfl⟩, ⟨_, rfl, aRfl⟩, ⟨_, rfl, aRfl⟩, ⟨_, rfl, aRfl⟩, ⟨_, rfl, aRfl⟩, ⟨_, rfl, aRfl⟩, ⟨_, rfl, AVle.of_eq ?_⟩, trivial⟩, ?_, by show e.kids.length - (j + 1) < e.kids.length - j; omega⟩
            · refine OwnOk.congr (n := j) (s := ((s.set b8 box0).set b11 (.box 27 (part4 e.op e.n t' rs own))).set tb (.map (setA tk3))) (fun z hz => ?_) hb'
              by_cases e1 : z = tb
              · subst e1; rw [Store.set_same] at hz; cases hz
              · rw [Store.set_ne _ _ e1] at hz ⊢
                by_cases e2 : z = b11
                · subst e2; rw [Store.set_same] at hz; cases hz
                · rw [Store.set_ne _ _ e2] at hz ⊢; exact hz
            · rw [i64_succ (by omega)]
            · simp only [part4, List.map_append, List.map_cons, List.map_nil]
              exact sSub
        · have hge : e.kids.length ≤ j := by rw [hkl] at h; simpa using h
          have hje : j = e.kids.length := by omega
          rw [List.drop_eq_nil_of_le hge, FExp.puts, List.append_nil] at hP
          repeat (first | (with_reducible first | apply CW.seq | apply aN | apply aX | apply iH | apply CW.exit) | refine CW.reg ?_)
          refine RL.loadP tO rfl rfl rfl rfl rfl rfl (rowOf_get hok (by rw [Store.set_ne _ _ (Ne.symm h11t)]; exact sSam)) rfl ?_
          refine RL.storeP tO rfl rfl rfl rfl rfl rfl rfl rfl rfl (rowOf_get hok (by rw [Store.set_ne _ _ (Ne.symm h8t), Store.set_ne _ _ (fun e => by rw [← e, Store.set_same] at hb11; cases hb11)]; exact sSam)) rfl ?_
          repeat (first | (with_reducible first | apply aN | apply CW.ret) | refine RL.nil ?_)
          refine ⟨_, _, s.set tb (.map (setA tk2)), resA_cell rfl rfl sSam rfl, part4_le e.op e.n t' rs own, ?_, ?_, ?_⟩
          · have q8 : (s.set tb (.map (setA tk2))) b8 = none := by rw [Store.set_ne _ _ (Ne.symm h8t)]; exact hb8
            have q11 : (s.set tb (.map (setA tk2))) b11 = none := by rw [Store.set_ne _ _ (Ne.symm h11t)]; exact hn11
            refine Store.subSet (Store.subRow (m := j) ?_ ?_) q8
            · rw [Store.set_comm _ _ _ (Ne.symm h11t), Store.set_comm _ _ _ (Ne.symm h8t)]
              exact Store.subSet (Store.subSet sSub q8) q11
            · refine OwnOk.congr (n := j) (fun z hz => ?_) hok
              by_cases e1 : z = tb
              · subst e1; rw [Store.set_same] at hz; cases hz
              · rw [Store.set_ne _ _ e1] at hz ⊢
                exact (Store.set_none (Store.set_none hz).2).2
          · rw [hP]
          · rw [hP]
end Go.Proofs.YtaafacnoddjhgaaGreat

/- Plain laws of the layer 'shape': formed expressions; what comes of putting in. -/
namespace Go.Proofs.YtaafacnoddjhgaaGreat
open Go.AE

mutual
def FExp.AllT (T : Str → Prop) : FExp → Prop
 | .mk _ _ t ks => T t ∧ FExp.AllTs T ks
def FExp.AllTs (T : Str → Prop) : List FExp → Prop
 | [] => True
 | k :: r => FExp.AllT T k ∧ FExp.AllTs T r
end

theorem AllTs_iff {T : Str → Prop} : ∀ {l : List FExp}, FExp.AllTs T l ↔ ∀ k ∈ l, k.AllT T
 | [] => by simp [FExp.AllTs]
 | k :: r => by simp [FExp.AllTs, AllTs_iff (l := r)]

theorem AllT_iff' {T : Str → Prop} : ∀ (n : Nat) (e : FExp), e.size ≤ n → (e.AllT T ↔ ∀ g ∈ e.allE, T g.text) := by
 intro n
 induction n with
 | zero => intro e h; have := e.size_pos; omega
 | succ n ih =>
  intro e h
  cases e with | mk o m t ks =>
  rw [FExp.AllT, AllTs_iff, FExp.allE, FExp.allEs_eq]
  constructor
  ·rintro ⟨h1, h2⟩ g hg
   rcases List.mem_cons.1 hg with rfl | hg
   ·exact h1
   ·obtain ⟨k, hk, hg⟩ := List.mem_flatMap.1 hg
    have hs : k.size < (FExp.mk o m t ks).size := FExp.kids_size (e := .mk o m t ks) hk
    exact (ih k (by omega)).1 (h2 k hk) g hg
  ·intro hg
   refine ⟨hg _ (List.mem_cons_self ..), fun k hk => ?_⟩
   have hs : k.size < (FExp.mk o m t ks).size := FExp.kids_size (e := .mk o m t ks) hk
   exact (ih k (by omega)).2 fun g hgk => hg g (List.mem_cons_of_mem _ (List.mem_flatMap.2 ⟨k, hk, hgk⟩))
theorem AllT_iff {T : Str → Prop} {e : FExp} : e.AllT T ↔ ∀ g ∈ e.allE, T g.text := AllT_iff' _ e (Nat.le_refl _)

theorem lets2_iff' : ∀ (n : Nat) (e : FExp), e.size ≤ n → (∀ g ∈ e.allE, g.op = 9 → g.kids.length = 2) → e.lets2 = true := by
 intro n
 induction n with
 | zero => intro e h; have := e.size_pos; omega
 | succ n ih =>
  intro e h hg
  rw [lets2_def]
  have key : ∀ l : List FExp, (∀ k ∈ l, k ∈ e.kids) → FExp.letss2 l = true := by
   intro l
   induction l with
   | nil => intro _; rfl
   | cons k l ihl =>
    intro hk
    have hs := FExp.kids_size (hk k (List.mem_cons_self ..))
    rw [FExp.letss2, ih k (by omega) (fun g hgk => hg g (by rw [FExp.allE_eq]; exact List.mem_cons_of_mem _ (List.mem_flatMap.2 ⟨k, hk k (List.mem_cons_self ..), hgk⟩))), ihl (fun k' h' => hk k' (List.mem_cons_of_mem _ h'))]
    rfl
  rw [key _ (fun _ h => h), Bool.and_true]
  by_cases h9 : e.op = 9
  ·have := hg e (by rw [FExp.allE_eq]; exact List.mem_cons_self ..) h9
   simp [this]
  ·simp [h9]

theorem goodB_size {e : FExp} (h : goodB e = true) : e.size ≤ 120 := by
 simp only [goodB, lookB, Bool.and_eq_true, decide_eq_true_eq] at h
 have := Part.nodes_size _ (.exp e) 1 (Nat.le_refl _)
 have h2 : (Part.exp e).size = e.size := rfl
 omega

theorem goodB_node {e g : FExp} (h : goodB e = true) (hg : g ∈ e.allE) : nodeE g = true := by
 simp only [goodB, lookB, Bool.and_eq_true, List.all_eq_true] at h
 rw [← allE_nodes e 1] at hg
 obtain ⟨x, hx, rfl⟩ := List.mem_map.1 hg
 have := h.2 x hx
 obtain ⟨g', hg'⟩ := nodes_exp hx
 simp only [nodeOk, hg', nodeP, Bool.and_eq_true] at this
 rw [hg']; exact this.2

theorem goodB_lets {e : FExp} (h : goodB e = true) : e.lets2 = true := by
 refine lets2_iff' _ e (Nat.le_refl _) fun g hg h9 => ?_
 have := goodB_node h hg
 have hs : shapeOf 9 = some (true, 2, 2) := by decide
 simp only [nodeE, nodeE1, h9, hs, shA, shB, Bool.and_eq_true, decide_eq_true_eq, FExp.kav_length] at this
 omega

theorem Fair.of {e : FExp} (h1 : e.size < big) (h2 : e.AllT fun t => t.length < 9223372036854775807) : e.Fair := by
 refine ⟨h1, fun x hx => ?_⟩
 obtain ⟨g, hg⟩ := nodes_exp hx
 have := AllT_iff.1 h2 x.2.expOf (mem_nodes_all hx)
 rw [hg] at this ⊢
 exact this

theorem Fair.texts {e : FExp} (h : e.Fair) : e.AllT fun t => t.length < 9223372036854775807 := by
 refine AllT_iff.2 fun g hg => ?_
 rw [← allE_nodes e 1] at hg
 obtain ⟨x, hx, rfl⟩ := List.mem_map.1 hg
 have := h.short x hx
 obtain ⟨g', hg'⟩ := nodes_exp hx
 rw [hg'] at this ⊢
 exact this

theorem freshS_len (l : List Str) : (freshS l).length ≤ 2 := by
 unfold freshS
 refine word_len ?_
 unfold freshK
 cases hx : (List.range 702).findIdx? (free1 l) with
 | none => decide
 | some i =>
  obtain ⟨h1, -⟩ := List.findIdx?_eq_some_iff_getElem.1 hx
  simpa using h1

theorem stands_mem : ∀ {sc : List (Str × Str)} {t to : Str}, stands sc t = some to → ∃ x ∈ sc, x.1 = t ∧ x.2 = to
  | x :: sc, t, to, h => by
    simp only [stands] at h
    split at h
    · rename_i hx; cases h; exact ⟨x, List.mem_cons_self .., by simpa using hx, rfl⟩
    · obtain ⟨y, hy, h1⟩ := stands_mem h; exact ⟨y, List.mem_cons_of_mem _ hy, h1⟩
  | [], t, to, h => by simp [stands] at h

theorem nameE_AllT {T : Str → Prop} {s : Str} (h : T s) : (nameE s).AllT T := by rw [nameE, FExp.AllT, FExp.AllTs]; exact ⟨h, trivial⟩
theorem nameE_size (s : Str) : (nameE s).size = 1 := by rw [nameE, FExp.size, FExp.sizes]

theorem letS_text {T : Str → Prop} {x : Str} {fr tk : List Str} {on : Bool} {t : Str} {ks : List FExp} (hT : ∀ l, T (freshS l)) (h : T t) : T (letS x fr tk on t ks).1 := by
 rw [letS]
 generalize (!on || t == x || !fr.contains t || !(match ks[1]? with | some k => k.frees.contains x | none => false)) = c
 cases c with
 | true => rw [if_pos rfl]; exact h
 | false => rw [if_neg (by simp)]; dsimp only; exact hT tk

mutual
theorem put_texts {T : Str → Prop} (hT : ∀ t : Str, t.length ≤ 2 → T t) {x : Str} {y : FExp} {fr : List Str} (hy : y.AllT T) : ∀ (e : FExp) (sc : List (Str × Str)) (on : Bool) (tk : List Str), e.AllT T → (∀ q ∈ sc, T q.2) → (FExp.put x y fr sc on tk e).1.AllT T
  | .mk o n t ks, sc, on, tk, he, hsc => by
    rw [FExp.AllT] at he
    rw [FExp.put]
    split
    · simp only
      split
      · rename_i to hto
        obtain ⟨q, hq, -, rfl⟩ := stands_mem hto
        exact nameE_AllT (hsc q hq)
      · split
        · exact hy
        · exact nameE_AllT he.1
    · have hr : T (if o == 9 then letS x fr tk on t ks else (t, tk)).1 := by
        cases o == 9
        · exact he.1
        · exact letS_text (fun l => hT (freshS l) (freshS_len l)) he.1
      rw [FExp.AllT]
      exact ⟨hr, puts_texts hT hy ks (o == 9) t _ sc on 0 _ he.2 hr hsc⟩
theorem puts_texts {T : Str → Prop} (hT : ∀ t : Str, t.length ≤ 2 → T t) {x : Str} {y : FExp} {fr : List Str} (hy : y.AllT T) : ∀ (ks : List FExp) (isLet : Bool) (t t' : Str) (sc : List (Str × Str)) (on : Bool) (i : Nat) (tk : List Str), FExp.AllTs T ks → T t' → (∀ q ∈ sc, T q.2) → FExp.AllTs T (FExp.puts x y fr isLet t t' sc on i tk ks).1
  | [], _, _, _, _, _, _, _, _, _, _ => by simp [FExp.puts, FExp.AllTs]
  | k :: r, isLet, t, t', sc, on, i, tk, hk, ht', hsc => by
    simp only [FExp.AllTs] at hk
    simp only [FExp.puts, FExp.AllTs]
    refine ⟨put_texts hT hy k _ _ _ hk.1 ?_, puts_texts hT hy r isLet t t' sc on (i + 1) _ hk.2 ht' hsc⟩
    split
    · intro q hq
      rcases List.mem_cons.1 hq with rfl | hq
      · exact ht'
      · exact hsc q hq
    · exact hsc
end

mutual
theorem put_size (x : Str) (y : FExp) (fr : List Str) : ∀ (e : FExp) (sc : List (Str × Str)) (on : Bool) (tk : List Str), (FExp.put x y fr sc on tk e).1.size ≤ e.size * y.size
  | .mk o n t ks, sc, on, tk => by
    have hy := y.size_pos
    rw [FExp.put]
    have h1 : (FExp.mk o n t ks).size * y.size = y.size + FExp.sizes ks * y.size := by rw [FExp.size, Nat.add_mul, Nat.one_mul]
    split
    · simp only
      split
      · rw [nameE_size]; omega
      · split
        · omega
        · rw [nameE_size]; omega
    · have := puts_size x y fr ks (o == 9) t (if o == 9 then letS x fr tk on t ks else (t, tk)).1 sc on 0 (if o == 9 then letS x fr tk on t ks else (t, tk)).2
      rw [h1]
      show 1 + _ ≤ _
      omega
theorem puts_size (x : Str) (y : FExp) (fr : List Str) : ∀ (ks : List FExp) (isLet : Bool) (t t' : Str) (sc : List (Str × Str)) (on : Bool) (i : Nat) (tk : List Str), FExp.sizes (FExp.puts x y fr isLet t t' sc on i tk ks).1 ≤ FExp.sizes ks * y.size
  | [], _, _, _, _, _, _, _ => by simp [FExp.puts, FExp.sizes]
  | k :: r, isLet, t, t', sc, on, i, tk => by
    simp only [FExp.puts, FExp.sizes, Nat.add_mul]
    exact Nat.add_le_add (put_size x y fr k _ _ _) (puts_size x y fr r isLet t t' sc on (i + 1) _)
end

def Alike (a b : List Str) : Prop := ∀ z, a.contains z = b.contains z

theorem Alike.ins {a b : List Str} (h : Alike a b) (z : Str) : Alike (insS a z) (insS b z) := by
 intro w
 rw [Bool.eq_iff_iff]
 have := h w
 rw [Bool.eq_iff_iff] at this
 simp only [List.contains_iff_mem, mem_insS] at this ⊢
 rw [this]

theorem letS_congr {x : Str} {fr a b : List Str} {on : Bool} {t : Str} {ks : List FExp} (h : Alike a b) : (letS x fr a on t ks).1 = (letS x fr b on t ks).1 ∧ Alike (letS x fr a on t ks).2 (letS x fr b on t ks).2 := by
 unfold letS
 split
 ·split
  ·exact ⟨rfl, h⟩
  ·rw [freshS_congr h]; exact ⟨rfl, h.ins _⟩
 ·split
  ·exact ⟨rfl, h⟩
  ·rw [freshS_congr h]; exact ⟨rfl, h.ins _⟩

mutual
theorem put_congr (x : Str) (y : FExp) (fr : List Str) : ∀ (e : FExp) (sc : List (Str × Str)) (on : Bool) (a b : List Str), Alike a b → (FExp.put x y fr sc on a e).1 = (FExp.put x y fr sc on b e).1 ∧ Alike (FExp.put x y fr sc on a e).2 (FExp.put x y fr sc on b e).2
  | .mk o n t ks, sc, on, a, b, h => by
    rw [FExp.put, FExp.put]
    split
    · exact ⟨rfl, h⟩
    · have h1 : (if o == 9 then letS x fr a on t ks else (t, a)).1 = (if o == 9 then letS x fr b on t ks else (t, b)).1 ∧ Alike (if o == 9 then letS x fr a on t ks else (t, a)).2 (if o == 9 then letS x fr b on t ks else (t, b)).2 := by
        cases o == 9 with
        | false => exact ⟨by simp, by simpa using h⟩
        | true => simpa using letS_congr h
      obtain ⟨h2, h3⟩ := puts_congr x y fr ks (o == 9) t (if o == 9 then letS x fr b on t ks else (t, b)).1 sc on 0 _ _ h1.2
      simp only [h1.1]
      exact ⟨by rw [h2], h3⟩
theorem puts_congr (x : Str) (y : FExp) (fr : List Str) : ∀ (ks : List FExp) (isLet : Bool) (t t' : Str) (sc : List (Str × Str)) (on : Bool) (i : Nat) (a b : List Str), Alike a b →
    (FExp.puts x y fr isLet t t' sc on i a ks).1 = (FExp.puts x y fr isLet t t' sc on i b ks).1 ∧ Alike (FExp.puts x y fr isLet t t' sc on i a ks).2 (FExp.puts x y fr isLet t t' sc on i b ks).2
  | [], _, _, _, _, _, _, _, _, h => ⟨rfl, h⟩
  | k :: r, isLet, t, t', sc, on, i, a, b, h => by
    obtain ⟨h1, h2⟩ := put_congr x y fr k (if isLet && i == 1 then (t, t') :: sc else sc) (if isLet && i == 1 then on && !(t == x) else on) a b h
    obtain ⟨h3, h4⟩ := puts_congr x y fr r isLet t t' sc on (i + 1) _ _ h2
    simp only [FExp.puts]
    exact ⟨by rw [h1, h3], h4⟩
end

def textsOf (l : List FExp) : List Str := (l.filter fun g => g.op == 3 || g.op == 9).map FExp.text

def taken0 (e : FExp) (x : Str) (y : FExp) : List Str := x :: (y.frees ++ textsOf e.allE)

def zeroE : FExp := .mk 0 0 [] []

def putR (e : FExp) (x : Str) (y : FExp) : FExp × Int :=
 if !(goodB e && nameS x && goodB y) then (zeroE, 2)
 else
  let out := (FExp.put x y y.frees [] true (taken0 e x y) e).1
  if goodB out then (out, 0) else (zeroE, 3)

theorem loose_length' : ∀ (n : Nat) (e : FExp) (b : List Str), e.size ≤ n → (e.loose b).length ≤ e.size := by
 intro n
 induction n with
 | zero => intro e b h; have := e.size_pos; omega
 | succ n ih =>
  intro e b h
  have key : ∀ (l : List FExp) (i : Nat), (∀ k ∈ l, k ∈ e.kids) → (FExp.looses (e.op == 9) e.text b i l).length ≤ FExp.sizes l := by
   intro l
   induction l with
   | nil => intro i _; simp [FExp.looses]
   | cons k l ihl =>
    intro i hk
    have hs := FExp.kids_size (hk k (List.mem_cons_self ..))
    have h1 := ih k (if (e.op == 9) && i == 1 then e.text :: b else b) (by omega)
    have h2 := ihl (i + 1) (fun k' h' => hk k' (List.mem_cons_of_mem _ h'))
    simp only [FExp.looses, FExp.sizes, List.length_append]
    omega
  have := key e.kids 0 (fun _ h => h)
  rw [FExp.loose_eq, List.length_append, FExp.size_def]
  split <;> simp <;> omega

theorem addAll_length (acc l : List Str) : (addAll acc l).length ≤ acc.length + l.length := by
 induction l generalizing acc with
 | nil => simp [addAll]
 | cons x l ih =>
  have h1 := ih (insS acc x)
  have h2 : (insS acc x).length ≤ acc.length + 1 := by unfold insS; split <;> simp
  show (addAll (insS acc x) l).length ≤ _
  simp only [List.length_cons]; omega

theorem frees_length (e : FExp) : e.frees.length ≤ e.size := by
 have := addAll_length [] (e.loose [])
 have h2 := loose_length' _ e [] (Nat.le_refl _)
 unfold FExp.frees
 simp at this; omega
end Go.Proofs.YtaafacnoddjhgaaGreat

/- Contracts of the layer 'shape': an expression in place of a name in another one. -/
namespace Go.Proofs.YtaafacnoddjhgaaGreat
open Go.AE

theorem RDAll.n {P : Program} {Γ : Tys} {N : Nat} {l : List Oper} {Q : AEx → Env → Store → Prop} {env : Env} {s : Store} {m : Nat} : RDAll P Γ N l Q m env s [] := trivial
theorem RDAll.c {P : Program} {Γ : Tys} {N : Nat} {l : List Oper} {Q : AEx → Env → Store → Prop} {env : Env} {s : Store} {m : Nat} {i : Nat} {is : List Nat} (h : RDStep P Γ N l Q m env s i) (k : RDAll P Γ N l Q m env s is) : RDAll P Γ N l Q m env s (i :: is) := ⟨h, k⟩

theorem Store.set_eq_none {s : Store} {b x : Nat} {o : AObj} : (s.set b o) x = none ↔ x ≠ b ∧ s x = none :=
 ⟨Store.set_none, fun h => (Store.set_ne _ _ h.1).trans h.2⟩

theorem setA_append (a b : List Str) : setA (a ++ b) = setA a ++ setA b := by simp [setA]
theorem setA_split : ∀ {lf : List Str} {l₁ l₂ : List (AV × AV)} {k v : AV}, setA lf = l₁ ++ (k, v) :: l₂ → ∃ a w b, lf = a ++ w :: b ∧ k = .str w ∧ v = .bool true ∧ l₁ = setA a ∧ l₂ = setA b
  | [], l₁, l₂, k, v, h => by simp [setA] at h
  | x :: lf, [], l₂, k, v, h => by
    simp only [setA, List.map_cons, List.nil_append, List.cons.injEq, Prod.mk.injEq] at h
    obtain ⟨⟨rfl, rfl⟩, rfl⟩ := h
    exact ⟨[], x, lf, rfl, rfl, rfl, rfl, rfl⟩
  | x :: lf, y :: l₁, l₂, k, v, h => by
    simp only [setA, List.map_cons, List.cons_append, List.cons.injEq] at h
    obtain ⟨rfl, h⟩ := h
    obtain ⟨a, w, b, rfl, h1, h2, rfl, rfl⟩ := setA_split (lf := lf) (by simpa [setA] using h)
    exact ⟨x :: a, w, b, rfl, h1, h2, by simp [setA], rfl⟩

theorem CW.atCut {P : Program} {N : Nat} {Q Q' : AEx → Env → Store → Prop} {env : Env} {s : Store} {σ : Type} {x y : Code} (E' : σ → Env) (S' : σ → Store) (I : σ → Prop)
  (h₁ : CW P N x (fun e env' s' => e = .normal ∧ ∃ z, I z ∧ Env.Sub (E' z) env' ∧ Store.Sub (S' z) s') env s) (h₂ : ∀ z, I z → CW P N y Q (E' z) (S' z)) : CW P N x (AEx.andThen (CW P N y Q) Q') env s :=
 h₁.mono fun e env' s' ⟨he, z, hz, h1, h2⟩ => by subst he; exact CW.sub _ h1 (CW.drop _ h2 (h₂ z hz))

theorem zero_le : AVle (.agg [.int .i64 0, .int .i64 0, .str [], .slc 0 [] .nil]) zeroE.av :=
 AVle.agg (.cons aRfl (.cons aRfl (.cons aRfl (.one AVle.empty))))

set_option maxRecDepth 10000 in
set_option maxHeartbeats 2000000 in
theorem shapePut_spec (e : FExp) (x : Str) (y : FExp) (s : Store) (he : e.Fair) (hy : y.Fair) (hx : x.length < 9223372036854775807) :
  ACalls Tryz.prog 25 [e.av, .str x, y.av] s (fun o s' => o = .ret (.tup [(putR e x y).1.av, .int .i64 (putR e x y).2]) ∧ s' = s) := by
 have hb : big = 1099511627776 := rfl
 refine ACalls.of_CW tO call25 Tryz.func25 rfl rfl ?_
 refine CW.seqCutX (σ := Nat) (fun b6 => [(1, .str x), (3, .fptr e.cells 0), (5, .fptr y.cells 0), (6, .ptr b6 0)]) (fun b6 => s.set b6 box0) (fun b6 => s b6 = none) ?_ ?_
 ·repeat (first | refine CW.reg ?_ | refine wS rfl ?_)
  refine RL.alloc tO rfl rfl rfl rfl rfl rfl rfl (fun b6 hb6 => ?_)
  repeat (first | refine RL.nil ?_ | refine wS rfl ?_)
  exact ⟨rfl, b6, hb6, ⟨⟨_, rfl, aRfl⟩, ⟨_, rfl, aRfl⟩, ⟨_, rfl, aRfl⟩, ⟨_, rfl, aRfl⟩, trivial⟩, sSub⟩
 intro b6 hb6
 have hge := good_spec e (s.set b6 box0) he
 have hnx := shapeName_spec x (s.set b6 box0) hx
 have hgy := good_spec y (s.set b6 box0) hy
 cases h1 : goodB e with
 | false =>
  rw [h1] at hge
  have h2 := (trivial : True)
  have h3 := (trivial : True)
  repeat (first | with_reducible apply CW.seq | refine CW.reg ?_ | refine wS rfl ?_)
  refine RL.callP rfl rfl rfl rfl rfl hge ?_
  repeat (first | (with_reducible first | apply CW.seq | apply aN | apply aR | apply CW.ret) | refine CW.reg ?_ | refine RL.nil ?_ | refine CW.condT rfl ?_ | refine wS rfl ?_ | refine RL.skip rfl rfl rfl ?_ | (refine RL.storeP tO rfl rfl rfl rfl rfl rfl rfl rfl rfl sSam rfl ?_; try with_reducible rw [Store.set_set]))
  refine ⟨_, .tup [zeroE.av, .int .i64 2], s, resA_cellT rfl rfl sSam rfl rfl, AVle.tup (.cons zero_le (.one aRfl)), Store.sub_set _ _ _ hb6, ?_, rfl⟩
  simp only [putR, h1, h2, h3]; rfl
 | true =>
  rw [h1] at hge
  cases h2 : nameS x with
  | false =>
   rw [h2] at hnx
   have h3 := (trivial : True)
   repeat (first | with_reducible apply CW.seq | refine CW.reg ?_ | refine wS rfl ?_)
   refine RL.callP rfl rfl rfl rfl rfl hge ?_
   repeat (first | refine wS rfl ?_)
   refine RL.callP rfl rfl rfl rfl rfl hnx ?_
   repeat (first | (with_reducible first | apply CW.seq | apply aN | apply aR | apply CW.ret) | refine CW.reg ?_ | refine RL.nil ?_ | refine CW.condT rfl ?_ | refine wS rfl ?_ | refine RL.skip rfl rfl rfl ?_ | (refine RL.storeP tO rfl rfl rfl rfl rfl rfl rfl rfl rfl sSam rfl ?_; try with_reducible rw [Store.set_set]))
   refine ⟨_, .tup [zeroE.av, .int .i64 2], s, resA_cellT rfl rfl sSam rfl rfl, AVle.tup (.cons zero_le (.one aRfl)), Store.sub_set _ _ _ hb6, ?_, rfl⟩
   simp only [putR, h1, h2, h3]; rfl
  | true =>
   rw [h2] at hnx
   cases h3 : goodB y with
   | false =>
    rw [h3] at hgy
    repeat (first | with_reducible apply CW.seq | refine CW.reg ?_ | refine wS rfl ?_)
    refine RL.callP rfl rfl rfl rfl rfl hge ?_
    repeat (first | refine wS rfl ?_)
    refine RL.callP rfl rfl rfl rfl rfl hnx ?_
    repeat (first | refine wS rfl ?_)
    refine RL.callP rfl rfl rfl rfl rfl hgy ?_
    repeat (first | (with_reducible first | apply CW.seq | apply aN | apply aR | apply CW.ret) | refine CW.reg ?_ | refine RL.nil ?_ | refine CW.condT rfl ?_ | refine wS rfl ?_ | (refine RL.storeP tO rfl rfl rfl rfl rfl rfl rfl rfl rfl sSam rfl ?_; try with_reducible rw [Store.set_set]))
    refine ⟨_, .tup [zeroE.av, .int .i64 2], s, resA_cellT rfl rfl sSam rfl rfl, AVle.tup (.cons zero_le (.one aRfl)), Store.sub_set _ _ _ hb6, ?_, rfl⟩
    simp only [putR, h1, h2, h3]; rfl
   | true =>
    rw [h3] at hgy
    have hse := goodB_size h1
    have hsy := goodB_size h3
    repeat (first | with_reducible apply CW.seq | refine CW.reg ?_ | refine wS rfl ?_)
    refine RL.callP rfl rfl rfl rfl rfl hge ?_
    repeat (first | refine wS rfl ?_)
    refine RL.callP rfl rfl rfl rfl rfl hnx ?_
    repeat (first | refine wS rfl ?_)
    refine RL.callP rfl rfl rfl rfl rfl hgy ?_
    repeat (first | (with_reducible first | apply CW.seq | apply aN | apply CW.skip) | refine RL.nil ?_ | refine CW.condF rfl ?_ | refine wS rfl ?_)
    refine CW.atCut (σ := Nat × Nat × Nat) (fun q => [(1, .str x), (3, .fptr e.cells 0), (5, .fptr y.cells 0), (6, .ptr b6 0), (8, .ptr q.2.2 0)])
     (fun q => ((((s.set b6 box0).set q.1 (.map (setA y.frees))).set q.2.1 (.map (setA [x]))).set q.2.2 (.box 107 [.fptr (putterCells x y q.1 q.2.1) 0])))
     (fun q => s q.1 = none ∧ s q.2.1 = none ∧ s q.2.2 = none ∧ q.1 ≠ b6 ∧ q.2.1 ≠ b6 ∧ q.2.2 ≠ b6 ∧ q.1 ≠ q.2.1 ∧ q.1 ≠ q.2.2 ∧ q.2.1 ≠ q.2.2) ?_ ?_
    ·skip
     refine CW.drw tO mixed rfl (RD.run rfl ?_)
     refine RD.many rfl (RDAll.c (RDStep.mk (i := 3) rfl rfl rfl rfl (OW.call rfl (fv := .func 42 [] []) rfl rfl (ACallV.of_calls (freeOf_spec y _ (by omega)))) ?_ (fun _ _ ⟨_, _, h, _⟩ => by cases h)) (RDAll.c (RDStep.mk (i := 4) rfl rfl rfl rfl (OW.makeMap rfl (X := fun _ _ => False)) ?_ (fun _ _ h => False.elim h)) (RDAll.c (RDStep.mk (i := 10) rfl rfl rfl rfl (OW.alloc tO rfl rfl rfl rfl (X := fun _ _ => False)) ?_ (fun _ _ h => False.elim h)) RDAll.n)))
     ·rintro _ _ ⟨b29, hb29, ⟨⟩, rfl⟩
      simp only [Store.set_eq_none] at hb29
      refine RD.run rfl ?_
      refine RD.many rfl (RDAll.c (RDStep.mk (i := 4) rfl rfl rfl rfl (OW.makeMap rfl (X := fun _ _ => False)) ?_ (fun _ _ h => False.elim h)) (RDAll.c (RDStep.mk (i := 10) rfl rfl rfl rfl (OW.alloc tO rfl rfl rfl rfl (X := fun _ _ => False)) ?_ (fun _ _ h => False.elim h)) RDAll.n))
      ·rintro _ _ ⟨b30, hb30, rfl, rfl⟩
       simp only [Store.set_eq_none] at hb30
       refine RD.run rfl ?_
       refine RD.many rfl (RDAll.c (RDStep.mkN (i := 6) rfl rfl rfl (OW.mapUpdate tO (.inr rfl) rfl rfl rfl rfl rfl rfl (by (repeat (first | exact sSam | assumption | with_reducible rw [Store.set_ne _ _ (by omega)]))) rfl (putA_set [] x) (X := fun _ _ => False)) ?_ (fun _ _ h => False.elim h)) (RDAll.c (RDStep.mk (i := 10) rfl rfl rfl rfl (OW.alloc tO rfl rfl rfl rfl (X := fun _ _ => False)) ?_ (fun _ _ h => False.elim h)) RDAll.n))
       ·rintro _ _ rfl
        refine RD.run rfl ?_
        refine RD.many rfl (RDAll.c (RDStep.mk (i := 10) rfl rfl rfl rfl (OW.alloc tO rfl rfl rfl rfl (X := fun _ _ => False)) ?_ (fun _ _ h => False.elim h)) RDAll.n)
        ·rintro _ _ ⟨b8, hb8, rfl, rfl⟩
         simp only [Store.set_eq_none] at hb8
         refine RD.run rfl ?_
         refine RD.oneN (i := 11) rfl rfl rfl rfl (OW.storeP tO rfl rfl rfl rfl rfl rfl rfl (by (repeat (first | exact sSam | assumption | with_reducible rw [Store.set_ne _ _ (by omega)]))) rfl (X := fun _ _ => False)) ?_ (fun _ _ h => False.elim h)
         rintro _ _ rfl
         refine RD.run rfl (RD.done rfl ?_)
         have hall : s b29 = none ∧ s b30 = none ∧ s b8 = none ∧ b29 ≠ b6 ∧ b30 ≠ b6 ∧ b8 ≠ b6 ∧ b29 ≠ b30 ∧ b29 ≠ b8 ∧ b30 ≠ b8 := by
          simp only [ne_eq] at hb29 hb30 hb8
          refine ⟨by simp_all, by simp_all, by simp_all, by omega, by omega, by omega, by omega, by omega, by omega⟩
         refine ⟨rfl, (b29, b30, b8), hall, ⟨⟨_, rfl, aRfl⟩, ⟨_, rfl, aRfl⟩, ⟨_, rfl, aRfl⟩, ⟨_, rfl, aRfl⟩, ⟨_, rfl, aRfl⟩, trivial⟩, ?_⟩
         obtain ⟨-, -, -, n1, n2, n3, n4, n5, n6⟩ := hall
         intro z
         left
         simp only [Store.set]
         repeat' split
         all_goals first | rfl | (simp_all; done) | (simp_all; omega)
       ·rintro _ _ ⟨b8, hb8, rfl, rfl⟩
        simp only [Store.set_eq_none] at hb8
        refine RD.run rfl ?_
        refine RD.many rfl (RDAll.c (RDStep.mkN (i := 6) rfl rfl rfl (OW.mapUpdate tO (.inr rfl) rfl rfl rfl rfl rfl rfl (by (repeat (first | exact sSam | assumption | with_reducible rw [Store.set_ne _ _ (by omega)]))) rfl (putA_set [] x) (X := fun _ _ => False)) ?_ (fun _ _ h => False.elim h)) RDAll.n)
        ·rintro _ _ rfl
         refine RD.run rfl ?_
         refine RD.oneN (i := 11) rfl rfl rfl rfl (OW.storeP tO rfl rfl rfl rfl rfl rfl rfl (by (repeat (first | exact sSam | assumption | with_reducible rw [Store.set_ne _ _ (by omega)]))) rfl (X := fun _ _ => False)) ?_ (fun _ _ h => False.elim h)
         rintro _ _ rfl
         refine RD.run rfl (RD.done rfl ?_)
         have hall : s b29 = none ∧ s b30 = none ∧ s b8 = none ∧ b29 ≠ b6 ∧ b30 ≠ b6 ∧ b8 ≠ b6 ∧ b29 ≠ b30 ∧ b29 ≠ b8 ∧ b30 ≠ b8 := by
          simp only [ne_eq] at hb29 hb30 hb8
          refine ⟨by simp_all, by simp_all, by simp_all, by omega, by omega, by omega, by omega, by omega, by omega⟩
         refine ⟨rfl, (b29, b30, b8), hall, ⟨⟨_, rfl, aRfl⟩, ⟨_, rfl, aRfl⟩, ⟨_, rfl, aRfl⟩, ⟨_, rfl, aRfl⟩, ⟨_, rfl, aRfl⟩, trivial⟩, ?_⟩
         obtain ⟨-, -, -, n1, n2, n3, n4, n5, n6⟩ := hall
         intro z
         left
         simp only [Store.set]
         repeat' split
         all_goals first | rfl | (simp_all; done) | (simp_all; omega)
      ·rintro _ _ ⟨b8, hb8, rfl, rfl⟩
       simp only [Store.set_eq_none] at hb8
       refine RD.run rfl ?_
       refine RD.many rfl (RDAll.c (RDStep.mk (i := 4) rfl rfl rfl rfl (OW.makeMap rfl (X := fun _ _ => False)) ?_ (fun _ _ h => False.elim h)) RDAll.n)
       ·rintro _ _ ⟨b30, hb30, rfl, rfl⟩
        simp only [Store.set_eq_none] at hb30
        refine RD.run rfl ?_
        refine RD.many rfl (RDAll.c (RDStep.mkN (i := 6) rfl rfl rfl (OW.mapUpdate tO (.inr rfl) rfl rfl rfl rfl rfl rfl (by (repeat (first | exact sSam | assumption | with_reducible rw [Store.set_ne _ _ (by omega)]))) rfl (putA_set [] x) (X := fun _ _ => False)) ?_ (fun _ _ h => False.elim h)) RDAll.n)
        ·rintro _ _ rfl
         refine RD.run rfl ?_
         refine RD.oneN (i := 11) rfl rfl rfl rfl (OW.storeP tO rfl rfl rfl rfl rfl rfl rfl (by (repeat (first | exact sSam | assumption | with_reducible rw [Store.set_ne _ _ (by omega)]))) rfl (X := fun _ _ => False)) ?_ (fun _ _ h => False.elim h)
         rintro _ _ rfl
         refine RD.run rfl (RD.done rfl ?_)
         have hall : s b29 = none ∧ s b30 = none ∧ s b8 = none ∧ b29 ≠ b6 ∧ b30 ≠ b6 ∧ b8 ≠ b6 ∧ b29 ≠ b30 ∧ b29 ≠ b8 ∧ b30 ≠ b8 := by
          simp only [ne_eq] at hb29 hb30 hb8
          refine ⟨by simp_all, by simp_all, by simp_all, by omega, by omega, by omega, by omega, by omega, by omega⟩
         refine ⟨rfl, (b29, b30, b8), hall, ⟨⟨_, rfl, aRfl⟩, ⟨_, rfl, aRfl⟩, ⟨_, rfl, aRfl⟩, ⟨_, rfl, aRfl⟩, ⟨_, rfl, aRfl⟩, trivial⟩, ?_⟩
         obtain ⟨-, -, -, n1, n2, n3, n4, n5, n6⟩ := hall
         intro z
         left
         simp only [Store.set]
         repeat' split
         all_goals first | rfl | (simp_all; done) | (simp_all; omega)
     ·rintro _ _ ⟨b30, hb30, rfl, rfl⟩
      simp only [Store.set_eq_none] at hb30
      refine RD.run rfl ?_
      refine RD.many rfl (RDAll.c (RDStep.mk (i := 3) rfl rfl rfl rfl (OW.call rfl (fv := .func 42 [] []) rfl rfl (ACallV.of_calls (freeOf_spec y _ (by omega)))) ?_ (fun _ _ ⟨_, _, h, _⟩ => by cases h)) (RDAll.c (RDStep.mkN (i := 6) rfl rfl rfl (OW.mapUpdate tO (.inr rfl) rfl rfl rfl rfl rfl rfl (by (repeat (first | exact sSam | assumption | with_reducible rw [Store.set_ne _ _ (by omega)]))) rfl (putA_set [] x) (X := fun _ _ => False)) ?_ (fun _ _ h => False.elim h)) (RDAll.c (RDStep.mk (i := 10) rfl rfl rfl rfl (OW.alloc tO rfl rfl rfl rfl (X := fun _ _ => False)) ?_ (fun _ _ h => False.elim h)) RDAll.n)))
      ·rintro _ _ ⟨b29, hb29, ⟨⟩, rfl⟩
       simp only [Store.set_eq_none] at hb29
       refine RD.run rfl ?_
       refine RD.many rfl (RDAll.c (RDStep.mkN (i := 6) rfl rfl rfl (OW.mapUpdate tO (.inr rfl) rfl rfl rfl rfl rfl rfl (by (repeat (first | exact sSam | assumption | with_reducible rw [Store.set_ne _ _ (by omega)]))) rfl (putA_set [] x) (X := fun _ _ => False)) ?_ (fun _ _ h => False.elim h)) (RDAll.c (RDStep.mk (i := 10) rfl rfl rfl rfl (OW.alloc tO rfl rfl rfl rfl (X := fun _ _ => False)) ?_ (fun _ _ h => False.elim h)) RDAll.n))
       ·rintro _ _ rfl
        refine RD.run rfl ?_
        refine RD.many rfl (RDAll.c (RDStep.mk (i := 10) rfl rfl rfl rfl (OW.alloc tO rfl rfl rfl rfl (X := fun _ _ => False)) ?_ (fun _ _ h => False.elim h)) RDAll.n)
        ·rintro _ _ ⟨b8, hb8, rfl, rfl⟩
         simp only [Store.set_eq_none] at hb8
         refine RD.run rfl ?_
         refine RD.oneN (i := 11) rfl rfl rfl rfl (OW.storeP tO rfl rfl rfl rfl rfl rfl rfl (by (repeat (first | exact sSam | assumption | with_reducible rw [Store.set_ne _ _ (by omega)]))) rfl (X := fun _ _ => False)) ?_ (fun _ _ h => False.elim h)
         rintro _ _ rfl
         refine RD.run rfl (RD.done rfl ?_)
         have hall : s b29 = none ∧ s b30 = none ∧ s b8 = none ∧ b29 ≠ b6 ∧ b30 ≠ b6 ∧ b8 ≠ b6 ∧ b29 ≠ b30 ∧ b29 ≠ b8 ∧ b30 ≠ b8 := by
          simp only [ne_eq] at hb29 hb30 hb8
          refine ⟨by simp_all, by simp_all, by simp_all, by omega, by omega, by omega, by omega, by omega, by omega⟩
         refine ⟨rfl, (b29, b30, b8), hall, ⟨⟨_, rfl, aRfl⟩, ⟨_, rfl, aRfl⟩, ⟨_, rfl, aRfl⟩, ⟨_, rfl, aRfl⟩, ⟨_, rfl, aRfl⟩, trivial⟩, ?_⟩
         obtain ⟨-, -, -, n1, n2, n3, n4, n5, n6⟩ := hall
         intro z
         left
         simp only [Store.set]
         repeat' split
         all_goals first | rfl | (simp_all; done) | (simp_all; omega)
       ·rintro _ _ ⟨b8, hb8, rfl, rfl⟩
        simp only [Store.set_eq_none] at hb8
        refine RD.run rfl ?_
        refine RD.many rfl (RDAll.c (RDStep.mkN (i := 6) rfl rfl rfl (OW.mapUpdate tO (.inr rfl) rfl rfl rfl rfl rfl rfl (by (repeat (first | exact sSam | assumption | with_reducible rw [Store.set_ne _ _ (by omega)]))) rfl (putA_set [] x) (X := fun _ _ => False)) ?_ (fun _ _ h => False.elim h)) RDAll.n)
        ·rintro _ _ rfl
         refine RD.run rfl ?_
         refine RD.oneN (i := 11) rfl rfl rfl rfl (OW.storeP tO rfl rfl rfl rfl rfl rfl rfl (by (repeat (first | exact sSam | assumption | with_reducible rw [Store.set_ne _ _ (by omega)]))) rfl (X := fun _ _ => False)) ?_ (fun _ _ h => False.elim h)
         rintro _ _ rfl
         refine RD.run rfl (RD.done rfl ?_)
         have hall : s b29 = none ∧ s b30 = none ∧ s b8 = none ∧ b29 ≠ b6 ∧ b30 ≠ b6 ∧ b8 ≠ b6 ∧ b29 ≠ b30 ∧ b29 ≠ b8 ∧ b30 ≠ b8 := by
          simp only [ne_eq] at hb29 hb30 hb8
          refine ⟨by simp_all, by simp_all, by simp_all, by omega, by omega, by omega, by omega, by omega, by omega⟩
         refine ⟨rfl, (b29, b30, b8), hall, ⟨⟨_, rfl, aRfl⟩, ⟨_, rfl, aRfl⟩, ⟨_, rfl, aRfl⟩, ⟨_, rfl, aRfl⟩, ⟨_, rfl, aRfl⟩, trivial⟩, ?_⟩
         obtain ⟨-, -, -, n1, n2, n3, n4, n5, n6⟩ := hall
         intro z
         left
         simp only [Store.set]
         repeat' split
         all_goals first | rfl | (simp_all; done) | (simp_all; omega)
      ·rintro _ _ rfl
       refine RD.run rfl ?_
       refine RD.many rfl (RDAll.c (RDStep.mk (i := 3) rfl rfl rfl rfl (OW.call rfl (fv := .func 42 [] []) rfl rfl (ACallV.of_calls (freeOf_spec y _ (by omega)))) ?_ (fun _ _ ⟨_, _, h, _⟩ => by cases h)) (RDAll.c (RDStep.mk (i := 10) rfl rfl rfl rfl (OW.alloc tO rfl rfl rfl rfl (X := fun _ _ => False)) ?_ (fun _ _ h => False.elim h)) RDAll.n))
       ·rintro _ _ ⟨b29, hb29, ⟨⟩, rfl⟩
        simp only [Store.set_eq_none] at hb29
        refine RD.run rfl ?_
        refine RD.many rfl (RDAll.c (RDStep.mk (i := 10) rfl rfl rfl rfl (OW.alloc tO rfl rfl rfl rfl (X := fun _ _ => False)) ?_ (fun _ _ h => False.elim h)) RDAll.n)
        ·rintro _ _ ⟨b8, hb8, rfl, rfl⟩
         simp only [Store.set_eq_none] at hb8
         refine RD.run rfl ?_
         refine RD.oneN (i := 11) rfl rfl rfl rfl (OW.storeP tO rfl rfl rfl rfl rfl rfl rfl (by (repeat (first | exact sSam | assumption | with_reducible rw [Store.set_ne _ _ (by omega)]))) rfl (X := fun _ _ => False)) ?_ (fun _ _ h => False.elim h)
         rintro _ _ rfl
         refine RD.run rfl (RD.done rfl ?_)
         have hall : s b29 = none ∧ s b30 = none ∧ s b8 = none ∧ b29 ≠ b6 ∧ b30 ≠ b6 ∧ b8 ≠ b6 ∧ b29 ≠ b30 ∧ b29 ≠ b8 ∧ b30 ≠ b8 := by
          simp only [ne_eq] at hb29 hb30 hb8
          refine ⟨by simp_all, by simp_all, by simp_all, by omega, by omega, by omega, by omega, by omega, by omega⟩
         refine ⟨rfl, (b29, b30, b8), hall, ⟨⟨_, rfl, aRfl⟩, ⟨_, rfl, aRfl⟩, ⟨_, rfl, aRfl⟩, ⟨_, rfl, aRfl⟩, ⟨_, rfl, aRfl⟩, trivial⟩, ?_⟩
         obtain ⟨-, -, -, n1, n2, n3, n4, n5, n6⟩ := hall
         intro z
         left
         simp only [Store.set]
         repeat' split
         all_goals first | rfl | (simp_all; done) | (simp_all; omega)
       ·rintro _ _ ⟨b8, hb8, rfl, rfl⟩
        simp only [Store.set_eq_none] at hb8
        refine RD.run rfl ?_
        refine RD.many rfl (RDAll.c (RDStep.mk (i := 3) rfl rfl rfl rfl (OW.call rfl (fv := .func 42 [] []) rfl rfl (ACallV.of_calls (freeOf_spec y _ (by omega)))) ?_ (fun _ _ ⟨_, _, h, _⟩ => by cases h)) RDAll.n)
        ·rintro _ _ ⟨b29, hb29, ⟨⟩, rfl⟩
         simp only [Store.set_eq_none] at hb29
         refine RD.run rfl ?_
         refine RD.oneN (i := 11) rfl rfl rfl rfl (OW.storeP tO rfl rfl rfl rfl rfl rfl rfl (by (repeat (first | exact sSam | assumption | with_reducible rw [Store.set_ne _ _ (by omega)]))) rfl (X := fun _ _ => False)) ?_ (fun _ _ h => False.elim h)
         rintro _ _ rfl
         refine RD.run rfl (RD.done rfl ?_)
         have hall : s b29 = none ∧ s b30 = none ∧ s b8 = none ∧ b29 ≠ b6 ∧ b30 ≠ b6 ∧ b8 ≠ b6 ∧ b29 ≠ b30 ∧ b29 ≠ b8 ∧ b30 ≠ b8 := by
          simp only [ne_eq] at hb29 hb30 hb8
          refine ⟨by simp_all, by simp_all, by simp_all, by omega, by omega, by omega, by omega, by omega, by omega⟩
         refine ⟨rfl, (b29, b30, b8), hall, ⟨⟨_, rfl, aRfl⟩, ⟨_, rfl, aRfl⟩, ⟨_, rfl, aRfl⟩, ⟨_, rfl, aRfl⟩, ⟨_, rfl, aRfl⟩, trivial⟩, ?_⟩
         obtain ⟨-, -, -, n1, n2, n3, n4, n5, n6⟩ := hall
         intro z
         left
         simp only [Store.set]
         repeat' split
         all_goals first | rfl | (simp_all; done) | (simp_all; omega)
      ·rintro _ _ ⟨b8, hb8, rfl, rfl⟩
       simp only [Store.set_eq_none] at hb8
       refine RD.run rfl ?_
       refine RD.many rfl (RDAll.c (RDStep.mk (i := 3) rfl rfl rfl rfl (OW.call rfl (fv := .func 42 [] []) rfl rfl (ACallV.of_calls (freeOf_spec y _ (by omega)))) ?_ (fun _ _ ⟨_, _, h, _⟩ => by cases h)) (RDAll.c (RDStep.mkN (i := 6) rfl rfl rfl (OW.mapUpdate tO (.inr rfl) rfl rfl rfl rfl rfl rfl (by (repeat (first | exact sSam | assumption | with_reducible rw [Store.set_ne _ _ (by omega)]))) rfl (putA_set [] x) (X := fun _ _ => False)) ?_ (fun _ _ h => False.elim h)) RDAll.n))
       ·rintro _ _ ⟨b29, hb29, ⟨⟩, rfl⟩
        simp only [Store.set_eq_none] at hb29
        refine RD.run rfl ?_
        refine RD.many rfl (RDAll.c (RDStep.mkN (i := 6) rfl rfl rfl (OW.mapUpdate tO (.inr rfl) rfl rfl rfl rfl rfl rfl (by (repeat (first | exact sSam | assumption | with_reducible rw [Store.set_ne _ _ (by omega)]))) rfl (putA_set [] x) (X := fun _ _ => False)) ?_ (fun _ _ h => False.elim h)) RDAll.n)
        ·rintro _ _ rfl
         refine RD.run rfl ?_
         refine RD.oneN (i := 11) rfl rfl rfl rfl (OW.storeP tO rfl rfl rfl rfl rfl rfl rfl (by (repeat (first | exact sSam | assumption | with_reducible rw [Store.set_ne _ _ (by omega)]))) rfl (X := fun _ _ => False)) ?_ (fun _ _ h => False.elim h)
         rintro _ _ rfl
         refine RD.run rfl (RD.done rfl ?_)
         have hall : s b29 = none ∧ s b30 = none ∧ s b8 = none ∧ b29 ≠ b6 ∧ b30 ≠ b6 ∧ b8 ≠ b6 ∧ b29 ≠ b30 ∧ b29 ≠ b8 ∧ b30 ≠ b8 := by
          simp only [ne_eq] at hb29 hb30 hb8
          refine ⟨by simp_all, by simp_all, by simp_all, by omega, by omega, by omega, by omega, by omega, by omega⟩
         refine ⟨rfl, (b29, b30, b8), hall, ⟨⟨_, rfl, aRfl⟩, ⟨_, rfl, aRfl⟩, ⟨_, rfl, aRfl⟩, ⟨_, rfl, aRfl⟩, ⟨_, rfl, aRfl⟩, trivial⟩, ?_⟩
         obtain ⟨-, -, -, n1, n2, n3, n4, n5, n6⟩ := hall
         intro z
         left
         simp only [Store.set]
         repeat' split
         all_goals first | rfl | (simp_all; done) | (simp_all; omega)
       ·rintro _ _ rfl
        refine RD.run rfl ?_
        refine RD.many rfl (RDAll.c (RDStep.mk (i := 3) rfl rfl rfl rfl (OW.call rfl (fv := .func 42 [] []) rfl rfl (ACallV.of_calls (freeOf_spec y _ (by omega)))) ?_ (fun _ _ ⟨_, _, h, _⟩ => by cases h)) RDAll.n)
        ·rintro _ _ ⟨b29, hb29, ⟨⟩, rfl⟩
         simp only [Store.set_eq_none] at hb29
         refine RD.run rfl ?_
         refine RD.oneN (i := 11) rfl rfl rfl rfl (OW.storeP tO rfl rfl rfl rfl rfl rfl rfl (by (repeat (first | exact sSam | assumption | with_reducible rw [Store.set_ne _ _ (by omega)]))) rfl (X := fun _ _ => False)) ?_ (fun _ _ h => False.elim h)
         rintro _ _ rfl
         refine RD.run rfl (RD.done rfl ?_)
         have hall : s b29 = none ∧ s b30 = none ∧ s b8 = none ∧ b29 ≠ b6 ∧ b30 ≠ b6 ∧ b8 ≠ b6 ∧ b29 ≠ b30 ∧ b29 ≠ b8 ∧ b30 ≠ b8 := by
          simp only [ne_eq] at hb29 hb30 hb8
          refine ⟨by simp_all, by simp_all, by simp_all, by omega, by omega, by omega, by omega, by omega, by omega⟩
         refine ⟨rfl, (b29, b30, b8), hall, ⟨⟨_, rfl, aRfl⟩, ⟨_, rfl, aRfl⟩, ⟨_, rfl, aRfl⟩, ⟨_, rfl, aRfl⟩, ⟨_, rfl, aRfl⟩, trivial⟩, ?_⟩
         obtain ⟨-, -, -, n1, n2, n3, n4, n5, n6⟩ := hall
         intro z
         left
         simp only [Store.set]
         repeat' split
         all_goals first | rfl | (simp_all; done) | (simp_all; omega)
     ·rintro _ _ ⟨b8, hb8, rfl, rfl⟩
      simp only [Store.set_eq_none] at hb8
      refine RD.run rfl ?_
      refine RD.many rfl (RDAll.c (RDStep.mk (i := 3) rfl rfl rfl rfl (OW.call rfl (fv := .func 42 [] []) rfl rfl (ACallV.of_calls (freeOf_spec y _ (by omega)))) ?_ (fun _ _ ⟨_, _, h, _⟩ => by cases h)) (RDAll.c (RDStep.mk (i := 4) rfl rfl rfl rfl (OW.makeMap rfl (X := fun _ _ => False)) ?_ (fun _ _ h => False.elim h)) RDAll.n))
      ·rintro _ _ ⟨b29, hb29, ⟨⟩, rfl⟩
       simp only [Store.set_eq_none] at hb29
       refine RD.run rfl ?_
       refine RD.many rfl (RDAll.c (RDStep.mk (i := 4) rfl rfl rfl rfl (OW.makeMap rfl (X := fun _ _ => False)) ?_ (fun _ _ h => False.elim h)) RDAll.n)
       ·rintro _ _ ⟨b30, hb30, rfl, rfl⟩
        simp only [Store.set_eq_none] at hb30
        refine RD.run rfl ?_
        refine RD.many rfl (RDAll.c (RDStep.mkN (i := 6) rfl rfl rfl (OW.mapUpdate tO (.inr rfl) rfl rfl rfl rfl rfl rfl (by (repeat (first | exact sSam | assumption | with_reducible rw [Store.set_ne _ _ (by omega)]))) rfl (putA_set [] x) (X := fun _ _ => False)) ?_ (fun _ _ h => False.elim h)) RDAll.n)
        ·rintro _ _ rfl
         refine RD.run rfl ?_
         refine RD.oneN (i := 11) rfl rfl rfl rfl (OW.storeP tO rfl rfl rfl rfl rfl rfl rfl (by (repeat (first | exact sSam | assumption | with_reducible rw [Store.set_ne _ _ (by omega)]))) rfl (X := fun _ _ => False)) ?_ (fun _ _ h => False.elim h)
         rintro _ _ rfl
         refine RD.run rfl (RD.done rfl ?_)
         have hall : s b29 = none ∧ s b30 = none ∧ s b8 = none ∧ b29 ≠ b6 ∧ b30 ≠ b6 ∧ b8 ≠ b6 ∧ b29 ≠ b30 ∧ b29 ≠ b8 ∧ b30 ≠ b8 := by
          simp only [ne_eq] at hb29 hb30 hb8
          refine ⟨by simp_all, by simp_all, by simp_all, by omega, by omega, by omega, by omega, by omega, by omega⟩
         refine ⟨rfl, (b29, b30, b8), hall, ⟨⟨_, rfl, aRfl⟩, ⟨_, rfl, aRfl⟩, ⟨_, rfl, aRfl⟩, ⟨_, rfl, aRfl⟩, ⟨_, rfl, aRfl⟩, trivial⟩, ?_⟩
         obtain ⟨-, -, -, n1, n2, n3, n4, n5, n6⟩ := hall
         intro z
         left
         simp only [Store.set]
         repeat' split
         all_goals first | rfl | (simp_all; done) | (simp_all; omega)
      ·rintro _ _ ⟨b30, hb30, rfl, rfl⟩
       simp only [Store.set_eq_none] at hb30
       refine RD.run rfl ?_
       refine RD.many rfl (RDAll.c (RDStep.mk (i := 3) rfl rfl rfl rfl (OW.call rfl (fv := .func 42 [] []) rfl rfl (ACallV.of_calls (freeOf_spec y _ (by omega)))) ?_ (fun _ _ ⟨_, _, h, _⟩ => by cases h)) (RDAll.c (RDStep.mkN (i := 6) rfl rfl rfl (OW.mapUpdate tO (.inr rfl) rfl rfl rfl rfl rfl rfl (by (repeat (first | exact sSam | assumption | with_reducible rw [Store.set_ne _ _ (by omega)]))) rfl (putA_set [] x) (X := fun _ _ => False)) ?_ (fun _ _ h => False.elim h)) RDAll.n))
       ·rintro _ _ ⟨b29, hb29, ⟨⟩, rfl⟩
        simp only [Store.set_eq_none] at hb29
        refine RD.run rfl ?_
        refine RD.many rfl (RDAll.c (RDStep.mkN (i := 6) rfl rfl rfl (OW.mapUpdate tO (.inr rfl) rfl rfl rfl rfl rfl rfl (by (repeat (first | exact sSam | assumption | with_reducible rw [Store.set_ne _ _ (by omega)]))) rfl (putA_set [] x) (X := fun _ _ => False)) ?_ (fun _ _ h => False.elim h)) RDAll.n)
        ·rintro _ _ rfl
         refine RD.run rfl ?_
         refine RD.oneN (i := 11) rfl rfl rfl rfl (OW.storeP tO rfl rfl rfl rfl rfl rfl rfl (by (repeat (first | exact sSam | assumption | with_reducible rw [Store.set_ne _ _ (by omega)]))) rfl (X := fun _ _ => False)) ?_ (fun _ _ h => False.elim h)
         rintro _ _ rfl
         refine RD.run rfl (RD.done rfl ?_)
         have hall : s b29 = none ∧ s b30 = none ∧ s b8 = none ∧ b29 ≠ b6 ∧ b30 ≠ b6 ∧ b8 ≠ b6 ∧ b29 ≠ b30 ∧ b29 ≠ b8 ∧ b30 ≠ b8 := by
          simp only [ne_eq] at hb29 hb30 hb8
          refine ⟨by simp_all, by simp_all, by simp_all, by omega, by omega, by omega, by omega, by omega, by omega⟩
         refine ⟨rfl, (b29, b30, b8), hall, ⟨⟨_, rfl, aRfl⟩, ⟨_, rfl, aRfl⟩, ⟨_, rfl, aRfl⟩, ⟨_, rfl, aRfl⟩, ⟨_, rfl, aRfl⟩, trivial⟩, ?_⟩
         obtain ⟨-, -, -, n1, n2, n3, n4, n5, n6⟩ := hall
         intro z
         left
         simp only [Store.set]
         repeat' split
         all_goals first | rfl | (simp_all; done) | (simp_all; omega)
       ·rintro _ _ rfl
        refine RD.run rfl ?_
        refine RD.many rfl (RDAll.c (RDStep.mk (i := 3) rfl rfl rfl rfl (OW.call rfl (fv := .func 42 [] []) rfl rfl (ACallV.of_calls (freeOf_spec y _ (by omega)))) ?_ (fun _ _ ⟨_, _, h, _⟩ => by cases h)) RDAll.n)
        ·rintro _ _ ⟨b29, hb29, ⟨⟩, rfl⟩
         simp only [Store.set_eq_none] at hb29
         refine RD.run rfl ?_
         refine RD.oneN (i := 11) rfl rfl rfl rfl (OW.storeP tO rfl rfl rfl rfl rfl rfl rfl (by (repeat (first | exact sSam | assumption | with_reducible rw [Store.set_ne _ _ (by omega)]))) rfl (X := fun _ _ => False)) ?_ (fun _ _ h => False.elim h)
         rintro _ _ rfl
         refine RD.run rfl (RD.done rfl ?_)
         have hall : s b29 = none ∧ s b30 = none ∧ s b8 = none ∧ b29 ≠ b6 ∧ b30 ≠ b6 ∧ b8 ≠ b6 ∧ b29 ≠ b30 ∧ b29 ≠ b8 ∧ b30 ≠ b8 := by
          simp only [ne_eq] at hb29 hb30 hb8
          refine ⟨by simp_all, by simp_all, by simp_all, by omega, by omega, by omega, by omega, by omega, by omega⟩
         refine ⟨rfl, (b29, b30, b8), hall, ⟨⟨_, rfl, aRfl⟩, ⟨_, rfl, aRfl⟩, ⟨_, rfl, aRfl⟩, ⟨_, rfl, aRfl⟩, ⟨_, rfl, aRfl⟩, trivial⟩, ?_⟩
         obtain ⟨-, -, -, n1, n2, n3, n4, n5, n6⟩ := hall
         intro z
         left
         simp only [Store.set]
         repeat' split
         all_goals first | rfl | (simp_all; done) | (simp_all; omega)
    rintro ⟨fb, tb, b8⟩ ⟨q1, q2, q3, q4, q5, q6, q7, q8, q9⟩
    simp only at q1 q2 q3 q4 q5 q6 q7 q8 q9 ⊢
    refine CW.freeze 8 b8 rfl sSam ?_
    rw [Store.del_set _ _ _ (by simp only [Store.set_eq_none]; exact ⟨q9.symm, q8.symm, q6, q3⟩)]
    have hfl := frees_length y
    refine CW.seqCutX (σ := Nat × Option (AV × AV) × List Str) (fun _ => [(1, .str x), (3, .fptr e.cells 0), (5, .fptr y.cells 0), (6, .ptr b6 0), (8, .fptr [.fptr (putterCells x y fb tb) 0] 0)])
     (fun q => ((((s.set b6 box0).set tb (.map (setA q.2.2))).set fb (.ranged (setA y.frees) q.1 [] q.2.1)).set q.1 (.tick fb))) (fun q => s q.1 = none ∧ q.1 ≠ b6 ∧ q.1 ≠ fb ∧ q.1 ≠ tb ∧ (∀ z, z ∈ q.2.2 ↔ z = x ∨ z ∈ y.frees) ∧ q.2.2.length ≤ 1 + y.frees.length) ?_ ?_
    ·repeat (first | with_reducible apply CW.seq | refine CW.reg ?_ | refine wS rfl ?_)
     refine RL.op rfl rfl rfl (OW.rangeM tO rfl rfl rfl rfl (by (repeat (first | exact sSam | assumption | with_reducible rw [Store.set_ne _ _ (by omega)]))) (X := fun _ _ => False)) ?_ (fun _ _ h => False.elim h)
     rintro _ _ ⟨it, hit, hne, rfl, rfl⟩
     simp only [Store.set_eq_none] at hit
     obtain ⟨r1, r2, r3, r4⟩ := hit
     repeat (first | (with_reducible first | apply aN | apply CW.block) | refine RL.nil ?_)
     refine CW.loop (σ := List Str × Option (AV × AV) × List Str) (fun _ => [(1, .str x), (3, .fptr e.cells 0), (5, .fptr y.cells 0), (6, .ptr b6 0), (8, .fptr [.fptr (putterCells x y fb tb) 0] 0), (39, .ptr it 0)])
      (fun q => ((((s.set b6 box0).set tb (.map (setA q.2.2))).set fb (.ranged (setA y.frees) it (setA q.1) q.2.1)).set it (.tick fb))) (fun q => (∀ z, (z ∈ q.2.2 ∨ z ∈ q.1) ↔ z = x ∨ z ∈ y.frees) ∧ q.2.2.length + q.1.length ≤ 1 + y.frees.length) (fun q => q.1.length)
      (y.frees, none, [x]) ⟨fun z => by simp, by simp <;> omega⟩ ?_ (fun z => by simp only [Store.set, Store.del]; (repeat' split) <;> first | (exact .inl rfl) | (exfalso; omega) | (right; simp_all; done)) ?_
     ·exact ⟨⟨_, rfl, aRfl⟩, ⟨_, rfl, aRfl⟩, ⟨_, rfl, aRfl⟩, ⟨_, rfl, aRfl⟩, ⟨_, rfl, aRfl⟩, ⟨_, rfl, aRfl⟩, trivial⟩
     ·rintro ⟨lf, cur, tk⟩ ⟨hm, hl⟩
      simp only at hm hl
      repeat (first | with_reducible apply CW.seq | refine CW.reg ?_)
      refine RL.op rfl rfl rfl (OW.nextM (m := fb) (i := it) rfl rfl (by (repeat (first | exact sSam | assumption | with_reducible rw [Store.set_ne _ _ (by omega)]))) (by (repeat (first | exact sSam | assumption | with_reducible rw [Store.set_ne _ _ (by omega)]))) (X := fun _ _ => False)) ?_ (fun _ _ h => False.elim h)
      rintro _ _ (⟨hlf, rfl, rfl⟩ | ⟨l₁, k, v, l₂, hlf, rfl, rfl⟩)
      ·obtain rfl : lf = [] := by cases lf <;> simp_all [setA]
       repeat (first | (with_reducible first | apply CW.seq | apply aN | apply aX | apply iH | apply CW.exit) | refine RL.nil ?_ | refine CW.condF rfl ?_ | refine wS rfl ?_)
       exact ⟨rfl, (it, cur, tk), ⟨r4, r3, hne, r1, by simpa using hm, by simpa using hl⟩, ⟨⟨_, rfl, aRfl⟩, ⟨_, rfl, aRfl⟩, ⟨_, rfl, aRfl⟩, ⟨_, rfl, aRfl⟩, ⟨_, rfl, aRfl⟩, trivial⟩, sSub⟩
      ·obtain ⟨a, w, b, rfl, rfl, rfl, rfl, rfl⟩ := setA_split hlf
       repeat (first | (with_reducible first | apply CW.seq | apply aN | apply CW.skip | apply CW.block) | refine CW.reg ?_ | refine RL.nil ?_ | refine CW.condT rfl ?_ | refine wS rfl ?_)
       refine RL.op rfl rfl rfl (OW.entryM (m := fb) (i := it) rfl rfl (by (repeat (first | exact sSam | assumption | with_reducible rw [Store.set_ne _ _ (by omega)]))) (X := fun _ _ => False)) ?_ (fun _ _ h => False.elim h)
       rintro _ _ ⟨rfl, rfl⟩
       repeat (first | with_reducible apply aN | refine CW.reg ?_ | refine RL.nil ?_ | refine wS rfl ?_)
       refine RL.mapUpdate tO rfl rfl (.inl rfl) rfl rfl rfl rfl rfl rfl (by (repeat (first | exact sSam | assumption | with_reducible rw [Store.set_ne _ _ (by omega)]))) rfl (putA_set tk w) ?_
       repeat (first | (with_reducible first | apply aN | apply iN) | refine RL.nil ?_)
       refine ⟨(a ++ b, some (.str w, .bool true), insS tk w), ⟨fun z => ?_, ?_⟩, ⟨⟨_, rfl, aRfl⟩, ⟨_, rfl, aRfl⟩, ⟨_, rfl, aRfl⟩, ⟨_, rfl, aRfl⟩, ⟨_, rfl, aRfl⟩, ⟨_, rfl, aRfl⟩, trivial⟩, ?_, by simp <;> omega⟩
       ·rw [← hm z]; simp only [mem_insS, List.mem_append, List.mem_cons]
        constructor
        ·rintro ((h | h) | (h | h)) <;> simp [h]
        ·rintro (h | (h | (h | h))) <;> simp [h]
       ·have : (insS tk w).length ≤ tk.length + 1 := by unfold insS; split <;> simp
        simp at hl ⊢; omega
       ·rw [setA_append]
        exact (fun z => by simp only [Store.set, Store.del]; (repeat' split) <;> first | (exact .inl rfl) | (exfalso; omega) | (right; simp_all; done))
    rintro ⟨it, cur, tk⟩ ⟨r1, r2, r3, r4, hm, hl⟩
    simp only at r1 r2 r3 r4 hm hl ⊢
    refine CW.unrange fb (i := it) (by (repeat (first | exact sSam | assumption | with_reducible rw [Store.set_ne _ _ (by omega)]))) ?_
    refine CW.drop (((s.set b6 box0).set fb (.map (setA y.frees))).set tb (.map (setA tk))) (fun z => by simp only [Store.set, Store.del]; (repeat' split) <;> first | (exact .inl rfl) | (exfalso; omega) | (right; simp_all; done)) ?_
    repeat (first | with_reducible apply CW.seq | refine CW.reg ?_ | refine wS rfl ?_)
    refine RL.callP rfl rfl rfl rfl rfl (all_spec e _) ?_
    repeat (first | (with_reducible first | apply aN | apply CW.block) | refine RL.nil ?_)
    refine CW.rangeAll e rfl rfl he.size (fun rem s₁ => ∃ tk, s₁ = (((s.set b6 box0).set fb (.map (setA y.frees))).set tb (.map (setA tk))) ∧ (∀ z, (z ∈ tk ∨ z ∈ textsOf rem) ↔ z ∈ taken0 e x y) ∧ tk.length + rem.length ≤ 1 + y.frees.length + e.size)
     (fun _ _ => False) (fun _ _ => False) ⟨tk, rfl, fun z => ?_, by rw [allE_length]; omega⟩ ?_ ?_ (fun _ _ h => h.elim) (fun _ _ h => h.elim)
    ·rw [hm z]; simp [taken0, or_assoc]
    ·rintro g rem s₁ hg ⟨tk, rfl, hm, hl⟩
     repeat (first | refine CW.reg ?_)
     refine RL.newBox tO rfl rfl rfl rfl rfl rfl rfl (fun _ => rfl) rfl rfl (fun _ => rfl) rfl rfl rfl rfl ?_
     repeat (first | (with_reducible first | apply CW.seq | apply aN | apply CW.block) | refine CW.reg ?_ | refine RL.nil ?_ | refine wS rfl ?_)
     refine RL.cut 4 [(8, .fptr [.fptr (putterCells x y fb tb) 0] 0), (10, .fptr g.cells 0), (59, .bool (g.op == 3 || g.op == 9))] ?_ ?_
     ·repeat' (first | refine RL.nil ?_ | refine wS rfl ?_ | refine RL.skip rfl rfl rfl ?_ | refine RL.gstepF tO rfl rfl rfl rfl rfl rfl rfl (fun _ => ?_) (fun _ => ?_))
      all_goals refine ⟨rfl, ⟨⟨_, rfl, aRfl⟩, ⟨_, rfl, aRfl⟩, ⟨_, rfl, AVle.of_eq ?_⟩, trivial⟩, rfl⟩
      all_goals simp_all
     cases hc : g.op == 3 || g.op == 9 with
     | true =>
      repeat (first | with_reducible apply aN | refine RL.nil ?_ | refine CW.condT rfl ?_)
      refine CW.drw tO mixed rfl (RD.run rfl ?_)
      refine RD.oneN (i := 6) rfl rfl rfl rfl (OW.mapUpdate tO (.inl rfl) rfl rfl rfl rfl rfl rfl sSam rfl (putA_set tk g.text) (X := fun _ _ => False)) ?_ (fun _ _ h => False.elim h)
      rintro _ _ rfl
      refine RD.run rfl (RD.done rfl ?_)
      repeat (first | with_reducible apply iN)
      refine ⟨insS tk g.text, by rw [Store.set_set], fun z => ?_, ?_⟩
      ·rw [← hm z]
       simp only [mem_insS, textsOf, List.filter_cons, hc, if_true, List.map_cons, List.mem_cons]
       constructor
       ·rintro ((h | h) | h) <;> simp [h]
       ·rintro (h | (h | h)) <;> simp [h]
      ·have : (insS tk g.text).length ≤ tk.length + 1 := by unfold insS; split <;> simp
       simp at hl; omega
     | false =>
      repeat (first | (with_reducible first | apply aN | apply iN | apply CW.skip) | refine RL.nil ?_ | refine CW.condF rfl ?_)
      refine ⟨tk, rfl, fun z => ?_, by simp at hl; omega⟩
      rw [← hm z]
      simp only [textsOf, List.filter_cons, hc]
      simp
    ·rintro s₁ ⟨tk, rfl, hm, hl⟩
     have halike : Alike tk (taken0 e x y) := fun z => by
      rw [Bool.eq_iff_iff]
      have := hm z
      simp only [textsOf, List.filter_nil, List.map_nil, List.not_mem_nil, or_false] at this
      simpa using this
     have hput := (put_congr x y y.frees e [] true tk (taken0 e x y) halike).1
     have hfair : (FExp.put x y y.frees [] true tk e).1.Fair := by
      refine Fair.of ?_ (put_texts (fun t ht => by omega) (Fair.texts hy) e [] true tk (Fair.texts he) (by simp))
      have h4 := put_size x y y.frees e [] true tk
      have : e.size * y.size ≤ 120 * 120 := Nat.mul_le_mul hse hsy
      omega
     repeat (first | (with_reducible first | apply CW.seq | apply aN | apply iN) | refine CW.reg ?_ | refine wS rfl ?_)
     refine RL.call rfl rfl rfl rfl rfl (put_spec x y fb tb y.frees (by omega) q7 _ e [] true tk _ (Nat.le_refl _) (by omega) (goodB_lets h1) (by simp at hl; omega) (by (repeat (first | exact sSam | assumption | with_reducible rw [Store.set_ne _ _ (by omega)]))) sSam) ?_ (fun _ _ ⟨h, _⟩ => by cases h)
     rintro _ _ ⟨⟨⟩, rfl⟩
     rw [Store.set_set]
     generalize hout : (FExp.put x y y.frees [] true tk e) = pr at hput hfair ⊢
     obtain ⟨out, tk'⟩ := pr
     simp only at hput hfair ⊢
     refine RL.newBox tO rfl rfl rfl rfl rfl rfl rfl (fun _ => rfl) rfl rfl (fun _ => rfl) rfl rfl rfl rfl ?_
     repeat (first | (with_reducible first | apply CW.seq | apply aN) | refine CW.reg ?_ | refine RL.nil ?_ | refine wS rfl ?_)
     have hgo := good_spec out (((s.set b6 box0).set fb (.map (setA y.frees))).set tb (.map (setA tk'))) hfair
     cases h4 : goodB out with
     | true =>
      rw [h4] at hgo
      refine RL.callP rfl rfl rfl rfl rfl hgo ?_
      repeat (first | (with_reducible first | apply CW.seq | apply aN | apply CW.skip) | refine CW.reg ?_ | refine RL.nil ?_ | refine CW.condF rfl ?_ | refine wS rfl ?_)
      refine RL.storeP tO rfl rfl rfl rfl rfl rfl rfl rfl rfl (by (repeat (first | exact sSam | assumption | with_reducible rw [Store.set_ne _ _ (by omega)]))) rfl ?_
      repeat (first | (with_reducible first | apply aN | apply CW.ret) | refine RL.nil ?_ | refine wS rfl ?_)
      refine ⟨_, .tup [out.av, .int .i64 0], s, resA_cellT rfl rfl sSam rfl rfl, aRfl, Store.subSet (Store.subSet (Store.subSet (Store.subSet sSub hb6) q1) q2) hb6, ?_, rfl⟩
      simp only [putR, h1, h2, h3, ← hput, h4]; rfl
     | false =>
      rw [h4] at hgo
      refine RL.callP rfl rfl rfl rfl rfl hgo ?_
      repeat (first | (with_reducible first | apply CW.seq | apply aN) | refine CW.reg ?_ | refine RL.nil ?_ | refine CW.condT rfl ?_ | refine wS rfl ?_)
      refine RL.storeP tO rfl rfl rfl rfl rfl rfl rfl rfl rfl (by (repeat (first | exact sSam | assumption | with_reducible rw [Store.set_ne _ _ (by omega)]))) rfl ?_
      repeat (first | (with_reducible first | apply aN | apply aR | apply CW.ret) | refine RL.nil ?_ | refine wS rfl ?_)
      refine ⟨_, .tup [zeroE.av, .int .i64 3], s, resA_cellT rfl rfl sSam rfl rfl, AVle.tup (.cons zero_le (.one aRfl)), Store.subSet (Store.subSet (Store.subSet (Store.subSet sSub hb6) q1) q2) hb6, ?_, rfl⟩
      simp only [putR, h1, h2, h3, ← hput, h4]; rfl
end Go.Proofs.YtaafacnoddjhgaaGreat

/- The layer's data: classes, methods, programs; which classes are formed, as the layer 'shape' looks at them. -/
namespace Go.Proofs.YtaafacnoddjhgaaGreat
open Go.AE

structure FInit where
 slot : Str
 n : Int
structure FClass where
 name : Str
 parents : List Str
 slots : List Str
 inits : List FInit
structure FMethod where
 kind : Int
 name : Str
 params : List Str
 fact : FFact
 body : FExp
structure FProg where
 classes : List FClass
 methods : List FMethod
 main : FExp

def FInit.cells (x : FInit) : List AV := [.str x.slot, .int .i64 x.n]
def FInit.av (x : FInit) : AV := .agg x.cells
def FClass.cells (c : FClass) : List AV := [.str c.name, .slc 1 (strs c.parents) .fro, .slc 1 (strs c.slots) .fro, .slc 2 (c.inits.map FInit.av) .fro]
def FClass.av (c : FClass) : AV := .agg c.cells
def FMethod.cells (m : FMethod) : List AV := [.int .i64 m.kind, .str m.name, .slc 1 (strs m.params) .fro] ++ m.fact.cells ++ m.body.cells
def FMethod.av (m : FMethod) : AV := .agg m.cells
def FProg.cells (p : FProg) : List AV := [.slc 4 (p.classes.map FClass.av) .fro, .slc 13 (p.methods.map FMethod.av) .fro] ++ p.main.cells
def FProg.av (p : FProg) : AV := .agg p.cells

def allPre {α : Type} (f : List α → α → Bool) : List α → List α → Bool
 | _, [] => true
 | pre, x :: r => f pre x && allPre f (pre ++ [x]) r

structure CSt where
 names : List Str
 slots : List Str
 has : List (List Str)

def CSt.slotsOf (st : CSt) (s : Str) : List Str := match st.names.findIdx? (· == s) with
 | some i => st.has.getD i []
 | none => []
def CSt.mine (st : CSt) (c : FClass) : List Str := c.parents.flatMap st.slotsOf ++ c.slots
def okParent (names pre : List Str) (s : Str) : Bool := names.contains s && (nameS s && !pre.contains s)
def okSlot (slots pre : List Str) (s : Str) : Bool := nameS s && !(slots ++ pre).contains s
def okInit (mine : List Str) (pre : List FInit) (x : FInit) : Bool := (mine.contains x.slot && between x.n) && (nameS x.slot && !(pre.map FInit.slot).contains x.slot)
def classOk (st : CSt) (c : FClass) : Bool :=
 (decide (c.parents.length ≤ 3) && decide (c.slots.length ≤ 4)) && (allPre (okParent st.names) [] c.parents && (allPre (okSlot st.slots) [] c.slots && (allPre (okInit (st.mine c)) [] c.inits && (nameS c.name && !st.names.contains c.name))))
def CSt.next (st : CSt) (c : FClass) : CSt := ⟨st.names ++ [c.name], st.slots ++ c.slots, st.has ++ [st.mine c]⟩
def clsRest : CSt → List FClass → Option CSt
 | st, [] => some st
 | st, c :: r => if classOk st c then clsRest (st.next c) r else none
def CSt.zero : CSt := ⟨[], [], []⟩
def clsAll (l : List FClass) : Option CSt := if l.length ≤ 10 then clsRest .zero l else none

def classA (names : List Str) : List (AV × AV) := names.zipIdx.map fun x => (.str x.1, .int .i64 (x.2 : Nat))

theorem getA_classFrom (s : Str) : ∀ (l : List Str) (k : Nat), getA ((l.zipIdx k).map fun x => (AV.str x.1, AV.int .i64 (x.2 : Nat))) (.str s) = some ((l.findIdx? (· == s)).map fun i => AV.int .i64 ((k + i : Nat) : Int))
  | [], k => rfl
  | x :: l, k => by
    simp only [List.zipIdx_cons, List.map_cons, getA, keyEq, List.findIdx?_cons]
    cases h : s == x with
    | true =>
      have : (x == s) = true := by rw [BEq.comm]; exact h
      rw [this]; rfl
    | false =>
      have : (x == s) = false := by rw [BEq.comm]; exact h
      rw [this]
      simp only [getA_classFrom s l (k + 1), Bool.false_eq_true, if_false]
      cases l.findIdx? (· == s) <;> simp [Nat.add_assoc, Nat.add_comm 1]

theorem getA_class (names : List Str) (s : Str) : getA (classA names) (.str s) = some ((names.findIdx? (· == s)).map fun i => AV.int .i64 ((i : Nat) : Int)) := by
 have := getA_classFrom s names 0
 simpa [classA] using this

theorem putA_classFrom (s : Str) (n : Nat) : ∀ (l : List Str) (k : Nat), l.contains s = false → k + l.length = n →
    putA ((l.zipIdx k).map fun x => (AV.str x.1, AV.int .i64 (x.2 : Nat))) (.str s) (.int .i64 (n : Nat)) = some (((l ++ [s]).zipIdx k).map fun x => (AV.str x.1, AV.int .i64 (x.2 : Nat)))
  | [], k, _, hk => by simp at hk; subst hk; rfl
  | x :: l, k, h, hk => by
    have hx : (s == x) = false := by
      rw [Bool.eq_false_iff]; intro he
      have : s = x := by simpa using he
      subst this; simp at h
    have hl : l.contains s = false := by
      rw [List.contains_cons, hx, Bool.false_or] at h; exact h
    have ih := putA_classFrom s n l (k + 1) hl (by simp at hk; omega)
    simp only [List.zipIdx_cons, List.map_cons, putA, keyEq, List.cons_append, hx, ih]

theorem putA_class {names : List Str} {s : Str} (h : names.contains s = false) : putA (classA names) (.str s) (.int .i64 ((names.length : Nat) : Int)) = some (classA (names ++ [s])) :=
 putA_classFrom s names.length names 0 h (by simp)

theorem findIdx_contains (names : List Str) (s : Str) : (names.findIdx? (· == s)).isSome = names.contains s := by
 rw [Bool.eq_iff_iff, List.findIdx?_isSome]; simp

theorem gotA_class (names : List Str) (s : Str) : gotA true (.int .i64 0) ((names.findIdx? (· == s)).map fun i => AV.int .i64 ((i : Nat) : Int)) = .tup [.int .i64 (((names.findIdx? (· == s)).getD 0 : Nat) : Int), .bool (names.contains s)] := by
 rw [← findIdx_contains]
 cases names.findIdx? (· == s) <;> rfl

theorem allPre_cons {α : Type} (f : List α → α → Bool) (pre : List α) (x : α) (r : List α) : allPre f pre (x :: r) = (f pre x && allPre f (pre ++ [x]) r) := rfl

theorem take_snoc {α : Type} {l : List α} {j : Nat} {x : α} (h : l[j]? = some x) : l.take j ++ [x] = l.take (j + 1) := by rw [List.take_add_one, h]; rfl

/-! ### Stores that are known in part -/

def RowIs (t : Store) (e : TypeId) (sz n : Nat) : Own → Prop
 | .own b => t b = some (.row e sz n)
 | .nil => True
 | .clip => True
 | .fro => False
def rowBase (t : Store) : Own → Store
 | .own b => t.del b
 | _ => t
theorem rowBase_eq {t : Store} {e : TypeId} {sz n : Nat} {own : Own} (h : RowIs t e sz n own) : t = rowOf (rowBase t own) e sz n own := by
 cases own with
 | own b =>
  funext x
  show t x = ((t.del b).set b (.row e sz n)) x
  by_cases hx : x = b
  ·subst hx; rw [Store.set_same]; exact h
  ·rw [Store.set_ne _ _ hx, Store.del_ne _ hx]
 | nil => rfl
 | clip => rfl
 | fro => exact h.elim
theorem rowBase_ok {t : Store} {e : TypeId} {sz n m : Nat} {own : Own} (h : RowIs t e sz n own) : OwnOk (rowBase t own) m own := by
 cases own with
 | own b => exact Store.del_same _ _
 | nil => trivial
 | clip => trivial
 | fro => exact h.elim

theorem rowNext_keep {t : Store} {e : TypeId} {sz n m b' : Nat} {own : Own} (hb' : rowBase t own b' = none) {x : Nat} {o : AObj} (hx : t x = some o) (hne : ∀ b, own = .own b → x ≠ b) : rowOf (rowBase t own) e sz m (.own b') x = some o := by
 have h1 : rowBase t own x = some o := by
  cases own with
  | own b => exact (Store.del_ne _ (hne b rfl)).trans hx
  | nil => exact hx
  | clip => exact hx
  | fro => exact hx
 exact (Store.set_ne _ _ (fun e => by subst e; rw [hb'] at h1; cases h1)).trans h1

def notRow : AObj → Bool
 | .row .. => false
 | _ => true
theorem rowBase_get {t : Store} {e : TypeId} {sz n x : Nat} {own : Own} {o : AObj} (h : RowIs t e sz n own) (hx : t x = some o) (ho : notRow o = true) : rowBase t own x = some o := by
 cases own with
 | own b =>
  have hne : x ≠ b := fun e => by subst e; simp only [RowIs] at h; rw [h] at hx; cases hx; cases ho
  exact (Store.del_ne _ hne).trans hx
 | nil => exact hx
 | clip => exact hx
 | fro => exact hx
end Go.Proofs.YtaafacnoddjhgaaGreat

