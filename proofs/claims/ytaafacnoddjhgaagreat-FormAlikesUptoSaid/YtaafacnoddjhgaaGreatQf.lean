import Derived.Test.YtaafacnoddjhgaaGreatQe
import Derived.Laws.StructEq
import Derived.WalkKit
import Derived.OpenShut
import Derived.JoinedCond
/- Contracts of the reference: Prog, Check, Nodes, Gens, Slots, Above. -/
namespace Go.Proofs.YtaafacnoddjhgaaGreat
open Go.AE

theorem allPreN_known : ∀ {l : List FClass} {pre : List Str}, allPreN pre l = true → ∀ c ∈ l, ∀ p ∈ c.parents, p ∈ pre ++ l.map FClass.name
  | [], _, _, c, hc => by cases hc
  | d :: r, pre, h, c, hc => by
    rw [allPreN, Bool.and_eq_true] at h
    intro p hp
    rcases List.mem_cons.1 hc with rfl | hc
    · have h1 := h.1
      simp only [clsOkR, Bool.and_eq_true, List.all_eq_true] at h1
      exact List.mem_append_left _ (List.contains_iff_mem.1 (h1.2 p hp))
    · have := allPreN_known h.2 c hc p hp
      rw [List.append_assoc] at this
      exact this
theorem known_of {cls : List FClass} (h : classesR cls = true) : Known cls := by
 simp only [classesR, Bool.and_eq_true] at h
 intro c hc p hp
 have := allPreN_known h.2.1 c hc p hp
 rw [List.nil_append] at this
 obtain ⟨d, hd, rfl⟩ := List.mem_map.1 this
 rw [List.findIdx?_isSome, List.any_eq_true]
 exact ⟨d, hd, by simp⟩

def namesOf (P : FProg) : List Str := P.classes.map FClass.name
def slotsOfP (P : FProg) : List Str := P.classes.flatMap FClass.slots
def left0 (P : FProg) : Int := 120 - (P.classes.length : Int) - (P.main.size : Int)
def progR (P : FProg) : Bool :=
 decide (P.methods.length ≤ 16) && (classesR P.classes && (initsR P.classes && (goodB P.main && (decide (left0 P ≥ 0) && (saysB P.main [] (slotsOfP P) (namesOf P) false && (methodsR (slotsOfP P) (namesOf P) (left0 P) P.methods && ((progGens P).2 && decide ((progGens P).1.length ≤ 8))))))))

theorem methodR_le {slots own : List Str} {k : Int} {m : FMethod} (h : (methodR slots own k m).1 = true) : 0 ≤ (methodR slots own k m).2 ∧ (methodR slots own k m).2 ≤ k := by
 unfold methodR at h ⊢
 split at h
 ·cases h
 ·rename_i h1
  rw [if_neg h1]
  split at h
  ·cases h
  ·rename_i h2
   rw [if_neg h2]
   simp only [Bool.and_eq_true, decide_eq_true_eq] at h ⊢
   simp only [Bool.not_eq_true', Bool.not_eq_false, Bool.and_eq_true] at h2
   have := FFact.cnt_le m.params slots (own ++ others3) m.fact 1 k h2.1
   omega

set_option maxRecDepth 10000 in
set_option maxHeartbeats 4000000 in
theorem refProg_spec (P : FProg) (s : Store) (hP : P.Fair) : ACalls Tryz.prog 17 [P.av] s (fun o s' => o = .ret (.bool (progR P)) ∧ s' = s) := by
 have hb : big = 1099511627776 := rfl
 have hl := hP.clen
 have hsl := hP.slen
 have hmm := hP.mlen
 have hml : (P.classes.map FClass.av).length = P.classes.length := List.length_map ..
 have hmm2 : (P.methods.map FMethod.av).length = P.methods.length := List.length_map ..
 have hms := hP.main.size
 have hal := allE_length P.main
 have hpr : progR P = (decide (P.methods.length ≤ 16) && (classesR P.classes && (initsR P.classes && (goodB P.main && (decide (left0 P ≥ 0) && (saysB P.main [] (slotsOfP P) (namesOf P) false && (methodsR (slotsOfP P) (namesOf P) (left0 P) P.methods && ((progGens P).2 && decide ((progGens P).1.length ≤ 8)))))))) ) := rfl
 refine ACalls.of_CW tO call17 Tryz.func17 rfl rfl ?_
 refine CW.seqCut [(1, .fptr P.cells 0)] s ?_ ?_
 ·repeat (first | refine wR rfl ?_)
  exact ⟨rfl, (wE rfl), sSub⟩
 by_cases h16 : P.methods.length ≤ 16
 case neg =>
  have : progR P = false := by rw [hpr, decide_eq_false h16]; rfl
  rw [this]
  repeat (first | with_reducible apply CW.seq | refine CW.reg ?_ | refine wS rfl ?_)
  refine RL.knowT 15 rfl (by rw [hmm2]; simp; omega) ?_
  repeat (first | (with_reducible first | apply CW.seq | apply aN | apply aR | apply CW.ret) | refine wR rfl ?_ | refine RL.nil ?_ | refine CW.condT rfl ?_ | refine wS rfl ?_ | refine RL.skip rfl rfl rfl ?_)
  exact ⟨_, _, _, rfl, aRfl, sSub, rfl, rfl⟩
 rw [decide_eq_true h16, Bool.true_and] at hpr
 have k1 := fun s => refClasses_spec P s hP
 cases hc : classesR P.classes with
 | false =>
  rw [hc] at k1 hpr
  rw [hpr]
  repeat (first | with_reducible apply CW.seq | refine CW.reg ?_ | refine wS rfl ?_)
  refine RL.knowF 15 rfl (by rw [hmm2]; simp; omega) ?_
  repeat (first | refine wS rfl ?_)
  refine RL.callP rfl rfl rfl rfl rfl (k1 _) ?_
  repeat (first | (with_reducible first | apply CW.seq | apply aN | apply aR | apply CW.ret) | refine wR rfl ?_ | refine RL.nil ?_ | refine CW.condT rfl ?_ | refine wS rfl ?_ | refine RL.skip rfl rfl rfl ?_)
  exact ⟨_, _, _, rfl, aRfl, sSub, rfl, rfl⟩
 | true =>
 have k2 := fun s => refInits_spec P s hP (known_of hc)
 rw [hc, Bool.true_and] at hpr
 rw [hc] at k1
 cases hi : initsR P.classes with
 | false =>
  rw [hi] at k2 hpr
  rw [hpr]
  repeat (first | with_reducible apply CW.seq | refine CW.reg ?_ | refine wS rfl ?_)
  refine RL.knowF 15 rfl (by rw [hmm2]; simp; omega) ?_
  repeat (first | refine wS rfl ?_)
  refine RL.callP rfl rfl rfl rfl rfl (k1 _) ?_
  repeat (first | refine wS rfl ?_)
  refine RL.callP rfl rfl rfl rfl rfl (k2 _) ?_
  repeat (first | (with_reducible first | apply CW.seq | apply aN | apply aR | apply CW.ret) | refine wR rfl ?_ | refine RL.nil ?_ | refine CW.condT rfl ?_ | refine wS rfl ?_ | refine RL.skip rfl rfl rfl ?_)
  exact ⟨_, _, _, rfl, aRfl, sSub, rfl, rfl⟩
 | true =>
 rw [hi, Bool.true_and] at hpr
 rw [hi] at k2
 have k3 := fun s => refFormed_spec P.main s hP.main
 cases hg : goodB P.main with
 | false =>
  rw [hg] at k3 hpr
  rw [hpr]
  repeat (first | with_reducible apply CW.seq | refine CW.reg ?_ | refine wS rfl ?_)
  refine RL.knowF 15 rfl (by rw [hmm2]; simp; omega) ?_
  repeat (first | refine wS rfl ?_)
  refine RL.callP rfl rfl rfl rfl rfl (k1 _) ?_
  repeat (first | refine wS rfl ?_)
  refine RL.callP rfl rfl rfl rfl rfl (k2 _) ?_
  repeat (first | refine wS rfl ?_)
  refine RL.callP rfl rfl rfl rfl rfl (k3 _) ?_
  repeat (first | (with_reducible first | apply CW.seq | apply aN | apply aR | apply CW.ret) | refine wR rfl ?_ | refine RL.nil ?_ | refine CW.condT rfl ?_ | refine wS rfl ?_)
  exact ⟨_, _, _, rfl, aRfl, sSub, rfl, rfl⟩
 | true =>
 rw [hg, Bool.true_and] at hpr
 rw [hg] at k3
 have hgs := goodB_size hg
 have h10 : P.classes.length ≤ 10 := by
  simp only [classesR, Bool.and_eq_true, decide_eq_true_eq] at hc
  exact hc.1
 have hl0 : left0 P = 120 - (P.classes.length : Int) - (P.main.size : Int) := rfl
 repeat (first | with_reducible apply CW.seq | refine CW.reg ?_ | refine wS rfl ?_)
 refine RL.knowF 15 rfl (by rw [hmm2]; simp; omega) ?_
 repeat (first | refine wS rfl ?_)
 refine RL.callP rfl rfl rfl rfl rfl (k1 _) ?_
 repeat (first | refine wS rfl ?_)
 refine RL.callP rfl rfl rfl rfl rfl (k2 _) ?_
 repeat (first | refine wS rfl ?_)
 refine RL.callP rfl rfl rfl rfl rfl (k3 _) ?_
 repeat (first | (with_reducible first | apply CW.seq | apply aN | apply CW.skip) | refine RL.nil ?_ | refine CW.condF rfl ?_ | refine wS rfl ?_)
 refine CW.drw tO mixed rfl (RD.run rfl ?_)
 refine RD.calmP (i := 6) rfl rfl rfl rfl rfl rfl rfl (fun s => refAll_spec _ P.main s (Nat.le_refl _) (Nat.le_of_lt hms)) ?_
 refine RD.run rfl ?_
 refine RD.one (i := 9) rfl rfl rfl rfl rfl (OW.alloc tO rfl rfl rfl rfl (X := fun _ _ => False)) ?_ (fun _ _ h => False.elim h)
 rintro _ _ ⟨lb, hlb, rfl, rfl⟩
 refine RD.run rfl ?_
 refine RD.oneN (i := 10) rfl rfl rfl rfl (OW.storeP tO rfl rfl rfl rfl rfl rfl rfl sSam rfl (X := fun _ _ => False)) ?_ (fun _ _ h => False.elim h)
 rintro _ _ rfl
 refine RD.run rfl (RD.done rfl (aN ?_))
 rw [Store.set_set]
 have hkw : IntKind.wrap .i64 (IntKind.wrap .i64 (120 - ((P.classes.map FClass.av).length : Int)) - ((P.main.allE.map FExp.av).length : Int)) = left0 P := by
  rw [List.length_map, List.length_map, hal, i64_wrap (n := 120 - _) (by omega) (by omega), i64_wrap (by omega) (by omega)]; rfl
 refine CW.sub [(1, .fptr P.cells 0), (3, .ptr lb 0)] (wE rfl) ?_
 refine CW.drop (s.set lb (leftO (left0 P))) (by rw [← hkw]; exact sSub) ?_
 have hk120 : left0 P ≤ 120 := by omega
 have hk40 : -1000 ≤ left0 P := by omega
 generalize left0 P = k0 at hpr hk120 hk40 ⊢
 clear hkw hl0
 refine CW.seqCut [(1, .fptr P.cells 0), (3, .ptr lb 0), (4, .slc 1 (strs (slotsOfP P)) .fro)] (s.set lb (leftO k0)) ?_ ?_
 ·repeat (first | refine CW.reg ?_ | refine wS rfl ?_)
  refine RL.callP rfl rfl rfl rfl rfl (refSlotsOf_spec P _ hl hsl) ?_
  repeat (first | refine RL.nil ?_ | refine wS rfl ?_)
  exact ⟨rfl, (wE rfl), sSub⟩
 have hso : (slotsOfP P).length < big := hsl
 have hno : (namesOf P).length = P.classes.length := by simp [namesOf]
 generalize slotsOfP P = slots at hpr hso ⊢
 refine CW.seqCut [(1, .fptr P.cells 0), (3, .ptr lb 0), (4, .slc 1 (strs slots) .fro), (5, .slc 1 (strs []) .nil)] (s.set lb (leftO k0)) ?_ ?_
 ·repeat (first | refine wR rfl ?_)
  exact ⟨rfl, ⟨⟨_, rfl, aRfl⟩, ⟨_, rfl, aRfl⟩, ⟨_, rfl, aRfl⟩, ⟨_, rfl, AVle.nil (by simp)⟩, trivial⟩, sSub⟩
 refine CW.seqCut [(1, .fptr P.cells 0), (3, .ptr lb 0), (4, .slc 1 (strs slots) .fro), (5, .slc 1 (strs (namesOf P)) .fro)] (s.set lb (leftO k0)) ?_ ?_
 ·repeat (first | (with_reducible first | apply CW.seq | apply aN | apply CW.block) | refine wR rfl ?_)
  refine CW.loop (σ := Nat × Own) (fun q => [(1, .fptr P.cells 0), (3, .ptr lb 0), (4, .slc 1 (strs slots) .fro), (5, .slc 1 (strs ((P.classes.take q.1).map FClass.name)) q.2), (6, .int .i64 (q.1 : Int))])
   (fun q => rowOf (s.set lb (leftO k0)) 9 1 q.1 q.2) (fun q => q.1 ≤ P.classes.length ∧ OwnOk (s.set lb (leftO k0)) 0 q.2) (fun q => P.classes.length - q.1) (0, .nil) ⟨by simp, trivial⟩ (wE rfl) sSub ?_
  rintro ⟨i, own⟩ ⟨hi', hown⟩
  simp only at hi' hown
  have hln : ((P.classes.take i).map FClass.name).length = i := by simp; omega
  repeat (first | (with_reducible first | apply CW.seq | apply aN) | refine wR rfl ?_)
  refine CW.cond rfl (fun h => ?_) (fun h => ?_)
  ·have hlt : i < P.classes.length := by rw [hml] at h; simpa using h
   obtain ⟨c, hci⟩ : ∃ c, P.classes[i]? = some c := ⟨_, List.getElem?_eq_getElem hlt⟩
   have hci' : (P.classes.map FClass.av)[i]? = some (.agg c.cells) := by rw [List.getElem?_map, hci]; rfl
   have hnx : (P.classes.take i).map FClass.name ++ [c.name] = (P.classes.take (i + 1)).map FClass.name := by rw [← take_snoc hci]; simp
   repeat (first | (with_reducible first | apply CW.seq | apply aN | apply CW.skip | apply CW.block) | refine CW.reg ?_ | refine wS rfl ?_ | refine RL.idx tO _ rfl rfl rfl rfl rfl rfl rfl rfl rfl rfl rfl (by assumption) rfl ?_)
   refine RL.append1 tO rfl rfl rfl rfl rfl rfl rfl (by intro k; simp) rfl rfl rfl rfl rfl rfl rfl (n := i) (by rw [strs_length, hln]) (by show (i + 1) * 16 ≤ _; omega) (by omega) (s := s.set lb (leftO k0)) rfl (OwnOk.sub' hown) (fun rb hrb => ?_)
   repeat (first | (with_reducible first | apply aN | apply iN) | refine wR rfl ?_ | refine RL.nil ?_ | refine wS rfl ?_)
   exact ⟨(i + 1, .own rb), ⟨hlt, hrb⟩, (by repeat (first | exact trivial | refine ⟨⟨_, rfl, aRfl⟩, ?_⟩ | refine ⟨⟨_, rfl, AVle.of_eq (by (first | (show AV.int .i64 (IntKind.wrap .i64 ((i : Int) + 1)) = .int .i64 ((i + 1 : Nat) : Int); rw [i64_succ (by omega)]) | (simp only [← hnx]; simp [strs])))⟩, ?_⟩)), sSub, by show P.classes.length - (i + 1) < P.classes.length - i; omega⟩
  ·have hge : P.classes.length ≤ i := by rw [hml] at h; simpa using h
   rw [List.take_of_length_le hge]
   repeat (with_reducible first | apply aX | apply iH | apply CW.exit)
   exact ⟨rfl, ⟨⟨_, rfl, aRfl⟩, ⟨_, rfl, aRfl⟩, ⟨_, rfl, aRfl⟩, ⟨_, rfl, AVle.fro⟩, trivial⟩, rowOf_sub hown⟩
 generalize namesOf P = own at hpr hno ⊢
 cases hk0 : decide (k0 ≥ 0) with
 | false =>
  rw [hk0] at hpr
  rw [hpr]
  have hk0' : decide (k0 < 0) = true := by simp at hk0 ⊢; omega
  repeat (first | with_reducible apply CW.seq | refine CW.reg ?_ | refine wS rfl ?_ | refine RL.loadP tO rfl rfl rfl rfl rfl rfl sSam rfl ?_)
  refine RL.knowT 60 rfl hk0' ?_
  repeat (first | (with_reducible first | apply CW.seq | apply aN | apply aR | apply CW.ret) | refine wR rfl ?_ | refine RL.nil ?_ | refine CW.condT rfl ?_ | refine wS rfl ?_ | refine RL.skip rfl rfl rfl ?_)
  exact ⟨_, _, s, rfl, aRfl, Store.sub_set _ _ _ hlb, rfl, rfl⟩
 | true =>
 rw [hk0, Bool.true_and] at hpr
 have hk0' : decide (k0 < 0) = false := by simp at hk0 ⊢; omega
 have k4 := fun s => ACalls.weakArgs (.cons aRfl (.cons (AVle.nil (sz := 0) (sz' := 1) (own := .nil) (by simp)) (.cons aRfl (.cons aRfl (.one aRfl))))) (refSays_spec P.main [] slots own .nil .fro .fro false s hms (by simp) (by omega) (by omega))
 cases hsy : saysB P.main [] slots own false with
 | false =>
  rw [hsy] at k4 hpr
  rw [hpr]
  repeat (first | with_reducible apply CW.seq | refine CW.reg ?_ | refine wS rfl ?_ | refine RL.loadP tO rfl rfl rfl rfl rfl rfl sSam rfl ?_)
  refine RL.knowF 60 rfl hk0' ?_
  repeat (first | refine wS rfl ?_)
  refine RL.callP rfl rfl rfl rfl rfl (k4 _) ?_
  repeat (first | (with_reducible first | apply CW.seq | apply aN | apply aR | apply CW.ret) | refine wR rfl ?_ | refine RL.nil ?_ | refine CW.condT rfl ?_ | refine wS rfl ?_)
  exact ⟨_, _, s, rfl, aRfl, Store.sub_set _ _ _ hlb, rfl, rfl⟩
 | true =>
 rw [hsy] at k4
 rw [hsy, Bool.true_and] at hpr
 have hk00 : 0 ≤ k0 := by simpa using hk0
 repeat (first | with_reducible apply CW.seq | refine CW.reg ?_ | refine wS rfl ?_ | refine RL.loadP tO rfl rfl rfl rfl rfl rfl sSam rfl ?_)
 refine RL.knowF 60 rfl hk0' ?_
 repeat (first | refine wS rfl ?_)
 refine RL.callP rfl rfl rfl rfl rfl (k4 _) ?_
 repeat (first | (with_reducible first | apply CW.seq | apply aN | apply CW.skip | apply CW.block) | refine wR rfl ?_ | refine RL.nil ?_ | refine CW.condF rfl ?_ | refine wS rfl ?_)
 refine CW.loop (σ := Nat × Int) (fun q => [(1, .fptr P.cells 0), (3, .ptr lb 0), (4, .slc 1 (strs slots) .fro), (5, .slc 1 (strs own) .fro), (7, .int .i64 (q.1 : Int))]) (fun q => s.set lb (leftO q.2))
  (fun q => q.1 ≤ P.methods.length ∧ 0 ≤ q.2 ∧ q.2 ≤ 120 ∧ methodsR slots own k0 P.methods = methodsR slots own q.2 (P.methods.drop q.1)) (fun q => P.methods.length - q.1) (0, k0) ⟨by simp, hk00, hk120, rfl⟩ (wE rfl) sSub ?_
 rintro ⟨j, k⟩ ⟨hj, hq0, hq1, hI⟩
 simp only at hj hq0 hq1 hI
 repeat (first | (with_reducible first | apply CW.seq | apply aN) | refine wR rfl ?_)
 refine CW.cond rfl (fun h => ?_) (fun h => ?_)
 ·have hlt : j < P.methods.length := by rw [hmm2] at h; simpa using h
  obtain ⟨m, hm⟩ : ∃ m, P.methods[j]? = some m := ⟨_, List.getElem?_eq_getElem hlt⟩
  have hm' : (P.methods.map FMethod.av)[j]? = some (.agg m.cells) := by rw [List.getElem?_map, hm]; rfl
  have hmf := hP.mth m (List.mem_of_getElem? hm)
  rw [drop_cons hm, methodsR] at hI
  have hcall := refMethod_spec lb m slots own .fro .fro k (s.set lb (leftO k)) hmf (by omega) (by omega) hq0 hq1 sSam
  rw [Store.set_set] at hcall
  have hle := @methodR_le slots own k m
  generalize methodR slots own k m = r at hcall hle hI
  obtain ⟨b, k'⟩ := r
  simp only at hle hI
  repeat (first | (with_reducible first | apply CW.seq | apply aN | apply CW.skip | apply CW.block) | refine CW.reg ?_ | refine wS rfl ?_ | refine RL.idx tO _ rfl rfl rfl rfl rfl rfl rfl rfl rfl rfl rfl (by assumption) rfl ?_)
  refine RL.call rfl rfl rfl rfl rfl hcall ?_ (fun _ _ ⟨h, _⟩ => by cases h)
  rintro _ _ ⟨⟨⟩, rfl⟩
  cases b with
  | true =>
   obtain ⟨g0, g1⟩ := hle rfl
   rw [Bool.true_and] at hI
   repeat (first | (with_reducible first | apply aN | apply iN | apply CW.skip) | refine wR rfl ?_ | refine RL.nil ?_ | refine CW.condF rfl ?_ | refine wS rfl ?_)
   exact ⟨(j + 1, k'), ⟨hlt, g0, by show k' ≤ 120; omega, hI⟩, (by repeat (first | exact trivial | refine ⟨⟨_, rfl, aRfl⟩, ?_⟩ | refine ⟨⟨_, rfl, AVle.of_eq (by (show AV.int .i64 (IntKind.wrap .i64 ((j : Int) + 1)) = .int .i64 ((j + 1 : Nat) : Int); rw [i64_succ (by omega)]))⟩, ?_⟩)), sSub, by show P.methods.length - (j + 1) < P.methods.length - j; omega⟩
  | false =>
   rw [Bool.false_and] at hI
   rw [hI] at hpr
   rw [hpr]
   repeat (first | (with_reducible first | apply CW.seq | apply aN | apply aR | apply iR | apply CW.ret) | refine wR rfl ?_ | refine RL.nil ?_ | refine CW.condT rfl ?_ | refine wS rfl ?_)
   exact ⟨_, _, s, rfl, aRfl, Store.sub_set _ _ _ hlb, rfl, rfl⟩
 ·have hge : P.methods.length ≤ j := by rw [hmm2] at h; simpa using h
  rw [List.drop_eq_nil_of_le hge, methodsR] at hI
  rw [hI, Bool.true_and] at hpr
  have k5 := fun s => refFunctions_spec P s hP
  rw [hpr]
  generalize progGens P = pg at k5 ⊢
  obtain ⟨G, is⟩ := pg
  simp only at k5 ⊢
  repeat (first | (with_reducible first | apply CW.seq | apply aN | apply aX | apply iH | apply CW.exit) | refine CW.reg ?_ | refine wS rfl ?_)
  refine RL.callP rfl rfl rfl rfl rfl (k5 _) ?_
  repeat (first | (with_reducible first | apply CW.seq | apply aN) | refine CW.reg ?_ | refine RL.nil ?_ | refine wS rfl ?_)
  cases is with
  | true =>
   repeat (first | (with_reducible first | apply aN | apply CW.ret) | refine RL.nil ?_ | refine wS rfl ?_)
   refine ⟨_, _, s, rfl, AVle.of_eq ?_, Store.sub_set _ _ _ hlb, rfl, rfl⟩
   congr 1
   rw [strs_length, List.length_map, Bool.eq_iff_iff]; simp; omega
  | false =>
   repeat (first | (with_reducible first | apply aN | apply CW.ret) | refine RL.nil ?_ | refine wS rfl ?_ | refine RL.skip rfl rfl rfl ?_)
   exact ⟨_, _, s, rfl, aRfl, Store.sub_set _ _ _ hlb, rfl, rfl⟩

end Go.Proofs.YtaafacnoddjhgaaGreat

/- The plain law of FormChecks, part 1: facts, expressions and methods. -/
namespace Go.Proofs.YtaafacnoddjhgaaGreat
open Go.AE

theorem ok_known {ps ss own : List Str} {g : FFact} (hp : ps.contains [] = false) : okK ps ss (own ++ others3) g = (nodeF g && spokenF own ss ps (.fact g)) := by
 have hn : g.name = [] → ps.contains g.name = false := fun h => by rw [h]; exact hp
 have hb0 : between 0 = true := by decide
 have ho : (own ++ others3).contains g.cls = (((own.contains g.cls || g.cls == anyS) || g.cls == intS) || g.cls == noneS) := by
  rw [Bool.eq_iff_iff]; simp [others3, or_assoc]
 have hkl : g.kav.length = g.kids.length := FFact.kav_length g
 have hpl : (g.path.length = 0) → g.path.all ss.contains = true := fun h => by rw [List.length_eq_zero_iff.1 h]; rfl
 rw [okK, badK1, badK2, badK3, nodeF, nodeF1, nodeF2, spokenF, ho, opF, hkl, strs_length]
 generalize g.path.all ss.contains = pa at hpl
 generalize hnm : ps.contains g.name = nm at hn
 generalize own.contains g.cls = nc
 have hen : (g.name == []) = true → nm = false := fun h => hn (by simpa using h)
 have hea : (g.cls == []) = true → (g.cls == anyS) = false ∧ (g.cls == intS) = false ∧ (g.cls == noneS) = false := fun h => by rw [(by simpa using h : g.cls = [])]; decide
 generalize (g.name == []) = en at hen
 generalize (g.cls == []) = ec at hea
 generalize (g.cls == anyS) = ca at hea
 generalize (g.cls == intS) = ci at hea
 generalize (g.cls == noneS) = cn at hea
 generalize ((g.kids.length : Int) == kidsF g.op) = kk
 have hat : atomF g = ((g.op == 2 || g.op == 3) || g.op == 4) := rfl
 rw [hat]
 have hcc : (((nc || ca) || ci) || cn) = (nc || ((ca || ci) || cn)) := by cases nc <;> cases ca <;> cases ci <;> cases cn <;> rfl
 have hcc2 : ((((nc || ec) || ca) || ci) || cn) = ((nc || ((ca || ci) || cn)) || ec) := by cases nc <;> cases ec <;> cases ca <;> cases ci <;> cases cn <;> rfl
 rw [hcc, hcc2]
 generalize (nc || ((ca || ci) || cn)) = kc
 clear hea
 by_cases hn0 : g.n = 0
 ·rw [hn0, hb0]
  rw [Bool.eq_iff_iff]
  simp only [Bool.and_eq_true, Bool.or_eq_true, Bool.not_eq_true', Bool.or_eq_false_iff, Bool.and_eq_false_iff, beq_iff_eq, decide_eq_true_eq, decide_eq_false_iff_not, Bool.not_eq_false']
  cases en <;> cases ec <;> cases kk <;> cases pa <;> cases nm <;> cases kc <;> simp_all <;> first | omega | grind
 ·rw [Bool.eq_iff_iff]
  have : (g.n == 0) = false := by simpa using hn0
  rw [this]
  generalize between g.n = bn
  cases en <;> cases ec <;> cases kk <;> cases pa <;> cases nm <;> cases kc <;> cases bn <;> simp_all <;> omega

theorem fact_known {ps ss own : List Str} (hp : ps.contains [] = false) (f : FFact) (cnt : Nat) (k : Int) (hk : k = 120 - (cnt : Int)) (h0 : 0 ≤ k) :
  (FFact.cnt ps ss (own ++ others3) 1 k f).1 = factB own ss cnt f ps := by
 rw [(cntF_nodes _ _ _ f 1 k h0).1, factB, lookB]
 have hsz : ((Part.fact f).nodes 1).length = f.size := Part.nodes_size _ _ _ (Nat.le_refl _)
 rw [hsz]
 by_cases h : cnt + f.size ≤ 120
 ·rw [decide_eq_true (by omega : (f.size : Int) ≤ k), decide_eq_true h, decide_eq_true (by omega : f.size ≤ 120), Bool.true_and, Bool.true_and, Bool.and_true]
  rw [Bool.eq_iff_iff, Bool.and_eq_true, List.all_eq_true, List.all_eq_true, List.all_eq_true]
  have key : ∀ x ∈ (Part.fact f).nodes 1, okKP ps ss (own ++ others3) x = (nodeOk x && spokenF own ss ps x.2) := by
   intro x hx
   obtain ⟨g, hg, hxg⟩ := mem_allF f 1 x hx
   obtain ⟨d, p⟩ := x
   simp only at hxg
   subst hxg
   show (decide (d ≤ 12) && okK _ _ _ g) = ((decide (d ≤ 12) && nodeF g) && spokenF own ss ps (.fact g))
   rw [ok_known hp, Bool.and_assoc]
  constructor
  ·intro h
   refine ⟨fun x hx => ?_, fun x hx => ?_⟩
   ·have := h x hx
    rw [key x hx, Bool.and_eq_true] at this; exact this.1
   ·have := h x hx
    rw [key x hx, Bool.and_eq_true] at this; exact this.2
  ·rintro ⟨h1, h2⟩ x hx
   rw [key x hx, h1 x hx, h2 x hx]; rfl
 ·rw [decide_eq_false (by omega : ¬ (f.size : Int) ≤ k), decide_eq_false h]; simp

theorem says_frees {e : FExp} (h : e.neat = true) (free slots own : List Str) (next : Bool) : saysB e free slots own next = (e.allE.all (spokenE own slots next) && e.frees.all free.contains) := by
 unfold saysB
 congr 1
 rw [Bool.eq_iff_iff, List.all_eq_true, List.all_eq_true]
 have hz : ∀ z, z ∈ sortS (e.looseR []) ↔ z ∈ e.frees := fun z => by rw [mem_sortS, mem_frees, looseR_eq e [] [] h (fun _ => Iff.rfl)]
 exact ⟨fun g x hx => g x ((hz x).2 hx), fun g x hx => g x ((hz x).1 hx)⟩

theorem exp_known (names slots : List Str) (cnt : Nat) (e : FExp) (params : List Str) (next : Bool) (k : Int) (hk : k = 120 - (cnt : Int)) :
  (goodB e && (decide (k - e.size ≥ 0) && saysB e params slots names next)) = knownB names slots cnt e params next := by
 unfold knownB
 show _ = ((goodB e && _) && _)
 cases hg : goodB e with
 | false => rfl
 | true =>
  rw [says_frees (good_neat hg)]
  have : decide (k - e.size ≥ 0) = decide (cnt + e.size ≤ 120) := by rw [Bool.eq_iff_iff]; simp; omega
  rw [this]; rfl

/-! ### Lists whose elements are asked one after the other -/
theorem allPre_iff {α : Type} (f : List α → α → Bool) : ∀ (l pre : List α), allPre f pre l = true ↔ ∀ i x, l[i]? = some x → f (pre ++ l.take i) x = true
  | [], pre => by simp [allPre]
  | y :: r, pre => by
    rw [allPre, Bool.and_eq_true, allPre_iff f r (pre ++ [y])]
    constructor
    · rintro ⟨h1, h2⟩ i x hx
      cases i with
      | zero => simp at hx; subst hx; simpa using h1
      | succ i => have := h2 i x (by simpa using hx); simpa using this
    · intro h
      refine ⟨by simpa using h 0 y rfl, fun i x hx => ?_⟩
      have := h (i + 1) x (by simpa using hx)
      simpa using this

theorem nodup_pre {α : Type} (f : α → List Str) : ∀ (r pre : List α), (pre.flatMap f).Nodup → (((pre ++ r).flatMap f).Nodup ↔ allPre (fun pre x => decide (f x).Nodup && (f x).all fun y => !(pre.flatMap f).contains y) pre r = true)
  | [], pre, h => by simpa [allPre] using h
  | c :: r, pre, h => by
    have e : pre ++ c :: r = (pre ++ [c]) ++ r := by simp
    rw [allPre, Bool.and_eq_true, e]
    have hc : ((pre ++ [c]).flatMap f).Nodup ↔ (decide (f c).Nodup && (f c).all fun y => !(pre.flatMap f).contains y) = true := by
      rw [List.flatMap_append, List.nodup_append, Bool.and_eq_true, decide_eq_true_eq, List.all_eq_true]
      simp only [List.flatMap_cons, List.flatMap_nil, List.append_nil, Bool.not_eq_true', List.contains_eq_mem, decide_eq_false_iff_not]
      constructor
      · rintro ⟨-, h2, h3⟩
        exact ⟨h2, fun x hx hx' => h3 x hx' x hx rfl⟩
      · rintro ⟨h2, h3⟩
        exact ⟨h, h2, fun x hx y hy e => by subst e; exact h3 x hy hx⟩
    by_cases hg : ((pre ++ [c]).flatMap f).Nodup
    · rw [nodup_pre f r (pre ++ [c]) hg]
      exact ⟨fun h => ⟨hc.1 hg, h⟩, fun h => h.2⟩
    · constructor
      · intro h2
        rw [List.flatMap_append] at h2
        exact absurd (List.nodup_append.1 h2).1 hg
      · rintro ⟨h1, -⟩
        exact absurd (hc.2 h1) hg

theorem params_known (l : List Str) : allPre okParam [] l = (l.all nameS && decide l.Nodup) := by
 rw [Bool.eq_iff_iff, Bool.and_eq_true, decide_eq_true_eq, List.all_eq_true]
 have h1 := nodup_pre (fun x : Str => [x]) l [] (by simp)
 simp only [List.nil_append, List.flatMap_singleton'] at h1
 rw [h1, allPre_iff, allPre_iff]
 constructor
 ·intro h
  refine ⟨fun x hx => ?_, fun i x hx => ?_⟩
  ·obtain ⟨i, hi⟩ := List.getElem?_of_mem hx
   have := h i x hi
   unfold okParam at this
   simp only [Bool.and_eq_true] at this; exact this.1
  ·have := h i x hx
   unfold okParam at this
   simp only [Bool.and_eq_true] at this
   simp; simpa using this.2
 ·rintro ⟨h2, h3⟩ i x hx
  have := h3 i x hx
  unfold okParam
  rw [Bool.and_eq_true]
  refine ⟨h2 x (List.mem_of_getElem? hx), ?_⟩
  simp at this ⊢; exact this

theorem nameS_nil : nameS [] = false := by decide
theorem method_known (names slots : List Str) (m : FMethod) (cnt : Nat) (k : Int) (hk : k = 120 - (cnt : Int)) (h0 : 0 ≤ k) :
  (methodR slots names k m).1 = methodOk names slots cnt m ∧ ((methodR slots names k m).1 = true → (methodR slots names k m).2 = k - m.fact.size - m.body.size) := by
 unfold methodR methodOk
 have hh : headR m = (mB1 m && allPre okParam [] m.params) := by rw [params_known]; rfl
 rw [hh]
 cases h1 : mB1 m with
 | false => exact ⟨rfl, fun h => by cases h⟩
 | true =>
 cases h2 : allPre okParam [] m.params with
 | false => exact ⟨rfl, fun h => by cases h⟩
 | true =>
 have hp : m.params.contains [] = false := by
  rw [params_known, Bool.and_eq_true, List.all_eq_true] at h2
  rw [Bool.eq_false_iff]
  intro hc
  have := h2.1 [] (List.contains_iff_mem.1 hc)
  rw [nameS_nil] at this; cases this
 have hf := fact_known (ss := slots) (own := names) hp m.fact cnt k hk h0
 have hf2 := (cntF_nodes m.params slots (names ++ others3) m.fact 1 k h0).2
 rw [← hf]
 cases h3 : (FFact.cnt m.params slots (names ++ others3) 1 k m.fact).1 with
 | false => exact ⟨rfl, fun h => by simp at h⟩
 | true =>
 have hk2 := hf2 h3
 have he := exp_known names slots (cnt + m.fact.size) m.body m.params (m.kind == 1 || m.kind == 4) (k - m.fact.size) (by omega)
 simp only [Bool.true_and, Bool.and_self, Bool.not_true, Bool.false_eq_true, if_false, hk2]
 rw [← he]
 cases h4 : goodB m.body with
 | false => exact ⟨rfl, fun h => by simp at h⟩
 | true => exact ⟨rfl, fun _ => rfl⟩

theorem methods_known (names slots : List Str) : ∀ (l : List FMethod) (cnt : Nat) (k : Int), k = 120 - (cnt : Int) → 0 ≤ k → methodsR slots names k l = methodsOk names slots cnt l
  | [], _, _, _, _ => rfl
  | m :: r, cnt, k, hk, h0 => by
    rw [methodsR, methodsOk]
    obtain ⟨g1, g2⟩ := method_known names slots m cnt k hk h0
    rw [← g1]
    cases h : (methodR slots names k m).1 with
    | false => rfl
    | true =>
      have hl := (methodR_le h).1
      rw [g2 h] at hl ⊢
      rw [Bool.true_and, Bool.true_and]
      exact methods_known names slots r _ _ (by omega) (by omega)
end Go.Proofs.YtaafacnoddjhgaaGreat

/- The plain law of FormChecks, part 2: classes, and what stands above a class. -/
namespace Go.Proofs.YtaafacnoddjhgaaGreat
open Go.AE

def stateOf (l : List FClass) : CSt := l.foldl CSt.next .zero
theorem stateOf_snoc (l : List FClass) (c : FClass) : stateOf (l ++ [c]) = (stateOf l).next c := by unfold stateOf; rw [List.foldl_append]; rfl
theorem state_list (f : List FClass → Prop) (h0 : f []) (h1 : ∀ l c, f l → f (l ++ [c])) : ∀ n (l : List FClass), l.length = n → f l
  | 0, l, h => by rw [List.length_eq_zero_iff.1 h]; exact h0
  | n + 1, l, h => by
    have hne : l ≠ [] := by rintro rfl; cases h
    rw [← List.dropLast_concat_getLast hne]
    exact h1 _ _ (state_list f h0 h1 n _ (by simp; omega))
theorem stateOf_names (l : List FClass) : (stateOf l).names = l.map FClass.name :=
 state_list (fun l => (stateOf l).names = l.map FClass.name) rfl (fun l c h => by rw [stateOf_snoc, CSt.next, h]; simp) _ l rfl
theorem stateOf_slots (l : List FClass) : (stateOf l).slots = l.flatMap FClass.slots :=
 state_list (fun l => (stateOf l).slots = l.flatMap FClass.slots) rfl (fun l c h => by rw [stateOf_snoc, CSt.next, h]; simp) _ l rfl

theorem clsRest_pre : ∀ (r pre : List FClass), clsRest (stateOf pre) r = if allPre (fun pre c => classOk (stateOf pre) c) pre r then some (stateOf (pre ++ r)) else none
  | [], pre => by simp [clsRest, allPre]
  | c :: r, pre => by
    rw [clsRest, allPre]
    cases h : classOk (stateOf pre) c with
    | false => simp
    | true =>
      rw [← stateOf_snoc, clsRest_pre r (pre ++ [c])]
      simp
theorem clsAll_pre (l : List FClass) : clsAll l = if decide (l.length ≤ 10) && allPre (fun pre c => classOk (stateOf pre) c) [] l then some (stateOf l) else none := by
 unfold clsAll
 by_cases h : l.length ≤ 10
 ·rw [if_pos h, decide_eq_true h, Bool.true_and]
  exact clsRest_pre l []
 ·rw [if_neg h, decide_eq_false h]; rfl

theorem allPreN_pre : ∀ (r pre : List FClass), allPreN (pre.map FClass.name) r = allPre (fun pre c => clsOkR (pre.map FClass.name) c) pre r
  | [], _ => rfl
  | c :: r, pre => by
    rw [allPreN, allPre, ← allPreN_pre r (pre ++ [c])]
    simp

/-! ### What stands above -/
def parsAt (cls : List FClass) (j : Nat) : List Str := (cls[j]?.map FClass.parents).getD []
inductive Up (cls : List FClass) (i : Nat) : Nat → Prop
 | self : Up cls i i
 | step {m : Nat} {p : Str} : Up cls i m → p ∈ parsAt cls m → Up cls i (at_ cls p)
def Ahead (cls : List FClass) : Prop := ∀ j p, p ∈ parsAt cls j → at_ cls p < j

theorem Up.le {cls : List FClass} {i j : Nat} (ha : Ahead cls) (h : Up cls i j) : j ≤ i := by
 induction h with
 | self => exact Nat.le_refl _
 | step _ hp ih => have := ha _ _ hp; omega
theorem Up.trans {cls : List FClass} {i j k : Nat} (h1 : Up cls i j) (h2 : Up cls j k) : Up cls i k := by
 induction h2 with
 | self => exact h1
 | step _ hp ih => exact ih.step hp
theorem Up.tail {cls : List FClass} {i j : Nat} (h : Up cls i j) : j = i ∨ ∃ m, Up cls i m ∧ ∃ p ∈ parsAt cls m, j = at_ cls p := by
 cases h with
 | self => exact .inl rfl
 | step h hp => exact .inr ⟨_, h, _, hp, rfl⟩
theorem Up.head {cls : List FClass} {i j : Nat} (h : Up cls i j) : j = i ∨ ∃ p ∈ parsAt cls i, Up cls (at_ cls p) j := by
 induction h with
 | self => exact .inl rfl
 | step h hp ih =>
  rcases ih with rfl | ⟨q, hq, hu⟩
  ·exact .inr ⟨_, hp, .self⟩
  ·exact .inr ⟨q, hq, hu.step hp⟩
theorem up_iff {cls : List FClass} {i j : Nat} : Up cls i j ↔ j = i ∨ ∃ p ∈ parsAt cls i, Up cls (at_ cls p) j := by
 refine ⟨Up.head, ?_⟩
 rintro (rfl | ⟨p, hp, hu⟩)
 ·exact .self
 ·exact (Up.self.step hp).trans hu

theorem getD_set (out : List Bool) (k j : Nat) (hk : k < out.length) : (out.set k true).getD j false = true ↔ j = k ∨ out.getD j false = true := by
 rw [List.getD_eq_getElem?_getD, List.getD_eq_getElem?_getD, List.getElem?_set]
 by_cases h : k = j
 ·subst h; simp [hk]
 ·rw [if_neg h]
  constructor
  ·exact .inr
  ·rintro (h' | h')
   ·exact absurd h'.symm h
   ·exact h'
theorem upStep_getD (cls : List FClass) (j : Nat) : ∀ (ps : List Str) (out : List Bool), (∀ p ∈ ps, at_ cls p < out.length) → ((upStep cls ps out).getD j false = true ↔ (∃ p ∈ ps, j = at_ cls p) ∨ out.getD j false = true)
  | [], out, _ => by simp [upStep]
  | p :: ps, out, h => by
    show ((upStep cls ps (out.set (at_ cls p) true)).getD j false = true ↔ _)
    rw [upStep_getD cls j ps _ (fun q hq => by rw [List.length_set]; exact h q (List.mem_cons_of_mem _ hq)), getD_set _ _ _ (h p (List.mem_cons_self ..))]
    constructor
    · rintro (⟨q, hq, e⟩ | e | e)
      · exact .inl ⟨q, List.mem_cons_of_mem _ hq, e⟩
      · exact .inl ⟨p, List.mem_cons_self .., e⟩
      · exact .inr e
    · rintro (⟨q, hq, e⟩ | e)
      · rcases List.mem_cons.1 hq with rfl | hq
        · exact .inr (.inl e)
        · exact .inl ⟨q, hq, e⟩
      · exact .inr (.inr e)

theorem upGo_up {cls : List FClass} {n : Nat} (ha : Ahead cls) (hn : n < cls.length) : ∀ (k : Nat) (out : List Bool), k ≤ n + 1 → out.length = cls.length →
    (∀ j, out.getD j false = true ↔ ∃ m, k ≤ m ∧ Up cls n m ∧ ∃ p ∈ parsAt cls m, j = at_ cls p) →
    ∀ j, ((upGo cls n k out).getD j false = true ↔ ∃ m, Up cls n m ∧ ∃ p ∈ parsAt cls m, j = at_ cls p)
  | 0, out, _, _, h, j => by
    rw [upGo, h j]
    exact ⟨fun ⟨m, _, h⟩ => ⟨m, h⟩, fun ⟨m, h⟩ => ⟨m, Nat.zero_le _, h⟩⟩
  | k + 1, out, hk, hl, h, j => by
    have hup : (k == n || out.getD k false) = true ↔ Up cls n k := by
      rw [Bool.or_eq_true, h k, beq_iff_eq]
      constructor
      · rintro (rfl | ⟨m, _, hu, p, hp, rfl⟩)
        · exact .self
        · exact hu.step hp
      · intro hu
        rcases hu.tail with rfl | ⟨m, hu', p, hp, e⟩
        · exact .inl rfl
        · exact .inr ⟨m, by have := ha _ _ hp; omega, hu', p, hp, e⟩
    rw [upGo]
    have hin : ∀ p ∈ parsAt cls k, at_ cls p < out.length := fun p hp => by have := ha _ _ hp; omega
    refine upGo_up ha hn k _ (by omega) ?_ ?_ j
    · split
      · rw [upStep_len]; exact hl
      · exact hl
    · intro j
      have hg : (∃ m, k ≤ m ∧ Up cls n m ∧ ∃ p ∈ parsAt cls m, j = at_ cls p) ↔ (Up cls n k ∧ ∃ p ∈ parsAt cls k, j = at_ cls p) ∨ out.getD j false = true := by
        rw [h j]
        constructor
        · rintro ⟨m, hm, hu, hp⟩
          by_cases e : m = k
          · subst e; exact .inl ⟨hu, hp⟩
          · exact .inr ⟨m, by omega, hu, hp⟩
        · rintro (⟨hu, hp⟩ | ⟨m, hm, hu, hp⟩)
          · exact ⟨k, Nat.le_refl _, hu, hp⟩
          · exact ⟨m, by omega, hu, hp⟩
      rw [hg]
      by_cases hu : Up cls n k
      · rw [if_pos (hup.2 hu)]
        show ((upStep cls (parsAt cls k) out).getD j false = true ↔ _)
        rw [upStep_getD cls j _ _ hin]
        simp [hu]
      · rw [if_neg (fun h' => hu (hup.1 h'))]
        simp [hu]

theorem aboveB_up {cls : List FClass} {n : Nat} (ha : Ahead cls) (hn : n < cls.length) (j : Nat) : (aboveB cls n).getD j false = true ↔ ∃ m, Up cls n m ∧ ∃ p ∈ parsAt cls m, j = at_ cls p := by
 unfold aboveB
 refine upGo_up ha hn (n + 1) _ (Nat.le_refl _) (by simp) (fun j => ?_) j
 constructor
 ·intro h
  rw [List.getD_eq_getElem?_getD, List.getElem?_replicate] at h
  split at h <;> simp at h
 ·rintro ⟨m, hm, hu, -⟩
  have := hu.le ha
  omega
theorem above_self {cls : List FClass} {n : Nat} (ha : Ahead cls) (hn : n < cls.length) (j : Nat) : ((aboveB cls n).set n true).getD j false = true ↔ Up cls n j := by
 rw [getD_set _ _ _ (by rw [aboveB_len]; exact hn), aboveB_up ha hn]
 constructor
 ·rintro (rfl | ⟨m, hu, p, hp, rfl⟩)
  ·exact .self
  ·exact hu.step hp
 ·intro h; exact h.tail

theorem mem_mineUpto {cls : List FClass} {up : List Bool} {k : Nat} {x : Str} : x ∈ mineUpto cls up k ↔ ∃ j, j < k ∧ up.getD j false = true ∧ x ∈ slotsAt cls j := by
 unfold mineUpto
 rw [List.mem_flatMap]
 constructor
 ·rintro ⟨j, hj, hx⟩
  split at hx
  ·exact ⟨j, List.mem_range.1 hj, by assumption, hx⟩
  ·cases hx
 ·rintro ⟨j, hj, hu, hx⟩
  exact ⟨j, List.mem_range.2 hj, by rw [if_pos hu]; exact hx⟩

/-! ### The slots of a class, as the layer counts them -/
def mineOf (cls : List FClass) (i : Nat) : List Str := match cls[i]? with
 | some c => (stateOf (cls.take i)).mine c
 | none => []

theorem stateOf_has (cls : List FClass) : ∀ i, i ≤ cls.length → (stateOf (cls.take i)).has = (List.range i).map (mineOf cls)
  | 0, _ => rfl
  | i + 1, h => by
    obtain ⟨c, hc⟩ : ∃ c, cls[i]? = some c := ⟨_, List.getElem?_eq_getElem (by omega)⟩
    have ht : cls.take (i + 1) = cls.take i ++ [c] := by rw [take_snoc hc]
    rw [ht, stateOf_snoc, CSt.next, stateOf_has cls i (by omega), List.range_succ, List.map_append]
    simp [mineOf, hc]

theorem findIdx_take {α : Type} {f : α → Bool} {l : List α} {i j : Nat} (h : l.findIdx? f = some j) (hj : j < i) : (l.take i).findIdx? f = some j := by
 rw [List.findIdx?_eq_some_iff_getElem] at h ⊢
 obtain ⟨h1, h2, h3⟩ := h
 refine ⟨by rw [List.length_take]; omega, by rw [List.getElem_take]; exact h2, fun k hk => by rw [List.getElem_take]; exact h3 k hk⟩

def Tidy (cls : List FClass) : Prop := ∀ j c, cls[j]? = some c → ∀ p ∈ c.parents, p ∈ (cls.take j).map FClass.name

theorem Tidy.find {cls : List FClass} (h : Tidy cls) {j : Nat} {p : Str} (hp : p ∈ parsAt cls j) : (cls.findIdx? fun c => c.name == p) = some (at_ cls p) ∧ at_ cls p < j ∧ j < cls.length := by
 unfold parsAt at hp
 cases hc : cls[j]? with
 | none => rw [hc] at hp; cases hp
 | some c =>
  rw [hc] at hp
  have hm := h j c hc p hp
  obtain ⟨d, hd, rfl⟩ := List.mem_map.1 hm
  obtain ⟨k, hk⟩ := List.getElem?_of_mem hd
  have hkj : k < j := by
   have := (List.getElem?_eq_some_iff.1 hk).1
   rw [List.length_take] at this; omega
  have hk' : cls[k]? = some d := by rw [List.getElem?_take] at hk; rw [if_pos hkj] at hk; exact hk
  have hjl := (List.getElem?_eq_some_iff.1 hc).1
  have hs : (cls.findIdx? fun c => c.name == d.name).isSome = true := by
   rw [List.findIdx?_isSome, List.any_eq_true]
   exact ⟨d, List.mem_of_getElem? hk', by simp⟩
  obtain ⟨q, hq⟩ := Option.isSome_iff_exists.1 hs
  have : at_ cls d.name = q := by unfold at_; rw [hq]; rfl
  refine ⟨by rw [this]; exact hq, ?_, hjl⟩
  rw [this]
  rw [List.findIdx?_eq_some_iff_getElem] at hq
  obtain ⟨q1, q2, q3⟩ := hq
  refine Nat.lt_of_not_le fun hle => ?_
  have := q3 k (by omega)
  obtain ⟨e1, e2⟩ := List.getElem?_eq_some_iff.1 hk'
  rw [e2] at this
  simp at this
theorem Tidy.ahead {cls : List FClass} (h : Tidy cls) : Ahead cls := fun _ _ hp => (h.find hp).2.1

theorem slotsOf_at {cls : List FClass} (h : Tidy cls) {i : Nat} {p : Str} (hp : p ∈ parsAt cls i) : (stateOf (cls.take i)).slotsOf p = mineOf cls (at_ cls p) := by
 obtain ⟨h1, h2, h3⟩ := h.find hp
 have hf : ((cls.take i).map FClass.name).findIdx? (· == p) = some (at_ cls p) := by
  rw [List.findIdx?_map]
  exact findIdx_take h1 h2
 unfold CSt.slotsOf
 rw [stateOf_names, hf]
 simp only
 rw [stateOf_has cls i (by omega), List.getD_eq_getElem?_getD, List.getElem?_map, List.getElem?_range (by omega)]
 rfl

theorem mem_mineOf {cls : List FClass} (h : Tidy cls) (x : Str) : ∀ (n i : Nat), i < n → (x ∈ mineOf cls i ↔ ∃ j, Up cls i j ∧ x ∈ slotsAt cls j)
  | 0, _, hn => by omega
  | n + 1, i, hn => by
    have key : x ∈ mineOf cls i ↔ x ∈ slotsAt cls i ∨ ∃ p ∈ parsAt cls i, x ∈ mineOf cls (at_ cls p) := by
      cases hc : cls[i]? with
      | none => simp [mineOf, slotsAt, parsAt, hc]
      | some c =>
        have hp : parsAt cls i = c.parents := by simp [parsAt, hc]
        have hs : slotsAt cls i = c.slots := by simp [slotsAt, hc]
        have hm : mineOf cls i = c.parents.flatMap (stateOf (cls.take i)).slotsOf ++ c.slots := by simp [mineOf, hc, CSt.mine]
        rw [hm, hs, List.mem_append, List.mem_flatMap, or_comm]
        refine or_congr Iff.rfl ?_
        constructor
        · rintro ⟨p, hq, hx⟩
          rw [slotsOf_at h (by rw [hp]; exact hq)] at hx
          exact ⟨p, by rw [hp]; exact hq, hx⟩
        · rintro ⟨p, hq, hx⟩
          rw [← slotsOf_at h hq] at hx
          exact ⟨p, by rw [← hp]; exact hq, hx⟩
    rw [key]
    constructor
    · rintro (hx | ⟨p, hp, hx⟩)
      · exact ⟨i, .self, hx⟩
      · obtain ⟨j, hu, hx⟩ := (mem_mineOf h x n _ (by have := h.ahead _ _ hp; omega)).1 hx
        exact ⟨j, up_iff.2 (.inr ⟨p, hp, hu⟩), hx⟩
    · rintro ⟨j, hu, hx⟩
      rcases up_iff.1 hu with rfl | ⟨p, hp, hu⟩
      · exact .inl hx
      · exact .inr ⟨p, hp, (mem_mineOf h x n _ (by have := h.ahead _ _ hp; omega)).2 ⟨j, hu, hx⟩⟩

theorem mine_same {cls : List FClass} (h : Tidy cls) {i : Nat} (hi : i < cls.length) (x : Str) : x ∈ mineOf cls i ↔ x ∈ mineUpto cls ((aboveB cls i).set i true) cls.length := by
 rw [mem_mineOf h x (i + 1) i (Nat.lt_succ_self _), mem_mineUpto]
 constructor
 ·rintro ⟨j, hu, hx⟩
  have := hu.le h.ahead
  exact ⟨j, by omega, (above_self h.ahead hi j).2 hu, hx⟩
 ·rintro ⟨j, -, hu, hx⟩
  exact ⟨j, (above_self h.ahead hi j).1 hu, hx⟩
end Go.Proofs.YtaafacnoddjhgaaGreat

/- The plain law of FormChecks, part 3: both looks at a program agree. -/
namespace Go.Proofs.YtaafacnoddjhgaaGreat
open Go.AE

theorem initsOkR_iff (mine : List Str) : ∀ (l : List FInit) (set : List Str), initsOkR mine set l = true ↔ ∀ i x, l[i]? = some x → mine.contains x.slot = true ∧ between x.n = true ∧ x.slot ∉ set ++ (l.take i).map FInit.slot
  | [], set => by simp [initsOkR]
  | y :: r, set => by
    rw [initsOkR, Bool.and_eq_true, initsOkR_iff mine r]
    constructor
    · rintro ⟨h1, h2⟩ i x hx
      cases i with
      | zero => simp at hx; subst hx; simp at h1 ⊢; exact ⟨h1.1.1, h1.2, h1.1.2⟩
      | succ i => have := h2 i x (by simpa using hx); simpa [or_assoc] using this
    · intro h
      refine ⟨?_, fun i x hx => ?_⟩
      · have := h 0 y rfl; simp at this ⊢; exact ⟨⟨this.1, this.2.2⟩, this.2.1⟩
      · have := h (i + 1) x (by simpa using hx)
        simpa [or_assoc] using this

theorem inits_same {mine mine' : List Str} (hm : ∀ x, x ∈ mine ↔ x ∈ mine') (hn : ∀ x ∈ mine, nameS x = true) (l : List FInit) : allPre (okInit mine) [] l = initsOkR mine' [] l := by
 rw [Bool.eq_iff_iff, allPre_iff, initsOkR_iff]
 refine forall_congr' fun i => forall_congr' fun x => imp_congr Iff.rfl ?_
 unfold okInit
 simp only [Bool.and_eq_true, List.nil_append, Bool.not_eq_true', List.contains_eq_mem, decide_eq_true_eq, decide_eq_false_iff_not]
 rw [hm]
 constructor
 ·rintro ⟨⟨h1, h2⟩, h3, h4⟩; exact ⟨h1, h2, h4⟩
 ·rintro ⟨h1, h2, h4⟩; exact ⟨⟨h1, h2⟩, hn _ ((hm _).2 h1), h4⟩

theorem parents_iff (names : List Str) (l : List Str) : allPre (okParent names) [] l = true ↔ (∀ x ∈ l, names.contains x = true ∧ nameS x = true) ∧ l.Nodup := by
 have h1 := nodup_pre (fun x : Str => [x]) l [] (by simp)
 simp only [List.nil_append, List.flatMap_singleton'] at h1
 rw [h1, allPre_iff, allPre_iff]
 constructor
 ·intro h
  refine ⟨fun x hx => ?_, fun i x hx => ?_⟩
  ·obtain ⟨i, hi⟩ := List.getElem?_of_mem hx
   have := h i x hi
   unfold okParent at this
   simp only [Bool.and_eq_true] at this; exact ⟨this.1, this.2.1⟩
  ·have := h i x hx
   unfold okParent at this
   simp only [Bool.and_eq_true] at this
   simp; simpa using this.2.2
 ·rintro ⟨h2, h3⟩ i x hx
  have := h3 i x hx
  obtain ⟨g1, g2⟩ := h2 x (List.mem_of_getElem? hx)
  unfold okParent
  rw [Bool.and_eq_true, Bool.and_eq_true]
  refine ⟨g1, g2, ?_⟩
  simp at this ⊢; exact this

theorem slots_iff (slots : List Str) (l : List Str) : allPre (okSlot slots) [] l = true ↔ (∀ x ∈ l, nameS x = true ∧ x ∉ slots) ∧ l.Nodup := by
 have h1 := nodup_pre (fun x : Str => [x]) l [] (by simp)
 simp only [List.nil_append, List.flatMap_singleton'] at h1
 rw [h1, allPre_iff, allPre_iff]
 constructor
 ·intro h
  refine ⟨fun x hx => ?_, fun i x hx => ?_⟩
  ·obtain ⟨i, hi⟩ := List.getElem?_of_mem hx
   have := h i x hi
   unfold okSlot at this
   simp at this
   exact ⟨this.1, this.2.1⟩
  ·have := h i x hx
   unfold okSlot at this
   simp at this
   simp; exact this.2.2
 ·rintro ⟨h2, h3⟩ i x hx
  have := h3 i x hx
  obtain ⟨g1, g2⟩ := h2 x (List.mem_of_getElem? hx)
  unfold okSlot
  simp at this ⊢; exact ⟨g1, g2, this⟩

theorem classOk_iff (st : CSt) (c : FClass) : classOk st c = true ↔
  (c.parents.length ≤ 3 ∧ c.slots.length ≤ 4) ∧ ((∀ x ∈ c.parents, st.names.contains x = true ∧ nameS x = true) ∧ c.parents.Nodup) ∧ ((∀ x ∈ c.slots, nameS x = true ∧ x ∉ st.slots) ∧ c.slots.Nodup) ∧ allPre (okInit (st.mine c)) [] c.inits = true ∧ nameS c.name = true ∧ c.name ∉ st.names := by
 unfold classOk
 simp only [Bool.and_eq_true, decide_eq_true_eq, parents_iff, slots_iff, Bool.not_eq_true', List.contains_eq_mem, decide_eq_false_iff_not]

theorem clsOkR_iff (pre : List Str) (c : FClass) : clsOkR pre c = true ↔ ((c.parents.length ≤ 3 ∧ c.slots.length ≤ 4) ∧ c.parents.Nodup) ∧ ∀ p ∈ c.parents, p ∈ pre := by
 unfold clsOkR
 simp only [Bool.and_eq_true, decide_eq_true_eq, List.all_eq_true, List.contains_iff_mem]

def Plain (cls : List FClass) : Prop := ∀ i c, cls[i]? = some c → ((c.parents.length ≤ 3 ∧ c.slots.length ≤ 4) ∧ c.parents.Nodup ∧ ∀ p ∈ c.parents, p ∈ (cls.take i).map FClass.name) ∧
 (nameS c.name = true ∧ c.name ∉ (cls.take i).map FClass.name) ∧ (∀ x ∈ c.slots, nameS x = true ∧ x ∉ (cls.take i).flatMap FClass.slots) ∧ c.slots.Nodup

theorem Plain.tidy {cls : List FClass} (h : Plain cls) : Tidy cls := fun j c hc => (h j c hc).1.2.2

theorem classesR_iff (cls : List FClass) : classesR cls = true ↔ cls.length ≤ 10 ∧ Plain cls := by
 have e1 := allPreN_pre cls []
 have e2 := nodup_pre (fun c : FClass => [c.name]) cls [] (by simp)
 have e3 := nodup_pre FClass.slots cls [] (by simp)
 have e4 : ∀ l : List FClass, (l.flatMap fun c => [c.name]) = l.map FClass.name := fun l => by induction l with | nil => rfl | cons c r ih => rw [List.flatMap_cons, ih]; rfl
 simp only [List.nil_append, e4] at e1 e2 e3
 unfold classesR
 rw [show allPreN [] cls = _ from e1]
 simp only [Bool.and_eq_true, decide_eq_true_eq, e2, e3, allPre_iff, List.all_eq_true, clsOkR_iff, List.nil_append]
 refine and_congr Iff.rfl ?_
 constructor
 ·rintro ⟨h1, ⟨h2, h3⟩, h4, h5⟩ i c hc
  have a1 := h1 i c hc
  have a3 := h3 i c hc
  have a5 := h5 i c hc
  have hm := List.mem_of_getElem? hc
  refine ⟨⟨a1.1.1, a1.1.2, a1.2⟩, ⟨h2 _ (List.mem_map_of_mem hm), ?_⟩, fun x hx => ⟨h4 x (List.mem_flatMap.2 ⟨c, hm, hx⟩), ?_⟩, a5.1⟩
  ·have := a3.2 c.name (List.mem_singleton.2 rfl)
   simpa using this
  ·have := a5.2 x hx
   simpa using this
 ·intro h
  refine ⟨fun i c hc => ⟨⟨(h i c hc).1.1, (h i c hc).1.2.1⟩, (h i c hc).1.2.2⟩, ⟨fun x hx => ?_, fun i c hc => ⟨by simp, fun x hx => ?_⟩⟩, fun x hx => ?_, fun i c hc => ⟨(h i c hc).2.2.2, fun x hx => ?_⟩⟩
  ·obtain ⟨c, hc, rfl⟩ := List.mem_map.1 hx
   obtain ⟨i, hi⟩ := List.getElem?_of_mem hc
   exact (h i c hi).2.1.1
  ·rw [List.mem_singleton.1 hx]
   have := (h i c hc).2.1.2
   simpa using this
  ·obtain ⟨c, hc, hx⟩ := List.mem_flatMap.1 hx
   obtain ⟨i, hi⟩ := List.getElem?_of_mem hc
   exact ((h i c hi).2.2.1 x hx).1
  ·have := ((h i c hc).2.2.1 x hx).2
   simpa using this

theorem initsR_iff (cls : List FClass) : initsR cls = true ↔ ∀ i c, cls[i]? = some c → initsOkR (mineUpto cls ((aboveB cls i).set i true) cls.length) [] c.inits = true := by
 unfold initsR
 rw [List.all_eq_true]
 constructor
 ·intro h i c hc
  have := h i (List.mem_range.2 (List.getElem?_eq_some_iff.1 hc).1)
  unfold initsI initsAt at this
  rw [hc] at this
  exact this
 ·intro h i hi
  obtain ⟨c, hc⟩ : ∃ c, cls[i]? = some c := ⟨_, List.getElem?_eq_getElem (List.mem_range.1 hi)⟩
  unfold initsI initsAt
  rw [hc]
  exact h i c hc

theorem Plain.mine_name {cls : List FClass} (h : Plain cls) {i : Nat} {x : Str} (hx : x ∈ mineOf cls i) : nameS x = true := by
 obtain ⟨j, -, hx⟩ := (mem_mineOf h.tidy x (i + 1) i (Nat.lt_succ_self _)).1 hx
 unfold slotsAt at hx
 cases hc : cls[j]? with
 | none => rw [hc] at hx; cases hx
 | some c => rw [hc] at hx; exact ((h j c hc).2.2.1 x hx).1

theorem classOk_plain {cls : List FClass} : (∀ i c, cls[i]? = some c → classOk (stateOf (cls.take i)) c = true) ↔ Plain cls ∧ initsR cls = true := by
 have hini : Plain cls → ∀ i c, cls[i]? = some c → allPre (okInit ((stateOf (cls.take i)).mine c)) [] c.inits = initsOkR (mineUpto cls ((aboveB cls i).set i true) cls.length) [] c.inits := by
  intro hp i c hc
  have hm : (stateOf (cls.take i)).mine c = mineOf cls i := by simp [mineOf, hc]
  rw [hm]
  exact inits_same (mine_same hp.tidy (List.getElem?_eq_some_iff.1 hc).1) (fun x hx => hp.mine_name hx) _
 rw [initsR_iff]
 constructor
 ·intro h
  have hp : Plain cls := by
   intro i c hc
   have := (classOk_iff _ _).1 (h i c hc)
   rw [stateOf_names, stateOf_slots] at this
   obtain ⟨h1, ⟨h2, h3⟩, ⟨h4, h5⟩, -, h7, h8⟩ := this
   exact ⟨⟨h1, h3, fun p hp => List.contains_iff_mem.1 (h2 p hp).1⟩, ⟨h7, h8⟩, h4, h5⟩
  refine ⟨hp, fun i c hc => ?_⟩
  rw [← hini hp i c hc]
  exact ((classOk_iff _ _).1 (h i c hc)).2.2.2.1
 ·rintro ⟨hp, hi⟩ i c hc
  obtain ⟨⟨h1, h3, h2⟩, ⟨h7, h8⟩, h4, h5⟩ := hp i c hc
  rw [classOk_iff, stateOf_names, stateOf_slots, hini hp i c hc]
  refine ⟨h1, ⟨fun p hq => ⟨List.contains_iff_mem.2 (h2 p hq), ?_⟩, h3⟩, ⟨h4, h5⟩, hi i c hc, h7, h8⟩
  obtain ⟨d, hd, rfl⟩ := List.mem_map.1 (h2 p hq)
  obtain ⟨k, hk⟩ := List.getElem?_of_mem (List.mem_of_mem_take hd)
  exact (hp k d hk).2.1.1

theorem classes_known (cls : List FClass) : clsAll cls = if classesR cls && initsR cls then some (stateOf cls) else none := by
 rw [clsAll_pre]
 congr 1
 rw [eq_iff_iff, Bool.and_eq_true, Bool.and_eq_true, decide_eq_true_eq, classesR_iff, allPre_iff]
 simp only [List.nil_append]
 rw [classOk_plain, and_assoc]

theorem prog_known (P : FProg) : progR P = progOk P := by
 unfold progR progOk
 rw [classes_known]
 cases h1 : classesR P.classes with
 | false => simp
 | true =>
 cases h2 : initsR P.classes with
 | false => simp
 | true =>
 simp only [Bool.true_and, Bool.and_self, if_true]
 rw [stateOf_names, stateOf_slots]
 congr 1
 have hl : P.classes.length ≤ 10 := ((classesR_iff _).1 h1).1
 rw [← exp_known (P.classes.map FClass.name) (P.classes.flatMap FClass.slots) P.classes.length P.main [] false (120 - (P.classes.length : Int)) rfl]
 have e : (120 - (P.classes.length : Int)) - P.main.size = left0 P := rfl
 rw [e]
 show (_ && (_ && (saysB P.main [] (P.classes.flatMap FClass.slots) (P.classes.map FClass.name) false && (methodsR (P.classes.flatMap FClass.slots) (P.classes.map FClass.name) (left0 P) P.methods && _)))) = _
 cases h3 : decide (left0 P ≥ 0) with
 | false => simp
 | true =>
 have h3' : 0 ≤ left0 P := by simpa using h3
 rw [methods_known (P.classes.map FClass.name) (P.classes.flatMap FClass.slots) P.methods (P.classes.length + P.main.size) (left0 P) (by unfold left0; omega) h3']
 simp only [Bool.true_and, Bool.and_assoc]
end Go.Proofs.YtaafacnoddjhgaaGreat

/- Contracts of the reference: SameFact, SameClass, SameMethod, Same; and of 'shape': whether lists, expressions, facts are equal. -/
namespace Go.Proofs.YtaafacnoddjhgaaGreat
open Go.AE

mutual
def FFact.beq : FFact → FFact → Bool
 | .mk o x p c n ks, .mk o' x' p' c' n' ks' => (o == o' && x == x' && p == p' && c == c' && n == n') && FFact.beqs ks ks'
def FFact.beqs : List FFact → List FFact → Bool
 | [], [] => true
 | k :: r, k' :: r' => FFact.beq k k' && FFact.beqs r r'
 | _, _ => false
end
theorem FFact.beqs_length : ∀ {a b : List FFact}, FFact.beqs a b = true → a.length = b.length
  | [], [], _ => rfl
  | k :: r, k' :: r', h => by
    simp only [FFact.beqs, Bool.and_eq_true] at h
    simp [FFact.beqs_length h.2]
  | [], _ :: _, h => by simp [FFact.beqs] at h
  | _ :: _, [], h => by simp [FFact.beqs] at h
mutual
theorem FFact.beq_eq : ∀ {a b : FFact}, FFact.beq a b = true → a = b
  | .mk o x p c n ks, .mk o' x' p' c' n' ks', h => by
    simp only [FFact.beq, Bool.and_eq_true, beq_iff_eq] at h
    obtain ⟨⟨⟨⟨⟨rfl, rfl⟩, rfl⟩, rfl⟩, rfl⟩, h⟩ := h
    rw [FFact.beqs_eq h]
theorem FFact.beqs_eq : ∀ {a b : List FFact}, FFact.beqs a b = true → a = b
  | [], [], _ => rfl
  | k :: r, k' :: r', h => by
    simp only [FFact.beqs, Bool.and_eq_true] at h
    rw [FFact.beq_eq h.1, FFact.beqs_eq h.2]
  | [], _ :: _, h => by simp [FFact.beqs] at h
  | _ :: _, [], h => by simp [FFact.beqs] at h
end
mutual
theorem FFact.beq_refl : ∀ (a : FFact), FFact.beq a a = true
 | .mk o x p c n ks => by simp [FFact.beq, FFact.beqs_refl ks]
theorem FFact.beqs_refl : ∀ (a : List FFact), FFact.beqs a a = true
 | [] => rfl
 | k :: r => by simp [FFact.beqs, FFact.beq_refl k, FFact.beqs_refl r]
end
theorem FFact.beqs_drop {a b : List FFact} {j : Nat} {x y : FFact} (hx : a[j]? = some x) (hy : b[j]? = some y) : FFact.beqs (a.drop j) (b.drop j) = (FFact.beq x y && FFact.beqs (a.drop (j + 1)) (b.drop (j + 1))) := by
 rw [drop_cons hx, drop_cons hy, FFact.beqs]
theorem FFact.beq_def (a b : FFact) : FFact.beq a b = ((a.op == b.op && a.name == b.name && a.path == b.path && a.cls == b.cls && a.n == b.n) && FFact.beqs a.kids b.kids) := by cases a; cases b; rfl

theorem pls_mem : ∀ {l : List FFact} {k : FFact}, k ∈ l → k.pl ≤ FFact.pls l
  | x :: r, k, h => by
    rw [FFact.pls]
    rcases List.mem_cons.1 h with rfl | h
    · omega
    · have := pls_mem h; omega

set_option maxRecDepth 10000 in
set_option maxHeartbeats 2000000 in
theorem refSameFact_spec : ∀ (n : Nat) (a b : FFact) (s : Store), a.size ≤ n → a.size ≤ big → b.size ≤ big → a.pl ≤ big → ACalls Tryz.prog 64 [a.av, b.av] s (fun o s' => o = .ret (.bool (FFact.beq a b)) ∧ s' = s) := by
 intro n
 induction n with
 | zero => intro a b s h; have := a.size_pos; omega
 | succ n ih =>
  intro a b s hn hbig hbig2 hpl
  have hlen := a.kids_length
  have hkl := a.kav_length
  have hkl2 := b.kav_length
  have hb : big = 1099511627776 := rfl
  have hpd := a.pl_def
  have ht := fun s => sameTexts_spec a.path b.path .fro .fro s (by omega)
  refine ACalls.of_CW tO call64 Tryz.func64 rfl rfl ?_
  refine CW.seqCut [(2, .fptr a.cells 0), (3, .fptr b.cells 0)] s ?_ ?_
  ·repeat (first | refine wR rfl ?_)
   exact ⟨rfl, (wE rfl), sSub⟩
  refine CW.seq ?_
  refine CW.seqCut [(2, .fptr a.cells 0), (3, .fptr b.cells 0), (48, .bool (!((a.op == b.op && a.name == b.name && a.path == b.path && a.cls == b.cls && a.n == b.n) && decide (a.kids.length = b.kids.length))))] s ?_ ?_
  ·generalize (a.path == b.path) = pp at ht ⊢
   repeat' (first | refine CW.reg ?_ | refine RL.nil ?_ | refine wS rfl ?_ | refine RL.skip rfl rfl rfl ?_ | refine RL.gstepF tO rfl rfl rfl rfl rfl rfl rfl (fun _ => ?_) (fun _ => ?_) | refine RL.callP rfl rfl rfl rfl rfl (ht _) ?_)
   all_goals refine ⟨rfl, (by repeat (first | exact trivial | refine ⟨⟨_, rfl, aRfl⟩, ?_⟩ | refine ⟨⟨_, rfl, AVle.of_eq (by (simp_all; (try (rw [Bool.eq_iff_iff]; simp; omega)); (try omega)))⟩, ?_⟩)), sSub⟩
  refine CW.cond rfl (fun h => ?_) (fun h => ?_)
  ·repeat (first | (with_reducible first | apply CW.seq | apply aN | apply aR | apply CW.ret) | refine wR rfl ?_)
   refine ⟨_, _, _, rfl, aRfl, sSub, ?_, rfl⟩
   have : FFact.beq a b = false := by
    rw [FFact.beq_def]
    cases hq : FFact.beqs a.kids b.kids with
    | false => simp
    | true =>
     rw [FFact.beqs_length hq] at h
     simp only [decide_true, Bool.and_true] at h
     rw [Bool.and_true]; rw [Bool.not_eq_true'] at h; exact h
   rw [this]
  ·have hl : a.kids.length = b.kids.length := by simp at h; exact h.2
   have hh : (a.op == b.op && a.name == b.name && a.path == b.path && a.cls == b.cls && a.n == b.n) = true := by simp at h; simp [h]
   repeat (first | (with_reducible first | apply CW.seq | apply aN | apply CW.skip | apply CW.block) | refine wR rfl ?_)
   refine CW.loop (σ := Nat) (fun j => [(2, .fptr a.cells 0), (3, .fptr b.cells 0), (5, .int .i64 (j : Int))]) (fun _ => s) (fun j => j ≤ a.kids.length ∧ FFact.beq a b = FFact.beqs (a.kids.drop j) (b.kids.drop j)) (fun j => a.kids.length - j) 0 ⟨by omega, by rw [FFact.beq_def, hh]; rfl⟩ (wE rfl) sSub ?_
   rintro j ⟨hj, hI⟩
   repeat (first | (with_reducible first | apply CW.seq | apply aN) | refine wR rfl ?_)
   refine CW.cond rfl (fun h => ?_) (fun h => ?_)
   ·have hlt : j < a.kids.length := by rw [hkl] at h; simpa using h
    obtain ⟨x, hx, hx', hxs⟩ := FFact.kid_at hlt
    obtain ⟨y, hy, hy', hys⟩ := FFact.kid_at (f := b) (by omega : j < b.kids.length)
    have hxp := pls_mem (List.mem_of_getElem? hx)
    rw [FFact.beqs_drop hx hy] at hI
    repeat (first | (with_reducible first | apply CW.seq | apply aN | apply CW.skip | apply CW.block) | refine CW.drw tO mixed rfl (RD.run rfl ?_))
    refine RD.idx 3 j rfl rfl rfl rfl rfl rfl rfl rfl rfl rfl rfl rfl rfl hx' rfl ?_
    refine RD.idx 8 j rfl rfl rfl rfl rfl rfl rfl rfl rfl rfl rfl rfl rfl hy' rfl ?_
    refine RD.run rfl ?_
    refine RD.callP (i := 10) rfl rfl rfl rfl rfl rfl rfl (ih x y s (by omega) (by omega) (by omega) (by omega)) ?_
    refine RD.run rfl (RD.done rfl ?_)
    cases hxy : FFact.beq x y with
    | true =>
     repeat (first | (with_reducible first | apply aN | apply iN | apply CW.skip) | refine wR rfl ?_ | refine CW.condF rfl ?_)
     exact ⟨j + 1, ⟨hlt, by rw [hI, hxy, Bool.true_and]⟩, (by repeat (first | exact trivial | refine ⟨⟨_, rfl, aRfl⟩, ?_⟩ | refine ⟨⟨_, rfl, AVle.of_eq (by (rw [i64_succ (by omega)]))⟩, ?_⟩)), sSub, by omega⟩
    | false =>
     repeat (first | (with_reducible first | apply CW.seq | apply aN | apply aR | apply iR | apply CW.ret) | refine wR rfl ?_ | refine CW.condT rfl ?_)
     exact ⟨_, _, _, rfl, aRfl, sSub, by rw [hI, hxy]; rfl, rfl⟩
   ·have hge : a.kids.length ≤ j := by rw [hkl] at h; simpa using h
    rw [List.drop_eq_nil_of_le hge, List.drop_eq_nil_of_le (by omega : b.kids.length ≤ j)] at hI
    repeat (first | (with_reducible first | apply CW.seq | apply aN | apply aX | apply iH | apply CW.ret | apply CW.exit) | refine wR rfl ?_)
    exact ⟨_, _, _, rfl, aRfl, sSub, by rw [hI]; rfl, rfl⟩

/-! ### Lists that are equal -/
def listB {α : Type} (f : α → α → Bool) : List α → List α → Bool
 | [], [] => true
 | x :: r, y :: q => f x y && listB f r q
 | _, _ => false
theorem listB_length {α : Type} {f : α → α → Bool} : ∀ {a b : List α}, listB f a b = true → a.length = b.length
  | [], [], _ => rfl
  | x :: r, y :: q, h => by
    simp only [listB, Bool.and_eq_true] at h
    simp [listB_length h.2]
  | [], _ :: _, h => by simp [listB] at h
  | _ :: _, [], h => by simp [listB] at h
theorem listB_iff {α : Type} {f : α → α → Bool} (hf : ∀ x y, f x y = true ↔ x = y) : ∀ {a b : List α}, listB f a b = true ↔ a = b
 | [], [] => by simp [listB]
 | x :: r, y :: q => by simp [listB, hf, listB_iff hf]
 | [], _ :: _ => by simp [listB]
 | _ :: _, [] => by simp [listB]
theorem listB_drop {α : Type} {f : α → α → Bool} {a b : List α} {j : Nat} {x y : α} (hx : a[j]? = some x) (hy : b[j]? = some y) : listB f (a.drop j) (b.drop j) = (f x y && listB f (a.drop (j + 1)) (b.drop (j + 1))) := by
 rw [drop_cons hx, drop_cons hy, listB]
theorem listB_def {α : Type} {f : α → α → Bool} {a b : List α} (h : ¬ a.length = b.length) : listB f a b = false := by
 cases hq : listB f a b with
 | false => rfl
 | true => exact absurd (listB_length hq) h
theorem listB_ends {α : Type} {f : α → α → Bool} {a b : List α} {j : Nat} (ha : a.length ≤ j) (hb : b.length ≤ j) : listB f (a.drop j) (b.drop j) = true := by
 rw [List.drop_eq_nil_of_le ha, List.drop_eq_nil_of_le hb]; rfl

def FInit.beq (a b : FInit) : Bool := a.slot == b.slot && a.n == b.n
def FClass.beq (a b : FClass) : Bool := ((a.name == b.name && a.parents == b.parents) && a.slots == b.slots) && listB FInit.beq a.inits b.inits
def FMethod.beq (a b : FMethod) : Bool := (((a.kind == b.kind && a.name == b.name) && a.params == b.params) && FFact.beq a.fact b.fact) && FExp.beq a.body b.body
def FProg.beq (a b : FProg) : Bool := FExp.beq a.main b.main && (listB FClass.beq a.classes b.classes && listB FMethod.beq a.methods b.methods)
theorem FInit.beq_iff (a b : FInit) : FInit.beq a b = true ↔ a = b := by
 cases a; cases b; simp [FInit.beq]
theorem FFact.beq_iff (a b : FFact) : FFact.beq a b = true ↔ a = b := ⟨FFact.beq_eq, fun h => h ▸ FFact.beq_refl a⟩
theorem FExp.beq_iff (a b : FExp) : FExp.beq a b = true ↔ a = b := ⟨FExp.beq_eq, fun h => h ▸ FExp.beq_refl a⟩
theorem FClass.beq_iff (a b : FClass) : FClass.beq a b = true ↔ a = b := by
 cases a; cases b; simp [FClass.beq, listB_iff FInit.beq_iff, and_assoc]
theorem FMethod.beq_iff (a b : FMethod) : FMethod.beq a b = true ↔ a = b := by
 cases a; cases b; simp [FMethod.beq, FFact.beq_iff, FExp.beq_iff, and_assoc]
theorem FProg.beq_iff (a b : FProg) : FProg.beq a b = true ↔ a = b := by
 cases a; cases b; simp [FProg.beq, listB_iff FClass.beq_iff, listB_iff FMethod.beq_iff, FExp.beq_iff]
 constructor
 ·rintro ⟨h1, h2, h3⟩; exact ⟨h2, h3, h1⟩
 ·rintro ⟨h1, h2, h3⟩; exact ⟨h3, h1, h2⟩

theorem run_initEq (a b : ByteArray) (m n : Int) (w : World) : (Op.equalIn 10000 73 (.agg #[.string a, .int .i64 m]) (.agg #[.string b, .int .i64 n])).run Tryz.prog w = .ok (a.data.toList == b.data.toList && m == n) w := by
 have u3 := Tryz.underlying3
 have a3 := Tryz.isAgg3
 have z3 := Tryz.sizeOf3
 have u9 := Tryz.underlying9
 have a9 := Tryz.isAgg9
 have z9 := Tryz.sizeOf9
 have hS : Tryz.prog.underlying 73 = some (.struct (Tryz.prog.fieldsOf 73)) := by kernel_rfl
 have hp : Tryz.prog.stoodInHeld 73 = false := by kernel_rfl
 rw [← bl_eq, show (10000 : Nat) = 9999 + 1 from rfl, run_equalIn_agg w 9999 73 _ _ hS hp]
 simp only [Program.fieldsOf, Tryz.underlying73]
 go_simp
 by_cases h1 : a.toList = b.toList <;> by_cases h2 : m = n <;> simp [h1, h2]

theorem OW.initNe {N : Nat} {env : Env} {s : Store} {o : Oper} {x y : Operand} {yt : TypeId} {u v : FInit} (ho : o.op = .binOp .neq 73 x y yt) (hx : ev env x = some (.agg u.cells)) (hy : ev env y = some (.agg v.cells)) {X : AV → Store → Prop} :
  OW Tryz.prog N o env s (fun r s' => r = .bool (!FInit.beq u v) ∧ s' = s) X := by
 refine OW.of_run (by simp [AE.noDefer, ho]) fun ro B a w p hst => ?_
 have h1 := hst.ev hx
 have h2 := hst.ev hy
 generalize hvx : a.eval x = vx at h1
 generalize hvy : a.eval y = vy at h2
 cases h1 with
 | agg cx _ h1 =>
 cases h2 with
 | agg cy _ h2 =>
 obtain ⟨cx⟩ := cx
 obtain ⟨cy⟩ := cy
 cases h1 with
 | cons a1 _ a2 _ e1 e2 =>
 cases e2 with
 | cons a3 _ a4 _ e3 e4 =>
 cases e4
 cases h2 with
 | cons b1 _ b2 _ f1 f2 =>
 cases f2 with
 | cons b3 _ b4 _ f3 f4 =>
 cases f4
 cases e1 with
 | str s1 _ g1 =>
 cases e3
 cases f1 with
 | str s2 _ g2 =>
 cases f3
 refine ⟨.bool (!FInit.beq u v), w, s, p, _, ?_, .refl w p, .refl s w p, hst.wf, ⟨rfl, rfl⟩, .bool _⟩
 unfold execOp
 rw [ho]
 simp only [hvx, hvy]
 refine run_v ?_
 rw [Sem.run_bind, run_eqGuard_agg w _ _ _ _ _ _ (by kernel_rfl), Result.andThen_ok, run_neq_struct]
 show ((Op.equalIn 10000 73 (.agg #[.string s1, .int .i64 u.n]) (.agg #[.string s2, .int .i64 v.n])).run Tryz.prog w).andThen _ = _
 rw [run_initEq, Result.andThen_ok, FInit.beq, g1, g2]

theorem elem_at {α : Type} {f : α → AV} {l : List α} {j : Nat} (h : j < l.length) : ∃ x, l[j]? = some x ∧ (l.map f)[j]? = some (f x) := ⟨_, List.getElem?_eq_getElem h, by simp [h]⟩
set_option maxRecDepth 10000 in
set_option maxHeartbeats 2000000 in
theorem refSameClass_spec (a b : FClass) (ha : a.parents.length < big) (hs : a.slots.length < big) (hi : a.inits.length < big) (hi2 : b.inits.length < big) : PCalls Tryz.prog 20 [a.av, b.av] (.bool (FClass.beq a b)) := by
 have hb : big = 1099511627776 := rfl
 refine PCalls.of_CW tO call20 Tryz.func20 rfl rfl fun s hok => ?_
 have t1 := fun s => sameTexts_spec a.parents b.parents .fro .fro s (by omega)
 have t2 := fun s => sameTexts_spec a.slots b.slots .fro .fro s (by omega)
 have hdef : FClass.beq a b = (((a.name == b.name && a.parents == b.parents) && a.slots == b.slots) && listB FInit.beq a.inits b.inits) := rfl
 refine CW.seqCutS [(2, .fptr a.cells 0), (3, .fptr b.cells 0)] ?_ ?_
 ·repeat (first | refine wR rfl ?_)
  exact ⟨rfl, (wE rfl), sSub⟩
 refine CW.seq ?_
 refine CW.seqCutS [(2, .fptr a.cells 0), (3, .fptr b.cells 0), (35, .bool (!(((a.name == b.name && a.parents == b.parents) && a.slots == b.slots) && decide (a.inits.length = b.inits.length))))] ?_ ?_
 ·generalize (a.parents == b.parents) = p1 at t1 ⊢
  generalize (a.slots == b.slots) = p2 at t2 ⊢
  repeat' (first | refine CW.reg ?_ | refine RL.nil ?_ | refine wS rfl ?_ | refine RL.skip rfl rfl rfl ?_ | refine RL.gstepF tO rfl rfl rfl rfl rfl rfl rfl (fun _ => ?_) (fun _ => ?_) | refine RL.callP rfl rfl rfl rfl rfl (t1 _) ?_ | refine RL.callP rfl rfl rfl rfl rfl (t2 _) ?_)
  all_goals refine ⟨rfl, (by repeat (first | exact trivial | refine ⟨⟨_, rfl, aRfl⟩, ?_⟩ | refine ⟨⟨_, rfl, AVle.of_eq (by (simp_all; (try (rw [Bool.eq_iff_iff]; simp; omega)); (try omega)))⟩, ?_⟩)), sSub⟩
 refine CW.cond rfl (fun h => ?_) (fun h => ?_)
 ·repeat (first | (with_reducible first | apply CW.seq | apply aN | apply aR | apply CW.ret) | refine wR rfl ?_)
  have : FClass.beq a b = false := by
   rw [hdef]
   cases hq : listB FInit.beq a.inits b.inits with
   | false => simp
   | true =>
    rw [listB_length hq] at h
    cases h1 : ((a.name == b.name && a.parents == b.parents) && a.slots == b.slots) with
    | false => rfl
    | true => rw [h1] at h; simp at h
  rw [this]
  exact Fin.retP hok rfl aRfl
 ·have hl : a.inits.length = b.inits.length := by simp at h; exact h.2
  have hh : (((a.name == b.name && a.parents == b.parents) && a.slots == b.slots)) = true := by simp at h; simp [h]
  repeat (first | (with_reducible first | apply CW.seq | apply aN | apply CW.skip | apply CW.block) | refine wR rfl ?_)
  refine CW.loop (σ := Nat) (fun j => [(2, .fptr a.cells 0), (3, .fptr b.cells 0), (5, .int .i64 (j : Int))]) (fun _ => sto s []) (fun j => j ≤ a.inits.length ∧ FClass.beq a b = listB FInit.beq (a.inits.drop j) (b.inits.drop j)) (fun j => a.inits.length - j) 0 ⟨by omega, by rw [hdef, hh]; rfl⟩ (wE rfl) sSub ?_
  rintro j ⟨hj, hI⟩
  repeat (first | (with_reducible first | apply CW.seq | apply aN) | refine wR rfl ?_)
  refine CW.cond rfl (fun h => ?_) (fun h => ?_)
  ·have hlt : j < a.inits.length := by simpa using h
   obtain ⟨x, hx, hx'⟩ := elem_at (f := FInit.av) hlt
   obtain ⟨y, hy, hy'⟩ := elem_at (f := FInit.av) (by omega : j < b.inits.length)
   rw [listB_drop hx hy] at hI
   repeat (first | (with_reducible first | apply CW.seq | apply aN | apply CW.skip | apply CW.block) | refine CW.drw tO mixed rfl (RD.run rfl ?_))
   refine RD.idx 3 j rfl rfl rfl rfl rfl rfl rfl rfl rfl rfl rfl rfl rfl hx' rfl ?_
   refine RD.idx 8 j rfl rfl rfl rfl rfl rfl rfl rfl rfl rfl rfl rfl rfl hy' rfl ?_
   refine RD.run rfl ?_
   refine RD.one (i := 10) rfl rfl rfl rfl rfl (OW.initNe rfl rfl rfl (u := x) (v := y) (X := fun _ _ => False)) ?_ (fun _ _ h => h.elim)
   rintro _ _ ⟨rfl, rfl⟩
   refine RD.run rfl (RD.done rfl ?_)
   cases hxy : FInit.beq x y with
   | true =>
    repeat (first | (with_reducible first | apply aN | apply iN | apply CW.skip) | refine wR rfl ?_ | refine CW.condF rfl ?_)
    exact ⟨j + 1, ⟨hlt, by rw [hI, hxy, Bool.true_and]⟩, (by repeat (first | exact trivial | refine ⟨⟨_, rfl, aRfl⟩, ?_⟩ | refine ⟨⟨_, rfl, AVle.of_eq (by (rw [i64_succ (by omega)]))⟩, ?_⟩)), sSub, by omega⟩
   | false =>
    repeat (first | (with_reducible first | apply CW.seq | apply aN | apply aR | apply iR | apply CW.ret) | refine wR rfl ?_ | refine CW.condT rfl ?_)
    rw [hI, hxy]
    exact Fin.retP hok rfl aRfl
  ·have hge : a.inits.length ≤ j := by simpa using h
   rw [listB_ends hge (by omega)] at hI
   repeat (first | (with_reducible first | apply CW.seq | apply aN | apply aX | apply iH | apply CW.ret | apply CW.exit) | refine wR rfl ?_)
   rw [hI]
   exact Fin.retP hok rfl aRfl

set_option maxRecDepth 10000 in
set_option maxHeartbeats 2000000 in
theorem refSameMethod_spec (a b : FMethod) (hp : a.params.length < big) (hf : a.fact.size ≤ big) (hf2 : b.fact.size ≤ big) (hpl : a.fact.pl ≤ big) (he : a.body.size ≤ big) (he2 : b.body.size ≤ big) :
  PCalls Tryz.prog 21 [a.av, b.av] (.bool (FMethod.beq a b)) := by
 have hb : big = 1099511627776 := rfl
 refine PCalls.of_CW tO call21 Tryz.func21 rfl rfl fun s hok => ?_
 have t1 := fun s => sameTexts_spec a.params b.params .fro .fro s (by omega)
 have t2 := fun s => refSameFact_spec a.fact.size a.fact b.fact s (Nat.le_refl _) hf hf2 hpl
 have t3 := fun s => refSameExp_spec a.body.size a.body b.body s (Nat.le_refl _) he he2
 rw [FMethod.beq]
 generalize (a.params == b.params) = p1 at t1 ⊢
 generalize FFact.beq a.fact b.fact = p2 at t2 ⊢
 generalize FExp.beq a.body b.body = p3 at t3 ⊢
 rw [FMethod.av, FMethod.av, FMethod.cellsG, FMethod.cellsG]
 repeat' (first | (with_reducible first | apply CW.seq | apply aN | apply CW.ret) | refine wR rfl ?_ | refine CW.reg ?_ | refine RL.nil ?_ | refine wS rfl ?_ | refine RL.skip rfl rfl rfl ?_ | refine RL.gstepT tO rfl rfl rfl rfl rfl rfl rfl (fun _ => ?_) (fun _ => ?_) | refine RL.callP rfl rfl rfl rfl rfl (t1 _) ?_ | refine RL.callP rfl rfl rfl rfl rfl (t2 _) ?_ | refine RL.callP rfl rfl rfl rfl rfl (t3 _) ?_)
 all_goals exact Fin.retP hok rfl (AVle.of_eq (by simp_all))
end Go.Proofs.YtaafacnoddjhgaaGreat

/- Contracts of the layer 'shape': whether lists, expressions, facts and programs are equal. -/
namespace Go.Proofs.YtaafacnoddjhgaaGreat
open Go.AE

set_option maxRecDepth 10000 in
set_option maxHeartbeats 1000000 in
theorem eqFuncExp_spec (fv : AV) (f : FExp → FExp → Bool) (a b : List FExp) (hl : a.length < big) (hlb : b.length < big) (hfv : ∀ (j : Nat) (x y : FExp), a[j]? = some x → b[j]? = some y → PCallV Tryz.prog fv [x.av, y.av] (.bool (f x y))) :
  PCalls Tryz.prog 112 [.slc 4 (a.map FExp.av) .fro, .slc 4 (b.map FExp.av) .fro, fv] (.bool (listB f a b)) := by
 have hb : big = 1099511627776 := rfl
 refine PCalls.of_CW tO call112 Tryz.func112 rfl rfl fun s hok => ?_
 repeat (first | (with_reducible first | apply CW.seq | apply aN) | refine wR rfl ?_)
 refine CW.cond rfl (fun h => ?_) (fun h => ?_)
 ·have hne : ¬ a.length = b.length := by
   intro e; simp [e] at h
  rw [listB_def hne]
  repeat (first | (with_reducible first | apply CW.seq | apply aN | apply aR | apply CW.ret) | refine wR rfl ?_)
  exact Fin.retP hok rfl aRfl
 ·have hl2 : a.length = b.length := by simp at h; omega
  repeat (first | (with_reducible first | apply CW.seq | apply aN | apply CW.skip | apply CW.block) | refine wR rfl ?_)
  refine CW.loopL hok (σ := Nat) (fun j => [(0, .slc 4 (a.map FExp.av) .fro), (1, .slc 4 (b.map FExp.av) .fro), (2, fv), (15, .slc 4 (a.map FExp.av) .fro), (16, .int .i64 a.length), (17, .int .i64 (j : Int))]) (fun _ => []) (fun j => j ≤ a.length ∧ listB f a b = listB f (a.drop j) (b.drop j)) (fun j => a.length - j) 0 ⟨by omega, rfl⟩ (by repeat (first | exact trivial | refine ⟨⟨_, rfl, aRfl⟩, ?_⟩ | refine ⟨⟨_, rfl, AVle.of_eq (by simp)⟩, ?_⟩)) (by repeat (first | exact Sels.nil | (apply Sels.cons; · repeat (first | exact Sel.here | apply Sel.there)))) ?_
  rintro j ⟨hj, hI⟩ hok
  repeat (first | (with_reducible first | apply CW.seq | apply aN) | refine wR rfl ?_)
  refine CW.cond rfl (fun h => ?_) (fun h => ?_)
  ·have hlt : j < a.length := by simpa using h
   obtain ⟨x, hx, hx'⟩ := elem_at (f := FExp.av) hlt
   obtain ⟨y, hy, hy'⟩ := elem_at (f := FExp.av) (by omega : j < b.length)
   rw [listB_drop hx hy] at hI
   repeat (first | (with_reducible first | apply CW.seq | apply aN | apply CW.skip | apply CW.block) | refine CW.reg ?_ | refine wS rfl ?_ | refine RL.idx tO _ rfl rfl rfl rfl rfl rfl rfl rfl rfl rfl rfl (by assumption) rfl ?_)
   refine RL.allocL tO hok rfl rfl rfl rfl rfl rfl rfl (fun b8 hok => ?_)
   repeat (first | (with_reducible first | apply CW.seq | apply aN) | refine CW.reg ?_ | refine RL.nil ?_ | refine wS rfl ?_ | refine RL.idx tO _ rfl rfl rfl rfl rfl rfl rfl rfl rfl rfl rfl (by assumption) rfl ?_ | refine RL.storeL tO hok rfl rfl rfl rfl rfl rfl rfl rfl rfl (by repeat (first | exact Sel.here | apply Sel.there)) (by exact rfl) (fun hok => ?_))
   refine RL.allocL tO hok rfl rfl rfl rfl rfl rfl rfl (fun b9 hok => ?_)
   repeat (first | (with_reducible first | apply CW.seq | apply aN) | refine CW.reg ?_ | refine RL.nil ?_ | refine wS rfl ?_ | refine RL.loadL tO hok rfl rfl rfl rfl rfl rfl (by repeat (first | exact Sel.here | apply Sel.there)) (by exact rfl) ?_ | refine RL.storeL tO hok rfl rfl rfl rfl rfl rfl rfl rfl rfl (by repeat (first | exact Sel.here | apply Sel.there)) (by exact rfl) (fun hok => ?_))
   refine RL.callVP rfl rfl rfl rfl rfl rfl (hfv j x y hx hy) ?_
   cases hxy : f x y with
   | true =>
    repeat (first | (with_reducible first | apply aN | apply iN | apply CW.skip) | refine wR rfl ?_ | refine RL.nil ?_ | refine CW.condF rfl ?_ | refine wS rfl ?_)
    exact NextL.mk (j + 1) hok ⟨hlt, by rw [hI, hxy, Bool.true_and]⟩ (by repeat (first | exact trivial | refine ⟨⟨_, rfl, aRfl⟩, ?_⟩ | refine ⟨⟨_, rfl, AVle.of_eq (by (rw [i64_succ (by omega)]))⟩, ?_⟩)) (by repeat (first | exact Sels.nil | (apply Sels.cons; · repeat (first | exact Sel.here | apply Sel.there)))) (by show a.length - (j + 1) < a.length - j; omega)
   | false =>
    rw [hI, hxy]
    repeat (first | (with_reducible first | apply CW.seq | apply aN | apply aR | apply iR | apply CW.ret) | refine wR rfl ?_ | refine RL.nil ?_ | refine CW.condT rfl ?_ | refine wS rfl ?_)
    exact Fin.retP hok rfl aRfl
  ·have hge : a.length ≤ j := by simpa using h
   rw [listB_ends hge (by omega)] at hI
   rw [hI]
   repeat (first | (with_reducible first | apply CW.seq | apply aN | apply aX | apply iH | apply CW.ret | apply CW.exit) | refine wR rfl ?_)
   exact Fin.retP hok rfl aRfl

theorem sameExp_spec (fv : AV) (f : FExp → FExp → Bool) (a b : List FExp) (hl : a.length < big) (hlb : b.length < big) (hfv : ∀ (j : Nat) (x y : FExp), a[j]? = some x → b[j]? = some y → PCallV Tryz.prog fv [x.av, y.av] (.bool (f x y))) :
  PCalls Tryz.prog 77 [.slc 4 (a.map FExp.av) .fro, .slc 4 (b.map FExp.av) .fro, fv] (.bool (listB f a b)) := by
 refine PCalls.of_CW tO call77 Tryz.func77 rfl rfl fun s hok => ?_
 repeat (first | (with_reducible first | apply CW.seq | apply aN) | refine wR rfl ?_ | refine CW.reg ?_ | refine wS rfl ?_)
 refine RL.callPP rfl rfl rfl rfl rfl (eqFuncExp_spec fv f a b hl hlb hfv) ?_
 repeat (first | (with_reducible first | apply aN | apply CW.ret) | refine RL.nil ?_ | refine wS rfl ?_)
 exact Fin.retP hok rfl aRfl

set_option maxRecDepth 10000 in
set_option maxHeartbeats 1000000 in
theorem eqFuncFact_spec (fv : AV) (f : FFact → FFact → Bool) (a b : List FFact) (hl : a.length < big) (hlb : b.length < big) (hfv : ∀ (j : Nat) (x y : FFact), a[j]? = some x → b[j]? = some y → PCallV Tryz.prog fv [x.av, y.av] (.bool (f x y))) :
  PCalls Tryz.prog 111 [.slc 6 (a.map FFact.av) .fro, .slc 6 (b.map FFact.av) .fro, fv] (.bool (listB f a b)) := by
 have hb : big = 1099511627776 := rfl
 refine PCalls.of_CW tO call111 Tryz.func111 rfl rfl fun s hok => ?_
 repeat (first | (with_reducible first | apply CW.seq | apply aN) | refine wR rfl ?_)
 refine CW.cond rfl (fun h => ?_) (fun h => ?_)
 ·have hne : ¬ a.length = b.length := by
   intro e; simp [e] at h
  rw [listB_def hne]
  repeat (first | (with_reducible first | apply CW.seq | apply aN | apply aR | apply CW.ret) | refine wR rfl ?_)
  exact Fin.retP hok rfl aRfl
 ·have hl2 : a.length = b.length := by simp at h; omega
  repeat (first | (with_reducible first | apply CW.seq | apply aN | apply CW.skip | apply CW.block) | refine wR rfl ?_)
  refine CW.loopL hok (σ := Nat) (fun j => [(0, .slc 6 (a.map FFact.av) .fro), (1, .slc 6 (b.map FFact.av) .fro), (2, fv), (15, .slc 6 (a.map FFact.av) .fro), (16, .int .i64 a.length), (17, .int .i64 (j : Int))]) (fun _ => []) (fun j => j ≤ a.length ∧ listB f a b = listB f (a.drop j) (b.drop j)) (fun j => a.length - j) 0 ⟨by omega, rfl⟩ (by repeat (first | exact trivial | refine ⟨⟨_, rfl, aRfl⟩, ?_⟩ | refine ⟨⟨_, rfl, AVle.of_eq (by simp)⟩, ?_⟩)) (by repeat (first | exact Sels.nil | (apply Sels.cons; · repeat (first | exact Sel.here | apply Sel.there)))) ?_
  rintro j ⟨hj, hI⟩ hok
  repeat (first | (with_reducible first | apply CW.seq | apply aN) | refine wR rfl ?_)
  refine CW.cond rfl (fun h => ?_) (fun h => ?_)
  ·have hlt : j < a.length := by simpa using h
   obtain ⟨x, hx, hx'⟩ := elem_at (f := FFact.av) hlt
   obtain ⟨y, hy, hy'⟩ := elem_at (f := FFact.av) (by omega : j < b.length)
   rw [listB_drop hx hy] at hI
   repeat (first | (with_reducible first | apply CW.seq | apply aN | apply CW.skip | apply CW.block) | refine CW.reg ?_ | refine wS rfl ?_ | refine RL.idx tO _ rfl rfl rfl rfl rfl rfl rfl rfl rfl rfl rfl (by assumption) rfl ?_)
   refine RL.allocL tO hok rfl rfl rfl rfl rfl rfl rfl (fun b8 hok => ?_)
   repeat (first | (with_reducible first | apply CW.seq | apply aN) | refine CW.reg ?_ | refine RL.nil ?_ | refine wS rfl ?_ | refine RL.idx tO _ rfl rfl rfl rfl rfl rfl rfl rfl rfl rfl rfl (by assumption) rfl ?_ | refine RL.storeL tO hok rfl rfl rfl rfl rfl rfl rfl rfl rfl (by repeat (first | exact Sel.here | apply Sel.there)) (by exact rfl) (fun hok => ?_))
   refine RL.allocL tO hok rfl rfl rfl rfl rfl rfl rfl (fun b9 hok => ?_)
   repeat (first | (with_reducible first | apply CW.seq | apply aN) | refine CW.reg ?_ | refine RL.nil ?_ | refine wS rfl ?_ | refine RL.loadL tO hok rfl rfl rfl rfl rfl rfl (by repeat (first | exact Sel.here | apply Sel.there)) (by exact rfl) ?_ | refine RL.storeL tO hok rfl rfl rfl rfl rfl rfl rfl rfl rfl (by repeat (first | exact Sel.here | apply Sel.there)) (by exact rfl) (fun hok => ?_))
   refine RL.callVP rfl rfl rfl rfl rfl rfl (hfv j x y hx hy) ?_
   cases hxy : f x y with
   | true =>
    repeat (first | (with_reducible first | apply aN | apply iN | apply CW.skip) | refine wR rfl ?_ | refine RL.nil ?_ | refine CW.condF rfl ?_ | refine wS rfl ?_)
    exact NextL.mk (j + 1) hok ⟨hlt, by rw [hI, hxy, Bool.true_and]⟩ (by repeat (first | exact trivial | refine ⟨⟨_, rfl, aRfl⟩, ?_⟩ | refine ⟨⟨_, rfl, AVle.of_eq (by (rw [i64_succ (by omega)]))⟩, ?_⟩)) (by repeat (first | exact Sels.nil | (apply Sels.cons; · repeat (first | exact Sel.here | apply Sel.there)))) (by show a.length - (j + 1) < a.length - j; omega)
   | false =>
    rw [hI, hxy]
    repeat (first | (with_reducible first | apply CW.seq | apply aN | apply aR | apply iR | apply CW.ret) | refine wR rfl ?_ | refine RL.nil ?_ | refine CW.condT rfl ?_ | refine wS rfl ?_)
    exact Fin.retP hok rfl aRfl
  ·have hge : a.length ≤ j := by simpa using h
   rw [listB_ends hge (by omega)] at hI
   rw [hI]
   repeat (first | (with_reducible first | apply CW.seq | apply aN | apply aX | apply iH | apply CW.ret | apply CW.exit) | refine wR rfl ?_)
   exact Fin.retP hok rfl aRfl

theorem sameFact_spec (fv : AV) (f : FFact → FFact → Bool) (a b : List FFact) (hl : a.length < big) (hlb : b.length < big) (hfv : ∀ (j : Nat) (x y : FFact), a[j]? = some x → b[j]? = some y → PCallV Tryz.prog fv [x.av, y.av] (.bool (f x y))) :
  PCalls Tryz.prog 76 [.slc 6 (a.map FFact.av) .fro, .slc 6 (b.map FFact.av) .fro, fv] (.bool (listB f a b)) := by
 refine PCalls.of_CW tO call76 Tryz.func76 rfl rfl fun s hok => ?_
 repeat (first | (with_reducible first | apply CW.seq | apply aN) | refine wR rfl ?_ | refine CW.reg ?_ | refine wS rfl ?_)
 refine RL.callPP rfl rfl rfl rfl rfl (eqFuncFact_spec fv f a b hl hlb hfv) ?_
 repeat (first | (with_reducible first | apply aN | apply CW.ret) | refine RL.nil ?_ | refine wS rfl ?_)
 exact Fin.retP hok rfl aRfl

set_option maxRecDepth 10000 in
set_option maxHeartbeats 1000000 in
theorem eqFuncClass_spec (fv : AV) (f : FClass → FClass → Bool) (a b : List FClass) (hl : a.length < big) (hlb : b.length < big) (hfv : ∀ (j : Nat) (x y : FClass), a[j]? = some x → b[j]? = some y → PCallV Tryz.prog fv [x.av, y.av] (.bool (f x y))) :
  PCalls Tryz.prog 74 [.slc 4 (a.map FClass.av) .fro, .slc 4 (b.map FClass.av) .fro, fv] (.bool (listB f a b)) := by
 have hb : big = 1099511627776 := rfl
 refine PCalls.of_CW tO call74 Tryz.func74 rfl rfl fun s hok => ?_
 repeat (first | (with_reducible first | apply CW.seq | apply aN) | refine wR rfl ?_)
 refine CW.cond rfl (fun h => ?_) (fun h => ?_)
 ·have hne : ¬ a.length = b.length := by
   intro e; simp [e] at h
  rw [listB_def hne]
  repeat (first | (with_reducible first | apply CW.seq | apply aN | apply aR | apply CW.ret) | refine wR rfl ?_)
  exact Fin.retP hok rfl aRfl
 ·have hl2 : a.length = b.length := by simp at h; omega
  repeat (first | (with_reducible first | apply CW.seq | apply aN | apply CW.skip | apply CW.block) | refine wR rfl ?_)
  refine CW.loopL hok (σ := Nat) (fun j => [(0, .slc 4 (a.map FClass.av) .fro), (1, .slc 4 (b.map FClass.av) .fro), (2, fv), (15, .slc 4 (a.map FClass.av) .fro), (16, .int .i64 a.length), (17, .int .i64 (j : Int))]) (fun _ => []) (fun j => j ≤ a.length ∧ listB f a b = listB f (a.drop j) (b.drop j)) (fun j => a.length - j) 0 ⟨by omega, rfl⟩ (by repeat (first | exact trivial | refine ⟨⟨_, rfl, aRfl⟩, ?_⟩ | refine ⟨⟨_, rfl, AVle.of_eq (by simp)⟩, ?_⟩)) (by repeat (first | exact Sels.nil | (apply Sels.cons; · repeat (first | exact Sel.here | apply Sel.there)))) ?_
  rintro j ⟨hj, hI⟩ hok
  repeat (first | (with_reducible first | apply CW.seq | apply aN) | refine wR rfl ?_)
  refine CW.cond rfl (fun h => ?_) (fun h => ?_)
  ·have hlt : j < a.length := by simpa using h
   obtain ⟨x, hx, hx'⟩ := elem_at (f := FClass.av) hlt
   obtain ⟨y, hy, hy'⟩ := elem_at (f := FClass.av) (by omega : j < b.length)
   rw [listB_drop hx hy] at hI
   repeat (first | (with_reducible first | apply CW.seq | apply aN | apply CW.skip | apply CW.block) | refine CW.reg ?_ | refine wS rfl ?_ | refine RL.idx tO _ rfl rfl rfl rfl rfl rfl rfl rfl rfl rfl rfl (by assumption) rfl ?_)
   refine RL.allocL tO hok rfl rfl rfl rfl rfl rfl rfl (fun b8 hok => ?_)
   repeat (first | (with_reducible first | apply CW.seq | apply aN) | refine CW.reg ?_ | refine RL.nil ?_ | refine wS rfl ?_ | refine RL.idx tO _ rfl rfl rfl rfl rfl rfl rfl rfl rfl rfl rfl (by assumption) rfl ?_ | refine RL.storeL tO hok rfl rfl rfl rfl rfl rfl rfl rfl rfl (by repeat (first | exact Sel.here | apply Sel.there)) (by exact rfl) (fun hok => ?_))
   refine RL.allocL tO hok rfl rfl rfl rfl rfl rfl rfl (fun b9 hok => ?_)
   repeat (first | (with_reducible first | apply CW.seq | apply aN) | refine CW.reg ?_ | refine RL.nil ?_ | refine wS rfl ?_ | refine RL.loadL tO hok rfl rfl rfl rfl rfl rfl (by repeat (first | exact Sel.here | apply Sel.there)) (by exact rfl) ?_ | refine RL.storeL tO hok rfl rfl rfl rfl rfl rfl rfl rfl rfl (by repeat (first | exact Sel.here | apply Sel.there)) (by exact rfl) (fun hok => ?_))
   refine RL.callVP rfl rfl rfl rfl rfl rfl (hfv j x y hx hy) ?_
   cases hxy : f x y with
   | true =>
    repeat (first | (with_reducible first | apply aN | apply iN | apply CW.skip) | refine wR rfl ?_ | refine RL.nil ?_ | refine CW.condF rfl ?_ | refine wS rfl ?_)
    exact NextL.mk (j + 1) hok ⟨hlt, by rw [hI, hxy, Bool.true_and]⟩ (by repeat (first | exact trivial | refine ⟨⟨_, rfl, aRfl⟩, ?_⟩ | refine ⟨⟨_, rfl, AVle.of_eq (by (rw [i64_succ (by omega)]))⟩, ?_⟩)) (by repeat (first | exact Sels.nil | (apply Sels.cons; · repeat (first | exact Sel.here | apply Sel.there)))) (by show a.length - (j + 1) < a.length - j; omega)
   | false =>
    rw [hI, hxy]
    repeat (first | (with_reducible first | apply CW.seq | apply aN | apply aR | apply iR | apply CW.ret) | refine wR rfl ?_ | refine RL.nil ?_ | refine CW.condT rfl ?_ | refine wS rfl ?_)
    exact Fin.retP hok rfl aRfl
  ·have hge : a.length ≤ j := by simpa using h
   rw [listB_ends hge (by omega)] at hI
   rw [hI]
   repeat (first | (with_reducible first | apply CW.seq | apply aN | apply aX | apply iH | apply CW.ret | apply CW.exit) | refine wR rfl ?_)
   exact Fin.retP hok rfl aRfl

theorem sameClass_spec (fv : AV) (f : FClass → FClass → Bool) (a b : List FClass) (hl : a.length < big) (hlb : b.length < big) (hfv : ∀ (j : Nat) (x y : FClass), a[j]? = some x → b[j]? = some y → PCallV Tryz.prog fv [x.av, y.av] (.bool (f x y))) :
  PCalls Tryz.prog 33 [.slc 4 (a.map FClass.av) .fro, .slc 4 (b.map FClass.av) .fro, fv] (.bool (listB f a b)) := by
 refine PCalls.of_CW tO call33 Tryz.func33 rfl rfl fun s hok => ?_
 repeat (first | (with_reducible first | apply CW.seq | apply aN) | refine wR rfl ?_ | refine CW.reg ?_ | refine wS rfl ?_)
 refine RL.callPP rfl rfl rfl rfl rfl (eqFuncClass_spec fv f a b hl hlb hfv) ?_
 repeat (first | (with_reducible first | apply aN | apply CW.ret) | refine RL.nil ?_ | refine wS rfl ?_)
 exact Fin.retP hok rfl aRfl

set_option maxRecDepth 10000 in
set_option maxHeartbeats 1000000 in
theorem eqFuncMethod_spec (fv : AV) (f : FMethod → FMethod → Bool) (a b : List FMethod) (hl : a.length < big) (hlb : b.length < big) (hfv : ∀ (j : Nat) (x y : FMethod), a[j]? = some x → b[j]? = some y → PCallV Tryz.prog fv [x.av, y.av] (.bool (f x y))) :
  PCalls Tryz.prog 75 [.slc 13 (a.map FMethod.av) .fro, .slc 13 (b.map FMethod.av) .fro, fv] (.bool (listB f a b)) := by
 have hb : big = 1099511627776 := rfl
 refine PCalls.of_CW tO call75 Tryz.func75 rfl rfl fun s hok => ?_
 repeat (first | (with_reducible first | apply CW.seq | apply aN) | refine wR rfl ?_)
 refine CW.cond rfl (fun h => ?_) (fun h => ?_)
 ·have hne : ¬ a.length = b.length := by
   intro e; simp [e] at h
  rw [listB_def hne]
  repeat (first | (with_reducible first | apply CW.seq | apply aN | apply aR | apply CW.ret) | refine wR rfl ?_)
  exact Fin.retP hok rfl aRfl
 ·have hl2 : a.length = b.length := by simp at h; omega
  repeat (first | (with_reducible first | apply CW.seq | apply aN | apply CW.skip | apply CW.block) | refine wR rfl ?_)
  refine CW.loopL hok (σ := Nat) (fun j => [(0, .slc 13 (a.map FMethod.av) .fro), (1, .slc 13 (b.map FMethod.av) .fro), (2, fv), (15, .slc 13 (a.map FMethod.av) .fro), (16, .int .i64 a.length), (17, .int .i64 (j : Int))]) (fun _ => []) (fun j => j ≤ a.length ∧ listB f a b = listB f (a.drop j) (b.drop j)) (fun j => a.length - j) 0 ⟨by omega, rfl⟩ (by repeat (first | exact trivial | refine ⟨⟨_, rfl, aRfl⟩, ?_⟩ | refine ⟨⟨_, rfl, AVle.of_eq (by simp)⟩, ?_⟩)) (by repeat (first | exact Sels.nil | (apply Sels.cons; · repeat (first | exact Sel.here | apply Sel.there)))) ?_
  rintro j ⟨hj, hI⟩ hok
  repeat (first | (with_reducible first | apply CW.seq | apply aN) | refine wR rfl ?_)
  refine CW.cond rfl (fun h => ?_) (fun h => ?_)
  ·have hlt : j < a.length := by simpa using h
   obtain ⟨x, hx, hx'⟩ := elem_at (f := FMethod.av) hlt
   obtain ⟨y, hy, hy'⟩ := elem_at (f := FMethod.av) (by omega : j < b.length)
   rw [listB_drop hx hy] at hI
   repeat (first | (with_reducible first | apply CW.seq | apply aN | apply CW.skip | apply CW.block) | refine CW.reg ?_ | refine wS rfl ?_ | refine RL.idx tO _ rfl rfl rfl rfl rfl rfl rfl rfl rfl rfl rfl (by assumption) rfl ?_)
   refine RL.allocL tO hok rfl rfl rfl rfl rfl rfl rfl (fun b8 hok => ?_)
   repeat (first | (with_reducible first | apply CW.seq | apply aN) | refine CW.reg ?_ | refine RL.nil ?_ | refine wS rfl ?_ | refine RL.idx tO _ rfl rfl rfl rfl rfl rfl rfl rfl rfl rfl rfl (by assumption) rfl ?_ | refine RL.storeL tO hok rfl rfl rfl rfl rfl rfl rfl rfl rfl (by repeat (first | exact Sel.here | apply Sel.there)) (by exact rfl) (fun hok => ?_))
   refine RL.allocL tO hok rfl rfl rfl rfl rfl rfl rfl (fun b9 hok => ?_)
   repeat (first | (with_reducible first | apply CW.seq | apply aN) | refine CW.reg ?_ | refine RL.nil ?_ | refine wS rfl ?_ | refine RL.loadL tO hok rfl rfl rfl rfl rfl rfl (by repeat (first | exact Sel.here | apply Sel.there)) (by exact rfl) ?_ | refine RL.storeL tO hok rfl rfl rfl rfl rfl rfl rfl rfl rfl (by repeat (first | exact Sel.here | apply Sel.there)) (by exact rfl) (fun hok => ?_))
   refine RL.callVP rfl rfl rfl rfl rfl rfl (hfv j x y hx hy) ?_
   cases hxy : f x y with
   | true =>
    repeat (first | (with_reducible first | apply aN | apply iN | apply CW.skip) | refine wR rfl ?_ | refine RL.nil ?_ | refine CW.condF rfl ?_ | refine wS rfl ?_)
    exact NextL.mk (j + 1) hok ⟨hlt, by rw [hI, hxy, Bool.true_and]⟩ (by repeat (first | exact trivial | refine ⟨⟨_, rfl, aRfl⟩, ?_⟩ | refine ⟨⟨_, rfl, AVle.of_eq (by (rw [i64_succ (by omega)]))⟩, ?_⟩)) (by repeat (first | exact Sels.nil | (apply Sels.cons; · repeat (first | exact Sel.here | apply Sel.there)))) (by show a.length - (j + 1) < a.length - j; omega)
   | false =>
    rw [hI, hxy]
    repeat (first | (with_reducible first | apply CW.seq | apply aN | apply aR | apply iR | apply CW.ret) | refine wR rfl ?_ | refine RL.nil ?_ | refine CW.condT rfl ?_ | refine wS rfl ?_)
    exact Fin.retP hok rfl aRfl
  ·have hge : a.length ≤ j := by simpa using h
   rw [listB_ends hge (by omega)] at hI
   rw [hI]
   repeat (first | (with_reducible first | apply CW.seq | apply aN | apply aX | apply iH | apply CW.ret | apply CW.exit) | refine wR rfl ?_)
   exact Fin.retP hok rfl aRfl

theorem sameMethod_spec (fv : AV) (f : FMethod → FMethod → Bool) (a b : List FMethod) (hl : a.length < big) (hlb : b.length < big) (hfv : ∀ (j : Nat) (x y : FMethod), a[j]? = some x → b[j]? = some y → PCallV Tryz.prog fv [x.av, y.av] (.bool (f x y))) :
  PCalls Tryz.prog 37 [.slc 13 (a.map FMethod.av) .fro, .slc 13 (b.map FMethod.av) .fro, fv] (.bool (listB f a b)) := by
 refine PCalls.of_CW tO call37 Tryz.func37 rfl rfl fun s hok => ?_
 repeat (first | (with_reducible first | apply CW.seq | apply aN) | refine wR rfl ?_ | refine CW.reg ?_ | refine wS rfl ?_)
 refine RL.callPP rfl rfl rfl rfl rfl (eqFuncMethod_spec fv f a b hl hlb hfv) ?_
 repeat (first | (with_reducible first | apply aN | apply CW.ret) | refine RL.nil ?_ | refine wS rfl ?_)
 exact Fin.retP hok rfl aRfl

theorem listB_beq (a b : List Str) : (a == b) = listB (· == ·) a b := by
 rw [Bool.eq_iff_iff, listB_iff (fun x y => by simp), beq_iff_eq]
theorem listB_defS {a b : List Str} (h : ¬ a.length = b.length) : (a == b) = false := by rw [listB_beq, listB_def h]

set_option maxRecDepth 10000 in
set_option maxHeartbeats 1000000 in
theorem slEqualStr_spec (a b : List Str) (hl : a.length < big) (hlb : b.length < big) :
  PCalls Tryz.prog 35 [.slc 1 (strs a) .fro, .slc 1 (strs b) .fro] (.bool (a == b)) := by
 have hb : big = 1099511627776 := rfl
 refine PCalls.of_CW tO call35 Tryz.func35 rfl rfl fun s hok => ?_
 repeat (first | (with_reducible first | apply CW.seq | apply aN) | refine wR rfl ?_)
 refine CW.cond rfl (fun h => ?_) (fun h => ?_)
 ·have hne : ¬ a.length = b.length := by
   intro e; simp [e, strs] at h
  rw [listB_defS hne]
  repeat (first | (with_reducible first | apply CW.seq | apply aN | apply aR | apply CW.ret) | refine wR rfl ?_)
  exact Fin.retP hok rfl aRfl
 ·have hl2 : a.length = b.length := by simp [strs] at h; omega
  repeat (first | (with_reducible first | apply CW.seq | apply aN | apply CW.skip | apply CW.block) | refine wR rfl ?_)
  refine CW.loopL hok (σ := Nat) (fun j => [(0, .slc 1 (strs a) .fro), (1, .slc 1 (strs b) .fro), (12, .int .i64 a.length), (13, .int .i64 (j : Int))]) (fun _ => []) (fun j => j ≤ a.length ∧ listB (· == ·) a b = listB (· == ·) (a.drop j) (b.drop j)) (fun j => a.length - j) 0 ⟨by omega, rfl⟩ (by repeat (first | exact trivial | refine ⟨⟨_, rfl, aRfl⟩, ?_⟩ | refine ⟨⟨_, rfl, AVle.of_eq (by simp [strs])⟩, ?_⟩)) (by repeat (first | exact Sels.nil | (apply Sels.cons; · repeat (first | exact Sel.here | apply Sel.there)))) ?_
  rintro j ⟨hj, hI⟩ hok
  repeat (first | (with_reducible first | apply CW.seq | apply aN) | refine wR rfl ?_)
  refine CW.cond rfl (fun h => ?_) (fun h => ?_)
  ·have hlt : j < a.length := by simpa using h
   obtain ⟨x, hx, hx'⟩ := elem_at (f := AV.str) hlt
   obtain ⟨y, hy, hy'⟩ := elem_at (f := AV.str) (by omega : j < b.length)
   rw [listB_drop hx hy] at hI
   repeat (first | (with_reducible first | apply CW.seq | apply aN | apply CW.skip | apply CW.block) | refine wR rfl ?_)
   refine CW.drw tO mixed rfl (RD.run rfl ?_)
   refine RD.idx 2 j rfl rfl rfl rfl rfl rfl rfl rfl rfl rfl rfl rfl rfl hx' rfl ?_
   refine RD.idx 6 j rfl rfl rfl rfl rfl rfl rfl rfl rfl rfl rfl rfl rfl hy' rfl ?_
   refine RD.run rfl ?_
   refine RD.done rfl ?_
   cases hxy : (x == y) with
   | true =>
    repeat (first | (with_reducible first | apply aN | apply iN | apply CW.skip) | refine wR rfl ?_ | refine CW.condF rfl ?_)
    exact NextL.mk (j + 1) hok ⟨hlt, by rw [hI, hxy, Bool.true_and]⟩ (by repeat (first | exact trivial | refine ⟨⟨_, rfl, aRfl⟩, ?_⟩ | refine ⟨⟨_, rfl, AVle.of_eq (by (rw [i64_succ (by omega)]))⟩, ?_⟩)) (by repeat (first | exact Sels.nil | (apply Sels.cons; · repeat (first | exact Sel.here | apply Sel.there)))) (by show a.length - (j + 1) < a.length - j; omega)
   | false =>
    rw [listB_beq]
    rw [hI, hxy]
    repeat (first | (with_reducible first | apply CW.seq | apply aN | apply aR | apply iR | apply CW.ret) | refine wR rfl ?_ | refine CW.condT rfl ?_)
    exact Fin.retP hok rfl aRfl
  ·have hge : a.length ≤ j := by simpa using h
   rw [listB_ends hge (by omega)] at hI
   rw [listB_beq]
   rw [hI]
   repeat (first | (with_reducible first | apply CW.seq | apply aN | apply aX | apply iH | apply CW.ret | apply CW.exit) | refine wR rfl ?_)
   exact Fin.retP hok rfl aRfl

set_option maxRecDepth 10000 in
set_option maxHeartbeats 1000000 in
theorem slEqualInit_spec (a b : List FInit) (hl : a.length < big) (hlb : b.length < big) :
  PCalls Tryz.prog 36 [.slc 2 (a.map FInit.av) .fro, .slc 2 (b.map FInit.av) .fro] (.bool (listB FInit.beq a b)) := by
 have hb : big = 1099511627776 := rfl
 refine PCalls.of_CW tO call36 Tryz.func36 rfl rfl fun s hok => ?_
 repeat (first | (with_reducible first | apply CW.seq | apply aN) | refine wR rfl ?_)
 refine CW.cond rfl (fun h => ?_) (fun h => ?_)
 ·have hne : ¬ a.length = b.length := by
   intro e; simp [e] at h
  rw [listB_def hne]
  repeat (first | (with_reducible first | apply CW.seq | apply aN | apply aR | apply CW.ret) | refine wR rfl ?_)
  exact Fin.retP hok rfl aRfl
 ·have hl2 : a.length = b.length := by simp at h; omega
  repeat (first | (with_reducible first | apply CW.seq | apply aN | apply CW.skip | apply CW.block) | refine wR rfl ?_)
  refine CW.loopL hok (σ := Nat) (fun j => [(0, .slc 2 (a.map FInit.av) .fro), (1, .slc 2 (b.map FInit.av) .fro), (12, .int .i64 a.length), (13, .int .i64 (j : Int))]) (fun _ => []) (fun j => j ≤ a.length ∧ listB FInit.beq a b = listB FInit.beq (a.drop j) (b.drop j)) (fun j => a.length - j) 0 ⟨by omega, rfl⟩ (by repeat (first | exact trivial | refine ⟨⟨_, rfl, aRfl⟩, ?_⟩ | refine ⟨⟨_, rfl, AVle.of_eq (by simp)⟩, ?_⟩)) (by repeat (first | exact Sels.nil | (apply Sels.cons; · repeat (first | exact Sel.here | apply Sel.there)))) ?_
  rintro j ⟨hj, hI⟩ hok
  repeat (first | (with_reducible first | apply CW.seq | apply aN) | refine wR rfl ?_)
  refine CW.cond rfl (fun h => ?_) (fun h => ?_)
  ·have hlt : j < a.length := by simpa using h
   obtain ⟨x, hx, hx'⟩ := elem_at (f := FInit.av) hlt
   obtain ⟨y, hy, hy'⟩ := elem_at (f := FInit.av) (by omega : j < b.length)
   rw [listB_drop hx hy] at hI
   repeat (first | (with_reducible first | apply CW.seq | apply aN | apply CW.skip | apply CW.block) | refine wR rfl ?_)
   refine CW.drw tO mixed rfl (RD.run rfl ?_)
   refine RD.idx 2 j rfl rfl rfl rfl rfl rfl rfl rfl rfl rfl rfl rfl rfl hx' rfl ?_
   refine RD.idx 6 j rfl rfl rfl rfl rfl rfl rfl rfl rfl rfl rfl rfl rfl hy' rfl ?_
   refine RD.run rfl ?_
   refine RD.one (i := 8) rfl rfl rfl rfl rfl (OW.initNe rfl rfl rfl (u := x) (v := y) (X := fun _ _ => False)) ?_ (fun _ _ h => h.elim)
   rintro _ _ ⟨rfl, rfl⟩
   refine RD.run rfl (RD.done rfl ?_)
   cases hxy : FInit.beq x y with
   | true =>
    repeat (first | (with_reducible first | apply aN | apply iN | apply CW.skip) | refine wR rfl ?_ | refine CW.condF rfl ?_)
    exact NextL.mk (j + 1) hok ⟨hlt, by rw [hI, hxy, Bool.true_and]⟩ (by repeat (first | exact trivial | refine ⟨⟨_, rfl, aRfl⟩, ?_⟩ | refine ⟨⟨_, rfl, AVle.of_eq (by (rw [i64_succ (by omega)]))⟩, ?_⟩)) (by repeat (first | exact Sels.nil | (apply Sels.cons; · repeat (first | exact Sel.here | apply Sel.there)))) (by show a.length - (j + 1) < a.length - j; omega)
   | false =>
    skip
    rw [hI, hxy]
    repeat (first | (with_reducible first | apply CW.seq | apply aN | apply aR | apply iR | apply CW.ret) | refine wR rfl ?_ | refine CW.condT rfl ?_)
    exact Fin.retP hok rfl aRfl
  ·have hge : a.length ≤ j := by simpa using h
   rw [listB_ends hge (by omega)] at hI
   skip
   rw [hI]
   repeat (first | (with_reducible first | apply CW.seq | apply aN | apply aX | apply iH | apply CW.ret | apply CW.exit) | refine wR rfl ?_)
   exact Fin.retP hok rfl aRfl

end Go.Proofs.YtaafacnoddjhgaaGreat

/- Contracts of the layer 'shape': sameExp, sameFact, and what Alike asks of classes and methods. -/
namespace Go.Proofs.YtaafacnoddjhgaaGreat
open Go.AE

theorem FExp.beq_list (a b : FExp) : FExp.beq a b = (((a.op == b.op && a.n == b.n) && a.text == b.text) && listB FExp.beq a.kids b.kids) := by
 rw [Bool.eq_iff_iff, FExp.beq_iff]
 cases a; cases b
 simp [listB_iff FExp.beq_iff, FExp.op, FExp.n, FExp.text, FExp.kids, and_assoc]
theorem FFact.beq_list (a b : FFact) : FFact.beq a b = (((((a.op == b.op && a.name == b.name) && a.path == b.path) && a.cls == b.cls) && a.n == b.n) && listB FFact.beq a.kids b.kids) := by
 rw [Bool.eq_iff_iff, FFact.beq_iff]
 cases a; cases b
 simp [listB_iff FFact.beq_iff, FFact.op, FFact.name, FFact.path, FFact.cls, FFact.n, FFact.kids, and_assoc]

set_option maxRecDepth 10000 in
set_option maxHeartbeats 1000000 in
theorem shapeSameExp_spec : ∀ (n : Nat) (a b : FExp), a.size ≤ n → a.size ≤ big → b.size ≤ big → PCalls Tryz.prog 40 [a.av, b.av] (.bool (FExp.beq a b)) := by
  intro n
  induction n with
  | zero => intro a b h; have := a.size_pos; omega
  | succ n ih =>
    intro a b hn ha hb2
    have hla := a.kids_length
    have hlb := b.kids_length
    refine PCalls.of_CW tO call40 Tryz.func40 rfl rfl fun s hok => ?_
    have t1 := sameExp_spec (.func 40 [] []) FExp.beq a.kids b.kids (by omega) (by omega) (fun j x y hx hy => PCallV.of_calls (first := []) (cap := []) (ih x y
      (by have := FExp.kids_size (List.mem_of_getElem? hx); omega) (by have := FExp.kids_size (List.mem_of_getElem? hx); omega) (by have := FExp.kids_size (List.mem_of_getElem? hy); omega)))
    rw [← FExp.kav_eq, ← FExp.kav_eq] at t1
    rw [FExp.beq_list]
    generalize listB FExp.beq a.kids b.kids = p1 at t1 ⊢
    repeat' (first | (with_reducible first | apply CW.seq | apply aN | apply CW.ret) | refine wR rfl ?_ | refine CW.reg ?_ | refine RL.nil ?_ | refine wS rfl ?_ | refine RL.skip rfl rfl rfl ?_ | refine RL.gstepT tO rfl rfl rfl rfl rfl rfl rfl (fun _ => ?_) (fun _ => ?_) | refine RL.callPP rfl rfl rfl rfl rfl t1 ?_)
    all_goals exact Fin.retP hok rfl (AVle.of_eq (by simp_all))

set_option maxRecDepth 10000 in
set_option maxHeartbeats 2000000 in
theorem shapeSameFact_spec : ∀ (n : Nat) (a b : FFact) (d d' : Nat), a.size ≤ n → a.size ≤ big → b.size ≤ big → a.Slim d → b.Slim d' → PCalls Tryz.prog 39 [a.av, b.av] (.bool (FFact.beq a b)) := by
  intro n
  induction n with
  | zero => intro a b d d' h; have := a.size_pos; omega
  | succ n ih =>
    intro a b d d' hn ha hb2 hs hs2
    have hla := a.kids_length
    have hlb := b.kids_length
    have hpa : a.path.length < big := hs d a (by rw [Part.nodes_eq]; exact List.mem_cons_self)
    have hpb : b.path.length < big := hs2 d' b (by rw [Part.nodes_eq]; exact List.mem_cons_self)
    refine PCalls.of_CW tO call39 Tryz.func39 rfl rfl fun s hok => ?_
    have t1 := sameFact_spec (.func 39 [] []) FFact.beq a.kids b.kids (by omega) (by omega) (fun j x y hx hy => PCallV.of_calls (first := []) (cap := []) (ih x y (d + 1) (d' + 1)
      (by have := FFact.kids_size (List.mem_of_getElem? hx); omega) (by have := FFact.kids_size (List.mem_of_getElem? hx); omega) (by have := FFact.kids_size (List.mem_of_getElem? hy); omega)
      (hs.kid (List.mem_of_getElem? hx)) (hs2.kid (List.mem_of_getElem? hy))))
    rw [← FFact.kav_eq, ← FFact.kav_eq] at t1
    have t2 := slEqualStr_spec a.path b.path hpa hpb
    rw [FFact.beq_list]
    generalize listB FFact.beq a.kids b.kids = p1 at t1 ⊢
    generalize (a.path == b.path) = p2 at t2 ⊢
    repeat' (first | (with_reducible first | apply CW.seq | apply aN | apply CW.ret) | refine wR rfl ?_ | refine CW.reg ?_ | refine RL.nil ?_ | refine wS rfl ?_ | refine RL.skip rfl rfl rfl ?_ | refine RL.gstepT tO rfl rfl rfl rfl rfl rfl rfl (fun _ => ?_) (fun _ => ?_) | refine RL.callPP rfl rfl rfl rfl rfl t1 ?_ | refine RL.callPP rfl rfl rfl rfl rfl t2 ?_)
    all_goals exact Fin.retP hok rfl (AVle.of_eq (by simp_all))

set_option maxRecDepth 10000 in
set_option maxHeartbeats 2000000 in
theorem alikeClass_spec (a b : FClass) (hp : a.parents.length < big) (hs : a.slots.length < big) (hi : a.inits.length < big) (hp2 : b.parents.length < big) (hs2 : b.slots.length < big) (hi2 : b.inits.length < big) :
  PCalls Tryz.prog 34 [a.av, b.av] (.bool (FClass.beq a b)) := by
 refine PCalls.of_CW tO call34 Tryz.func34 rfl rfl fun s hok => ?_
 have t1 := slEqualStr_spec a.parents b.parents hp hp2
 have t2 := slEqualStr_spec a.slots b.slots hs hs2
 have t3 := slEqualInit_spec a.inits b.inits hi hi2
 rw [FClass.beq]
 generalize (a.parents == b.parents) = p1 at t1 ⊢
 generalize (a.slots == b.slots) = p2 at t2 ⊢
 generalize listB FInit.beq a.inits b.inits = p3 at t3 ⊢
 repeat' (first | (with_reducible first | apply CW.seq | apply aN | apply CW.ret) | refine wR rfl ?_ | refine CW.reg ?_ | refine RL.nil ?_ | refine wS rfl ?_ | refine RL.skip rfl rfl rfl ?_ | refine RL.gstepT tO rfl rfl rfl rfl rfl rfl rfl (fun _ => ?_) (fun _ => ?_) | refine RL.callPP rfl rfl rfl rfl rfl t1 ?_ | refine RL.callPP rfl rfl rfl rfl rfl t2 ?_ | refine RL.callPP rfl rfl rfl rfl rfl t3 ?_)
 all_goals exact Fin.retP hok rfl (AVle.of_eq (by simp_all))

set_option maxRecDepth 10000 in
set_option maxHeartbeats 2000000 in
theorem alikeMethod_spec (a b : FMethod) (hp : a.params.length < big) (hp2 : b.params.length < big) (hf : a.fact.size ≤ big) (hf2 : b.fact.size ≤ big) (hs : a.fact.Slim 1) (hs2 : b.fact.Slim 1) (he : a.body.size ≤ big) (he2 : b.body.size ≤ big) :
  PCalls Tryz.prog 38 [a.av, b.av] (.bool (FMethod.beq a b)) := by
 refine PCalls.of_CW tO call38 Tryz.func38 rfl rfl fun s hok => ?_
 have t1 := slEqualStr_spec a.params b.params hp hp2
 have t2 := shapeSameFact_spec a.fact.size a.fact b.fact 1 1 (Nat.le_refl _) hf hf2 hs hs2
 have t3 := shapeSameExp_spec a.body.size a.body b.body (Nat.le_refl _) he he2
 rw [FMethod.beq]
 generalize (a.params == b.params) = p1 at t1 ⊢
 generalize FFact.beq a.fact b.fact = p2 at t2 ⊢
 generalize FExp.beq a.body b.body = p3 at t3 ⊢
 rw [FMethod.av, FMethod.av, FMethod.cellsG, FMethod.cellsG]
 repeat' (first | (with_reducible first | apply CW.seq | apply aN | apply CW.ret) | refine wR rfl ?_ | refine CW.reg ?_ | refine RL.nil ?_ | refine wS rfl ?_ | refine RL.skip rfl rfl rfl ?_ | refine RL.gstepT tO rfl rfl rfl rfl rfl rfl rfl (fun _ => ?_) (fun _ => ?_) | refine RL.callPP rfl rfl rfl rfl rfl t1 ?_ | refine RL.callPP rfl rfl rfl rfl rfl t2 ?_ | refine RL.callPP rfl rfl rfl rfl rfl t3 ?_)
 all_goals exact Fin.retP hok rfl (AVle.of_eq (by simp_all))
end Go.Proofs.YtaafacnoddjhgaaGreat

/- Contracts of the reference: copies of classes and facts; the names one after the other. -/
namespace Go.Proofs.YtaafacnoddjhgaaGreat
open Go.AE

def firstN : Nat → List Str
 | 0 => []
 | n + 1 => firstN n ++ [freshS (firstN n)]
theorem firstN_length : ∀ n, (firstN n).length = n
 | 0 => rfl
 | n + 1 => by rw [firstN, List.length_append, firstN_length n]; rfl
theorem firstN_get : ∀ (n k : Nat), k < n → (firstN n)[k]? = some (freshS (firstN k))
  | n + 1, k, h => by
    rw [firstN]
    by_cases e : k = n
    · subst e
      rw [List.getElem?_append_right (by rw [firstN_length]; omega), firstN_length]; simp
    · rw [List.getElem?_append_left (by rw [firstN_length]; omega)]
      exact firstN_get n k (by omega)
theorem freshS_not_mem {l : List Str} (h : HasFree l) : l.contains (freshS l) = false := by
 have := (freshK_spec h).2.1
 unfold free1 at this
 simp only [Bool.and_eq_true, Bool.not_eq_true'] at this
 exact this.2
theorem freshS_name {l : List Str} (h : HasFree l) : nameS (freshS l) = true := by
 have := (freshK_spec h).2.1
 unfold free1 at this
 simp only [Bool.and_eq_true] at this
 exact this.1
theorem insS_firstN {k : Nat} (h : k < 698) : insS (firstN k) (freshS (firstN k)) = firstN (k + 1) := by
 rw [insS, if_neg (by rw [freshS_not_mem (hasFree_of (by rw [firstN_length]; exact h))]; simp), firstN]

set_option maxRecDepth 10000 in
theorem refCopyClass_spec (c : FClass) (h1 : c.parents.length < big) (h2 : c.slots.length < big) (h3 : c.inits.length < big) : PCalls Tryz.prog 60 [c.av] c.av := by
 have hb : big = 1099511627776 := rfl
 refine PCalls.of_CW tO call60 Tryz.func60 rfl rfl fun s hok => ?_
 repeat (first | with_reducible apply CW.seq | refine CW.reg ?_ | refine wS rfl ?_)
 refine RL.allocL tO hok rfl rfl rfl rfl rfl rfl rfl (fun b2 hok => ?_)
 repeat (first | (with_reducible first | apply CW.seq | apply aN) | refine RL.nil ?_)
 refine CW.drw tO mixed rfl (RD.run rfl ?_)
 refine RD.appendF 4 tO rfl rfl rfl rfl rfl rfl rfl rfl rfl (by intro k; simp) rfl rfl rfl (.inl rfl) (.inr rfl) rfl (strs_elem _) (by simp only [List.length_nil, Nat.zero_add, strs_length]; show _ * 16 ≤ _; omega) (by simp only [List.length_nil, Nat.zero_add, strs_length]; omega) (.inl rfl) ?_; refine RD.run rfl ?_
 refine RD.appendF 7 tO rfl rfl rfl rfl rfl rfl rfl rfl rfl (by intro k; simp) rfl rfl rfl (.inl rfl) (.inr rfl) rfl (strs_elem _) (by simp only [List.length_nil, Nat.zero_add, strs_length]; show _ * 16 ≤ _; omega) (by simp only [List.length_nil, Nat.zero_add, strs_length]; omega) (.inl rfl) ?_; refine RD.run rfl ?_
 refine RD.appendF 10 tO rfl rfl rfl rfl rfl rfl rfl rfl rfl (by intro k; simp) rfl rfl rfl (.inl rfl) (.inr rfl) rfl (inits_elem _) (by simp only [List.length_nil, Nat.zero_add, List.length_map]; show _ * 24 ≤ _; omega) (by simp only [List.length_nil, Nat.zero_add, List.length_map]; omega) (.inl rfl) ?_; refine RD.run rfl ?_
 refine RD.storeL 12 tO hok rfl rfl rfl rfl rfl rfl rfl rfl rfl rfl rfl (by repeat (first | exact Sel.here | apply Sel.there)) (by exact rfl) (fun hok => ?_); refine RD.run rfl ?_
 refine RD.done rfl ?_
 repeat (with_reducible first | apply aN | apply CW.ret)
 exact Fin.retP hok (resA_cell rfl rfl (Sel.get Sel.here hok) rfl) aRfl

theorem CW.phantom {P : Program} {N : Nat} {Q : AEx → Env → Store → Prop} {env : Env} {s : Store} {c : Code} {L : LS} (hok : Ok s L) (e : TypeId) (sz n : Nat) (h : Ok s ((.nil, .row e sz n) :: L) → CW P N c Q env (sto s ((.nil, .row e sz n) :: L))) : CW P N c Q env (sto s L) := h ⟨trivial, hok⟩

set_option maxRecDepth 10000 in
set_option maxHeartbeats 1000000 in
theorem refFreshMany_spec (n : Nat) (hn : n < 698) : PCalls Tryz.prog 61 [.slc 0 [] .nil, .int .i64 (n : Int)] (.slc 1 (strs (firstN n)) .fro) := by
  refine PCalls.of_CW tO call61 Tryz.func61 rfl rfl fun s hok => ?_
  repeat (first | (with_reducible first | apply CW.seq | apply aN) | refine wR rfl ?_ | refine CW.reg ?_ | refine wS rfl ?_)
  refine RL.appendNL tO hok rfl rfl rfl rfl rfl rfl rfl (by intro k; simp) rfl rfl rfl (.inl rfl) rfl (by intro y h; cases h) rfl rfl (by decide) (by decide) (fun o0 hok => ?_)
  repeat (first | (with_reducible first | apply CW.seq | apply aN | apply CW.block) | refine wR rfl ?_ | refine RL.nil ?_ | refine wS rfl ?_)
  refine CW.phantom hok 9 1 0 fun hok => ?_
  refine CW.loopL hok (σ := Nat × Own × Own) (fun q => [(0, .slc 1 (strs (firstN q.1)) q.2.1), (1, .int .i64 (n : Int)), (5, .slc 1 (strs (firstN q.1)) q.2.2), (6, .int .i64 (q.1 : Int))])
    (fun q => [(q.2.1, .row 9 1 q.1), (q.2.2, .row 9 1 q.1)]) (fun q => q.1 ≤ n) (fun q => n - q.1) (0, o0, .nil) (Nat.zero_le _) ⟨⟨_, rfl, aRfl⟩, ⟨_, rfl, aRfl⟩, ⟨_, rfl, AVle.nil (by intro b h; cases h)⟩, ⟨_, rfl, aRfl⟩, trivial⟩ (by repeat (first | exact Sels.nil | (apply Sels.cons; · repeat (first | exact Sel.here | apply Sel.there)))) ?_
  rintro ⟨j, o1, o2⟩ hj hok
  simp only at hj hok ⊢
  repeat (first | (with_reducible first | apply CW.seq | apply aN) | refine wR rfl ?_)
  refine CW.cond rfl (fun h => ?_) (fun h => ?_)
  · have hlt : j < n := by simpa using h
    repeat (first | (with_reducible first | apply CW.seq | apply aN | apply CW.skip | apply CW.block) | refine CW.reg ?_ | refine wS rfl ?_)
    refine RL.callP rfl rfl rfl rfl rfl (refFresh_spec (firstN j) o1 _ (by rw [firstN_length]; omega) (hasFree_of (by rw [firstN_length]; omega))) ?_
    repeat (first | (with_reducible first | apply CW.seq | apply aN) | refine CW.reg ?_ | refine RL.nil ?_ | refine wS rfl ?_)
    refine RL.append1L tO hok rfl rfl rfl rfl rfl rfl rfl (by intro k; simp) rfl rfl rfl rfl rfl rfl rfl rfl (by repeat (first | exact Sel.here | apply Sel.there)) (by rw [strs_length, firstN_length]) (by show (_ + 1) * 16 ≤ _; omega) (by omega) (fun b1 hok => ?_)
    repeat (first | with_reducible apply aN | refine CW.reg ?_ | refine RL.nil ?_ | refine wS rfl ?_)
    refine RL.append1L tO hok rfl rfl rfl rfl rfl rfl rfl (by intro k; simp) rfl rfl rfl rfl rfl rfl rfl rfl (by repeat (first | exact Sel.here | apply Sel.there)) (by rw [strs_length, firstN_length]) (by show (_ + 1) * 16 ≤ _; omega) (by omega) (fun b2 hok => ?_)
    repeat (first | (with_reducible first | apply aN | apply iN) | refine wR rfl ?_ | refine RL.nil ?_ | refine wS rfl ?_)
    exact NextL.mk (j + 1, .own b1, .own b2) hok hlt (by repeat (first | exact trivial | refine ⟨⟨_, rfl, aRfl⟩, ?_⟩ | refine ⟨⟨_, rfl, AVle.of_eq (by first | (rw [i64_succ (by omega)]) | simp [strs, firstN])⟩, ?_⟩)) (by repeat (first | exact Sels.nil | (apply Sels.cons; · repeat (first | exact Sel.here | apply Sel.there)))) (by show n - (j + 1) < n - j; omega)
  · have hge : j = n := by have : n ≤ j := by simpa using h
                           omega
    subst hge
    repeat (first | (with_reducible first | apply CW.seq | apply aN | apply aX | apply iH | apply CW.ret | apply CW.exit) | refine wR rfl ?_)
    exact Fin.retP hok rfl AVle.fro

set_option maxRecDepth 10000 in
theorem refNamed_spec (k : Nat) (hk : k < 697) : PCalls Tryz.prog 104 [.int .i64 (k : Int)] (.str (freshS (firstN k))) := by
 refine PCalls.of_CW tO call104 Tryz.func104 rfl rfl fun s hok => ?_
 repeat (first | (with_reducible first | apply CW.seq | apply aN) | refine wR rfl ?_ | refine CW.reg ?_ | refine wS rfl ?_)
 refine RL.callPP rfl rfl rfl rfl (by rw [i64_succ (by omega)]; rfl) (refFreshMany_spec (k + 1) (by omega)) ?_
 have hg : (strs (firstN (k + 1)))[k]? = some (.str (freshS (firstN k))) := by rw [strs, List.getElem?_map, firstN_get _ _ (by omega)]; rfl
 repeat (first | (with_reducible first | apply CW.seq | apply aN | apply CW.ret) | refine CW.reg ?_ | refine RL.nil ?_ | refine wS rfl ?_ | refine RL.idx tO _ rfl rfl rfl rfl rfl rfl rfl rfl rfl rfl rfl (by assumption) rfl ?_)
 exact Fin.retP hok rfl aRfl
end Go.Proofs.YtaafacnoddjhgaaGreat

/- Contracts of the reference: CopyFact. -/
namespace Go.Proofs.YtaafacnoddjhgaaGreat
open Go.AE

def swapN (old now : List Str) (x : Str) : Str := match old.findIdx? (· == x) with
 | some i => now.getD i []
 | none => x
mutual
def FFact.swap (old now : List Str) : FFact → FFact
 | .mk o x p c n ks => .mk o (swapN old now x) p c n (FFact.swaps old now ks)
def FFact.swaps (old now : List Str) : List FFact → List FFact
 | [] => []
 | k :: r => FFact.swap old now k :: FFact.swaps old now r
end
theorem FFact.swaps_eq (old now : List Str) : ∀ l : List FFact, FFact.swaps old now l = l.map (FFact.swap old now)
 | [] => rfl
 | k :: r => by rw [FFact.swaps, FFact.swaps_eq old now r]; rfl
theorem FFact.swap_def (old now : List Str) (f : FFact) : f.swap old now = .mk f.op (swapN old now f.name) f.path f.cls f.n (f.kids.map (FFact.swap old now)) := by
 cases f; rw [FFact.swap, FFact.swaps_eq]; rfl

theorem part6_nil' (op : Int) (name : Str) (path : List Str) (cls : Str) (n : Int) : AVleL [.int .i64 op, .str name, .slc 1 (strs path) .fro, .str cls, .int .i64 n, .slc 0 [] .nil] (part6 op name path cls n [] .nil) :=
 .cons aRfl (.cons aRfl (.cons aRfl (.cons aRfl (.cons aRfl (.one (AVle.nil (by simp)))))))

set_option maxRecDepth 10000 in
set_option maxHeartbeats 1000000 in
theorem refCopyFact_spec (old now : List Str) (hlo : old.length < big) (hon : old.length ≤ now.length) : ∀ (n : Nat) (f : FFact) (d : Nat), f.size ≤ n → f.size ≤ big → f.Slim d →
  PCalls Tryz.prog 62 [f.av, .slc 1 (strs old) .fro, .slc 1 (strs now) .fro] (f.swap old now).av := by
 intro n
 induction n with
 | zero => intro e d h; have := e.size_pos; omega
 | succ n ih =>
  intro f d hn hbig htx
  have hlen := f.kids_length
  have hkl := f.kav_length
  have hb : big = 1099511627776 := rfl
  have hpl : f.path.length < big := htx d f (by rw [Part.nodes_eq]; exact List.mem_cons_self)
  refine PCalls.of_CW tO call62 Tryz.func62 rfl rfl fun s hok => ?_
  repeat (first | with_reducible apply CW.seq | refine CW.reg ?_ | refine wS rfl ?_)
  refine RL.allocL tO hok rfl rfl rfl rfl rfl rfl rfl (fun b6 hok => ?_)
  repeat (first | (with_reducible first | apply CW.seq | apply aN) | refine RL.nil ?_)
  refine CW.drw tO mixed rfl (RD.run rfl ?_)
  refine RD.appendF 6 tO rfl rfl rfl rfl rfl rfl rfl rfl rfl (by intro k; simp) rfl rfl rfl (.inl rfl) (.inr rfl) rfl (strs_elem _) (by simp only [List.length_nil, Nat.zero_add, strs_length]; show _ * 16 ≤ _; omega) (by simp only [List.length_nil, Nat.zero_add, strs_length]; omega) (.inl rfl) ?_; refine RD.run rfl ?_
  refine RD.allocL 12 tO hok rfl rfl rfl rfl rfl rfl rfl rfl rfl (fun b7 hok => ?_); refine RD.run rfl ?_
  refine RD.storeL 13 tO hok rfl rfl rfl rfl rfl rfl rfl rfl rfl rfl rfl (by repeat (first | exact Sel.here | apply Sel.there)) (by exact rfl) (fun hok => ?_); refine RD.run rfl ?_
  refine RD.done rfl ?_
  refine aN ?_
  refine CW.boxWeakL hok b7 (part6 f.op f.name f.path f.cls f.n [] .nil) (by repeat (first | exact Sel.here | apply Sel.there)) (part6_nil' _ _ _ _ _) fun hok => ?_
  repeat (first | with_reducible apply CW.seq | refine CW.reg ?_ | refine wS rfl ?_)
  refine RL.callP rfl rfl rfl rfl rfl (refIndex_spec old .fro f.name _ (by omega)) ?_
  have hsd := FFact.swap_def old now f
  repeat (first | (with_reducible first | apply CW.seq | apply aN) | refine wR rfl ?_ | refine RL.nil ?_ | refine wS rfl ?_)
  refine CW.atCutL (σ := Unit) (fun _ => [(1, .slc 1 (strs old) .fro), (2, .slc 1 (strs now) .fro), (3, .fptr f.cells 0), (6, .ptr b6 0), (7, .ptr b7 0)]) (fun _ => [(.own b6, .box 55 [.int .i64 0, .str [], .slc 0 [] .nil, .str [], .int .i64 0, .slc 0 [] .nil]), (.own b7, .box 55 (part6 f.op (swapN old now f.name) f.path f.cls f.n [] .nil))]) (fun _ => True) ?_ ?_
  ·cases hi : old.findIdx? (· == f.name) with
   | none =>
    have h0 : idxFrom old f.name 0 = -1 := by simp [idxFrom, hi]
    have h1 : swapN old now f.name = f.name := by simp [swapN, hi]
    rw [h0, h1]
    refine CW.condF rfl ?_
    repeat (first | with_reducible apply CW.skip)
    exact CutL.mk () hok trivial (wE rfl) (by repeat (first | exact Sels.nil | (apply Sels.cons; · repeat (first | exact Sel.here | apply Sel.there))))
   | some i =>
    have h0 : idxFrom old f.name 0 = (i : Int) := by simp [idxFrom, hi]
    have hil : i < old.length := by rw [List.findIdx?_eq_some_iff_getElem] at hi; exact hi.1
    have hg : (strs now)[i]? = some (.str (swapN old now f.name)) := by simp [strs, swapN, hi, List.getElem?_eq_getElem (by omega : i < now.length)]
    rw [h0]
    refine CW.cond rfl (fun h => ?_) (fun h => by simp at h)
    repeat (first | refine CW.reg ?_ | refine RL.nil ?_ | refine wS rfl ?_ | refine RL.idx tO _ rfl rfl rfl rfl rfl rfl rfl rfl rfl rfl rfl (by assumption) rfl ?_ | refine RL.storeL tO hok rfl rfl rfl rfl rfl rfl rfl rfl rfl (by repeat (first | exact Sel.here | apply Sel.there)) (by exact rfl) (fun hok => ?_))
    exact CutL.mk () hok trivial (wE rfl) (by repeat (first | exact Sels.nil | (apply Sels.cons; · repeat (first | exact Sel.here | apply Sel.there))))
  intro _ _ hok
  generalize swapN old now f.name = nm at hsd hok ⊢
  repeat (first | (with_reducible first | apply CW.seq | apply aN | apply CW.block) | refine wR rfl ?_)
  refine CW.phantom hok 55 6 0 fun hok => ?_
  refine CW.loopL hok (σ := Nat × Own) (fun q => [(1, .slc 1 (strs old) .fro), (2, .slc 1 (strs now) .fro), (3, .fptr f.cells 0), (6, .ptr b6 0), (7, .ptr b7 0), (9, .int .i64 (q.1 : Int))])
   (fun q => [(.own b6, .box 55 [.int .i64 0, .str [], .slc 0 [] .nil, .str [], .int .i64 0, .slc 0 [] .nil]), (.own b7, .box 55 (part6 f.op nm f.path f.cls f.n ((f.kids.take q.1).map (FFact.swap old now)) q.2)), (q.2, .row 55 6 q.1)])
   (fun q => q.1 ≤ f.kids.length) (fun q => f.kids.length - q.1) (0, .nil) (Nat.zero_le _) (wE rfl) (by repeat (first | exact Sels.nil | (apply Sels.cons; · repeat (first | exact Sel.here | apply Sel.there)))) ?_
  rintro ⟨j, own⟩ hj hok
  simp only at hj hok ⊢
  repeat (first | (with_reducible first | apply CW.seq | apply aN) | refine wR rfl ?_)
  refine CW.cond rfl (fun h => ?_) (fun h => ?_)
  ·have hlt : j < f.kids.length := by rw [hkl] at h; simpa using h
   obtain ⟨k, hk, hk', hks⟩ := FFact.kid_at hlt
   repeat (with_reducible first | apply CW.seq | apply aN | apply CW.skip | apply CW.block)
   refine CW.drw tO mixed rfl (RD.run rfl ?_)
   refine RD.idx 5 j rfl rfl rfl rfl rfl rfl rfl rfl rfl rfl rfl rfl rfl hk' rfl ?_
   refine RD.run rfl ?_
   refine RD.calmPP (i := 9) rfl rfl rfl rfl rfl rfl rfl (ih k (d + 1) (by omega) (by omega) (htx.kid (List.mem_of_getElem? hk))) ?_; refine RD.run rfl ?_
   refine RD.loadL 1 tO hok rfl rfl rfl rfl rfl rfl rfl rfl (by repeat (first | exact Sel.here | apply Sel.there)) (by exact rfl) ?_; refine RD.run rfl ?_
   refine RD.append1L 11 tO hok rfl rfl rfl rfl rfl rfl rfl rfl rfl (by intro k; simp) rfl rfl rfl rfl rfl rfl rfl rfl (by repeat (first | exact Sel.here | apply Sel.there)) (by simp <;> omega) (by show (_ + 1) * 96 ≤ _; omega) (by omega) (fun b1 hok => ?_)
   refine RD.run rfl ?_
   refine RD.storeL 13 tO hok rfl rfl rfl rfl rfl rfl rfl rfl rfl rfl rfl (by repeat (first | exact Sel.here | apply Sel.there)) (by exact rfl) (fun hok => ?_); refine RD.run rfl ?_
   refine RD.done rfl ?_
   repeat (first | (with_reducible first | apply aN | apply iN) | refine wR rfl ?_)
   exact NextL.mk (j + 1, .own b1) hok hlt (by repeat (first | exact trivial | refine ⟨⟨_, rfl, aRfl⟩, ?_⟩ | refine ⟨⟨_, rfl, AVle.of_eq (by (rw [i64_succ (by omega)]))⟩, ?_⟩)) (by simp only [← map_take_succ (FFact.swap old now) hk, part6, List.map_append, List.map_cons, List.map_nil]; repeat (first | exact Sels.nil | (apply Sels.cons; · repeat (first | exact Sel.here | apply Sel.there)))) (by show f.kids.length - (j + 1) < f.kids.length - j; omega)
  ·have hge : f.kids.length ≤ j := by rw [hkl] at h; simpa using h
   have hje : j = f.kids.length := by omega
   subst hje
   rw [List.take_length] at hok ⊢
   repeat (first | (with_reducible first | apply CW.seq | apply aN | apply aX | apply iH | apply CW.ret | apply CW.exit) | refine CW.reg ?_ | refine RL.nil ?_ | refine RL.loadL tO hok rfl rfl rfl rfl rfl rfl (by repeat (first | exact Sel.here | apply Sel.there)) (by exact rfl) ?_ | refine RL.storeL tO hok rfl rfl rfl rfl rfl rfl rfl rfl rfl (by repeat (first | exact Sel.here | apply Sel.there)) (by exact rfl) (fun hok => ?_))
   rw [hsd]
   exact Fin.retP hok (resA_cell rfl rfl (Sel.get Sel.here hok) rfl) (part6_le _ _ _ _ _ _ own)
end Go.Proofs.YtaafacnoddjhgaaGreat

/- Contracts of the reference: anew. -/
namespace Go.Proofs.YtaafacnoddjhgaaGreat
open Go.AE

mutual
def FExp.lets : FExp → Nat
 | .mk o _ _ ks => (if o == 9 then 1 else 0) + FExp.letsL ks
def FExp.letsL : List FExp → Nat
 | [] => 0
 | k :: r => k.lets + FExp.letsL r
end
mutual
theorem FExp.lets_le : ∀ e : FExp, e.lets ≤ e.size
  | .mk o n t ks => by
    rw [FExp.lets, FExp.size]
    have := FExp.letsL_le ks
    split <;> omega
theorem FExp.letsL_le : ∀ l : List FExp, FExp.letsL l ≤ FExp.sizes l
  | [] => Nat.le_refl _
  | k :: r => by
    rw [FExp.letsL, FExp.sizes]
    have := FExp.lets_le k
    have := FExp.letsL_le r
    omega
end
theorem FExp.lets_def (e : FExp) : e.lets = (if e.op == 9 then 1 else 0) + FExp.letsL e.kids := by cases e; rfl

mutual
theorem renam_next : ∀ (e : FExp) (sc : List (Str × Str)) (k : Nat), k + e.size < 698 → (FExp.renam sc (firstN k) e).2 = firstN (k + e.lets)
  | .mk o n t ks, sc, k, h => by
    rw [FExp.size] at h
    rw [FExp.renam, FExp.lets]
    simp only [textN]
    by_cases h3 : o = 3
    · subst h3
      simp only [show ((3 : Int) == 3) = true from rfl, show ((3 : Int) == 9) = false from rfl, if_true, Bool.false_eq_true, if_false, Nat.zero_add]
      exact renams_next ks false t _ sc 0 k (by omega)
    · have h3' : (o == 3) = false := by simpa using h3
      by_cases h9 : o = 9
      · subst h9
        simp only [h3', show ((9 : Int) == 9) = true from rfl, Bool.false_eq_true, if_false, if_true]
        rw [insS_firstN (by omega), renams_next ks true t _ sc 0 (k + 1) (by omega), Nat.add_assoc]
      · have h9' : (o == 9) = false := by simpa using h9
        simp only [h3', h9', Bool.false_eq_true, if_false, Nat.zero_add]
        exact renams_next ks false t _ sc 0 k (by omega)
theorem renams_next : ∀ (ks : List FExp) (isLet : Bool) (t t' : Str) (sc : List (Str × Str)) (i k : Nat), k + FExp.sizes ks < 698 → (FExp.renams isLet t t' sc i (firstN k) ks).2 = firstN (k + FExp.letsL ks)
  | [], _, _, _, _, _, _, _ => rfl
  | e :: r, isLet, t, t', sc, i, k, h => by
    rw [FExp.sizes] at h
    rw [FExp.renams, FExp.letsL]
    simp only []
    rw [renam_next e _ k (by omega), renams_next r isLet t t' sc (i + 1) (k + e.lets) (by have := FExp.lets_le e; omega), Nat.add_assoc]
end

def pairs (old now : List Str) : List (Str × Str) := (old.zip now).reverse
theorem pairs_snoc {old now : List Str} (h : old.length = now.length) (a b : Str) : pairs (old ++ [a]) (now ++ [b]) = (a, b) :: pairs old now := by
 rw [pairs, List.zip_append h]; simp [pairs]
theorem pairs_take {old now : List Str} {j : Nat} {a b : Str} (ha : old[j]? = some a) (hb : now[j]? = some b) : pairs (old.take (j + 1)) (now.take (j + 1)) = (a, b) :: pairs (old.take j) (now.take j) := by
 rw [← take_snoc ha, ← take_snoc hb, pairs_snoc]
 have h1 := (List.getElem?_eq_some_iff.1 ha).1
 have h2 := (List.getElem?_eq_some_iff.1 hb).1
 simp [List.length_take]; omega
theorem neat_kids3 {e : FExp} (h : e.neat = true) (h3 : (e.op == 3) = true) : e.kids = [] := by
 rw [neat_name h h3]; rfl

def kbox (k : Nat) : AObj := .box 3 [.int .i64 (k : Int)]
def ebox (e : FExp) (t : Str) (ks : List FExp) (own : Own) : AObj := .box 27 (part4 e.op e.n t ks own)

set_option maxRecDepth 10000 in
set_option maxHeartbeats 2000000 in
theorem refAnew_spec : ∀ (n : Nat) (e : FExp) (old now : List Str) (oo on : Own) (nb k : Nat), e.size ≤ n → e.neat = true → k + e.size < 698 → old.length = now.length → old.length + n < 1000 →
    LCalls Tryz.prog 63 [e.av, .slc 1 (strs old) oo, .slc 1 (strs now) on, .ptr nb 0] [(.own nb, kbox k)]
      (fun o K => o = .ret (FExp.renam (pairs old now) (firstN k) e).1.av ∧ K = [(.own nb, kbox (k + e.lets))]) := by
  intro n
  induction n with
  | zero => intro e _ _ _ _ _ _ h; have := e.size_pos; omega
  | succ n ih =>
    intro e old now oo on nb k hn hneat hk hon ho
    have hlen := e.kids_length
    have hkl := e.kav_length
    have hb : big = 1099511627776 := rfl
    have hput := renam_def e (pairs old now) (firstN k)
    have hlets := FExp.lets_def e
    have hsz := e.size_def
    refine LCalls.of_CW tO call63 Tryz.func63 rfl rfl fun s hok => ?_
    repeat (first | with_reducible apply CW.seq | refine CW.reg ?_ | refine wS rfl ?_)
    refine RL.allocL tO hok rfl rfl rfl rfl rfl rfl rfl (fun b8 hok => ?_)
    repeat (first | (with_reducible first | apply CW.seq | apply aN) | refine CW.reg ?_ | refine RL.nil ?_ | refine wS rfl ?_)
    refine RL.allocL tO hok rfl rfl rfl rfl rfl rfl rfl (fun b9 hok => ?_)
    repeat (first | (with_reducible first | apply CW.seq | apply aN) | refine wR rfl ?_ | refine RL.nil ?_ | refine RL.storeL tO hok rfl rfl rfl rfl rfl rfl rfl rfl rfl (by repeat (first | exact Sel.here | apply Sel.there)) (by exact rfl) (fun hok => ?_))
    refine CW.boxWeakL hok b9 (part4 e.op e.n e.text [] .nil) (by repeat (first | exact Sel.here | apply Sel.there)) (part4_nil _ _ _) fun hok => ?_
    generalize hZ : (AV.int .i64 0) = z0
    refine CW.cond rfl (fun h3 => ?_) (fun h3 => ?_)
    · -- a name
      have h3' : (e.op == 3) = true := h3
      have hks := neat_kids3 hneat h3'
      have h9 : (e.op == 9) = false := by have : e.op = 3 := by simpa using h3'
                                          rw [this]; rfl
      have hres : (FExp.renam (pairs old now) (firstN k) e).1 = .mk e.op e.n ((stands (pairs old now) e.text).getD e.text) [] := by
        rw [hput, hks]; simp [textN, h3', FExp.renams]
      have hl0 : e.lets = 0 := by rw [hlets, hks, h9]; rfl
      rw [hres, hl0]
      subst hZ
      repeat (first | (with_reducible first | apply CW.seq | apply aN | apply CW.block) | refine wR rfl ?_)
      refine CW.loopL hok (σ := Nat) (fun j => [(1, .slc 1 (strs old) oo), (2, .slc 1 (strs now) on), (4, .fptr e.cells 0), (8, .ptr b8 0), (9, .ptr b9 0), (10, .int .i64 (j : Int))])
        (fun j => [(.own nb, kbox k), (.own b8, .box 27 [.int .i64 0, .int .i64 0, .str [], .slc 0 [] .nil]), (.own b9, ebox e ((stands (pairs (old.take j) (now.take j)) e.text).getD e.text) [] .nil)])
        (fun j => j ≤ old.length) (fun j => old.length - j) 0 (Nat.zero_le _) (wE rfl) (by repeat (first | exact Sels.nil | (apply Sels.cons; · repeat (first | exact Sel.here | apply Sel.there)))) ?_
      rintro j hj hok
      repeat (first | (with_reducible first | apply CW.seq | apply aN) | refine wR rfl ?_)
      refine CW.cond rfl (fun h => ?_) (fun h => ?_)
      · have hlt : j < old.length := by simpa using h
        obtain ⟨a, ha, ha'⟩ := elem_at (f := AV.str) hlt
        obtain ⟨b, hb1, hb'⟩ := elem_at (f := AV.str) (by omega : j < now.length)
        have hpt := pairs_take ha hb1
        repeat (with_reducible first | apply CW.seq | apply aN | apply CW.skip | apply CW.block)
        refine CW.drw tO mixed rfl (RD.run rfl ?_)
        refine RD.idx 2 j rfl rfl rfl rfl rfl rfl rfl rfl rfl rfl rfl rfl rfl ha' rfl ?_
        refine RD.run rfl (RD.done rfl ?_)
        with_reducible apply aN
        cases hat : (a == e.text) with
        | true =>
          refine CW.condT rfl ?_
          have hT : (stands (pairs (old.take (j + 1)) (now.take (j + 1))) e.text).getD e.text = b := by rw [hpt, stands, if_pos hat]; rfl
          repeat (first | (with_reducible first | apply aN | apply iN) | refine wR rfl ?_ | refine CW.reg ?_ | refine RL.nil ?_ | refine wS rfl ?_ | refine RL.idx tO _ rfl rfl rfl rfl rfl rfl rfl rfl rfl rfl rfl (by assumption) rfl ?_ | refine RL.storeL tO hok rfl rfl rfl rfl rfl rfl rfl rfl rfl (by repeat (first | exact Sel.here | apply Sel.there)) (by exact rfl) (fun hok => ?_))
          exact NextL.mk (j + 1) hok hlt (by repeat (first | exact trivial | refine ⟨⟨_, rfl, aRfl⟩, ?_⟩ | refine ⟨⟨_, rfl, AVle.of_eq (by (rw [i64_succ (by omega)]))⟩, ?_⟩)) (by simp only [hT]; repeat (first | exact Sels.nil | (apply Sels.cons; · repeat (first | exact Sel.here | apply Sel.there)))) (by show old.length - (j + 1) < old.length - j; omega)
        | false =>
          refine CW.condF rfl ?_
          have hT : (stands (pairs (old.take (j + 1)) (now.take (j + 1))) e.text).getD e.text = (stands (pairs (old.take j) (now.take j)) e.text).getD e.text := by rw [hpt, stands, if_neg (by rw [hat]; simp)]
          repeat (first | (with_reducible first | apply aN | apply iN | apply CW.skip) | refine wR rfl ?_)
          exact NextL.mk (j + 1) hok hlt (by repeat (first | exact trivial | refine ⟨⟨_, rfl, aRfl⟩, ?_⟩ | refine ⟨⟨_, rfl, AVle.of_eq (by (rw [i64_succ (by omega)]))⟩, ?_⟩)) (by simp only [hT]; repeat (first | exact Sels.nil | (apply Sels.cons; · repeat (first | exact Sel.here | apply Sel.there)))) (by show old.length - (j + 1) < old.length - j; omega)
      · have hge : j = old.length := by have : old.length ≤ j := by simpa using h
                                        omega
        subst hge
        rw [List.take_length, hon, List.take_length] at hok ⊢
        repeat (first | (with_reducible first | apply CW.seq | apply aN | apply aX | apply aR | apply iH | apply CW.ret | apply CW.exit) | refine CW.reg ?_ | refine RL.nil ?_ | refine RL.loadL tO hok rfl rfl rfl rfl rfl rfl (by repeat (first | exact Sel.here | apply Sel.there)) (by exact rfl) ?_ | refine RL.storeL tO hok rfl rfl rfl rfl rfl rfl rfl rfl rfl (by repeat (first | exact Sel.here | apply Sel.there)) (by exact rfl) (fun hok => ?_))
        exact Fin.retL hok (resA_cell rfl rfl (Sel.get Sel.here hok) rfl) (part4_le e.op e.n _ [] .nil) (by repeat (first | exact Sels.nil | (apply Sels.cons; · repeat (first | exact Sel.here | apply Sel.there)))) ⟨rfl, rfl⟩
    · have h3' : (e.op == 3) = false := h3
      subst hZ
      have hneat9 : (e.op == 9) = true → e.kids.length = 2 := fun h => neat_let hneat h
      have hT : textN (pairs old now) (firstN k) e.op e.text = (if e.op == 9 then freshS (firstN k) else e.text, firstN (k + (if e.op == 9 then 1 else 0))) := by
        rw [textN, if_neg (by rw [h3']; simp)]
        cases h9 : e.op == 9 with
        | true => simp only [if_true]; rw [insS_firstN (by omega)]
        | false => simp
      rw [hT] at hput
      simp only at hput
      generalize hk1 : k + (if e.op == 9 then 1 else 0) = k1 at hput
      generalize ht1 : (if e.op == 9 then freshS (firstN k) else e.text) = t1 at hput
      have hput1 := congrArg Prod.fst hput
      simp only at hput1
      have e1 : (if (e.op == 9 && (0 : Nat) == 0) = true then k else k1) = k := by rw [← hk1]; cases e.op == 9 <;> simp
      have e2 : (if (e.op == 9 && (0 : Nat) == 0) = true then e.text else t1) = e.text := by rw [← ht1]; cases e.op == 9 <;> simp
      repeat (first | (with_reducible first | apply CW.seq | apply aN | apply CW.skip | apply CW.block) | refine wR rfl ?_)
      refine CW.phantom hok 27 4 0 fun hok => ?_
      refine CW.loopL hok (σ := Nat × Own × List FExp × Nat) (fun q => [(1, .slc 1 (strs old) oo), (2, .slc 1 (strs now) on), (3, .ptr nb 0), (4, .fptr e.cells 0), (8, .ptr b8 0), (9, .ptr b9 0), (11, .int .i64 (q.1 : Int))])
        (fun q => [(.own nb, kbox (if e.op == 9 && q.1 == 0 then k else q.2.2.2)), (.own b8, .box 27 [.int .i64 0, .int .i64 0, .str [], .slc 0 [] .nil]), (.own b9, ebox e (if e.op == 9 && q.1 == 0 then e.text else t1) q.2.2.1 q.2.1), (q.2.1, .row 27 4 q.1)])
        (fun q => q.1 ≤ e.kids.length ∧ q.2.2.1.length = q.1 ∧ (FExp.renam (pairs old now) (firstN k) e).1 = .mk e.op e.n t1 (q.2.2.1 ++ (FExp.renams (e.op == 9) e.text t1 (pairs old now) q.1 (firstN q.2.2.2) (e.kids.drop q.1)).1) ∧ k + e.lets = q.2.2.2 + FExp.letsL (e.kids.drop q.1) ∧ q.2.2.2 + FExp.sizes (e.kids.drop q.1) < 698)
        (fun q => e.kids.length - q.1) (0, .nil, [], k1) ⟨Nat.zero_le _, rfl, hput1, by show k + e.lets = k1 + _; rw [List.drop_zero]; omega, by show k1 + _ < 698; rw [List.drop_zero]; split at hk1 <;> omega⟩ (wE rfl) (by simp only [e1, e2, ebox, List.map_nil]; repeat (first | exact Sels.nil | (apply Sels.cons; · repeat (first | exact Sel.here | apply Sel.there)))) ?_
      rintro ⟨j, own, rs, kj⟩ ⟨hj, hrs, hI, hL, hS⟩ hok
      simp only at hj hrs hI hL hS hok ⊢
      have hw : ∀ m : Nat, m < 1000 → IntKind.wrap .i64 ((m : Int) + 1) = ((m + 1 : Nat) : Int) := fun m hm => i64_succ (by omega)
      repeat (first | (with_reducible first | apply CW.seq | apply aN) | refine wR rfl ?_)
      refine CW.cond rfl (fun h => ?_) (fun h => ?_)
      · have hlt : j < e.kids.length := by rw [hkl] at h; simpa using h
        obtain ⟨x, hx, hx', hxs⟩ := FExp.kid_at hlt
        have hL0 := hL
        rw [drop_cons hx, FExp.renams] at hI
        rw [drop_cons hx, FExp.letsL] at hL
        rw [FExp.sizes_drop hx] at hS
        simp only at hI
        have hxn := neat_kid hneat (List.mem_of_getElem? hx)
        have hxl := x.lets_le
        have hj1 : ∀ i : Nat, (e.op == 9 && (i + 1 == 0)) = false := by simp
        cases h9 : (e.op == 9) with
        | false =>
          have hc : ¬ ((e.op == 9 && j == 0) = true) := by rw [h9]; simp
          rw [h9] at hok
          simp only [Bool.false_and, Bool.false_eq_true, if_false] at hok ⊢
          repeat (first | (with_reducible first | apply CW.seq | apply aN | apply CW.skip | apply CW.block) | refine CW.reg ?_ | refine wS rfl ?_)
          refine RL.knowF 51 rfl h9 ?_
          repeat (first | (with_reducible first | apply CW.seq | apply aN | apply CW.skip) | refine CW.reg ?_ | refine RL.nil ?_ | refine CW.condF rfl ?_ | refine wS rfl ?_ | refine RL.skip rfl rfl rfl ?_)
          refine RL.knowF 69 rfl h9 ?_
          repeat (first | (with_reducible first | apply aN | apply CW.skip) | refine RL.nil ?_ | refine CW.condF rfl ?_ | refine wS rfl ?_ | refine RL.skip rfl rfl rfl ?_)
          have hnx := renam_next x (pairs old now) kj (by omega)
          rw [show (e.op == 9 && j == 1) = false from (by rw [h9]; rfl), if_neg (by simp), hnx] at hI
          refine CW.drwJ (JS [(b9, _)]) tO mixed rfl (RJ.run (JS.one (Sel.get (by repeat (first | exact Sel.here | apply Sel.there)) hok)) rfl ?_)
          refine RJ.idx (JS.one (Sel.get (by repeat (first | exact Sel.here | apply Sel.there)) hok)) 5 j rfl rfl rfl rfl rfl rfl rfl rfl rfl rfl rfl rfl rfl hx' rfl ?_
          refine RJ.run (JS.one (Sel.get (by repeat (first | exact Sel.here | apply Sel.there)) hok)) rfl ?_
          refine RJ.loadA 1 tO (JS.one (Sel.get (by repeat (first | exact Sel.here | apply Sel.there)) hok)) rfl rfl rfl rfl rfl rfl rfl rfl (fun _ h => JS.fst h) (by exact rfl) ?_
          refine RJ.run (JS.one (Sel.get (by repeat (first | exact Sel.here | apply Sel.there)) hok)) rfl ?_
          refine RJ.callL (i := 10) rfl rfl rfl rfl rfl rfl rfl (ih x old now oo on nb kj (by omega) hxn (by omega) hon (by omega)) hok (by repeat (first | exact Sels.nil | (apply Sels.cons; · repeat (first | exact Sel.here | apply Sel.there)))) (fun _ _ ⟨_, hK⟩ hok => by subst hK; exact .inl (JS.one (Sel.get (by repeat (first | exact Sel.here | apply Sel.there)) hok))) ?_ (fun _ _ ⟨h, _⟩ _ => by cases h)
          rintro _ _ ⟨⟨⟩, rfl⟩ hok
          refine RJ.run (JS.one (Sel.get (by repeat (first | exact Sel.here | apply Sel.there)) hok)) rfl ?_
          refine RJ.append1L 12 tO hok rfl rfl rfl rfl rfl rfl rfl rfl rfl (by intro k; simp) rfl rfl rfl rfl rfl rfl rfl rfl (by repeat (first | exact Sel.here | apply Sel.there)) (by simp [hrs]) (by show (_ + 1) * 56 ≤ _; omega) (by omega) (fun _ hok => .inl (JS.one (Sel.get (by repeat (first | exact Sel.here | apply Sel.there)) hok))) (fun o2 hok => ?_)
          refine RJ.run (JS.one (Sel.get (by repeat (first | exact Sel.here | apply Sel.there)) hok)) rfl ?_
          refine RJ.storeL 14 tO hok rfl rfl rfl rfl rfl rfl rfl rfl rfl rfl rfl (by repeat (first | exact Sel.here | apply Sel.there)) (by exact rfl) (fun _ => .inr rfl) (fun hok => ?_)
          refine RD.done rfl ?_
          repeat (first | (with_reducible first | apply aN | apply iN) | refine wR rfl ?_)
          exact NextL.mk (j + 1, o2, rs ++ [(FExp.renam (pairs old now) (firstN kj) x).1], kj + x.lets) hok ⟨hlt, by simp [hrs], by rw [hI, List.append_assoc]; first | rfl | (rw [h9]; rfl), by show k + e.lets = kj + x.lets + FExp.letsL (e.kids.drop (j + 1)); omega, by show kj + x.lets + FExp.sizes (e.kids.drop (j + 1)) < 698; omega⟩ (by repeat (first | exact trivial | refine ⟨⟨_, rfl, aRfl⟩, ?_⟩ | refine ⟨⟨_, rfl, AVle.of_eq (by (rw [hw j (by omega)]))⟩, ?_⟩))
            (by simp only [hj1, Bool.false_eq_true, if_false, ebox, part4, List.map_append, List.map_cons, List.map_nil]; repeat (first | exact Sels.nil | (apply Sels.cons; · repeat (first | exact Sel.here | apply Sel.there)))) (by show e.kids.length - (j + 1) < e.kids.length - j; omega)
        | true =>
          have hk2 := hneat9 h9
          rw [h9] at hok
          by_cases hj0 : j = 0
          · subst hj0
            simp only [beq_self_eq_true, Bool.and_self, if_true] at hok ⊢
            rw [h9] at ht1 hlets
            simp only [if_true] at ht1 hlets
            have hkj : kj = k + 1 := by rw [List.drop_zero] at hL0; omega
            subst hkj; subst ht1
            repeat (first | (with_reducible first | apply CW.seq | apply aN | apply CW.skip | apply CW.block) | refine CW.reg ?_ | refine wS rfl ?_)
            refine RL.knowT 51 rfl h9 ?_
            repeat (first | (with_reducible first | apply CW.seq | apply aN) | refine CW.reg ?_ | refine RL.nil ?_ | refine CW.condT rfl ?_ | refine wS rfl ?_ | refine RL.loadL tO hok rfl rfl rfl rfl rfl rfl (by repeat (first | exact Sel.here | apply Sel.there)) (by exact rfl) ?_)
            refine RL.callPP rfl rfl rfl rfl rfl (refNamed_spec k (by omega)) ?_
            repeat (first | (with_reducible first | apply CW.seq | apply aN) | refine CW.reg ?_ | refine RL.nil ?_ | refine wS rfl ?_ | refine RL.loadL tO hok rfl rfl rfl rfl rfl rfl (by repeat (first | exact Sel.here | apply Sel.there)) (by exact rfl) ?_ | refine RL.storeL tO hok rfl rfl rfl rfl rfl rfl rfl rfl rfl (by repeat (first | exact Sel.here | apply Sel.there)) (by exact rfl) (fun hok => ?_))
            rw [hw k (by omega)] at hok ⊢
            refine RL.knowT 69 rfl h9 ?_
            repeat (first | (with_reducible first | apply aN | apply CW.skip) | refine RL.nil ?_ | refine CW.condF rfl ?_ | refine wS rfl ?_)
            have hnx := renam_next x (pairs old now) (k + 1) (by omega)
            rw [show (e.op == 9 && 0 == 1) = false from (by simp), if_neg (by simp), hnx] at hI
            refine CW.drwJ (JS [(b9, _)]) tO mixed rfl (RJ.run (JS.one (Sel.get (by repeat (first | exact Sel.here | apply Sel.there)) hok)) rfl ?_)
            refine RJ.idx (JS.one (Sel.get (by repeat (first | exact Sel.here | apply Sel.there)) hok)) 5 0 rfl rfl rfl rfl rfl rfl rfl rfl rfl rfl rfl rfl rfl hx' rfl ?_
            refine RJ.run (JS.one (Sel.get (by repeat (first | exact Sel.here | apply Sel.there)) hok)) rfl ?_
            refine RJ.loadA 1 tO (JS.one (Sel.get (by repeat (first | exact Sel.here | apply Sel.there)) hok)) rfl rfl rfl rfl rfl rfl rfl rfl (fun _ h => JS.fst h) (by exact rfl) ?_
            refine RJ.run (JS.one (Sel.get (by repeat (first | exact Sel.here | apply Sel.there)) hok)) rfl ?_
            refine RJ.callL (i := 10) rfl rfl rfl rfl rfl rfl rfl (ih x old now oo on nb (k + 1) (by omega) hxn (by omega) hon (by omega)) hok (by repeat (first | exact Sels.nil | (apply Sels.cons; · repeat (first | exact Sel.here | apply Sel.there)))) (fun _ _ ⟨_, hK⟩ hok => by subst hK; exact .inl (JS.one (Sel.get (by repeat (first | exact Sel.here | apply Sel.there)) hok))) ?_ (fun _ _ ⟨h, _⟩ _ => by cases h)
            rintro _ _ ⟨⟨⟩, rfl⟩ hok
            refine RJ.run (JS.one (Sel.get (by repeat (first | exact Sel.here | apply Sel.there)) hok)) rfl ?_
            refine RJ.append1L 12 tO hok rfl rfl rfl rfl rfl rfl rfl rfl rfl (by intro k; simp) rfl rfl rfl rfl rfl rfl rfl rfl (by repeat (first | exact Sel.here | apply Sel.there)) (by simp [hrs]) (by show (_ + 1) * 56 ≤ _; omega) (by omega) (fun _ hok => .inl (JS.one (Sel.get (by repeat (first | exact Sel.here | apply Sel.there)) hok))) (fun o2 hok => ?_)
            refine RJ.run (JS.one (Sel.get (by repeat (first | exact Sel.here | apply Sel.there)) hok)) rfl ?_
            refine RJ.storeL 14 tO hok rfl rfl rfl rfl rfl rfl rfl rfl rfl rfl rfl (by repeat (first | exact Sel.here | apply Sel.there)) (by exact rfl) (fun _ => .inr rfl) (fun hok => ?_)
            refine RD.done rfl ?_
            repeat (first | (with_reducible first | apply aN | apply iN) | refine wR rfl ?_)
            exact NextL.mk (0 + 1, o2, rs ++ [(FExp.renam (pairs old now) (firstN (k + 1)) x).1], (k + 1) + x.lets) hok ⟨hlt, by simp [hrs], by rw [hI, List.append_assoc]; first | rfl | (rw [h9]; rfl), by show k + e.lets = (k + 1) + x.lets + FExp.letsL (e.kids.drop (0 + 1)); omega, by show (k + 1) + x.lets + FExp.sizes (e.kids.drop (0 + 1)) < 698; omega⟩ (by repeat (first | exact trivial | refine ⟨⟨_, rfl, aRfl⟩, ?_⟩ | refine ⟨⟨_, rfl, AVle.of_eq (by (rw [hw 0 (by omega)]))⟩, ?_⟩))
              (by simp only [hj1, Bool.false_eq_true, if_false, ebox, part4, List.map_append, List.map_cons, List.map_nil]; repeat (first | exact Sels.nil | (apply Sels.cons; · repeat (first | exact Sel.here | apply Sel.there)))) (by show e.kids.length - (0 + 1) < e.kids.length - 0; omega)
          · have hj1' : j = 1 := by omega
            subst hj1'
            simp only [show ((1 : Nat) == 0) = false from rfl, Bool.and_false, Bool.false_eq_true, if_false] at hok ⊢
            repeat (first | (with_reducible first | apply CW.seq | apply aN | apply CW.skip | apply CW.block) | refine CW.reg ?_ | refine wS rfl ?_)
            refine RL.knowT 51 rfl h9 ?_
            repeat (first | (with_reducible first | apply CW.seq | apply aN | apply CW.skip) | refine CW.reg ?_ | refine RL.nil ?_ | refine CW.condF rfl ?_ | refine wS rfl ?_)
            refine RL.knowT 69 rfl h9 ?_
            repeat (first | (with_reducible first | apply CW.seq | apply aN) | refine RL.nil ?_ | refine CW.condT rfl ?_ | refine wS rfl ?_)
            have hsa : ∀ (l : List Str) (a : Str), strs (l ++ [a]) = strs l ++ [.str a] := fun l a => by simp [strs]
            have hnx := renam_next x ((e.text, t1) :: pairs old now) kj (by omega)
            rw [show (e.op == 9 && (1 : Nat) == 1) = true by rw [h9]; rfl, if_pos rfl, hnx] at hI
            refine CW.drwJ (JS [(b9, _)]) tO mixed rfl (RJ.run (JS.one (Sel.get (by repeat (first | exact Sel.here | apply Sel.there)) hok)) rfl ?_)
            refine RJ.idx (JS.one (Sel.get (by repeat (first | exact Sel.here | apply Sel.there)) hok)) 4 1 rfl rfl rfl rfl rfl rfl rfl rfl rfl rfl rfl rfl rfl hx' rfl ?_
            refine RJ.run (JS.one (Sel.get (by repeat (first | exact Sel.here | apply Sel.there)) hok)) rfl ?_
            refine RJ.loadA 1 tO (JS.one (Sel.get (by repeat (first | exact Sel.here | apply Sel.there)) hok)) rfl rfl rfl rfl rfl rfl rfl rfl (fun _ h => JS.fst h) (by exact rfl) ?_
            refine RJ.loadA 15 tO (JS.one (Sel.get (by repeat (first | exact Sel.here | apply Sel.there)) hok)) rfl rfl rfl rfl rfl rfl rfl rfl (fun _ h => JS.fst h) (by exact rfl) ?_
            refine RJ.run (JS.one (Sel.get (by repeat (first | exact Sel.here | apply Sel.there)) hok)) rfl ?_
            refine RJ.appendNL 7 tO hok rfl rfl rfl rfl rfl rfl rfl rfl rfl (by intro k; simp) rfl rfl rfl (.inr rfl) rfl (strs_elem _) rfl (strs_length _).symm (by show old.length * 16 ≤ _; omega) (by omega) (fun _ hok => .inl (JS.one (Sel.get (by repeat (first | exact Sel.here | apply Sel.there)) hok))) (fun q1 hok => ?_)
            refine RJ.run (JS.one (Sel.get (by repeat (first | exact Sel.here | apply Sel.there)) hok)) rfl ?_
            refine RJ.append1L 11 tO hok rfl rfl rfl rfl rfl rfl rfl rfl rfl (by intro k; simp) rfl rfl rfl rfl rfl rfl rfl rfl (by repeat (first | exact Sel.here | apply Sel.there)) (strs_length _).symm (by show (_ + 1) * 16 ≤ _; omega) (by omega) (fun _ hok => .inl (JS.one (Sel.get (by repeat (first | exact Sel.here | apply Sel.there)) hok))) (fun q2 hok => ?_)
            refine RJ.run (JS.one (Sel.get (by repeat (first | exact Sel.here | apply Sel.there)) hok)) rfl ?_
            refine RJ.appendNL 13 tO hok rfl rfl rfl rfl rfl rfl rfl rfl rfl (by intro k; simp) rfl rfl rfl (.inr rfl) rfl (strs_elem _) rfl (strs_length _).symm (by show now.length * 16 ≤ _; omega) (by omega) (fun _ hok => .inl (JS.one (Sel.get (by repeat (first | exact Sel.here | apply Sel.there)) hok))) (fun q3 hok => ?_)
            refine RJ.run (JS.one (Sel.get (by repeat (first | exact Sel.here | apply Sel.there)) hok)) rfl ?_
            refine RJ.append1L 17 tO hok rfl rfl rfl rfl rfl rfl rfl rfl rfl (by intro k; simp) rfl rfl rfl rfl rfl rfl rfl rfl (by repeat (first | exact Sel.here | apply Sel.there)) (strs_length _).symm (by show (_ + 1) * 16 ≤ _; omega) (by omega) (fun _ hok => .inl (JS.one (Sel.get (by repeat (first | exact Sel.here | apply Sel.there)) hok))) (fun q4 hok => ?_)
            refine RJ.run (JS.one (Sel.get (by repeat (first | exact Sel.here | apply Sel.there)) hok)) rfl ?_
            have hcall := ih x (old ++ [e.text]) (now ++ [t1]) q2 q4 nb kj (by omega) hxn (by omega) (by simp [hon]) (by simp; omega)
            rw [hsa, hsa, pairs_snoc hon] at hcall
            refine RJ.callL (i := 19) rfl rfl rfl rfl rfl rfl rfl hcall hok (by repeat (first | exact Sels.nil | (apply Sels.cons; · repeat (first | exact Sel.here | apply Sel.there)))) (fun _ _ ⟨_, hK⟩ hok => by subst hK; exact .inl (JS.one (Sel.get (by repeat (first | exact Sel.here | apply Sel.there)) hok))) ?_ (fun _ _ ⟨h, _⟩ _ => by cases h)
            rintro _ _ ⟨⟨⟩, rfl⟩ hok
            refine RJ.run (JS.one (Sel.get (by repeat (first | exact Sel.here | apply Sel.there)) hok)) rfl ?_
            refine RJ.append1L 21 tO hok rfl rfl rfl rfl rfl rfl rfl rfl rfl (by intro k; simp) rfl rfl rfl rfl rfl rfl rfl rfl (by repeat (first | exact Sel.here | apply Sel.there)) (by simp [hrs]) (by show (_ + 1) * 56 ≤ _; omega) (by omega) (fun _ hok => .inl (JS.one (Sel.get (by repeat (first | exact Sel.here | apply Sel.there)) hok))) (fun o2 hok => ?_)
            refine RJ.run (JS.one (Sel.get (by repeat (first | exact Sel.here | apply Sel.there)) hok)) rfl ?_
            refine RJ.storeL 23 tO hok rfl rfl rfl rfl rfl rfl rfl rfl rfl rfl rfl (by repeat (first | exact Sel.here | apply Sel.there)) (by exact rfl) (fun _ => .inr rfl) (fun hok => ?_)
            refine RD.done rfl ?_
            repeat (first | (with_reducible first | apply aN | apply aX | apply iH | apply CW.exit) | refine wR rfl ?_)
            exact NextL.mk (1 + 1, o2, rs ++ [(FExp.renam ((e.text, t1) :: pairs old now) (firstN kj) x).1], kj + x.lets) hok ⟨hlt, by simp [hrs], by rw [hI, List.append_assoc]; first | rfl | (rw [h9]; rfl), by show k + e.lets = kj + x.lets + FExp.letsL (e.kids.drop (1 + 1)); omega, by show kj + x.lets + FExp.sizes (e.kids.drop (1 + 1)) < 698; omega⟩ (by repeat (first | exact trivial | refine ⟨⟨_, rfl, aRfl⟩, ?_⟩ | refine ⟨⟨_, rfl, AVle.of_eq (by (rw [hw 1 (by omega)]))⟩, ?_⟩))
              (by simp only [hj1, Bool.false_eq_true, if_false, ebox, part4, List.map_append, List.map_cons, List.map_nil]; repeat (first | exact Sels.nil | (apply Sels.cons; · repeat (first | exact Sel.here | apply Sel.there)))) (by show e.kids.length - (1 + 1) < e.kids.length - 1; omega)
      · have hge : e.kids.length ≤ j := by rw [hkl] at h; simpa using h
        have hje : j = e.kids.length := by omega
        subst hje
        have hc : (e.op == 9 && e.kids.length == 0) = false := by
          cases h9 : (e.op == 9) with
          | false => rfl
          | true => rw [hneat9 h9]; rfl
        rw [List.drop_length, FExp.renams, List.append_nil] at hI
        rw [List.drop_length, FExp.letsL] at hL
        rw [hc] at hok ⊢
        simp only [Bool.false_eq_true, if_false] at hok ⊢
        rw [hI, hL, Nat.add_zero]
        repeat (first | (with_reducible first | apply CW.seq | apply aN | apply aX | apply iH | apply CW.ret | apply CW.exit) | refine CW.reg ?_ | refine RL.nil ?_ | refine RL.loadL tO hok rfl rfl rfl rfl rfl rfl (by repeat (first | exact Sel.here | apply Sel.there)) (by exact rfl) ?_ | refine RL.storeL tO hok rfl rfl rfl rfl rfl rfl rfl rfl rfl (by repeat (first | exact Sel.here | apply Sel.there)) (by exact rfl) (fun hok => ?_))
        exact Fin.retL hok (resA_cell rfl rfl (Sel.get Sel.here hok) rfl) (part4_le e.op e.n _ _ own) (by repeat (first | exact Sels.nil | (apply Sels.cons; · repeat (first | exact Sel.here | apply Sel.there)))) ⟨rfl, rfl⟩
end Go.Proofs.YtaafacnoddjhgaaGreat

/- Contracts of the reference: CanonOf, Canon, Same, Alike. -/
namespace Go.Proofs.YtaafacnoddjhgaaGreat
open Go.AE

theorem ACalls.args {P : Program} {f : FuncId} {xs ys : List AV} {s : Store} {R : AOut → Store → Prop} (h : AVleL xs ys) (k : ACalls P f ys s R) : ACalls P f xs s R := ⟨k.1, fun w p vs hwf hr => k.2 w p vs hwf (h.rel hr)⟩
theorem LCalls.args {P : Program} {f : FuncId} {xs ys : List AV} {K : LS} {C : AOut → LS → Prop} (h : AVleL xs ys) (k : LCalls P f ys K C) : LCalls P f xs K C := fun s hok => ACalls.args h (k s hok)

def FMethod.canonR (m : FMethod) : FMethod :=
 { kind := m.kind, name := m.name, params := firstN m.params.length, fact := m.fact.swap m.params (firstN m.params.length), body := (FExp.renam (pairs m.params (firstN m.params.length)) (firstN m.params.length) m.body).1 }
def FProg.canonR (P : FProg) : FProg := { classes := P.classes, methods := P.methods.map FMethod.canonR, main := (FExp.renam (pairs [] []) (firstN 0) P.main).1 }

structure FProg.CanonR (P : FProg) : Prop where
 clen : P.classes.length < big
 cls : ∀ c ∈ P.classes, c.parents.length < big ∧ c.slots.length < big ∧ c.inits.length < big
 mlen : P.methods.length < 1048577
 mth : ∀ m ∈ P.methods, m.params.length + m.body.size < 490 ∧ m.body.neat = true ∧ m.fact.size ≤ big ∧ m.fact.Slim 1
 main : P.main.size < 490 ∧ P.main.neat = true

set_option maxRecDepth 10000 in
set_option maxHeartbeats 2000000 in
theorem refCanonOf_spec (P : FProg) (hP : P.CanonR) : PCalls Tryz.prog 18 [P.av] P.canonR.av := by
 have hb : big = 1099511627776 := rfl
 have hcl := hP.clen
 have hml := hP.mlen
 refine PCalls.of_CW tO call18 Tryz.func18 rfl rfl fun s hok => ?_
 repeat (first | with_reducible apply CW.seq | refine CW.reg ?_ | refine wS rfl ?_)
 refine RL.allocL tO hok rfl rfl rfl rfl rfl rfl rfl (fun b2 hok => ?_)
 repeat (first | (with_reducible first | apply CW.seq | apply aN) | refine CW.reg ?_ | refine RL.nil ?_)
 refine RL.allocL tO hok rfl rfl rfl rfl rfl rfl rfl (fun b3 hok => ?_)
 refine RL.boxWeakL hok b3 (newProg [] .nil [] .nil) (by repeat (first | exact Sel.here | apply Sel.there)) newProg_nil fun hok => ?_
 repeat (first | (with_reducible first | apply CW.seq | apply aN | apply CW.block) | refine wR rfl ?_ | refine RL.nil ?_)
 refine CW.phantom hok 49 4 0 fun hok => ?_
 refine CW.loopL hok (σ := Nat × Own) (fun q => [(1, .fptr P.cells 0), (2, .ptr b2 0), (3, .ptr b3 0), (4, .int .i64 (q.1 : Int))])
  (fun q => [(.own b2, .box 29 [.slc 0 [] .nil, .slc 0 [] .nil, .int .i64 0, .int .i64 0, .str [], .slc 0 [] .nil]), (.own b3, .box 29 (newProg (P.classes.take q.1) q.2 [] .nil)), (q.2, .row 49 4 q.1)])
  (fun q => q.1 ≤ P.classes.length) (fun q => P.classes.length - q.1) (0, .nil) (Nat.zero_le _) (wE rfl) (by repeat (first | exact Sels.nil | (apply Sels.cons; · repeat (first | exact Sel.here | apply Sel.there)))) ?_
 rintro ⟨j, own⟩ hj hok
 simp only at hj hok ⊢
 repeat (first | (with_reducible first | apply CW.seq | apply aN) | refine wR rfl ?_)
 refine CW.cond rfl (fun h => ?_) (fun h => ?_)
 ·have hlt : j < P.classes.length := by simpa using h
  obtain ⟨c, hc, hc'⟩ := elem_at (f := FClass.av) hlt
  obtain ⟨q1, q2, q3⟩ := hP.cls c (List.mem_of_getElem? hc)
  have htk : P.classes.take j ++ [c] = P.classes.take (j + 1) := take_snoc hc
  repeat (with_reducible first | apply CW.seq | apply aN | apply CW.skip | apply CW.block)
  refine CW.drw tO mixed rfl (RD.run rfl ?_)
  refine RD.idx 5 j rfl rfl rfl rfl rfl rfl rfl rfl rfl rfl rfl rfl rfl hc' rfl ?_
  refine RD.run rfl ?_
  refine RD.calmPP (i := 7) rfl rfl rfl rfl rfl rfl rfl (refCopyClass_spec c q1 q2 q3) ?_; refine RD.run rfl ?_
  refine RD.loadL 1 tO hok rfl rfl rfl rfl rfl rfl rfl rfl (by repeat (first | exact Sel.here | apply Sel.there)) (by exact rfl) ?_; refine RD.run rfl ?_
  refine RD.append1L 9 tO hok rfl rfl rfl rfl rfl rfl rfl rfl rfl (by intro k; simp) rfl rfl rfl rfl rfl rfl rfl rfl (by repeat (first | exact Sel.here | apply Sel.there)) (by simp <;> omega) (by show (_ + 1) * 88 ≤ _; omega) (by omega) (fun b1 hok => ?_)
  refine RD.run rfl ?_
  refine RD.storeL 11 tO hok rfl rfl rfl rfl rfl rfl rfl rfl rfl rfl rfl (by repeat (first | exact Sel.here | apply Sel.there)) (by exact rfl) (fun hok => ?_); refine RD.run rfl ?_
  refine RD.done rfl ?_
  repeat (first | (with_reducible first | apply aN | apply iN) | refine wR rfl ?_)
  exact NextL.mk (j + 1, .own b1) hok hlt (by repeat (first | exact trivial | refine ⟨⟨_, rfl, aRfl⟩, ?_⟩ | refine ⟨⟨_, rfl, AVle.of_eq (by (rw [i64_succ (by omega)]))⟩, ?_⟩)) (by simp only [← htk, newProg, List.map_append, List.map_cons, List.map_nil]; repeat (first | exact Sels.nil | (apply Sels.cons; · repeat (first | exact Sel.here | apply Sel.there)))) (by show P.classes.length - (j + 1) < P.classes.length - j; omega)
 have hje : j = P.classes.length := by
  have : P.classes.length ≤ j := by simpa using h
  omega
 subst hje
 rw [List.take_length] at hok ⊢
 repeat (first | (with_reducible first | apply CW.seq | apply aN | apply aX | apply iH | apply CW.exit | apply CW.block) | refine wR rfl ?_)
 refine CW.boxWeakL hok b3 (newProg P.classes .fro [] .nil) (by repeat (first | exact Sel.here | apply Sel.there)) (.cons AVle.fro (AVleL.refl _)) fun hok => ?_
 refine CW.phantom hok 57 13 0 fun hok => ?_
 refine CW.loopL hok (σ := Nat × Own) (fun q => [(1, .fptr P.cells 0), (2, .ptr b2 0), (3, .ptr b3 0), (5, .int .i64 (q.1 : Int))])
  (fun q => [(.own b2, .box 29 [.slc 0 [] .nil, .slc 0 [] .nil, .int .i64 0, .int .i64 0, .str [], .slc 0 [] .nil]), (.own b3, .box 29 (newProg P.classes .fro ((P.methods.take q.1).map FMethod.canonR) q.2)), (q.2, .row 57 13 q.1)])
  (fun q => q.1 ≤ P.methods.length) (fun q => P.methods.length - q.1) (0, .nil) (Nat.zero_le _) (wE rfl) (by repeat (first | exact Sels.nil | (apply Sels.cons; · repeat (first | exact Sel.here | apply Sel.there)))) ?_
 rintro ⟨j, own⟩ hj hok
 simp only at hj hok ⊢
 repeat (first | (with_reducible first | apply CW.seq | apply aN) | refine wR rfl ?_)
 refine CW.cond rfl (fun h => ?_) (fun h => ?_)
 ·have hlt : j < P.methods.length := by simpa using h
  obtain ⟨m, hm, hm'⟩ := elem_at (f := FMethod.av) hlt
  obtain ⟨q1, q2, q3, q4⟩ := hP.mth m (List.mem_of_getElem? hm)
  have htk : (P.methods.take j).map FMethod.canonR ++ [m.canonR] = (P.methods.take (j + 1)).map FMethod.canonR := map_take_succ FMethod.canonR hm
  rw [FMethod.av, FMethod.cellsG] at hm'
  repeat (first | (with_reducible first | apply CW.seq | apply aN | apply CW.skip | apply CW.block) | refine CW.reg ?_ | refine wS rfl ?_ | refine RL.idx tO _ rfl rfl rfl rfl rfl rfl rfl rfl rfl rfl rfl (by assumption) rfl ?_)
  refine RL.newBox tO rfl rfl rfl rfl rfl rfl rfl (fun _ => rfl) rfl rfl (fun _ => rfl) rfl rfl rfl rfl ?_
  repeat (first | (with_reducible first | apply CW.seq | apply aN) | refine CW.reg ?_ | refine RL.nil ?_ | refine wS rfl ?_)
  refine RL.allocL tO hok rfl rfl rfl rfl rfl rfl rfl (fun b7 hok => ?_)
  repeat (first | (with_reducible first | apply CW.seq | apply aN) | refine CW.reg ?_ | refine RL.nil ?_ | refine RL.loadL tO hok rfl rfl rfl rfl rfl rfl (by repeat (first | exact Sel.here | apply Sel.there)) (by exact rfl) ?_ | refine RL.storeL tO hok rfl rfl rfl rfl rfl rfl rfl rfl rfl (by repeat (first | exact Sel.here | apply Sel.there)) (by exact rfl) (fun hok => ?_))
  rw [strs_length] at hok ⊢
  refine RL.callPP rfl rfl rfl rfl rfl (refFreshMany_spec m.params.length (by omega)) ?_
  repeat (first | with_reducible apply aN | refine RL.nil ?_ | refine wS rfl ?_)
  refine CW.drwJ (JS [(b3, _)]) tO mixed rfl (RJ.run (JS.one (Sel.get (by repeat (first | exact Sel.here | apply Sel.there)) hok)) rfl ?_)
  refine RJ.calmPP (i := 12) (JS.one (Sel.get (by repeat (first | exact Sel.here | apply Sel.there)) hok)) rfl rfl rfl rfl rfl rfl rfl (refCopyFact_spec m.params (firstN m.params.length) (by omega) (by rw [firstN_length]; omega) m.fact.size m.fact 1 (Nat.le_refl _) q3 q4) ?_
  refine RJ.loadA 1 tO (JS.one (Sel.get (by repeat (first | exact Sel.here | apply Sel.there)) hok)) rfl rfl rfl rfl rfl rfl rfl rfl (fun _ h => JS.fst h) (by exact rfl) ?_
  refine RJ.run (JS.one (Sel.get (by repeat (first | exact Sel.here | apply Sel.there)) hok)) rfl ?_
  refine RJ.callL (i := 18) rfl rfl rfl rfl rfl rfl rfl (refAnew_spec m.body.size m.body m.params (firstN m.params.length) .fro .fro b7 m.params.length (Nat.le_refl _) q2 (by omega) (by rw [firstN_length]) (by omega)) hok (by repeat (first | exact Sels.nil | (apply Sels.cons; · repeat (first | exact Sel.here | apply Sel.there)))) (fun _ _ ⟨_, hK⟩ hok => by subst hK; exact .inl (JS.one (Sel.get (by repeat (first | exact Sel.here | apply Sel.there)) hok))) ?_ (fun _ _ ⟨h, _⟩ _ => by cases h)
  rintro _ _ ⟨⟨⟩, rfl⟩ hok
  refine RJ.run (JS.one (Sel.get (by repeat (first | exact Sel.here | apply Sel.there)) hok)) rfl ?_
  refine RJ.append1L 21 tO hok rfl rfl rfl rfl rfl rfl rfl rfl rfl (by intro k; simp) rfl rfl rfl rfl rfl rfl rfl rfl (by repeat (first | exact Sel.here | apply Sel.there)) (by simp <;> omega) (by show (_ + 1) * 200 ≤ _; omega) (by omega) (fun _ hok => .inl (JS.one (Sel.get (by repeat (first | exact Sel.here | apply Sel.there)) hok))) (fun o2 hok => ?_)
  refine RJ.run (JS.one (Sel.get (by repeat (first | exact Sel.here | apply Sel.there)) hok)) rfl ?_
  refine RJ.storeL 23 tO hok rfl rfl rfl rfl rfl rfl rfl rfl rfl rfl rfl (by repeat (first | exact Sel.here | apply Sel.there)) (by exact rfl) (fun _ => .inr rfl) (fun hok => ?_)
  refine RD.done rfl ?_
  repeat (first | (with_reducible first | apply aN | apply iN) | refine wR rfl ?_)
  exact NextL.mk (j + 1, o2) hok hlt (by repeat (first | exact trivial | refine ⟨⟨_, rfl, aRfl⟩, ?_⟩ | refine ⟨⟨_, rfl, AVle.of_eq (by (rw [i64_succ (by omega)]))⟩, ?_⟩)) (by simp only [← htk, newProg, List.map_append, List.map_cons, List.map_nil]; repeat (first | exact Sels.nil | (apply Sels.cons; · repeat (first | exact Sel.here | apply Sel.there)))) (by show P.methods.length - (j + 1) < P.methods.length - j; omega)
 have hje : j = P.methods.length := by
  have : P.methods.length ≤ j := by simpa using h
  omega
 subst hje
 rw [List.take_length] at hok ⊢
 obtain ⟨q1, q2⟩ := hP.main
 repeat (first | (with_reducible first | apply CW.seq | apply aN | apply aX | apply iH | apply CW.exit) | refine CW.reg ?_)
 refine RL.allocL tO hok rfl rfl rfl rfl rfl rfl rfl (fun b9 hok => ?_)
 repeat (first | (with_reducible first | apply CW.seq | apply aN) | refine CW.reg ?_ | refine RL.nil ?_ | refine wS rfl ?_ | refine RL.storeL tO hok rfl rfl rfl rfl rfl rfl rfl rfl rfl (by repeat (first | exact Sel.here | apply Sel.there)) (by exact rfl) (fun hok => ?_))
 refine RL.callL rfl rfl rfl rfl rfl (LCalls.args (.cons aRfl (.cons (AVle.nil (by intro b h; cases h)) (.cons (AVle.nil (by intro b h; cases h)) (AVleL.refl _)))) (refAnew_spec P.main.size P.main [] [] .nil .nil b9 0 (Nat.le_refl _) q2 (by omega) rfl (by simp; omega))) hok (by repeat (first | exact Sels.nil | (apply Sels.cons; · repeat (first | exact Sel.here | apply Sel.there)))) ?_ (fun _ _ ⟨h, _⟩ _ => by cases h)
 rintro _ _ ⟨⟨⟩, rfl⟩ hok
 repeat (first | (with_reducible first | apply CW.seq | apply aN | apply CW.ret) | refine CW.reg ?_ | refine RL.nil ?_ | refine wS rfl ?_ | refine RL.loadL tO hok rfl rfl rfl rfl rfl rfl (by repeat (first | exact Sel.here | apply Sel.there)) (by exact rfl) ?_ | refine RL.storeL tO hok rfl rfl rfl rfl rfl rfl rfl rfl rfl (by repeat (first | exact Sel.here | apply Sel.there)) (by exact rfl) (fun hok => ?_))
 exact Fin.retP hok (resA_cell rfl rfl (Sel.get Sel.here hok) rfl) (AVle.agg (.cons aRfl (.cons AVle.fro (AVleL.refl _))))
end Go.Proofs.YtaafacnoddjhgaaGreat

/- The reference's canonical program is the one of 'shape'; contracts of the reference: Canon, Same; the law FormCanons. -/
namespace Go.Proofs.YtaafacnoddjhgaaGreat
open Go.AE

theorem findIdx_snoc (l : List Str) (a x : Str) : (l ++ [a]).findIdx? (· == x) = ((l.findIdx? (· == x)).or (if a == x then some l.length else none)) := by
 rw [List.findIdx?_append]
 cases l.findIdx? (· == x) with
 | some i => rfl
 | none => cases h : (a == x) <;> simp [List.findIdx?_cons, h]

theorem stands_pairs : ∀ (n : Nat) (old now : List Str) (x : Str), old.length = n → old.length = now.length → old.Nodup → (stands (pairs old now) x).getD x = swapN old now x
  | 0, old, now, x, hn, hl, _ => by
    have e1 : old = [] := List.eq_nil_of_length_eq_zero hn
    have e2 : now = [] := List.eq_nil_of_length_eq_zero (by omega)
    subst e1; subst e2; rfl
  | n + 1, old, now, x, hn, hl, hnd => by
    obtain ⟨old', a, rfl⟩ : ∃ l a, old = l ++ [a] := ⟨old.dropLast, old.getLast (by intro e; rw [e] at hn; cases hn), (List.dropLast_concat_getLast _).symm⟩
    obtain ⟨now', b, rfl⟩ : ∃ l a, now = l ++ [a] := ⟨now.dropLast, now.getLast (by intro e; rw [e] at hl; rw [hl] at hn; cases hn), (List.dropLast_concat_getLast _).symm⟩
    simp only [List.length_append, List.length_singleton] at hn hl
    have hl' : old'.length = now'.length := by omega
    rw [pairs_snoc hl', stands]
    have hnd' := (List.nodup_append.1 hnd).1
    have ih := stands_pairs n old' now' x (by omega) hl' hnd'
    have hdis : ∀ y ∈ old', y ≠ a := fun y hy => (List.nodup_append.1 hnd).2.2 y hy a (by simp)
    unfold swapN at ih ⊢
    rw [findIdx_snoc]
    cases hf : old'.findIdx? (· == x) with
    | some i =>
      rw [hf] at ih
      rw [List.findIdx?_eq_some_iff_getElem] at hf
      obtain ⟨q1, q2, -⟩ := hf
      have hax : (a == x) = false := by
        have : old'[i] = x := by simpa using q2
        have h3 := hdis _ (List.getElem_mem q1)
        rw [this] at h3
        cases hq : (a == x) with
        | false => rfl
        | true => exact absurd (by simpa using hq) (Ne.symm h3)
      simp only [hax, Bool.false_eq_true, if_false, Option.some_or]
      rw [ih]
      simp only [List.getD_eq_getElem?_getD]
      rw [List.getElem?_append_left (by omega)]
    | none =>
      rw [hf] at ih
      cases hax : (a == x) with
      | true =>
        simp only [if_true, Option.none_or, Option.getD_some, List.getD_eq_getElem?_getD]
        rw [List.getElem?_append_right (by omega), hl']; simp
      | false => simpa using ih

mutual
theorem renam_swap {ps ns : List Str} (hl : ps.length = ns.length) (hnd : ps.Nodup) (h0 : [] ∉ ps) : ∀ f : FFact, f.renam (pairs ps ns) = f.swap ps ns
  | .mk o x p c n ks => by
    rw [FFact.renam, FFact.swap, renams_swap hl hnd h0 ks]
    congr 1
    by_cases hx : x = []
    · subst hx
      have : ps.findIdx? (· == []) = none := by
        rw [List.findIdx?_eq_none_iff]
        intro y hy
        cases hq : (y == ([] : Str)) with
        | false => rfl
        | true =>
          have : y = [] := by simpa using hq
          rw [this] at hy; exact absurd hy h0
      rw [swapN, this]; rfl
    · rw [if_neg (by simpa using hx)]
      exact stands_pairs _ ps ns x rfl hl hnd
theorem renams_swap {ps ns : List Str} (hl : ps.length = ns.length) (hnd : ps.Nodup) (h0 : [] ∉ ps) : ∀ l : List FFact, FFact.renams (pairs ps ns) l = FFact.swaps ps ns l
 | [] => rfl
 | k :: r => by rw [FFact.renams, FFact.swaps, renam_swap hl hnd h0 k, renams_swap hl hnd h0 r]
end

theorem paramsN_pairs : ∀ (r pre : List Str), pre.length + r.length < 698 →
    paramsN r (firstN pre.length) (pairs pre (firstN pre.length)) (firstN pre.length) = (firstN (pre ++ r).length, pairs (pre ++ r) (firstN (pre ++ r).length), firstN (pre ++ r).length)
  | [], pre, _ => by rw [paramsN, List.append_nil]
  | x :: r, pre, h => by
    simp only [List.length_cons] at h
    have hl : (pre ++ [x]).length = pre.length + 1 := by simp
    have h1 : firstN pre.length ++ [freshS (firstN pre.length)] = firstN (pre ++ [x]).length := by rw [hl, firstN]
    rw [paramsN, insS_firstN (by omega), ← pairs_snoc (by rw [firstN_length]), h1, ← hl, paramsN_pairs r (pre ++ [x]) (by rw [hl]; omega), List.append_assoc]; rfl

structure FMethod.Nice (m : FMethod) : Prop where
 plen : m.params.length ≤ 3
 names : m.params.all nameS = true
 nodup : m.params.Nodup
 body : goodB m.body = true
 size : m.body.size ≤ 120

theorem methodsOk_nice {names slots : List Str} : ∀ {l : List FMethod} {cnt : Nat} {m : FMethod}, methodsOk names slots cnt l = true → m ∈ l → m.Nice
  | [], _, _, _, h => by cases h
  | a :: l, cnt, m, h, hm => by
    simp only [methodsOk, Bool.and_eq_true] at h
    rcases List.mem_cons.1 hm with rfl | hm
    · have h1 := h.1
      simp only [methodOk, mB1, params_known, knownB, Bool.and_eq_true, decide_eq_true_eq] at h1
      obtain ⟨⟨-, h2⟩, ⟨h3, h4⟩, -, ⟨h5, h6⟩, -⟩ := h1
      exact ⟨by omega, h3, h4, h5, by omega⟩
    · exact methodsOk_nice h.2 hm

structure FProg.Nice (P : FProg) : Prop where
 mlen : P.methods.length ≤ 16
 mth : ∀ m ∈ P.methods, m.Nice
 main : goodB P.main = true
 size : P.main.size ≤ 120
theorem progOk_nice {P : FProg} (h : progOk P = true) : P.Nice := by
 unfold progOk at h
 cases hc : clsAll P.classes with
 | none => rw [hc] at h; cases h
 | some st =>
  rw [hc] at h
  simp only [Bool.and_eq_true, decide_eq_true_eq] at h
  obtain ⟨h1, h2, h3, h4⟩ := h
  have h5 := knownB_size h2
  simp only [knownB, Bool.and_eq_true] at h2
  exact ⟨by omega, fun m hm => methodsOk_nice h3 hm, h2.1.1, h5⟩

theorem nil_no_name : nameS [] = false := rfl
theorem FMethod.Nice.canon {m : FMethod} (h : m.Nice) : m.canonR = m.canon := by
 have h0 : [] ∉ m.params := fun hm => by
  have := List.all_eq_true.1 h.names _ hm
  rw [nil_no_name] at this; cases this
 have hp := paramsN_pairs m.params [] (by have := h.plen; simp; omega)
 simp only [List.length_nil, List.nil_append] at hp
 have hp' : paramsN m.params [] [] [] = (firstN m.params.length, pairs m.params (firstN m.params.length), firstN m.params.length) := hp
 unfold FMethod.canonR FMethod.canon
 rw [hp']
 simp only
 rw [renam_swap (by rw [firstN_length]) h.nodup h0]
theorem FProg.Nice.canon {P : FProg} (h : P.Nice) : P.canonR = P.canon := by
 unfold FProg.canonR FProg.canon
 congr 1
 exact List.map_congr_left fun m hm => (h.mth m hm).canon

theorem canonR_of {P : FProg} (hP : P.Fair) (hs : P.Slim) (h : P.Nice) : P.CanonR := by
 refine ⟨hP.clen, fun c hcm => ⟨(hP.cls c hcm).parents.1, (hP.cls c hcm).slots.1, (hP.cls c hcm).ilen⟩, by have := h.mlen; omega, fun m hm => ?_, ⟨by have := h.size; omega, good_neat h.main⟩⟩
 have := (h.mth m hm).plen
 have := (h.mth m hm).size
 exact ⟨by omega, good_neat (h.mth m hm).body, Nat.le_of_lt (hP.mth m hm).fact.size, hs m hm⟩

/-! ### Sizes stay -/
mutual
theorem renam_size : ∀ (e : FExp) (sc : List (Str × Str)) (tk : List Str), (FExp.renam sc tk e).1.size = e.size
  | .mk o n t ks, sc, tk => by
    rw [FExp.renam]
    simp only [FExp.size]
    rw [renams_size]
theorem renams_size : ∀ (ks : List FExp) (isLet : Bool) (t t' : Str) (sc : List (Str × Str)) (i : Nat) (tk : List Str), FExp.sizes (FExp.renams isLet t t' sc i tk ks).1 = FExp.sizes ks
  | [], _, _, _, _, _, _ => rfl
  | k :: r, isLet, t, t', sc, i, tk => by
    rw [FExp.renams]
    simp only [FExp.sizes]
    rw [renam_size, renams_size]
end
mutual
theorem frenam_size (sc : List (Str × Str)) : ∀ f : FFact, (f.renam sc).size = f.size ∧ (f.renam sc).pl = f.pl
  | .mk o x p c n ks => by
    obtain ⟨h1, h2⟩ := frenams_size sc ks
    rw [FFact.renam]
    simp only [FFact.size, FFact.pl]
    rw [h1, h2]; exact ⟨rfl, rfl⟩
theorem frenams_size (sc : List (Str × Str)) : ∀ l : List FFact, FFact.sizes (FFact.renams sc l) = FFact.sizes l ∧ FFact.pls (FFact.renams sc l) = FFact.pls l
  | [] => ⟨rfl, rfl⟩
  | k :: r => by
    obtain ⟨h1, h2⟩ := frenam_size sc k
    obtain ⟨h3, h4⟩ := frenams_size sc r
    rw [FFact.renams]
    simp only [FFact.sizes, FFact.pls]
    rw [h1, h2, h3, h4]; exact ⟨rfl, rfl⟩
end
theorem slim_of_pl {f : FFact} (h : f.pl < big) : ∀ d, f.Slim d := by
 have key : ∀ (n : Nat) (f : FFact) (d : Nat), f.size ≤ n → ∀ d' g, (d', Part.fact g) ∈ (Part.fact f).nodes d → g.path.length ≤ f.pl := by
  intro n
  induction n with
  | zero => intro f d h; have := f.size_pos; omega
  | succ n ih =>
   intro f d hn d' g hg
   rw [Part.nodes_eq] at hg
   rw [FFact.pl_def]
   rcases List.mem_cons.1 hg with e | hg
   ·cases e; omega
   ·obtain ⟨p, hp, hg⟩ := List.mem_flatMap.1 hg
    obtain ⟨k, hk, rfl⟩ := List.mem_map.1 hp
    have h1 := ih k (d + 1) (by have := FFact.kids_size hk; omega) d' g hg
    have h2 := pls_mem hk
    omega
 exact fun d d' g hg => Nat.lt_of_le_of_lt (key _ f d (Nat.le_refl _) d' g hg) h

structure FProg.Sm (P : FProg) : Prop where
 clen : P.classes.length < big
 cls : ∀ c ∈ P.classes, c.parents.length < big ∧ c.slots.length < big ∧ c.inits.length < big
 mlen : P.methods.length < big
 mth : ∀ m ∈ P.methods, m.params.length < big ∧ m.fact.size ≤ big ∧ m.fact.pl < big ∧ m.body.size ≤ big
 main : P.main.size ≤ big

theorem sm_of {P : FProg} (h : P.weight ≤ 1048576) : P.Sm := by
 have hf := (prog_fair h).1
 refine ⟨hf.clen, fun c hc => ⟨(hf.cls c hc).parents.1, (hf.cls c hc).slots.1, (hf.cls c hc).ilen⟩, hf.mlen, fun m hm => ?_, Nat.le_of_lt hf.main.size⟩
 have hw : m.fact.weight ≤ 1048576 := by
  have h1 := map_sum_mem (f := FMethod.weight) hm
  unfold FProg.weight at h
  have h2 : m.weight = m.name.length + sumS m.params + m.fact.weight + m.body.weight + 4 := rfl
  omega
 exact ⟨(hf.mth m hm).params.1, Nat.le_of_lt (hf.mth m hm).fact.size, (fact_fair hw).2.1, Nat.le_of_lt (hf.mth m hm).body.size⟩
theorem sm_zero : zeroP.Sm := ⟨by decide, (fun _ h => by cases h), by decide, (fun _ h => by cases h), by decide⟩
theorem sm_canon {P : FProg} (h : P.Sm) (hn : P.Nice) : P.canon.Sm := by
 refine ⟨h.clen, h.cls, by simpa [FProg.canon] using h.mlen, fun m hm => ?_, by show (FExp.renam [] [] P.main).1.size ≤ big; rw [renam_size]; exact h.main⟩
 obtain ⟨m0, hm0, rfl⟩ := List.mem_map.1 hm
 obtain ⟨h1, h2, h3, h4⟩ := h.mth m0 hm0
 rw [← (hn.mth m0 hm0).canon]
 have h0 : [] ∉ m0.params := fun hm => by
  have := List.all_eq_true.1 (hn.mth m0 hm0).names _ hm
  rw [nil_no_name] at this; cases this
 obtain ⟨g1, g2⟩ := frenam_size (pairs m0.params (firstN m0.params.length)) m0.fact
 rw [renam_swap (by rw [firstN_length]) (hn.mth m0 hm0).nodup h0] at g1 g2
 refine ⟨?_, ?_, ?_, ?_⟩
 ·show (firstN m0.params.length).length < big; rw [firstN_length]; exact h1
 ·show (m0.fact.swap m0.params (firstN m0.params.length)).size ≤ big; rw [g1]; exact h2
 ·show (m0.fact.swap m0.params (firstN m0.params.length)).pl < big; rw [g2]; exact h3
 ·show (FExp.renam _ _ m0.body).1.size ≤ big; rw [renam_size]; exact h4
end Go.Proofs.YtaafacnoddjhgaaGreat

/- Contracts of the reference: Canon, Same; the law FormCanons. -/
namespace Go.Proofs.YtaafacnoddjhgaaGreat
open Go.AE

set_option maxRecDepth 10000 in
set_option maxHeartbeats 2000000 in
theorem refSame_spec (a b : FProg) (ha : a.Sm) (hb2 : b.Sm) : PCalls Tryz.prog 8 [a.av, b.av] (.bool (FProg.beq a b)) := by
 have hb : big = 1099511627776 := rfl
 have hcl := ha.clen
 have hcl2 := hb2.clen
 have hml := ha.mlen
 have hml2 := hb2.mlen
 refine PCalls.of_CW tO call8 Tryz.func8 rfl rfl fun s hok => ?_
 have t1 := fun s => refSameExp_spec a.main.size a.main b.main s (Nat.le_refl _) ha.main hb2.main
 have hdef : FProg.beq a b = (FExp.beq a.main b.main && (listB FClass.beq a.classes b.classes && listB FMethod.beq a.methods b.methods)) := rfl
 refine CW.seqCutS [(2, .fptr a.cells 0), (3, .fptr b.cells 0)] ?_ ?_
 ·repeat (first | refine wR rfl ?_)
  exact ⟨rfl, (wE rfl), sSub⟩
 refine CW.seq ?_
 refine CW.seqCutS [(2, .fptr a.cells 0), (3, .fptr b.cells 0), (30, .bool (!((decide (a.classes.length = b.classes.length) && decide (a.methods.length = b.methods.length)) && FExp.beq a.main b.main)))] ?_ ?_
 ·generalize FExp.beq a.main b.main = p1 at t1 ⊢
  repeat' (first | refine CW.reg ?_ | refine RL.nil ?_ | refine wS rfl ?_ | refine RL.skip rfl rfl rfl ?_ | refine RL.gstepF tO rfl rfl rfl rfl rfl rfl rfl (fun _ => ?_) (fun _ => ?_) | refine RL.callP rfl rfl rfl rfl rfl (t1 _) ?_)
  all_goals refine ⟨rfl, (by repeat (first | exact trivial | refine ⟨⟨_, rfl, aRfl⟩, ?_⟩ | refine ⟨⟨_, rfl, AVle.of_eq (by (simp_all; (try (rw [Bool.eq_iff_iff]; simp; omega)); (try omega)))⟩, ?_⟩)), sSub⟩
 refine CW.cond rfl (fun h => ?_) (fun h => ?_)
 ·repeat (first | (with_reducible first | apply CW.seq | apply aN | apply aR | apply CW.ret) | refine wR rfl ?_)
  have : FProg.beq a b = false := by
   rw [hdef]
   cases h1 : FExp.beq a.main b.main with
   | false => rfl
   | true =>
    cases h2 : listB FClass.beq a.classes b.classes with
    | false => rfl
    | true =>
     cases h3 : listB FMethod.beq a.methods b.methods with
     | false => rfl
     | true => rw [listB_length h2, listB_length h3, h1] at h; simp at h
  rw [this]
  exact Fin.retP hok rfl aRfl
 ·have hl : a.classes.length = b.classes.length ∧ a.methods.length = b.methods.length ∧ FExp.beq a.main b.main = true := by
   simp at h; exact ⟨h.1.1, h.1.2, h.2⟩
  obtain ⟨hl1, hl2, hh⟩ := hl
  repeat (first | (with_reducible first | apply CW.seq | apply aN | apply CW.skip | apply CW.block) | refine wR rfl ?_)
  refine CW.loop (σ := Nat) (fun j => [(2, .fptr a.cells 0), (3, .fptr b.cells 0), (5, .int .i64 (j : Int))]) (fun _ => sto s []) (fun j => j ≤ a.classes.length ∧ FProg.beq a b = (listB FClass.beq (a.classes.drop j) (b.classes.drop j) && listB FMethod.beq a.methods b.methods)) (fun j => a.classes.length - j) 0 ⟨by omega, by rw [hdef, hh]; rfl⟩ (wE rfl) sSub ?_
  rintro j ⟨hj, hI⟩
  repeat (first | (with_reducible first | apply CW.seq | apply aN) | refine wR rfl ?_)
  refine CW.cond rfl (fun h => ?_) (fun h => ?_)
  ·have hlt : j < a.classes.length := by simpa using h
   obtain ⟨x, hx, hx'⟩ := elem_at (f := FClass.av) hlt
   obtain ⟨y, hy, hy'⟩ := elem_at (f := FClass.av) (by omega : j < b.classes.length)
   obtain ⟨x1, x2, x3⟩ := ha.cls x (List.mem_of_getElem? hx)
   obtain ⟨y1, y2, y3⟩ := hb2.cls y (List.mem_of_getElem? hy)
   rw [listB_drop hx hy] at hI
   repeat (first | (with_reducible first | apply CW.seq | apply aN | apply CW.skip | apply CW.block) | refine CW.drw tO mixed rfl (RD.run rfl ?_))
   refine RD.idx 3 j rfl rfl rfl rfl rfl rfl rfl rfl rfl rfl rfl rfl rfl hx' rfl ?_
   refine RD.idx 8 j rfl rfl rfl rfl rfl rfl rfl rfl rfl rfl rfl rfl rfl hy' rfl ?_
   refine RD.run rfl ?_
   refine RD.calmPP (i := 10) rfl rfl rfl rfl rfl rfl rfl (refSameClass_spec x y x1 x2 x3 y3) ?_; refine RD.run rfl ?_
   refine RD.done rfl ?_
   cases hxy : FClass.beq x y with
   | true =>
    repeat (first | (with_reducible first | apply aN | apply iN | apply CW.skip) | refine wR rfl ?_ | refine CW.condF rfl ?_)
    exact ⟨j + 1, ⟨hlt, by rw [hI, hxy, Bool.true_and]⟩, (by repeat (first | exact trivial | refine ⟨⟨_, rfl, aRfl⟩, ?_⟩ | refine ⟨⟨_, rfl, AVle.of_eq (by (rw [i64_succ (by omega)]))⟩, ?_⟩)), sSub, by omega⟩
   | false =>
    repeat (first | (with_reducible first | apply CW.seq | apply aN | apply aR | apply iR | apply CW.ret) | refine wR rfl ?_ | refine CW.condT rfl ?_)
    rw [hI, hxy]
    exact Fin.retP hok rfl aRfl
  ·have hge : a.classes.length ≤ j := by simpa using h
   rw [listB_ends hge (by omega), Bool.true_and] at hI
   repeat (first | (with_reducible first | apply CW.seq | apply aN | apply aX | apply iH | apply CW.exit | apply CW.block) | refine wR rfl ?_)
   refine CW.loop (σ := Nat) (fun j => [(2, .fptr a.cells 0), (3, .fptr b.cells 0), (6, .int .i64 (j : Int))]) (fun _ => sto s []) (fun j => j ≤ a.methods.length ∧ FProg.beq a b = listB FMethod.beq (a.methods.drop j) (b.methods.drop j)) (fun j => a.methods.length - j) 0 ⟨by omega, hI⟩ (wE rfl) sSub ?_
   rintro j ⟨hj, hI⟩
   repeat (first | (with_reducible first | apply CW.seq | apply aN) | refine wR rfl ?_)
   refine CW.cond rfl (fun h => ?_) (fun h => ?_)
   ·have hlt : j < a.methods.length := by simpa using h
    obtain ⟨x, hx, hx'⟩ := elem_at (f := FMethod.av) hlt
    obtain ⟨y, hy, hy'⟩ := elem_at (f := FMethod.av) (by omega : j < b.methods.length)
    obtain ⟨x1, x2, x3, x4⟩ := ha.mth x (List.mem_of_getElem? hx)
    obtain ⟨y1, y2, y3, y4⟩ := hb2.mth y (List.mem_of_getElem? hy)
    rw [listB_drop hx hy] at hI
    rw [FMethod.av, FMethod.cellsG] at hx' hy'
    repeat (first | (with_reducible first | apply CW.seq | apply aN | apply CW.skip | apply CW.block) | refine CW.drw tO mixed rfl (RD.run rfl ?_))
    refine RD.idx 3 j rfl rfl rfl rfl rfl rfl rfl rfl rfl rfl rfl rfl rfl hx' rfl ?_
    refine RD.idx 8 j rfl rfl rfl rfl rfl rfl rfl rfl rfl rfl rfl rfl rfl hy' rfl ?_
    refine RD.run rfl ?_
    refine RD.calmPP (i := 10) rfl rfl rfl rfl rfl rfl rfl (refSameMethod_spec x y x1 x2 y2 (Nat.le_of_lt x3) x4 y4) ?_; refine RD.run rfl ?_
    refine RD.done rfl ?_
    cases hxy : FMethod.beq x y with
    | true =>
     repeat (first | (with_reducible first | apply aN | apply iN | apply CW.skip) | refine wR rfl ?_ | refine CW.condF rfl ?_)
     exact ⟨j + 1, ⟨hlt, by rw [hI, hxy, Bool.true_and]⟩, (by repeat (first | exact trivial | refine ⟨⟨_, rfl, aRfl⟩, ?_⟩ | refine ⟨⟨_, rfl, AVle.of_eq (by (rw [i64_succ (by omega)]))⟩, ?_⟩)), sSub, by omega⟩
    | false =>
     repeat (first | (with_reducible first | apply CW.seq | apply aN | apply aR | apply iR | apply CW.ret) | refine wR rfl ?_ | refine CW.condT rfl ?_)
     rw [hI, hxy]
     exact Fin.retP hok rfl aRfl
   ·have hge : a.methods.length ≤ j := by simpa using h
    rw [listB_ends hge (by omega)] at hI
    repeat (first | (with_reducible first | apply CW.seq | apply aN | apply aX | apply iH | apply CW.ret | apply CW.exit) | refine wR rfl ?_)
    rw [hI]
    exact Fin.retP hok rfl aRfl

def FProg.canonE (P : FProg) : FProg := if progOk P then P.canon else zeroP
theorem shapeCanon_spec' (P : FProg) (hP : P.Fair) (hs : P.Slim) : PCalls Tryz.prog 6 [P.av] (.tup [P.canonE.av, err (progOk P)]) := fun s => shapeCanon_spec P s hP hs

end Go.Proofs.YtaafacnoddjhgaaGreat

/- Contracts: Alike, of 'shape' and of the reference. -/
namespace Go.Proofs.YtaafacnoddjhgaaGreat
open Go.AE

theorem shapeCheckP (P : FProg) (hP : P.Fair) : PCalls Tryz.prog 15 [P.av] (err (progOk P)) := fun s => shapeCheck_spec P s hP
theorem refProgP (P : FProg) (hP : P.Fair) : PCalls Tryz.prog 17 [P.av] (.bool (progOk P)) := fun s => by
 have := refProg_spec P s hP; rw [prog_known] at this; exact this
theorem shapeCanonP (P : FProg) (hP : P.Fair) (hs : P.Slim) (h : progOk P = true) : PCalls Tryz.prog 16 [P.av] P.canon.av := fun s => canon_spec P s (P.canonable hP hs h)
theorem refCanonP (P : FProg) (hP : P.Fair) (hs : P.Slim) (h : progOk P = true) : PCalls Tryz.prog 18 [P.av] P.canon.av := by
 have hn := progOk_nice h
 have hc := refCanonOf_spec P (canonR_of hP hs hn)
 rwa [hn.canon] at hc

theorem FProg.beq_order (a b : FProg) : FProg.beq a b = ((listB FClass.beq a.classes b.classes && listB FMethod.beq a.methods b.methods) && FExp.beq a.main b.main) := by
 rw [FProg.beq, Bool.and_comm]

def alikeB (P Q : FProg) : Bool := (progOk P && progOk Q) && FProg.beq P.canon Q.canon

set_option maxRecDepth 10000 in
set_option maxHeartbeats 2000000 in
theorem shapeAlike_spec (P Q : FProg) (hP : P.Fair) (hs : P.Slim) (hm : P.Sm) (hQ : Q.Fair) (hs2 : Q.Slim) (hm2 : Q.Sm) :
  PCalls Tryz.prog 10 [P.av, Q.av] (.tup [.bool (alikeB P Q), err (progOk P && progOk Q)]) := by
 refine PCalls.of_CW tO call10 Tryz.func10 rfl rfl fun s hok => ?_
 have c1 := shapeCheckP P hP
 have c2 := shapeCheckP Q hQ
 unfold alikeB
 cases h1 : progOk P with
 | false =>
  rw [h1] at c1
  repeat (first | (with_reducible first | apply CW.seq | apply aN) | refine wR rfl ?_ | refine CW.reg ?_ | refine wS rfl ?_)
  refine RL.callPP rfl rfl rfl rfl rfl c1 ?_
  repeat (first | (with_reducible first | apply CW.seq | apply aN | apply aR | apply CW.ret) | refine wR rfl ?_ | refine RL.nil ?_ | refine CW.condT rfl ?_ | refine wS rfl ?_ | refine RL.skip rfl rfl rfl ?_)
  exact Fin.retP hok rfl aRfl
 | true =>
  rw [h1] at c1
  cases h2 : progOk Q with
  | false =>
   rw [h2] at c2
   repeat (first | (with_reducible first | apply CW.seq | apply aN) | refine wR rfl ?_ | refine CW.reg ?_ | refine wS rfl ?_)
   refine RL.callPP rfl rfl rfl rfl rfl c1 ?_
   repeat (first | refine wS rfl ?_)
   refine RL.callPP rfl rfl rfl rfl rfl c2 ?_
   repeat (first | (with_reducible first | apply CW.seq | apply aN | apply aR | apply CW.ret) | refine wR rfl ?_ | refine RL.nil ?_ | refine CW.condT rfl ?_ | refine wS rfl ?_)
   exact Fin.retP hok rfl aRfl
  | true =>
   rw [h2] at c2
   have a1 := sm_canon hm (progOk_nice h1)
   have a2 := sm_canon hm2 (progOk_nice h2)
   have d1 := shapeCanonP P hP hs h1
   have d2 := shapeCanonP Q hQ hs2 h2
   rw [FProg.beq_order]
   generalize P.canon = C at a1 d1 ⊢
   generalize Q.canon = D at a2 d2 ⊢
   have e1 := sameClass_spec (.func 34 [] []) FClass.beq C.classes D.classes a1.clen a2.clen (fun j x y hx hy => by
    obtain ⟨x1, x2, x3⟩ := a1.cls x (List.mem_of_getElem? hx)
    obtain ⟨y1, y2, y3⟩ := a2.cls y (List.mem_of_getElem? hy)
    exact PCallV.of_calls (first := []) (cap := []) (alikeClass_spec x y x1 x2 x3 y1 y2 y3))
   have e2 := sameMethod_spec (.func 38 [] []) FMethod.beq C.methods D.methods a1.mlen a2.mlen (fun j x y hx hy => by
    obtain ⟨x1, x2, x3, x4⟩ := a1.mth x (List.mem_of_getElem? hx)
    obtain ⟨y1, y2, y3, y4⟩ := a2.mth y (List.mem_of_getElem? hy)
    exact PCallV.of_calls (first := []) (cap := []) (alikeMethod_spec x y x1 y1 x2 y2 (slim_of_pl x3 1) (slim_of_pl y3 1) x4 y4))
   have e3 := shapeSameExp_spec C.main.size C.main D.main (Nat.le_refl _) a1.main a2.main
   generalize listB FClass.beq C.classes D.classes = p1 at e1 ⊢
   generalize listB FMethod.beq C.methods D.methods = p2 at e2 ⊢
   generalize FExp.beq C.main D.main = p3 at e3 ⊢
   repeat (first | (with_reducible first | apply CW.seq | apply aN) | refine wR rfl ?_ | refine CW.reg ?_ | refine wS rfl ?_)
   refine RL.callPP rfl rfl rfl rfl rfl c1 ?_
   repeat (first | refine wS rfl ?_)
   refine RL.callPP rfl rfl rfl rfl rfl c2 ?_
   repeat (first | (with_reducible first | apply CW.seq | apply aN | apply CW.skip) | refine RL.nil ?_ | refine CW.condF rfl ?_ | refine wS rfl ?_)
   refine CW.drw tO mixed rfl (RD.run rfl ?_)
   refine RD.calmPP (i := 1) rfl rfl rfl rfl rfl rfl rfl d1 ?_; refine RD.run rfl ?_
   refine RD.calmPP (i := 3) rfl rfl rfl rfl rfl rfl rfl d2 ?_; refine RD.run rfl ?_
   refine RD.many rfl (RDAll.c (RDStep.mk (i := 4) rfl rfl rfl rfl (OW.allocL tO hok rfl rfl rfl rfl (X := fun _ _ => False)) ?_ (fun _ _ h => False.elim h)) (RDAll.c (RDStep.mk (i := 5) rfl rfl rfl rfl (OW.allocL tO hok rfl rfl rfl rfl (X := fun _ _ => False)) ?_ (fun _ _ h => False.elim h)) RDAll.n))
   ·rintro _ _ ⟨b6, rfl, rfl, hok⟩
    refine RD.run rfl ?_
    refine RD.many rfl (RDAll.c (RDStep.mk (i := 5) rfl rfl rfl rfl (OW.allocL tO hok rfl rfl rfl rfl (X := fun _ _ => False)) ?_ (fun _ _ h => False.elim h)) RDAll.n)
    ·rintro _ _ ⟨b7, rfl, rfl, hok⟩
     refine RD.run rfl ?_
     refine RD.storeL 6 tO hok rfl rfl rfl rfl rfl rfl rfl rfl rfl rfl rfl (by repeat (first | exact Sel.here | apply Sel.there)) (by exact rfl) (fun hok => ?_); refine RD.run rfl ?_
     refine RD.storeL 7 tO hok rfl rfl rfl rfl rfl rfl rfl rfl rfl rfl rfl (by repeat (first | exact Sel.here | apply Sel.there)) (by exact rfl) (fun hok => ?_); refine RD.run rfl ?_
     refine RD.done rfl ?_
     repeat (first | (with_reducible first | apply CW.seq | apply aN) | refine CW.reg ?_ | refine wS rfl ?_ | refine RL.loadL tO hok rfl rfl rfl rfl rfl rfl (by repeat (first | exact Sel.here | apply Sel.there)) (by exact rfl) ?_)
     refine RL.callPP rfl rfl rfl rfl rfl e1 ?_
     repeat (first | (with_reducible first | apply CW.seq | apply aN) | refine CW.reg ?_ | refine RL.nil ?_ | refine wS rfl ?_ | refine RL.loadL tO hok rfl rfl rfl rfl rfl rfl (by repeat (first | exact Sel.here | apply Sel.there)) (by exact rfl) ?_)
     refine RL.callPP rfl rfl rfl rfl rfl e2 ?_
     repeat (first | (with_reducible first | apply CW.seq | apply aN) | refine CW.reg ?_ | refine RL.nil ?_ | refine wS rfl ?_)
     repeat' (first | (with_reducible first | apply aN | apply CW.ret) | refine RL.nil ?_ | refine wS rfl ?_ | refine RL.skip rfl rfl rfl ?_ | refine RL.gstepT tO rfl rfl rfl rfl rfl rfl rfl (fun _ => ?_) (fun _ => ?_) | refine RL.callPP rfl rfl rfl rfl rfl e3 ?_ | refine RL.loadL tO hok rfl rfl rfl rfl rfl rfl (by repeat (first | exact Sel.here | apply Sel.there)) (by exact rfl) ?_)
     all_goals exact Fin.retP hok rfl (AVle.of_eq (by clear c1 c2 d1 d2 e1 e2 e3; simp_all [err]))
   ·rintro _ _ ⟨b7, rfl, rfl, hok⟩
    refine RD.run rfl ?_
    refine RD.many rfl (RDAll.c (RDStep.mk (i := 4) rfl rfl rfl rfl (OW.allocL tO hok rfl rfl rfl rfl (X := fun _ _ => False)) ?_ (fun _ _ h => False.elim h)) RDAll.n)
    ·rintro _ _ ⟨b6, rfl, rfl, hok⟩
     refine RD.run rfl ?_
     refine RD.storeL 6 tO hok rfl rfl rfl rfl rfl rfl rfl rfl rfl rfl rfl (by repeat (first | exact Sel.here | apply Sel.there)) (by exact rfl) (fun hok => ?_); refine RD.run rfl ?_
     refine RD.storeL 7 tO hok rfl rfl rfl rfl rfl rfl rfl rfl rfl rfl rfl (by repeat (first | exact Sel.here | apply Sel.there)) (by exact rfl) (fun hok => ?_); refine RD.run rfl ?_
     refine RD.done rfl ?_
     repeat (first | (with_reducible first | apply CW.seq | apply aN) | refine CW.reg ?_ | refine wS rfl ?_ | refine RL.loadL tO hok rfl rfl rfl rfl rfl rfl (by repeat (first | exact Sel.here | apply Sel.there)) (by exact rfl) ?_)
     refine RL.callPP rfl rfl rfl rfl rfl e1 ?_
     repeat (first | (with_reducible first | apply CW.seq | apply aN) | refine CW.reg ?_ | refine RL.nil ?_ | refine wS rfl ?_ | refine RL.loadL tO hok rfl rfl rfl rfl rfl rfl (by repeat (first | exact Sel.here | apply Sel.there)) (by exact rfl) ?_)
     refine RL.callPP rfl rfl rfl rfl rfl e2 ?_
     repeat (first | (with_reducible first | apply CW.seq | apply aN) | refine CW.reg ?_ | refine RL.nil ?_ | refine wS rfl ?_)
     repeat' (first | (with_reducible first | apply aN | apply CW.ret) | refine RL.nil ?_ | refine wS rfl ?_ | refine RL.skip rfl rfl rfl ?_ | refine RL.gstepT tO rfl rfl rfl rfl rfl rfl rfl (fun _ => ?_) (fun _ => ?_) | refine RL.callPP rfl rfl rfl rfl rfl e3 ?_ | refine RL.loadL tO hok rfl rfl rfl rfl rfl rfl (by repeat (first | exact Sel.here | apply Sel.there)) (by exact rfl) ?_)
     all_goals exact Fin.retP hok rfl (AVle.of_eq (by clear c1 c2 d1 d2 e1 e2 e3; simp_all [err]))
set_option maxRecDepth 10000 in
set_option maxHeartbeats 2000000 in
theorem refAlike_spec (P Q : FProg) (hP : P.Fair) (hs : P.Slim) (hm : P.Sm) (hQ : Q.Fair) (hs2 : Q.Slim) (hm2 : Q.Sm) :
  PCalls Tryz.prog 11 [P.av, Q.av] (.tup [.bool (alikeB P Q), err (progOk P && progOk Q)]) := by
 refine PCalls.of_CW tO call11 Tryz.func11 rfl rfl fun s hok => ?_
 have c1 := refProgP P hP
 have c2 := refProgP Q hQ
 unfold alikeB
 cases h1 : progOk P with
 | false =>
  rw [h1] at c1
  repeat (first | (with_reducible first | apply CW.seq | apply aN) | refine wR rfl ?_ | refine CW.reg ?_ | refine wS rfl ?_)
  refine RL.callPP rfl rfl rfl rfl rfl c1 ?_
  repeat (first | (with_reducible first | apply CW.seq | apply aN | apply aR | apply CW.ret) | refine wR rfl ?_ | refine RL.nil ?_ | refine CW.condT rfl ?_ | refine wS rfl ?_ | refine RL.skip rfl rfl rfl ?_)
  exact Fin.retP hok rfl aRfl
 | true =>
  rw [h1] at c1
  cases h2 : progOk Q with
  | false =>
   rw [h2] at c2
   repeat (first | (with_reducible first | apply CW.seq | apply aN) | refine wR rfl ?_ | refine CW.reg ?_ | refine wS rfl ?_)
   refine RL.callPP rfl rfl rfl rfl rfl c1 ?_
   repeat (first | refine wS rfl ?_)
   refine RL.callPP rfl rfl rfl rfl rfl c2 ?_
   repeat (first | (with_reducible first | apply CW.seq | apply aN | apply aR | apply CW.ret) | refine wR rfl ?_ | refine RL.nil ?_ | refine CW.condT rfl ?_ | refine wS rfl ?_)
   exact Fin.retP hok rfl aRfl
  | true =>
   rw [h2] at c2
   have a1 := sm_canon hm (progOk_nice h1)
   have a2 := sm_canon hm2 (progOk_nice h2)
   have d1 := refCanonP P hP hs h1
   have d2 := refCanonP Q hQ hs2 h2
   have e1 := refSame_spec P.canon Q.canon a1 a2
   repeat (first | (with_reducible first | apply CW.seq | apply aN) | refine wR rfl ?_ | refine CW.reg ?_ | refine wS rfl ?_)
   refine RL.callPP rfl rfl rfl rfl rfl c1 ?_
   repeat (first | refine wS rfl ?_)
   refine RL.callPP rfl rfl rfl rfl rfl c2 ?_
   repeat (first | (with_reducible first | apply CW.seq | apply aN | apply CW.skip) | refine RL.nil ?_ | refine CW.condF rfl ?_ | refine wS rfl ?_)
   refine CW.drw tO mixed rfl (RD.run rfl ?_)
   refine RD.calmPP (i := 1) rfl rfl rfl rfl rfl rfl rfl d1 ?_; refine RD.run rfl ?_
   refine RD.calmPP (i := 3) rfl rfl rfl rfl rfl rfl rfl d2 ?_; refine RD.run rfl ?_
   refine RD.calmPP (i := 4) rfl rfl rfl rfl rfl rfl rfl e1 ?_; refine RD.run rfl ?_
   refine RD.done rfl ?_
   repeat (with_reducible first | apply aN | apply CW.ret)
   exact Fin.retP hok rfl aRfl
end Go.Proofs.YtaafacnoddjhgaaGreat

/- The plain law of FormAlikes: a canonical program is formed, and its own canonical one. -/
namespace Go.Proofs.YtaafacnoddjhgaaGreat
open Go.AE

/-! ### Names that stand for themselves -/
theorem stands_self {sc : List (Str × Str)} (h : ∀ q ∈ sc, q.2 = q.1) (x : Str) : (stands sc x).getD x = x := by
 induction sc with
 | nil => rfl
 | cons q sc ih =>
  rw [stands]
  split
  ·rename_i hq
   have := h q List.mem_cons_self
   have hq' : q.1 = x := by simpa using hq
   simp [this, hq']
  ·exact ih fun q hq => h q (List.mem_cons_of_mem _ hq)

mutual
theorem renam_again : ∀ (e : FExp) (sc sc' : List (Str × Str)) (tk : List Str), (∀ q ∈ sc', q.2 = q.1) → FExp.renam sc' tk (FExp.renam sc tk e).1 = FExp.renam sc tk e
  | .mk o n t ks, sc, sc', tk, h => by
    rw [FExp.renam]
    simp only
    rw [FExp.renam]
    by_cases h3 : o = 3
    · subst h3
      simp only [textN, show ((3 : Int) == 3) = true from rfl, show ((3 : Int) == 9) = false from rfl, if_true]
      rw [stands_self h, renams_again ks false t _ sc sc' 0 tk h]
    · have h3' : (o == 3) = false := by simpa using h3
      by_cases h9 : o = 9
      · subst h9
        simp only [textN, h3', show ((9 : Int) == 9) = true from rfl, Bool.false_eq_true, if_false, if_true]
        rw [renams_again ks true t _ sc sc' 0 _ h]
      · have h9' : (o == 9) = false := by simpa using h9
        simp only [textN, h3', h9', Bool.false_eq_true, if_false]
        rw [renams_again ks false t _ sc sc' 0 _ h]
theorem renams_again : ∀ (ks : List FExp) (isLet : Bool) (t t' : Str) (sc sc' : List (Str × Str)) (i : Nat) (tk : List Str), (∀ q ∈ sc', q.2 = q.1) →
    FExp.renams isLet t' t' sc' i tk (FExp.renams isLet t t' sc i tk ks).1 = FExp.renams isLet t t' sc i tk ks
  | [], _, _, _, _, _, _, _, _ => rfl
  | k :: r, isLet, t, t', sc, sc', i, tk, h => by
    rw [FExp.renams]
    simp only
    rw [FExp.renams]
    have h1 : ∀ q ∈ (if (isLet && i == 1) = true then (t', t') :: sc' else sc'), q.2 = q.1 := by
      intro q hq
      split at hq
      · rcases List.mem_cons.1 hq with rfl | hq
        · rfl
        · exact h q hq
      · exact h q hq
    rw [renam_again k _ _ tk h1, renams_again r isLet t t' sc sc' (i + 1) _ h]
end

theorem pairs_self (l : List Str) : ∀ q ∈ pairs l l, q.2 = q.1 := by
 intro q hq
 unfold pairs at hq
 rw [List.mem_reverse] at hq
 obtain ⟨i, hi, rfl⟩ := List.getElem_of_mem hq
 simp
theorem swapN_self (l : List Str) (x : Str) : swapN l l x = x := by
 unfold swapN
 cases h : l.findIdx? (· == x) with
 | none => rfl
 | some i =>
  rw [List.findIdx?_eq_some_iff_getElem] at h
  obtain ⟨h1, h2, -⟩ := h
  have : l[i] = x := by simpa using h2
  simp [h1, this]
mutual
theorem swap_self (l : List Str) : ∀ f : FFact, f.swap l l = f
 | .mk o x p c n ks => by rw [FFact.swap, swapN_self, swaps_self l ks]
theorem swaps_self (l : List Str) : ∀ ks : List FFact, FFact.swaps l l ks = ks
 | [] => rfl
 | k :: r => by rw [FFact.swaps, swap_self l k, swaps_self l r]
end

theorem FMethod.canonR_again (m : FMethod) : m.canonR.canonR = m.canonR := by
 unfold FMethod.canonR
 simp only [firstN_length]
 rw [swap_self, renam_again _ _ _ _ (pairs_self _)]
theorem FProg.canonR_again (P : FProg) : P.canonR.canonR = P.canonR := by
 unfold FProg.canonR
 simp only [List.map_map]
 rw [renam_again _ _ _ _ (pairs_self _)]
 congr 1
 exact List.map_congr_left fun m _ => m.canonR_again

/-! ### Nodes stay formed -/
theorem free_firstN {k : Nat} (h : k < 698) : HasFree (firstN k) := by
 refine hasFree_of ?_
 rw [firstN_length]; exact h
theorem firstN_names {k : Nat} (h : k < 698) : ∀ x ∈ firstN k, nameS x = true := by
 induction k with
 | zero => intro x hx; cases hx
 | succ k ih =>
  intro x hx
  rw [firstN] at hx
  rcases List.mem_append.1 hx with hx | hx
  ·exact ih (by omega) x hx
  ·have hx' := List.mem_singleton.1 hx
   rw [hx']
   have hk : k < 698 := by omega
   exact freshS_name (l := firstN k) (free_firstN hk)
theorem firstN_nodup {k : Nat} (h : k < 698) : (firstN k).Nodup := by
 induction k with
 | zero => exact List.nodup_nil
 | succ k ih =>
  rw [firstN, List.nodup_append]
  refine ⟨ih (by omega), by simp, fun x hx y hy => ?_⟩
  have hy' := List.mem_singleton.1 hy
  rw [hy']
  intro e
  rw [e] at hx
  have hk : k < 698 := by omega
  have := freshS_not_mem (l := firstN k) (free_firstN hk)
  rw [List.contains_iff_mem.2 hx] at this; cases this

theorem nodeE_text {o n : Int} {t t' : Str} {ks ks' : List FExp} (hk : ks.length = ks'.length) (ht : nameS t' = true) (h : nodeE (.mk o n t ks) = true) (ho : shN (shapeOf o) = true) : nodeE (.mk o n t' ks') = true := by
 have hk1 : (FExp.mk o n t ks).kav.length = ks.length := FExp.kav_length _
 have hk2 : (FExp.mk o n t' ks').kav.length = ks'.length := FExp.kav_length _
 have hne : t' ≠ [] := fun e => by rw [e] at ht; cases ht
 simp only [nodeE, nodeE1, nodeE2, FExp.op, FExp.n, FExp.text, hk1, hk2, ho, hk] at h ⊢
 simp_all
theorem nodeE_kids {o n : Int} {t : Str} {ks ks' : List FExp} (hk : ks.length = ks'.length) (h : nodeE (.mk o n t ks) = true) : nodeE (.mk o n t ks') = true := by
 have hk1 : (FExp.mk o n t ks).kav.length = ks.length := FExp.kav_length _
 have hk2 : (FExp.mk o n t ks').kav.length = ks'.length := FExp.kav_length _
 simp only [nodeE, nodeE1, nodeE2, FExp.op, FExp.n, FExp.text, hk1, hk2, hk] at h ⊢
 exact h
theorem nodeE_named {o n : Int} {t : Str} {ks : List FExp} (h : nodeE (.mk o n t ks) = true) (ho : shN (shapeOf o) = true) : nameS t = true := by
 simp only [nodeE, nodeE2, FExp.op, FExp.text, ho, Bool.and_eq_true] at h
 simpa using h.2.1
theorem renams_length : ∀ (ks : List FExp) (isLet : Bool) (t t' : Str) (sc : List (Str × Str)) (i : Nat) (tk : List Str), (FExp.renams isLet t t' sc i tk ks).1.length = ks.length
  | [], _, _, _, _, _, _ => rfl
  | k :: r, isLet, t, t', sc, i, tk => by
    rw [FExp.renams]
    simp only [List.length_cons]
    rw [renams_length]
theorem stands_name {sc : List (Str × Str)} (h : ∀ q ∈ sc, nameS q.2 = true) {x : Str} (hx : nameS x = true) : nameS ((stands sc x).getD x) = true := by
 induction sc with
 | nil => exact hx
 | cons q sc ih =>
  rw [stands]
  split
  ·exact h q List.mem_cons_self
  ·exact ih fun q hq => h q (List.mem_cons_of_mem _ hq)

theorem textN_node {o n : Int} {t : Str} {ks ks' : List FExp} {sc : List (Str × Str)} {tk : List Str} (hk : ks.length = ks'.length) (hsc : ∀ q ∈ sc, nameS q.2 = true) (htk : tk.length < 698) (h : nodeE (.mk o n t ks) = true) :
  nodeE (.mk o n (textN sc tk o t).1 ks') = true ∧ ((o == 9) = true → nameS (textN sc tk o t).1 = true) := by
 have h3 : shN (shapeOf 3) = true := by decide
 have h9 : shN (shapeOf 9) = true := by decide
 unfold textN
 by_cases e3 : o = 3
 ·subst e3
  simp only [show ((3 : Int) == 3) = true from rfl, if_true]
  exact ⟨nodeE_text hk (stands_name hsc (nodeE_named h h3)) h h3, fun h => by cases h⟩
 ·have e3' : (o == 3) = false := by simpa using e3
  by_cases e9 : o = 9
  ·subst e9
   simp only [e3', show ((9 : Int) == 9) = true from rfl, if_true, Bool.false_eq_true, if_false]
   have := freshS_name (hasFree_of htk)
   exact ⟨nodeE_text hk this h h9, fun _ => this⟩
  ·have e9' : (o == 9) = false := by simpa using e9
   simp only [e3', e9', Bool.false_eq_true, if_false]
   exact ⟨nodeE_kids hk h, fun h => by cases h⟩

mutual
theorem renam_nodes : ∀ (e : FExp) (sc : List (Str × Str)) (tk : List Str) (d : Nat), (∀ q ∈ sc, nameS q.2 = true) → tk.length + e.size < 698 → ((Part.exp e).nodes d).all nodeOk = true →
    ((Part.exp (FExp.renam sc tk e).1).nodes d).all nodeOk = true
  | .mk o n t ks, sc, tk, d, hsc, htk, h => by
    rw [Part.nodes_eq] at h ⊢
    rw [FExp.size] at htk
    simp only [List.all_cons, Bool.and_eq_true, nodeOk, nodeP] at h ⊢
    rw [FExp.renam]
    simp only
    have htk1 : tk.length < 698 := by omega
    obtain ⟨q1, q2⟩ := textN_node (tk := tk) (ks' := (FExp.renams (o == 9) t (textN sc tk o t).1 sc 0 (textN sc tk o t).2 ks).1) (by rw [renams_length]) hsc htk1 h.1.2
    refine ⟨⟨h.1.1, q1⟩, ?_⟩
    have := textN_taken sc tk o t
    exact renams_nodes ks (o == 9) t _ sc 0 _ (d + 1) hsc q2 (by omega) h.2
theorem renams_nodes : ∀ (ks : List FExp) (isLet : Bool) (t t' : Str) (sc : List (Str × Str)) (i : Nat) (tk : List Str) (d : Nat), (∀ q ∈ sc, nameS q.2 = true) → (isLet = true → nameS t' = true) → tk.length + FExp.sizes ks < 698 →
    ((ks.map Part.exp).flatMap (Part.nodes d)).all nodeOk = true → (((FExp.renams isLet t t' sc i tk ks).1.map Part.exp).flatMap (Part.nodes d)).all nodeOk = true
  | [], _, _, _, _, _, _, _, _, _, _, _ => rfl
  | k :: r, isLet, t, t', sc, i, tk, d, hsc, ht', htk, h => by
    rw [FExp.sizes] at htk
    simp only [List.map_cons, List.flatMap_cons, List.all_append, Bool.and_eq_true] at h
    rw [FExp.renams]
    have h1 : ∀ q ∈ (if (isLet && i == 1) = true then (t, t') :: sc else sc), nameS q.2 = true := by
      intro q hq
      split at hq
      · rename_i hc
        rcases List.mem_cons.1 hq with rfl | hq
        · exact ht' (by simp at hc; exact hc.1)
        · exact hsc q hq
      · exact hsc q hq
    generalize (if (isLet && i == 1) = true then (t, t') :: sc else sc) = sc2 at h1 ⊢
    simp only [List.map_cons, List.flatMap_cons, List.all_append, Bool.and_eq_true]
    have h2 := renam_taken k sc2 tk
    exact ⟨renam_nodes k _ tk d h1 (by omega) h.1, renams_nodes r isLet t t' sc (i + 1) _ d hsc ht' (by omega) h.2⟩
end
theorem nodes_length_exp (e : FExp) (d : Nat) : ((Part.exp e).nodes d).length = e.size := by
 have := congrArg List.length (allE_nodes e d)
 rw [List.length_map, allE_length] at this; exact this
theorem renam_good {e : FExp} {sc : List (Str × Str)} {tk : List Str} (hsc : ∀ q ∈ sc, nameS q.2 = true) (htk : tk.length + e.size < 698) (h : goodB e = true) : goodB (FExp.renam sc tk e).1 = true := by
 unfold goodB lookB at h ⊢
 rw [nodes_length_exp] at h ⊢
 rw [renam_size]
 simp only [Bool.and_eq_true] at h ⊢
 exact ⟨h.1, renam_nodes e sc tk 1 hsc htk h.2⟩
end Go.Proofs.YtaafacnoddjhgaaGreat

/- The plain law of FormAlikes: a canonical program is formed. -/
namespace Go.Proofs.YtaafacnoddjhgaaGreat
open Go.AE

theorem name_len {x : Str} (h : nameS x = true) : x.length < 9223372036854775807 := by
 unfold nameS nameIn at h
 simp only [Bool.and_eq_true, decide_eq_true_eq] at h
 omega

/-! ### What is said of the nodes of an expression -/
def sgn (e : FExp) : Int × Str × Int := (e.op, if e.op == 3 || e.op == 9 then [] else e.text, (e.kids.length : Int))
mutual
theorem renam_sgn : ∀ (e : FExp) (sc : List (Str × Str)) (tk : List Str), (FExp.renam sc tk e).1.allE.map sgn = e.allE.map sgn
  | .mk o n t ks, sc, tk => by
    rw [FExp.renam]
    simp only [FExp.allE, List.map_cons]
    rw [renams_sgn]
    congr 1
    simp only [sgn, FExp.op, FExp.text, FExp.kids, renams_length, textN]
    by_cases h3 : o = 3
    · subst h3; simp only [show ((3 : Int) == 3) = true from rfl, Bool.true_or, if_true]
    · by_cases h9 : o = 9
      · subst h9; simp only [show ((9 : Int) == 9) = true from rfl, Bool.or_true, if_true]
      · have h3' : (o == 3) = false := by simpa using h3
        have h9' : (o == 9) = false := by simpa using h9
        simp [h3', h9']
theorem renams_sgn : ∀ (ks : List FExp) (isLet : Bool) (t t' : Str) (sc : List (Str × Str)) (i : Nat) (tk : List Str), (FExp.allEs (FExp.renams isLet t t' sc i tk ks).1).map sgn = (FExp.allEs ks).map sgn
  | [], _, _, _, _, _, _ => rfl
  | k :: r, isLet, t, t', sc, i, tk => by
    rw [FExp.renams]
    simp only [FExp.allEs, List.map_append]
    rw [renam_sgn, renams_sgn]
end
theorem callsL_sgn (l : List FExp) : callsL l = ((l.map sgn).filter fun q => q.1 == 5).map (·.2) := by
 induction l with
 | nil => rfl
 | cons e l ih =>
  unfold callsL at ih ⊢
  simp only [List.map_cons, List.filter_cons, sgn]
  by_cases h5 : e.op = 5
  ·have : (e.op == 5) = true := by simpa using h5
   simp only [this, if_true, List.map_cons]
   rw [ih]
   congr 1
   rw [h5]; rfl
  ·have : (e.op == 5) = false := by simpa using h5
   simp only [this, Bool.false_eq_true, if_false]
   rw [ih]
def spokenQ (names slots : List Str) (next : Bool) (q : Int × Str × Int) : Bool :=
 if q.1 == 4 || q.1 == 7 then slots.contains q.2.1 else if q.1 == 6 || q.1 == 8 then names.contains q.2.1 else if q.1 == 18 then next else true
theorem spoken_sgn (names slots : List Str) (next : Bool) (e : FExp) : spokenE names slots next e = spokenQ names slots next (sgn e) := by
 unfold spokenE spokenQ sgn
 simp only
 by_cases h3 : e.op = 3
 ·rw [h3]; rfl
 ·by_cases h9 : e.op = 9
  ·rw [h9]; rfl
  ·have h3' : (e.op == 3) = false := by simpa using h3
   have h9' : (e.op == 9) = false := by simpa using h9
   simp [h3', h9']
theorem renam_spoken (names slots : List Str) (next : Bool) (e : FExp) (sc : List (Str × Str)) (tk : List Str) : (FExp.renam sc tk e).1.allE.all (spokenE names slots next) = e.allE.all (spokenE names slots next) := by
 have key : ∀ l : List FExp, l.all (spokenE names slots next) = (l.map sgn).all (spokenQ names slots next) := fun l => by
  rw [List.all_map]; exact congrArg (l.all ·) (funext fun e => spoken_sgn names slots next e)
 rw [key, key, renam_sgn]
theorem renam_calls (e : FExp) (sc : List (Str × Str)) (tk : List Str) : callsL (FExp.renam sc tk e).1.allE = callsL e.allE := by
 rw [callsL_sgn, callsL_sgn, renam_sgn]

/-! ### Free names -/
mutual
theorem loose_not : ∀ (e : FExp) (b : List Str) (v : Str), v ∈ e.loose b → v ∉ b
  | .mk o n t ks, b, v, h => by
    rw [FExp.loose] at h
    rcases List.mem_append.1 h with h | h
    · split at h
      · rename_i hc
        rw [List.mem_singleton] at h
        simp only [Bool.and_eq_true, Bool.not_eq_true'] at hc
        rw [h]
        intro hm
        rw [List.contains_iff_mem.2 hm] at hc
        cases hc.2
      · cases h
    · exact looses_not ks _ _ b 0 v h
theorem looses_not : ∀ (ks : List FExp) (isLet : Bool) (t : Str) (b : List Str) (i : Nat) (v : Str), v ∈ FExp.looses isLet t b i ks → v ∉ b
  | [], _, _, _, _, _, h => by cases h
  | k :: r, isLet, t, b, i, v, h => by
    rw [FExp.looses] at h
    rcases List.mem_append.1 h with h | h
    · have := loose_not k _ v h
      split at this
      · exact fun hm => this (List.mem_cons_of_mem _ hm)
      · exact this
    · exact looses_not r isLet t b (i + 1) v h
end
theorem stands_memP {sc : List (Str × Str)} {x : Str} (h : x ∈ sc.map (·.1)) : (stands sc x).getD x ∈ sc.map (·.2) := by
 induction sc with
 | nil => cases h
 | cons q sc ih =>
  rw [stands]
  split
  ·exact List.mem_cons_self
  ·rename_i hq
   rcases List.mem_cons.1 h with e | h
   ·exact absurd (by simpa using e.symm) hq
   ·exact List.mem_cons_of_mem _ (ih h)
mutual
theorem renam_loose : ∀ (e : FExp) (b B : List Str) (sc : List (Str × Str)) (tk : List Str), (∀ x ∈ e.loose b, x ∈ sc.map (·.1)) → (∀ x ∈ b, x ∈ sc.map (·.1)) → ∀ v ∈ (FExp.renam sc tk e).1.loose B, v ∈ sc.map (·.2)
  | .mk o n t ks, b, B, sc, tk, h, hb, v, hv => by
    rw [FExp.renam] at hv
    simp only at hv
    rw [FExp.loose] at hv h
    have hk : ∀ x ∈ FExp.looses (o == 9) t b 0 ks, x ∈ sc.map (·.1) := fun x hx => h x (List.mem_append_right _ hx)
    rcases List.mem_append.1 hv with hv | hv
    · split at hv
      · rename_i hc
        simp only [Bool.and_eq_true, beq_iff_eq] at hc
        rw [List.mem_singleton] at hv
        obtain ⟨rfl, -⟩ := hc
        rw [hv]
        show (textN sc tk 3 t).1 ∈ _
        unfold textN
        simp only [show ((3 : Int) == 3) = true from rfl, if_true]
        refine stands_memP ?_
        by_cases hm : t ∈ b
        · exact hb t hm
        · refine h t (List.mem_append_left _ ?_)
          rw [if_pos]
          · exact List.mem_singleton.2 rfl
          · simp only [Bool.and_eq_true, Bool.not_eq_true']
            refine ⟨rfl, ?_⟩
            cases hq : b.contains t with
            | false => rfl
            | true => exact absurd (List.contains_iff_mem.1 hq) hm
      · cases hv
    · exact renams_loose ks (o == 9) t _ b B sc 0 _ hk hb v hv
theorem renams_loose : ∀ (ks : List FExp) (isLet : Bool) (t t' : Str) (b B : List Str) (sc : List (Str × Str)) (i : Nat) (tk : List Str), (∀ x ∈ FExp.looses isLet t b i ks, x ∈ sc.map (·.1)) → (∀ x ∈ b, x ∈ sc.map (·.1)) →
    ∀ v ∈ FExp.looses isLet t' B i (FExp.renams isLet t t' sc i tk ks).1, v ∈ sc.map (·.2)
  | [], _, _, _, _, _, _, _, _, _, _, _, hv => by rw [FExp.renams] at hv; cases hv
  | k :: r, isLet, t, t', b, B, sc, i, tk, h, hb, v, hv => by
    rw [FExp.looses] at h
    rw [FExp.renams] at hv
    simp only at hv
    rw [FExp.looses] at hv
    have h1 : ∀ x ∈ k.loose (if (isLet && i == 1) = true then t :: b else b), x ∈ sc.map (·.1) := fun x hx => h x (List.mem_append_left _ hx)
    have h2 : ∀ x ∈ FExp.looses isLet t b (i + 1) r, x ∈ sc.map (·.1) := fun x hx => h x (List.mem_append_right _ hx)
    rcases List.mem_append.1 hv with hv | hv
    · by_cases hc : (isLet && i == 1) = true
      · rw [if_pos hc] at h1 hv
        rw [if_pos hc] at hv
        have h3 := renam_loose k (t :: b) (t' :: B) ((t, t') :: sc) tk (fun x hx => List.mem_cons_of_mem _ (h1 x hx)) (fun x hx => by
          rcases List.mem_cons.1 hx with rfl | hx
          · exact List.mem_cons_self
          · exact List.mem_cons_of_mem _ (hb x hx)) v hv
        have h4 := loose_not _ _ _ hv
        rcases List.mem_cons.1 h3 with e | h3
        · exact absurd (e ▸ List.mem_cons_self) h4
        · exact h3
      · rw [if_neg hc] at h1 hv
        rw [if_neg hc] at hv
        exact renam_loose k b B sc tk h1 hb v hv
    · exact renams_loose r isLet t t' b B sc (i + 1) _ h2 hb v hv
end

theorem pairs_fst {a b : List Str} (h : a.length = b.length) {x : Str} : x ∈ (pairs a b).map (·.1) ↔ x ∈ a := by
 unfold pairs
 rw [List.map_reverse, List.mem_reverse, List.map_fst_zip (by omega)]
theorem pairs_snd {a b : List Str} (h : a.length = b.length) {x : Str} : x ∈ (pairs a b).map (·.2) ↔ x ∈ b := by
 unfold pairs
 rw [List.map_reverse, List.mem_reverse, List.map_snd_zip (by omega)]

theorem renam_frees {e : FExp} {ps ns : List Str} {tk : List Str} (hl : ps.length = ns.length) (h : e.frees.all ps.contains = true) : (FExp.renam (pairs ps ns) tk e).1.frees.all ns.contains = true := by
 rw [List.all_eq_true] at h ⊢
 intro v hv
 rw [List.contains_iff_mem, ← pairs_snd hl]
 refine renam_loose e [] [] (pairs ps ns) tk (fun x hx => ?_) (fun x hx => by cases hx) v (mem_frees.1 hv)
 rw [pairs_fst hl, ← List.contains_iff_mem]
 exact h x (mem_frees.2 hx)

theorem renam_known {names slots : List Str} {cnt : Nat} {e : FExp} {ps ns : List Str} {next : Bool} {tk : List Str} (hl : ps.length = ns.length) (hns : ∀ x ∈ ns, nameS x = true) (htk : tk.length + e.size < 698)
  (h : knownB names slots cnt e ps next = true) : knownB names slots cnt (FExp.renam (pairs ps ns) tk e).1 ns next = true := by
 unfold knownB at h ⊢
 simp only [Bool.and_eq_true] at h ⊢
 obtain ⟨⟨h1, h2⟩, h3, h4⟩ := h
 rw [renam_size, renam_spoken]
 refine ⟨⟨renam_good (fun q hq => hns _ ((pairs_snd hl).1 (List.mem_map_of_mem hq))) htk h1, h2⟩, h3, renam_frees hl h4⟩

/-! ### Facts -/
theorem swapN_mem {ps ns : List Str} (hl : ps.length = ns.length) {x : Str} (h : x ∈ ps) : swapN ps ns x ∈ ns := by
 unfold swapN
 cases hf : ps.findIdx? (· == x) with
 | none =>
  rw [List.findIdx?_eq_none_iff] at hf
  have := hf x h
  simp at this
 | some i =>
  rw [List.findIdx?_eq_some_iff_getElem] at hf
  have : i < ns.length := by have := hf.1; omega
  simp [this]
theorem swapN_out {ps ns : List Str} {x : Str} (h : x ∉ ps) : swapN ps ns x = x := by
 unfold swapN
 have : ps.findIdx? (· == x) = none := by
  rw [List.findIdx?_eq_none_iff]
  intro y hy
  cases hq : (y == x) with
  | false => rfl
  | true =>
   have : y = x := by simpa using hq
   rw [this] at hy; exact absurd hy h
 rw [this]
theorem swaps_length (ps ns : List Str) : ∀ l : List FFact, (FFact.swaps ps ns l).length = l.length
 | [] => rfl
 | k :: r => by rw [FFact.swaps, List.length_cons, List.length_cons, swaps_length ps ns r]
def nodeS (names slots ps : List Str) (x : Nat × Part) : Bool := nodeOk x && spokenF names slots ps x.2
mutual
theorem swap_nodes {names slots ps ns : List Str} (hl : ps.length = ns.length) (hns : [] ∉ ns) (hps : [] ∉ ps) : ∀ (f : FFact) (d : Nat), ((Part.fact f).nodes d).all (nodeS names slots ps) = true → ((Part.fact (f.swap ps ns)).nodes d).all (nodeS names slots ns) = true
  | .mk o x p c n ks, d, h => by
    rw [Part.nodes_eq] at h ⊢
    simp only [List.all_cons, Bool.and_eq_true] at h ⊢
    rw [FFact.swap]
    refine ⟨?_, swaps_nodes hl hns hps ks (d + 1) h.2⟩
    have h1 := h.1
    simp only [nodeS, nodeOk, nodeP, spokenF, Bool.and_eq_true, FFact.name, FFact.path, FFact.cls] at h1 ⊢
    obtain ⟨⟨a1, a2⟩, a3, a4⟩ := h1
    have hk1 : (FFact.mk o x p c n ks).kav.length = ks.length := FFact.kav_length _
    have hk2 : (FFact.mk o (swapN ps ns x) p c n (FFact.swaps ps ns ks)).kav.length = (FFact.swaps ps ns ks).length := FFact.kav_length _
    have hx : (swapN ps ns x == []) = (x == []) ∧ ((swapN ps ns x == [] || ns.contains (swapN ps ns x)) = true) := by
      by_cases he : x = []
      · subst he; rw [swapN_out hps]; exact ⟨rfl, rfl⟩
      · have hm : x ∈ ps := by
          have hq : (x == []) = false := by simpa using he
          rw [hq, Bool.false_or, List.contains_iff_mem] at a3; exact a3
        have hm2 := swapN_mem hl hm
        have hne : swapN ps ns x ≠ [] := fun e => hns (e ▸ hm2)
        have hq : (x == []) = false := by simpa using he
        have hq2 : (swapN ps ns x == []) = false := by simpa using hne
        rw [hq, hq2]
        exact ⟨rfl, by simpa using hm2⟩
    refine ⟨⟨a1, ?_⟩, hx.2, a4⟩
    simp only [nodeF, nodeF1, nodeF2, atomF, FFact.op, FFact.name, FFact.path, FFact.cls, FFact.n, hk1, hk2, swaps_length, hx.1] at a2 ⊢
    exact a2
theorem swaps_nodes {names slots ps ns : List Str} (hl : ps.length = ns.length) (hns : [] ∉ ns) (hps : [] ∉ ps) : ∀ (ks : List FFact) (d : Nat), ((ks.map Part.fact).flatMap (Part.nodes d)).all (nodeS names slots ps) = true →
    (((FFact.swaps ps ns ks).map Part.fact).flatMap (Part.nodes d)).all (nodeS names slots ns) = true
  | [], _, _ => rfl
  | k :: r, d, h => by
    rw [FFact.swaps]
    simp only [List.map_cons, List.flatMap_cons, List.all_append, Bool.and_eq_true] at h ⊢
    exact ⟨swap_nodes hl hns hps k d h.1, swaps_nodes hl hns hps r d h.2⟩
end
theorem nodes_length_fact : ∀ (n : Nat) (f : FFact) (d : Nat), f.size ≤ n → ((Part.fact f).nodes d).length = f.size := by
 intro n
 induction n with
 | zero => intro f d h; have := f.size_pos; omega
 | succ n ih =>
  intro f d hn
  have hs := f.size_def
  rw [Part.nodes_eq, List.length_cons, List.length_flatMap, hs]
  have : ∀ l : List FFact, (∀ k ∈ l, k.size ≤ n) → ((l.map Part.fact).map fun p => (p.nodes (d + 1)).length).sum = FFact.sizes l := by
   intro l
   induction l with
   | nil => intro _; rfl
   | cons k r ihr =>
    intro hk
    simp only [List.map_cons, List.sum_cons, FFact.sizes]
    rw [ih k (d + 1) (hk k List.mem_cons_self), ihr fun k' hk' => hk k' (List.mem_cons_of_mem _ hk')]
  have h2 := this f.kids fun k hk => by have := FFact.kids_size hk; omega
  show ((f.kids.map Part.fact).map _).sum + 1 = _
  rw [h2]; omega
theorem swap_size {ps ns : List Str} (hl : ps.length = ns.length) (hnd : ps.Nodup) (h0 : [] ∉ ps) (f : FFact) : (f.swap ps ns).size = f.size ∧ (f.swap ps ns).pl = f.pl := by
 have := frenam_size (pairs ps ns) f
 rwa [renam_swap hl hnd h0] at this
theorem swap_fact {names slots ps ns : List Str} {cnt : Nat} {f : FFact} (hl : ps.length = ns.length) (hns : [] ∉ ns) (hps : [] ∉ ps) (hnd : ps.Nodup) (h : factB names slots cnt f ps = true) : factB names slots cnt (f.swap ps ns) ns = true := by
 unfold factB lookB at h ⊢
 rw [nodes_length_fact _ _ _ (Nat.le_refl _)] at h ⊢
 rw [(swap_size hl hnd hps f).1]
 simp only [Bool.and_eq_true] at h ⊢
 obtain ⟨⟨⟨h1, h2⟩, h3⟩, h4⟩ := h
 have key : ∀ (l : List (Nat × Part)) (qs : List Str), l.all (nodeS names slots qs) = (l.all nodeOk && l.all fun x => spokenF names slots qs x.2) := by
  intro l qs
  induction l with
  | nil => rfl
  | cons x l ih => simp only [List.all_cons, ih, nodeS]; ac_rfl
 have h5 := swap_nodes (names := names) (slots := slots) hl hns hps f 1 (by rw [key, h2, h4]; rfl)
 rw [key, Bool.and_eq_true] at h5
 exact ⟨⟨⟨h1, h5.1⟩, h3⟩, h5.2⟩
end Go.Proofs.YtaafacnoddjhgaaGreat

/- A canonical program is formed; the law FormAlikes. -/
namespace Go.Proofs.YtaafacnoddjhgaaGreat
open Go.AE

theorem methodsOk_size {names slots : List Str} {cnt : Nat} {m : FMethod} (h : methodOk names slots cnt m = true) : m.Nice := by
 have : methodsOk names slots cnt [m] = true := by simp [methodsOk, h]
 exact methodsOk_nice this List.mem_cons_self

theorem methodOk_canon {names slots : List Str} {cnt : Nat} {m : FMethod} (h : methodOk names slots cnt m = true) : methodOk names slots cnt m.canonR = true := by
 have hn := methodsOk_size h
 have h0 : [] ∉ m.params := fun hm => by
  have := List.all_eq_true.1 hn.names _ hm
  rw [nil_no_name] at this; cases this
 have hpl := hn.plen
 have hsz := hn.size
 have hl : m.params.length = (firstN m.params.length).length := by rw [firstN_length]
 have hnm := firstN_names (k := m.params.length) (by omega)
 have hn0 : [] ∉ firstN m.params.length := fun hm => by
  have := hnm _ hm
  rw [nil_no_name] at this; cases this
 unfold methodOk at h ⊢
 simp only [Bool.and_eq_true] at h ⊢
 obtain ⟨h1, h2, h3, h4⟩ := h
 refine ⟨?_, ?_, ?_, ?_⟩
 ·have : m.canonR.params.length = m.params.length := firstN_length _
  unfold mB1 at h1 ⊢
  rw [this]; exact h1
 ·rw [params_known]
  simp only [Bool.and_eq_true, decide_eq_true_eq, List.all_eq_true]
  exact ⟨hnm, firstN_nodup (by omega)⟩
 ·exact swap_fact hl hn0 h0 hn.nodup h3
 ·have h5 : m.canonR.fact.size = m.fact.size := (swap_size hl hn.nodup h0 m.fact).1
  rw [h5]
  exact renam_known hl hnm (by rw [firstN_length]; omega) h4

theorem methodsOk_canon {names slots : List Str} : ∀ {l : List FMethod} {cnt : Nat}, methodsOk names slots cnt l = true → methodsOk names slots cnt (l.map FMethod.canonR) = true
  | [], _, _ => rfl
  | m :: l, cnt, h => by
    simp only [methodsOk, List.map_cons, Bool.and_eq_true] at h ⊢
    have hn := methodsOk_size h.1
    have h0 : [] ∉ m.params := fun hm => by
      have := List.all_eq_true.1 hn.names _ hm
      rw [nil_no_name] at this; cases this
    have h5 : m.canonR.fact.size = m.fact.size := (swap_size (by rw [firstN_length]) hn.nodup h0 m.fact).1
    have h6 : m.canonR.body.size = m.body.size := renam_size _ _ _
    rw [h5, h6]
    exact ⟨methodOk_canon h.1, methodsOk_canon h.2⟩

theorem notes_canon (P : FProg) : progNotes P.canonR = progNotes P := by
 unfold progNotes methodNotes
 congr 1
 ·show ((P.methods.map FMethod.canonR).map _) = _
  rw [List.map_map]
  exact List.map_congr_left fun m _ => by show (m.name, ((firstN m.params.length).length : Int)) = _; rw [firstN_length]
 ·rw [List.flatMap_append, List.flatMap_append]
  congr 1
  ·show ((P.methods.map FMethod.canonR).map FMethod.body).flatMap _ = _
   rw [List.map_map, List.flatMap_map, List.flatMap_map]
   congr 1
   funext m
   exact renam_calls _ _ _
  ·simp only [List.flatMap_cons, List.flatMap_nil]
   rw [show P.canonR.main = (FExp.renam (pairs [] []) (firstN 0) P.main).1 from rfl, renam_calls]

theorem progOk_canon {P : FProg} (h : progOk P = true) : progOk P.canon = true := by
 have hn := progOk_nice h
 have hs := hn.size
 rw [← hn.canon]
 have hg : progGens P.canonR = progGens P := by unfold progGens; rw [notes_canon]
 unfold progOk at h ⊢
 rw [hg]
 have hc : P.canonR.classes = P.classes := rfl
 have hm : P.canonR.methods = P.methods.map FMethod.canonR := rfl
 have hmain : P.canonR.main = (FExp.renam (pairs [] []) (firstN 0) P.main).1 := rfl
 rw [hc, hm, hmain, List.length_map]
 cases hcl : clsAll P.classes with
 | none => rw [hcl] at h; cases h
 | some st =>
  rw [hcl] at h
  simp only [Bool.and_eq_true] at h ⊢
  obtain ⟨h1, h2, h3, h4⟩ := h
  rw [renam_size]
  exact ⟨h1, renam_known rfl (fun x hx => by cases hx) (by show 0 + _ < 698; omega) h2, methodsOk_canon h3, h4⟩

theorem canon_again {P : FProg} (h : progOk P = true) : P.canon.canon = P.canon := by
 have hn := progOk_nice h
 rw [← (progOk_nice (progOk_canon h)).canon, ← hn.canon, FProg.canonR_again]

/-! ### It can be looked at -/
theorem good_short {e : FExp} (h : goodB e = true) (hs : e.size < big) : e.Fair := by
 refine ⟨hs, fun x hx => ?_⟩
 obtain ⟨g, hg⟩ := nodes_exp hx
 have h1 := goodB_node h (mem_nodes_all hx)
 rw [hg] at h1 ⊢
 show g.text.length < _
 have h1 : nodeE g = true := h1
 cases hsn : shN (shapeOf g.op) with
 | true =>
  obtain ⟨o, n, t, ks⟩ := g
  exact name_len (nodeE_named h1 hsn)
 | false =>
  simp only [nodeE, nodeE1, hsn, Bool.and_eq_true] at h1
  have : g.text = [] := by
   have := h1.1.2.2.2
   simpa using this
  rw [this]; decide

mutual
theorem swap_texts {ps ns : List Str} (hl : ps.length = ns.length) (hns : ∀ x ∈ ns, nameS x = true) : ∀ (f : FFact) (d : Nat), (∀ x ∈ (Part.fact f).nodes d, x.2.texts) → ∀ x ∈ (Part.fact (f.swap ps ns)).nodes d, x.2.texts
  | .mk o x p c n ks, d, h => by
    rw [Part.nodes_eq] at h ⊢
    rw [FFact.swap]
    intro y hy
    rcases List.mem_cons.1 hy with rfl | hy
    · have h1 := h _ List.mem_cons_self
      obtain ⟨a1, a2, a3, a4⟩ : (FFact.mk o x p c n ks).Texts := h1
      refine ⟨?_, a2, a3, a4⟩
      show (swapN ps ns x).length < _
      by_cases hm : x ∈ ps
      · exact name_len (hns _ (swapN_mem hl hm))
      · rw [swapN_out hm]; exact a1
    · exact swaps_texts hl hns ks (d + 1) (fun z hz => h z (List.mem_cons_of_mem _ hz)) y hy
theorem swaps_texts {ps ns : List Str} (hl : ps.length = ns.length) (hns : ∀ x ∈ ns, nameS x = true) : ∀ (ks : List FFact) (d : Nat), (∀ x ∈ (ks.map Part.fact).flatMap (Part.nodes d), x.2.texts) →
    ∀ x ∈ ((FFact.swaps ps ns ks).map Part.fact).flatMap (Part.nodes d), x.2.texts
  | [], _, _ => fun x hx => by rw [FFact.swaps] at hx; cases hx
  | k :: r, d, h => by
    rw [FFact.swaps]
    simp only [List.map_cons, List.flatMap_cons, List.mem_append] at h ⊢
    rintro x (hx | hx)
    · exact swap_texts hl hns k d (fun z hz => h z (.inl hz)) x hx
    · exact swaps_texts hl hns r d (fun z hz => h z (.inr hz)) x hx
end

theorem fair_canon {P : FProg} (hP : P.Fair) (h : progOk P = true) : P.canon.Fair := by
 have hn := progOk_nice h
 have hn2 := progOk_nice (progOk_canon h)
 have hb : big = 1099511627776 := rfl
 refine ⟨hP.clen, hP.cls, ?_, fun m hm => ?_, good_short hn2.main (by have := hn2.size; omega), ?_, hP.slen⟩
 ·have := hn2.mlen; omega
 ·have hm2 := hn2.mth m hm
  rw [← hn.canon] at hm
  obtain ⟨m0, hm0, rfl⟩ := List.mem_map.1 hm
  have hf := hP.mth m0 hm0
  have hn0 := hn.mth m0 hm0
  have hl : m0.params.length = (firstN m0.params.length).length := by rw [firstN_length]
  have hnm := firstN_names (k := m0.params.length) (by have := hn0.plen; omega)
  have h0 : [] ∉ m0.params := fun hm => by
   have := List.all_eq_true.1 hn0.names _ hm
   rw [nil_no_name] at this; cases this
  refine ⟨hf.name, ⟨?_, fun x hx => name_len (hnm x hx)⟩, ⟨?_, swap_texts hl hnm m0.fact 1 hf.fact.texts⟩, good_short hm2.body (by have := hm2.size; omega)⟩
  ·show (firstN m0.params.length).length < big; rw [firstN_length]; have := hn0.plen; omega
  ·show (m0.fact.swap m0.params (firstN m0.params.length)).size < big; rw [(swap_size hl hn0.nodup h0 m0.fact).1]; exact hf.fact.size
 ·rw [← hn.canon, notes_canon]; exact hP.notes
theorem slim_canon {P : FProg} (hm : P.Sm) (h : progOk P = true) : P.canon.Slim := fun m hmm => slim_of_pl ((sm_canon hm (progOk_nice h)).mth m hmm).2.2.1 1

/-! ### The law -/
theorem alikeB_self {P : FProg} (h : progOk P = true) : alikeB P P = true := by unfold alikeB; rw [h, (FProg.beq_iff _ _).2 rfl]; rfl
theorem alikeB_canon {P : FProg} (h : progOk P = true) : alikeB P P.canon = true := by unfold alikeB; rw [h, progOk_canon h, canon_again h, (FProg.beq_iff _ _).2 rfl]; rfl
theorem alikeB_comm (P Q : FProg) : alikeB Q P = alikeB P Q := by
 unfold alikeB
 rw [Bool.and_comm (progOk Q)]
 congr 1
 rw [Bool.eq_iff_iff, FProg.beq_iff, FProg.beq_iff]
 exact ⟨Eq.symm, Eq.symm⟩

theorem PCalls.args {P : Program} {f : FuncId} {xs ys : List AV} {v : AV} (h : AVleL xs ys) (k : PCalls P f ys v) : PCalls P f xs v := fun s => ACalls.args h (k s)

set_option maxRecDepth 10000 in
set_option maxHeartbeats 2000000 in
theorem formAlikes_spec (P Q : FProg) (hP : P.Fair) (hs : P.Slim) (hm : P.Sm) (hQ : Q.Fair) (hs2 : Q.Slim) (hm2 : Q.Sm) : PCalls Tryz.prog 4 [P.av, Q.av] (.bool true) := by
 refine PCalls.of_CW tO call4 Tryz.func4 rfl rfl fun s hok => ?_
 have a1 := shapeAlike_spec P Q hP hs hm hQ hs2 hm2
 have a2 := refAlike_spec P Q hP hs hm hQ hs2 hm2
 have a3 := shapeAlike_spec Q P hQ hs2 hm2 hP hs hm
 have c1 := shapeCanon_spec' P hP hs
 rw [alikeB_comm, Bool.and_comm] at a3
 cases hp : progOk P with
 | false =>
  have e : alikeB P Q = false := by unfold alikeB; rw [hp]; rfl
  rw [hp, Bool.false_and, e] at a1 a2 a3
  have hz : P.canonE = zeroP := by unfold FProg.canonE; rw [hp]; rfl
  rw [hp, hz] at c1
  have t1 := PCalls.args (.cons aRfl (.one zeroP_le)) (refSame_spec zeroP zeroP sm_zero sm_zero)
  rw [(FProg.beq_iff _ _).2 rfl] at t1
  repeat (first | (with_reducible first | apply CW.seq | apply aN) | refine wR rfl ?_ | refine CW.reg ?_ | refine wS rfl ?_)
  refine RL.callPP rfl rfl rfl rfl rfl a1 ?_
  repeat (first | (with_reducible first | apply CW.seq | apply aN) | refine CW.reg ?_ | refine RL.nil ?_ | refine wS rfl ?_)
  refine RL.callPP rfl rfl rfl rfl rfl a2 ?_
  repeat (first | (with_reducible first | apply CW.seq | apply aN | apply CW.skip) | refine wR rfl ?_ | refine CW.reg ?_ | refine RL.nil ?_ | refine CW.condF rfl ?_ | refine wS rfl ?_)
  refine RL.callPP rfl rfl rfl rfl rfl a3 ?_
  repeat (first | (with_reducible first | apply CW.seq | apply aN | apply CW.skip) | refine wR rfl ?_ | refine CW.reg ?_ | refine RL.nil ?_ | refine CW.condF rfl ?_ | refine wS rfl ?_)
  refine RL.callPP rfl rfl rfl rfl rfl c1 ?_
  repeat (first | refine wS rfl ?_)
  refine RL.allocL tO hok rfl rfl rfl rfl rfl rfl rfl (fun b11 hok => ?_)
  repeat (first | (with_reducible first | apply CW.seq | apply aN) | refine wR rfl ?_ | refine CW.reg ?_ | refine RL.nil ?_ | refine CW.condT rfl ?_ | refine wS rfl ?_ | refine RL.loadL tO hok rfl rfl rfl rfl rfl rfl (by repeat (first | exact Sel.here | apply Sel.there)) (by exact rfl) ?_ | refine RL.storeL tO hok rfl rfl rfl rfl rfl rfl rfl rfl rfl (by repeat (first | exact Sel.here | apply Sel.there)) (by exact rfl) (fun hok => ?_))
  refine RL.callPP rfl rfl rfl rfl rfl t1 ?_
  repeat (first | refine wS rfl ?_)
  refine RL.callP rfl rfl rfl rfl rfl (known_true _) ?_
  repeat (first | (with_reducible first | apply aN | apply aR | apply CW.ret) | refine RL.nil ?_ | refine wS rfl ?_)
  exact Fin.retP hok rfl aRfl
 | true =>
  have hz : P.canonE = P.canon := by unfold FProg.canonE; rw [hp]; rfl
  rw [hp, hz] at c1
  have f1 := fair_canon hP hp
  have f2 := slim_canon hm hp
  have f3 := sm_canon hm (progOk_nice hp)
  have d1 := shapeCanon_spec' P.canon f1 f2
  have hz2 : P.canon.canonE = P.canon := by unfold FProg.canonE; rw [progOk_canon hp]; exact canon_again hp
  rw [hz2, progOk_canon hp] at d1
  have o1 := shapeAlike_spec P P hP hs hm hP hs hm
  have o2 := shapeAlike_spec P P.canon hP hs hm f1 f2 f3
  rw [alikeB_self hp, hp] at o1
  rw [alikeB_canon hp, hp, progOk_canon hp] at o2
  have t1 := refSame_spec P.canon P.canon f3 f3
  rw [(FProg.beq_iff _ _).2 rfl] at t1
  rw [hp, Bool.true_and] at a1 a2 a3
  generalize alikeB P Q = ab at a1 a2 a3
  generalize progOk Q = pq at a1 a2 a3
  generalize P.canon = C at c1 d1 o2 t1
  cases ab <;> cases pq
  all_goals
   repeat (first | (with_reducible first | apply CW.seq | apply aN) | refine wR rfl ?_ | refine CW.reg ?_ | refine wS rfl ?_)
  all_goals
   refine RL.callPP rfl rfl rfl rfl rfl a1 ?_
   repeat (first | (with_reducible first | apply CW.seq | apply aN) | refine CW.reg ?_ | refine RL.nil ?_ | refine wS rfl ?_)
  all_goals
   refine RL.callPP rfl rfl rfl rfl rfl a2 ?_
   repeat (first | (with_reducible first | apply CW.seq | apply aN | apply CW.skip) | refine wR rfl ?_ | refine CW.reg ?_ | refine RL.nil ?_ | refine CW.condF rfl ?_ | refine wS rfl ?_)
  all_goals
   refine RL.callPP rfl rfl rfl rfl rfl a3 ?_
   repeat (first | (with_reducible first | apply CW.seq | apply aN | apply CW.skip) | refine wR rfl ?_ | refine CW.reg ?_ | refine RL.nil ?_ | refine CW.condF rfl ?_ | refine wS rfl ?_)
  all_goals
   refine RL.callPP rfl rfl rfl rfl rfl c1 ?_
   repeat (first | refine wS rfl ?_)
  all_goals
   refine RL.allocL tO hok rfl rfl rfl rfl rfl rfl rfl (fun b11 hok => ?_)
   repeat (first | (with_reducible first | apply CW.seq | apply aN | apply CW.skip) | refine wR rfl ?_ | refine CW.reg ?_ | refine RL.nil ?_ | refine CW.condF rfl ?_ | refine wS rfl ?_ | refine RL.storeL tO hok rfl rfl rfl rfl rfl rfl rfl rfl rfl (by repeat (first | exact Sel.here | apply Sel.there)) (by exact rfl) (fun hok => ?_))
  all_goals
   refine RL.callPP rfl rfl rfl rfl rfl o1 ?_
   repeat (first | (with_reducible first | apply CW.seq | apply aN) | refine CW.reg ?_ | refine RL.nil ?_ | refine wS rfl ?_ | refine RL.loadL tO hok rfl rfl rfl rfl rfl rfl (by repeat (first | exact Sel.here | apply Sel.there)) (by exact rfl) ?_)
  all_goals
   refine RL.callPP rfl rfl rfl rfl rfl o2 ?_
   repeat (first | (with_reducible first | apply CW.seq | apply aN) | refine CW.reg ?_ | refine RL.nil ?_ | refine wS rfl ?_ | refine RL.loadL tO hok rfl rfl rfl rfl rfl rfl (by repeat (first | exact Sel.here | apply Sel.there)) (by exact rfl) ?_)
  all_goals
   refine RL.callPP rfl rfl rfl rfl rfl d1 ?_
   repeat (first | refine wS rfl ?_)
  all_goals
   refine RL.allocL tO hok rfl rfl rfl rfl rfl rfl rfl (fun b16 hok => ?_)
   repeat (first | (with_reducible first | apply CW.seq | apply aN) | refine CW.reg ?_ | refine RL.nil ?_ | refine wS rfl ?_ | refine RL.loadL tO hok rfl rfl rfl rfl rfl rfl (by repeat (first | exact Sel.here | apply Sel.there)) (by exact rfl) ?_ | refine RL.storeL tO hok rfl rfl rfl rfl rfl rfl rfl rfl rfl (by repeat (first | exact Sel.here | apply Sel.there)) (by exact rfl) (fun hok => ?_))
  all_goals
   refine RL.callPP rfl rfl rfl rfl rfl t1 ?_
   repeat (first | refine wS rfl ?_)
  all_goals
   refine RL.callP rfl rfl rfl rfl rfl (known_true _) ?_
   repeat (first | (with_reducible first | apply aN | apply CW.ret) | refine RL.nil ?_ | refine wS rfl ?_)
  all_goals exact Fin.retP hok rfl aRfl
end Go.Proofs.YtaafacnoddjhgaaGreat

/- The law FormAlikes, closed: it returns true for every input of bulk at most 2^20. -/
namespace Go.Proofs.YtaafacnoddjhgaaGreat
open Go.AE Go.ChangeShapes Go.WideShapes Go.ChangeAt Go.RowKit

namespace formAlikes

theorem own : ownKnob Tryz.prog.godebug = none := by kernel_rfl

set_option maxRecDepth 100000 in
theorem contract (H : Type) (enc : TypeId × Value → H) (W : World) (base : Nat) (args : Array Value) (ds gs : List (DataW H)) (before : List MemPlace)
    (hval : ∀ (j : Nat) t v, Tryz.f4.params[j]? = some t → args[j]? = some v → Value.okWide Tryz.prog W .any base t v)
    (hW : DataW.Whole enc Tryz.prog Tryz.f4.params.toList Rows.formAlikesSpec.vars false W args.toList ds gs before) (hk : Rows.uptoSmall H (ds ++ gs) = true) :
    Calls Tryz.prog 4 args W fun e W' => ∃ v, e = .returned v ∧ Rows.formAlikesSpec.post enc Tryz.prog Tryz.f4 false true false false W args v W' := by
  have hW' := hW
  obtain ⟨p, q, hA0, hV, rfl, hfz, hnd⟩ := hW
  have hA : DataW.TrodAll enc Tryz.prog W 0 (fun _ => true) true Tryz.f4.params.toList args.toList ds p := hA0
  rw [Tryz.params4] at hA hval
  obtain ⟨v0, vs0, d0, ds0, p0, q0, hargs, rfl, rfl, h0, r0⟩ := trodAll_cons hA
  obtain ⟨v1, vs1, d1, ds1, p1, q1, rfl, rfl, rfl, h1, r1⟩ := trodAll_cons r0
  obtain ⟨rfl, rfl, rfl⟩ := trodAll_nil r1
  obtain rfl : args = #[v0, v1] := by cases args; simp_all
  obtain ⟨n0, h0⟩ := h0
  obtain ⟨n1, h1⟩ := h1
  obtain ⟨x0, g0, b0⟩ := trod_prog _ _ _ h0
  obtain ⟨x1, g1, b1⟩ := trod_prog _ _ _ h1
  have hb : Rows.uptoBulkAll ([d0, d1] ++ gs) ≤ 1048576 := of_decide_eq_true hk
  simp only [List.cons_append, List.nil_append, Rows.uptoBulkAll] at hb
  simp only at b0 b1
  have hw0 : x0.weight ≤ 1048576 := by omega
  have hw1 : x1.weight ≤ 1048576 := by omega
  have hr0 := rel_agg (val_agg Tryz.underlying29 (hval 0 29 v0 rfl rfl)) g0
  have hr1 := rel_agg (val_agg Tryz.underlying29 (hval 1 29 v1 rfl rfl)) g1
  exact close_true laidOut (by rw [Tryz.params4]; decide +kernel) rfl rfl (fun hg => by subst hg; rfl) hW'
    (.cons _ _ _ _ hr0 (.cons _ _ _ _ hr1 .nil))
    (formAlikes_spec x0 x1 (prog_fair hw0).1 (prog_fair hw0).2 (sm_of hw0) (prog_fair hw1).1 (prog_fair hw1).2 (sm_of hw1) _)

set_option maxRecDepth 100000 in
theorem lifted (os : Os) (started : os.Started) (H : Type) (enc : TypeId × Value → H) (F : Stop.Interp) :
    ReturnsInHanded {} Tryz.checked os 4 .any ((Rows.OpenSpec.upto Rows.formAlikesSpec).pre6 enc Tryz.prog Tryz.f4 Rows.formAlikesUptoRow.domain false) (((Rows.OpenSpec.upto Rows.formAlikesSpec).at F).post enc Tryz.prog Tryz.f4 false true false false) := by
  refine returnsInHanded_of_cond (C := Tryz.checked) (s := Rows.OpenSpec.upto Rows.formAlikesSpec) (k := Rows.uptoSmall) rfl own started (by kernel_rfl) Tryz.func4
    (OpenSpec.witness (enc := enc) (C := Tryz.checked) (s := Rows.OpenSpec.upto Rows.formAlikesSpec) (k := Rows.uptoSmall) rfl false ⟨#[], #[.agg #[.slice none 0 0, .slice none 0 0, .int .i64 0, .int .i64 0, .string ByteArray.empty, .slice none 0 0], .agg #[.slice none 0 0, .slice none 0 0, .int .i64 0, .int .i64 0, .string ByteArray.empty, .slice none 0 0]], []⟩ 8 (by kernel_rfl) (by kernel_rfl) (by kernel_rfl)
      (x := ([.agg [.nil, .nil, .agg [.lit (.int .i64 0), .lit (.int .i64 0), .lit (.string []), .nil]], .agg [.nil, .nil, .agg [.lit (.int .i64 0), .lit (.int .i64 0), .lit (.string []), .nil]]], [], [])) (by kernel_rfl) rfl (by kernel_rfl)) ?_
  intro W base args ds gs before hval hW _ hk _
  exact contract H enc W base args ds gs before hval hW hk

theorem over : Rows.formAlikesUptoRow.holds Tryz.pinned (Rows.OpenSpec.upto Rows.formAlikesSpec) :=
  OpenClaim.holds_of_cond 4 Tryz.f4 rfl rfl rfl rfl rfl rfl rfl ⟨rfl, rfl, rfl, rfl, rfl⟩ rfl rfl rfl rfl rfl (by kernel_rfl) Tryz.func4 (by kernel_rfl)
    (of_decide_eq_true (by kernel_rfl)) (by unfold Func.isWrapper; first | (rw [if_pos (by decide +kernel)]; kernel_rfl) | (rw [if_neg (by decide +kernel)]; exact ⟨rfl, rfl⟩))
    (fun os started H enc _ F => lifted os started H enc F)

theorem proved : Rows.FormAlikesUptoSaid :=
 over
end formAlikes
end Go.Proofs.YtaafacnoddjhgaaGreat

