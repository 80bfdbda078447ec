import Derived.Test.YtaafacnoddjhgaaGreatRd
import Derived.Test.YtaafacnoddjhgaaGreatRows
import Derived.ProofKit
import Derived.OpenShut
import Derived.WalkKit
import Derived.JoinedCond
/- Contracts of the laws: known. -/
namespace Go.Proofs.YtaafacnoddjhgaaGreat
open Go.AE

def exP : FProg := exampleP [[97], [98]]

theorem exP_ok : progOk exP = true := by decide +kernel
theorem exP_count : progCount exP = 13 := by decide +kernel
theorem exP_above : aboveS exP.classes [99] = some [[97], [98]] := by decide +kernel
theorem exP_gens : (progGens exP).1.map (·.1) = [[115, 104, 111, 119]] := by decide +kernel
theorem exP_slots : exP.classes.flatMap FClass.slots = [[102], [103]] := by decide +kernel

def shortB : Part → Bool
 | .exp e => decide (e.text.length < 9223372036854775807)
 | .fact f => decide (f.name.length < 9223372036854775807) && (decide (f.cls.length < 9223372036854775807) && (decide (f.path.length < big) && f.path.all fun x => decide (x.length < 9223372036854775807)))

theorem FExp.fair_of {e : FExp} (h : (decide (e.size < big) && ((Part.exp e).nodes 1).all fun x => shortB x.2) = true) : e.Fair := by
 simp only [Bool.and_eq_true, decide_eq_true_eq, List.all_eq_true] at h
 refine ⟨h.1, fun x hx => ?_⟩
 have := h.2 x hx
 cases hp : x.2 with
 | exp g => rw [hp] at this; simpa [shortB, Part.short] using this
 | fact g => trivial

theorem FFact.fair_of {f : FFact} (h : (decide (f.size < big) && ((Part.fact f).nodes 1).all fun x => shortB x.2) = true) : f.Fair ∧ f.Slim 1 := by
 have hb : big = 1099511627776 := rfl
 simp only [Bool.and_eq_true, decide_eq_true_eq, List.all_eq_true] at h
 refine ⟨⟨h.1, fun x hx => ?_⟩, fun d g hg => ?_⟩
 ·have := h.2 x hx
  cases hp : x.2 with
  | exp g => rw [hp] at this; simpa [shortB, Part.texts] using this
  | fact g =>
   rw [hp] at this
   simp only [shortB, Bool.and_eq_true, decide_eq_true_eq, List.all_eq_true] at this
   exact ⟨this.1, this.2.1, by have := this.2.2.1; omega, this.2.2.2⟩
 ·have := h.2 _ hg
  simp only [shortB, Bool.and_eq_true, decide_eq_true_eq, List.all_eq_true] at this
  exact this.2.2.1

def shtB (x : Str) : Bool := decide (x.length < 9223372036854775807)
def strsB (l : List Str) : Bool := decide (l.length < big) && l.all shtB
theorem Strs.of {l : List Str} (h : strsB l = true) : Strs l := by
 simp only [strsB, shtB, Bool.and_eq_true, decide_eq_true_eq, List.all_eq_true] at h
 exact ⟨h.1, h.2⟩
def fairB (P : FProg) : Bool :=
 decide (P.classes.length < big) && ((P.classes.all fun c => shtB c.name && (strsB c.parents && (strsB c.slots && (decide (c.inits.length < big) && c.inits.all fun x => shtB x.slot)))) &&
  (decide (P.methods.length < big) && ((P.methods.all fun m => shtB m.name && (strsB m.params && ((decide (m.fact.size < big) && ((Part.fact m.fact).nodes 1).all fun x => shortB x.2) && (decide (m.body.size < big) && ((Part.exp m.body).nodes 1).all fun x => shortB x.2)))) &&
   ((decide (P.main.size < big) && ((Part.exp P.main).nodes 1).all fun x => shortB x.2) && (decide ((progNotes P).length < big) && decide ((P.classes.flatMap FClass.slots).length < big))))))
theorem FProg.fair_of {P : FProg} (h : fairB P = true) : P.Fair ∧ P.Slim := by
 simp only [fairB, Bool.and_eq_true] at h
 obtain ⟨h1, h2, h3, h4, h5, h6, h7⟩ := h
 simp only [List.all_eq_true, Bool.and_eq_true] at h2 h4
 refine ⟨⟨by simpa using h1, fun c hc => ?_, by simpa using h3, fun m hm => ?_, FExp.fair_of (by simpa using h5), by simpa using h6, by simpa using h7⟩, fun m hm => ?_⟩
 ·obtain ⟨a, b, c', d, e⟩ := h2 c hc
  exact ⟨by simpa [shtB, Sh] using a, .of b, .of c', by simpa using d, fun x hx => by simpa [shtB, Sh] using e x hx⟩
 ·obtain ⟨a, b, c', d⟩ := h4 m hm
  exact ⟨by simpa [shtB, Sh] using a, .of b, (FFact.fair_of (by simpa using c')).1, FExp.fair_of (by simpa using d)⟩
 ·obtain ⟨a, b, c', d⟩ := h4 m hm
  exact (FFact.fair_of (by simpa using c')).2
theorem exP_fair : exP.Fair ∧ exP.Slim := FProg.fair_of (by decide +kernel)

def exE : FExp := .mk 9 0 [97] [numE 2, .mk 12 0 [] [nameE [120], nameE [97]]]
def exY : FExp := .mk 12 0 [] [nameE [97], numE 1]
def exR : FExp := .mk 9 0 [98] [numE 2, .mk 12 0 [] [.mk 12 0 [] [nameE [97], numE 1], nameE [98]]]
theorem exE_fair : exE.Fair := FExp.fair_of (by decide +kernel)
theorem exY_fair : exY.Fair := FExp.fair_of (by decide +kernel)
theorem exPut : FExp.beq (putR exE [120] exY).1 exR = true := by decide +kernel
theorem exPut2 : (putR exE [120] exY).2 = 0 := by decide +kernel
theorem exPut_size : (putR exE [120] exY).1.size < 100 := by decide +kernel

theorem exCanon : ∃ cl a k nm f o n ks mn, exP.canon = ⟨cl, [a, ⟨k, nm, [[97]], f, .mk o n [98] ks⟩], mn⟩ := by
 have h : exP.canon.methods.length = 2 ∧ (exP.canon.methods[1]?.map fun m => (m.params, m.body.text)) = some ([[97]], [98]) := by decide +kernel
 generalize exP.canon = C at h
 obtain ⟨cl, ms, mn⟩ := C
 obtain ⟨h1, h2⟩ := h
 match ms, h1 with
 | [a, ⟨k, nm, ps, f, .mk o n t ks⟩], _ =>
  simp [FExp.text] at h2
  obtain ⟨rfl, rfl⟩ := h2
  exact ⟨_, _, _, _, _, _, _, _, _, rfl⟩

theorem exFresh : freshS (setOf [[97], [98]]) = [99] := by decide +kernel
theorem exName : nameS [97] = true := by decide +kernel
theorem exName2 : nameS [105, 110] = false := by decide +kernel

set_option maxRecDepth 10000 in
set_option maxHeartbeats 2000000 in
theorem known_true (s : Store) : ACalls Tryz.prog 9 [] s (fun o s' => o = .ret (.bool true) ∧ s' = s) := by
 have hN : ∀ s, ACalls Tryz.prog 23 [exP.av] s (fun o s' => o = .ret (.tup [.int .i64 13, err true]) ∧ s' = s) := fun s => by
  have := shapeNodes_spec exP s exP_fair.1; rw [exP_ok, exP_count] at this; exact this
 have hA : ∀ s, ACalls Tryz.prog 24 [exP.av, .str [99]] s (fun o s' => o = .ret (.tup [.slc 1 (strs [[97], [98]]) .fro, err true]) ∧ s' = s) := fun s => by
  have := shapeAbove_spec exP [99] s exP_fair.1; rw [exP_ok, exP_above] at this; exact this
 have hC : ∀ s, ACalls Tryz.prog 15 [exP.av] s (fun o s' => o = .ret (err true) ∧ s' = s) := fun s => by
  have := shapeCheck_spec exP s exP_fair.1; rw [exP_ok] at this; exact this
 have hG : ∀ s, ACalls Tryz.prog 29 [exP.av] s (fun o s' => o = .ret (.tup [.slc 1 (strs [[115, 104, 111, 119]]) .fro, err true]) ∧ s' = s) := fun s => by
  have := shapeGens_spec exP s exP_fair.1; rw [exP_ok, exP_gens] at this; exact this
 have hS : ∀ s, ACalls Tryz.prog 30 [exP.av] s (fun o s' => o = .ret (.tup [.slc 1 (strs [[102], [103]]) .fro, err true]) ∧ s' = s) := fun s => by
  have := shapeSlots_spec exP s exP_fair.1; rw [exP_ok, exP_slots] at this; exact this
 have hK : ∀ s, ACalls Tryz.prog 6 [exP.av] s (fun o s' => o = .ret (.tup [exP.canon.av, err true]) ∧ s' = s) := fun s => by
  have := shapeCanon_spec exP s exP_fair.1 exP_fair.2; rw [exP_ok] at this; exact this
 have hP : ∀ s, ACalls Tryz.prog 25 [exE.av, .str [120], exY.av] s (fun o s' => o = .ret (.tup [(putR exE [120] exY).1.av, .int .i64 0]) ∧ s' = s) := fun s => by
  have := shapePut_spec exE [120] exY s exE_fair exY_fair (by decide); rw [exPut2] at this; exact this
 have hE : ∀ s, ACalls Tryz.prog 19 [(putR exE [120] exY).1.av, exR.av] s (fun o s' => o = .ret (.bool true) ∧ s' = s) := fun s => by
  have := refSameExp_spec _ (putR exE [120] exY).1 exR s (Nat.le_refl _) (by have := exPut_size; have : big = 1099511627776 := rfl; omega) (by decide); rw [exPut] at this; exact this
 have hT1 : ∀ s, ACalls Tryz.prog 14 [.slc 1 (strs [[97], [98]]) .fro, .slc 1 (strs [[97], [98]]) .clip] s (fun o s' => o = .ret (.bool true) ∧ s' = s) := fun s => sameTexts_spec [[97], [98]] [[97], [98]] .fro .clip s (by decide)
 have hT2 : ∀ s, ACalls Tryz.prog 14 [.slc 1 (strs [[102], [103]]) .fro, .slc 1 (strs [[102], [103]]) .clip] s (fun o s' => o = .ret (.bool true) ∧ s' = s) := fun s => sameTexts_spec [[102], [103]] [[102], [103]] .fro .clip s (by decide)
 have hX : ∀ s, ACalls Tryz.prog 22 [.slc 1 (strs [[97], [98]]) .fro] s (fun o s' => o = .ret exP.av ∧ s' = s) := fun s => example_spec [[97], [98]] s
 generalize (putR exE [120] exY).1 = R at hP hE
 obtain ⟨cl, a, k, nm, f, o, n, ks, mn, hcan⟩ := exCanon
 rw [hcan] at hK
 generalize hEP : exP = E at hN hA hC hG hS hK hX
 refine ACalls.of_CW tO call9 Tryz.func9 rfl rfl ?_
 repeat (first | (with_reducible first | apply CW.seq | apply aN) | refine wR rfl ?_ | refine CW.reg ?_ | refine wS rfl ?_)
 refine RL.callP rfl rfl rfl rfl rfl (ACalls.weakArgs (.one AVle.fro) (hX _)) ?_
 refine RL.newBox tO rfl rfl rfl rfl rfl rfl rfl (fun _ => rfl) rfl rfl (fun _ => rfl) rfl rfl rfl rfl ?_
 repeat (first | (with_reducible first | apply CW.seq | apply aN) | refine CW.reg ?_ | refine RL.nil ?_ | refine wS rfl ?_)
 refine RL.callP rfl rfl rfl rfl rfl (hN _) ?_
 repeat (first | (with_reducible first | apply CW.seq | apply aN) | refine CW.reg ?_ | refine RL.nil ?_ | refine wS rfl ?_)
 refine RL.callP rfl rfl rfl rfl rfl (hA _) ?_
 repeat (first | (with_reducible first | apply CW.seq | apply aN) | refine CW.reg ?_ | refine RL.nil ?_ | refine wS rfl ?_)
 refine RL.callP rfl rfl rfl rfl rfl (hC _) ?_
 repeat (first | refine wS rfl ?_)
 refine RL.callP rfl rfl rfl rfl rfl (hT1 _) ?_
 repeat (first | (with_reducible first | apply CW.seq | apply aN | apply CW.skip) | refine CW.reg ?_ | refine RL.nil ?_ | refine CW.condF rfl ?_ | refine wS rfl ?_)
 refine RL.callP rfl rfl rfl rfl rfl (lawNum_spec 2 _) ?_
 skip
 refine RL.callP rfl rfl rfl rfl rfl (lawName_spec [120] _) ?_
 skip
 refine RL.callP rfl rfl rfl rfl rfl (lawName_spec [97] _) ?_
 repeat (first | refine wS rfl ?_)
 refine RL.callP rfl rfl rfl rfl rfl (ACalls.weakArgs (.cons aRfl (.cons aRfl (.one AVle.fro))) (lawExp_spec 12 [] [nameE [120], nameE [97]] _)) ?_
 repeat (first | refine wS rfl ?_)
 refine RL.callP rfl rfl rfl rfl rfl (ACalls.weakArgs (.cons aRfl (.cons aRfl (.one AVle.fro))) (lawExp_spec 9 [97] [numE 2, .mk 12 0 [] [nameE [120], nameE [97]]] _)) ?_
 skip
 refine RL.callP rfl rfl rfl rfl rfl (lawName_spec [97] _) ?_
 skip
 refine RL.callP rfl rfl rfl rfl rfl (lawNum_spec 1 _) ?_
 repeat (first | refine wS rfl ?_)
 refine RL.callP rfl rfl rfl rfl rfl (ACalls.weakArgs (.cons aRfl (.cons aRfl (.one AVle.fro))) (lawExp_spec 12 [] [nameE [97], numE 1] _)) ?_
 skip
 refine RL.callP rfl rfl rfl rfl rfl (hP _) ?_
 repeat (first | refine wS rfl ?_)
 refine RL.newBox tO rfl rfl rfl rfl rfl rfl rfl (fun _ => rfl) rfl rfl (fun _ => rfl) rfl rfl rfl rfl ?_
 repeat (first | (with_reducible first | apply CW.seq | apply aN) | refine RL.nil ?_ | refine wS rfl ?_)
 refine CW.drw tO mixed rfl (RD.run rfl ?_)
 refine RD.calmP (i := 4) rfl rfl rfl rfl rfl rfl rfl (fun s => lawNum_spec 2 s) ?_
 refine RD.run rfl ?_
 refine RD.calmP (i := 5) rfl rfl rfl rfl rfl rfl rfl (fun s => lawName_spec [97] s) ?_
 refine RD.run rfl ?_
 refine RD.calmP (i := 6) rfl rfl rfl rfl rfl rfl rfl (fun s => lawNum_spec 1 s) ?_
 refine RD.run rfl ?_
 refine RD.calmP (i := 8) rfl rfl rfl rfl rfl rfl rfl (fun s => ACalls.weakArgs (.cons aRfl (.cons aRfl (.one AVle.fro))) (lawExp_spec 12 [] [nameE [97], numE 1] s)) ?_
 refine RD.run rfl ?_
 refine RD.calmP (i := 9) rfl rfl rfl rfl rfl rfl rfl (fun s => lawName_spec [98] s) ?_
 refine RD.run rfl ?_
 refine RD.calmP (i := 11) rfl rfl rfl rfl rfl rfl rfl (fun s => ACalls.weakArgs (.cons aRfl (.cons aRfl (.one AVle.fro))) (lawExp_spec 12 [] [.mk 12 0 [] [nameE [97], numE 1], nameE [98]] s)) ?_
 refine RD.run rfl ?_
 refine RD.calmP (i := 13) rfl rfl rfl rfl rfl rfl rfl (fun s => ACalls.weakArgs (.cons aRfl (.cons aRfl (.one AVle.fro))) (lawExp_spec 9 [98] [numE 2, .mk 12 0 [] [.mk 12 0 [] [nameE [97], numE 1], nameE [98]]] s)) ?_
 refine RD.run rfl ?_
 refine RD.calmP (i := 14) rfl rfl rfl rfl rfl rfl rfl (fun s => hE s) ?_
 refine RD.run rfl (RD.done rfl ?_)
 repeat (first | (with_reducible first | apply CW.seq | apply aN | apply CW.skip) | refine CW.reg ?_ | refine CW.condF rfl ?_ | refine wS rfl ?_)
 refine RL.callP rfl rfl rfl rfl rfl (hK _) ?_
 repeat (first | refine wS rfl ?_)
 refine RL.newBox tO rfl rfl rfl rfl rfl rfl rfl (fun _ => rfl) rfl rfl (fun _ => rfl) rfl rfl rfl rfl ?_
 repeat (first | (with_reducible first | apply CW.seq | apply aN) | refine CW.reg ?_ | refine RL.nil ?_ | refine wS rfl ?_)
 refine RL.idx tO 1 rfl rfl rfl rfl rfl rfl rfl rfl rfl rfl rfl (by rfl) (by rfl) ?_
 repeat (first | refine wS rfl ?_)
 refine RL.idx tO 1 rfl rfl rfl rfl rfl rfl rfl rfl rfl rfl rfl (by rfl) (by rfl) ?_
 repeat (first | refine wS rfl ?_)
 refine RL.idx tO 0 rfl rfl rfl rfl rfl rfl rfl rfl rfl rfl rfl (by rfl) (by rfl) ?_
 repeat (first | refine wS rfl ?_)
 refine RL.idx tO 1 rfl rfl rfl rfl rfl rfl rfl rfl rfl rfl rfl (by rfl) (by rfl) ?_
 repeat (first | (with_reducible first | apply CW.seq | apply aN | apply CW.skip) | refine CW.reg ?_ | refine RL.nil ?_ | refine CW.condF rfl ?_ | refine wS rfl ?_)
 refine RL.callP rfl rfl rfl rfl rfl (hG _) ?_
 repeat (first | (with_reducible first | apply CW.seq | apply aN) | refine CW.reg ?_ | refine RL.nil ?_ | refine wS rfl ?_)
 refine RL.callP rfl rfl rfl rfl rfl (hS _) ?_
 repeat (first | (with_reducible first | apply CW.seq | apply aN) | refine CW.reg ?_ | refine RL.nil ?_ | refine wS rfl ?_)
 refine RL.idx tO 0 rfl rfl rfl rfl rfl rfl rfl rfl rfl rfl rfl (by rfl) (by rfl) ?_
 repeat (first | refine wS rfl ?_)
 refine RL.callP rfl rfl rfl rfl rfl (hT2 _) ?_
 repeat (first | refine wS rfl ?_)
 refine RL.callP rfl rfl rfl rfl rfl (show ACalls Tryz.prog 31 [.str [97]] s (fun o s' => o = .ret (.bool true) ∧ s' = s) by have := shapeName_spec [97] s (by decide); rw [exName] at this; exact this) ?_
 repeat (first | refine wS rfl ?_)
 refine RL.callP rfl rfl rfl rfl rfl (show ACalls Tryz.prog 31 [.str [105, 110]] s (fun o s' => o = .ret (.bool false) ∧ s' = s) by have := shapeName_spec [105, 110] s (by decide); rw [exName2] at this; exact this) ?_
 repeat (first | refine wS rfl ?_)
 refine RL.callP rfl rfl rfl rfl rfl (show ACalls Tryz.prog 32 [.slc 1 (strs [[97], [98]]) .clip] s (fun o s' => o = .ret (.str [99]) ∧ s' = s) by have := shapeFresh_spec [[97], [98]] .clip s (by decide) (hasFree_of (by decide +kernel)); rw [exFresh] at this; exact this) ?_
 repeat (first | (with_reducible first | apply aN | apply CW.ret) | refine RL.nil ?_ | refine wS rfl ?_)
 exact ⟨_, _, _, rfl, aRfl, sSub, rfl, rfl⟩
end Go.Proofs.YtaafacnoddjhgaaGreat

/- Readings: what an argument's datum says of the value itself. -/
namespace Go.Proofs.YtaafacnoddjhgaaGreat
open Go.AE

def oldP (w : World) : Prot := fun b _ => b < w.heap.size

theorem wf_old (w : World) : Wf w (oldP w) (fun _ => none) := ⟨(fun _ _ h => by cases h), fun _ _ h => h⟩

theorem add_add (a : Addr) (x y : Nat) : (a.add x).add y = a.add (x + y) := by
 unfold Addr.add
 by_cases hx : x = 0
 ·subst hx; simp
 ·by_cases hy : y = 0
  ·subst hy; simp [hx]
  ·simp [hx, hy, Nat.add_assoc]

theorem cell_old {w : World} {a : Addr} {v : Value} (h : w.cell? a = some v) : a.spot = none ∧ a.block < w.heap.size := by
 unfold World.cell? at h
 split at h
 ·rename_i c _ _ hb
  refine ⟨?_, (Array.getElem?_eq_some_iff.1 hb).1⟩
  cases hs : a.spot with
  | none => rfl
  | some s => rw [hs] at h; simp at h
 ·cases h

theorem cells_old {w : World} {a : Addr} {n : Nat} {cs : List Value} (h : w.cells? 0 a n = some cs) : cs.length = n ∧ ∀ i v, cs[i]? = some v → w.cell? (a.add i) = some v := by
 unfold World.cells? at h
 rw [if_pos (Nat.zero_le _)] at h
 refine ⟨by simpa using mapM_some_length h, fun i v hv => ?_⟩
 have hi : i < n := by
  have := mapM_some_length h
  rw [List.length_range] at this
  rw [← this]; exact (List.getElem?_eq_some_iff.1 hv).1
 rw [mapM_some_get h i i (by rw [List.getElem?_range hi])]; exact hv

section
variable {H : Type} {enc : TypeId × Value → H} {w : World}

theorem flat_len {sz : Nat} : ∀ {vs : List Value}, (∀ v ∈ vs, v.cells.size = sz) → (flat vs).length = vs.length * sz
  | [], _ => by simp [flat]
  | v :: vs, h => by
    have := flat_len (vs := vs) (fun u hu => h u (List.mem_cons_of_mem _ hu))
    have hv := h v List.mem_cons_self
    simp only [flat, List.flatMap_cons, List.length_append, List.length_cons] at this ⊢
    rw [this, Array.length_toList, hv, Nat.add_mul, Nat.one_mul, Nat.add_comm]

theorem RelL.append' {p : Prot} : ∀ {vs us : List Value} {xs ys : List AV}, RelL w p vs xs → RelL w p us ys → RelL w p (vs ++ us) (xs ++ ys)
 | _, _, _, _, .nil, h => h
 | _, _, _, _, .cons v x vs xs h t, k => .cons _ _ _ _ h (RelL.append' t k)

theorem bulk_append (l r : List (DataW H)) : Rows.uptoBulkAll (l ++ r) = Rows.uptoBulkAll l + Rows.uptoBulkAll r := by
 induction l with
 | nil => simp [Rows.uptoBulkAll]
 | cons x l ih => simp only [List.cons_append, Rows.uptoBulkAll, ih]; omega

theorem trod_list {α : Type} {t e : TypeId} {sz fuel : Nat} {cs : List Value} {x : DataW H × List MemPlace} (f : α → AV) (m : α → Nat) (ht : Tryz.prog.underlying t = some (.slice e)) (hc : Tryz.prog.cellsOf e = sz) (hsz : 0 < sz)
  (hel : ∀ n cs y, n < fuel → DataW.trod enc Tryz.prog w 0 (fun _ => true) true n e cs = some y → cs.length = sz → ∃ (a : α) (v : Value), v.cells.toList = cs ∧ Rel w (oldP w) v (f a) ∧ m a ≤ Rows.uptoBulk y.1)
  (h : DataW.trod enc Tryz.prog w 0 (fun _ => true) true fuel t cs = some x) :
  ∃ (c : Value) (l : List α), cs = [c] ∧ Rel w (oldP w) c (.slc sz (l.map f) .fro) ∧ (l.map m).sum + 1 ≤ Rows.uptoBulk x.1 := by
 rcases DataW.trod_slice ht h with ⟨rfl, rfl⟩ | ⟨a, len, cap, elems, rest, n, rfl, rfl, rfl, hb, hl, hm, hlen, hel', hsp, hns⟩
 ·exact ⟨_, [], rfl, .slcNil _ _ (by simp), by simp [Rows.uptoBulk]⟩
 ·rw [hc] at hel' hsp
  have key : ∀ k, k ≤ len → ∃ (l : List α) (vs : List Value), l.length = k ∧ RelL w (oldP w) vs (l.map f) ∧ (∀ v ∈ vs, v.cells.size = sz) ∧ (∀ i u, (flat vs)[i]? = some u → w.cell? (a.add i) = some u) ∧
    (l.map m).sum ≤ Rows.uptoBulkAll ((elems.take k).map (·.1)) := by
   intro k
   induction k with
   | zero => intro _; exact ⟨[], [], rfl, .nil, by simp, by simp [flat], by simp⟩
   | succ k ih =>
    intro hk
    obtain ⟨l, vs, h1, h2, h3, h4, h5⟩ := ih (by omega)
    have hek : elems[k]? = some (elems[k]'(by omega)) := List.getElem?_eq_getElem (by omega)
    have hb := hel' k (by omega)
    rw [hek, Option.bind_eq_some_iff] at hb
    obtain ⟨cs', hcs, hy⟩ := hb
    obtain ⟨g1, g2⟩ := cells_old hcs
    obtain ⟨a', v, e1, e2, e3⟩ := hel n cs' _ (Nat.lt_succ_self n) hy g1
    have hvs : vs.length = k := by rw [h2.length, List.length_map, h1]
    refine ⟨l ++ [a'], vs ++ [v], by simp [h1], ?_, ?_, ?_, ?_⟩
    ·rw [List.map_append]; exact RelL.append' h2 (.cons _ _ _ _ e2 .nil)
    ·intro u hu
     rcases List.mem_append.1 hu with hu | hu
     ·exact h3 u hu
     ·simp only [List.mem_singleton] at hu
      subst hu
      rw [← Array.length_toList, e1, g1]
    ·intro i u hu
     have hf : flat (vs ++ [v]) = flat vs ++ cs' := by simp [flat, e1]
     rw [hf] at hu
     by_cases hi : i < (flat vs).length
     ·rw [List.getElem?_append_left hi] at hu; exact h4 i u hu
     ·rw [List.getElem?_append_right (by omega), flat_len h3, hvs] at hu
      have := g2 _ _ hu
      rw [add_add] at this
      rw [flat_len h3, hvs] at hi
      rwa [show k * sz + (i - k * sz) = i by omega] at this
    ·rw [List.take_add_one, hek]
     simp only [Option.toList_some, List.map_append, List.map_cons, List.map_nil, bulk_append, List.sum_append, List.sum_cons, List.sum_nil, Rows.uptoBulkAll]
     omega
  obtain ⟨l, vs, h1, h2, h3, h4, h5⟩ := key len (Nat.le_refl _)
  have hvs : vs.length = len := by rw [h2.length, List.length_map, h1]
  refine ⟨_, l, rfl, ?_, ?_⟩
  ·have hmx : maxLen = 9223372036854775807 := rfl
   by_cases hcap : cap = 0
   ·have hl0 : len = 0 := by omega
    subst hl0; subst hcap
    have : l = [] := List.eq_nil_of_length_eq_zero h1
    subst this
    exact .slcZ a _ _ (.inl rfl)
   ·have hcell : ∃ v, w.cell? a = some v := by
     by_cases hl0 : len = 0
     ·obtain ⟨hr, hr'⟩ := hsp rfl
      have hek : rest[0]? = some (rest[0]'(by omega)) := List.getElem?_eq_getElem (by omega)
      have := hr' 0 (by omega)
      rw [hek, Option.bind_eq_some_iff] at this
      obtain ⟨cs', hcs, -⟩ := this
      obtain ⟨g1, g2⟩ := cells_old hcs
      have := g2 0 _ (List.getElem?_eq_getElem (by omega))
      rw [hl0, add_add] at this
      simp only [Nat.add_zero, Nat.zero_mul, Addr.add, if_true] at this
      exact ⟨_, this⟩
     ·have := h4 0 _ (List.getElem?_eq_getElem (by rw [flat_len h3, hvs]; exact Nat.mul_pos (by omega) hsz))
      simp only [Addr.add, if_true] at this
      exact ⟨_, this⟩
    obtain ⟨v, hv⟩ := hcell
    obtain ⟨hs, hlt⟩ := cell_old hv
    obtain ⟨g, off, spot⟩ := a
    simp only at hs hlt
    subst hs
    refine .slc g off len cap sz vs _ .fro (by simp) (by rw [List.length_map, h1]) (fun i u hu => ⟨hlt, ?_⟩) h2 h3 (by omega) hl (by simp) (by simp)
    have := h4 i u hu
    rwa [add_none] at this
  ·simp only [Rows.uptoBulk]
   rw [List.take_of_length_le (by omega)] at h5
   omega

theorem trod_int {t : TypeId} {fuel : Nat} {cs : List Value} {y : DataW H × List MemPlace} (ht : Tryz.prog.underlying t = some (.int .i64)) (h : DataW.trod enc Tryz.prog w 0 (fun _ => true) true fuel t cs = some y) :
  ∃ n : Int, RelL w (oldP w) cs [.int .i64 n] ∧ 1 ≤ Rows.uptoBulk y.1 := by
 obtain ⟨n, rfl, rfl, -⟩ := DataW.trod_int ht h
 exact ⟨n, .cons _ _ _ _ (.int _ _) .nil, by simp [Rows.uptoBulk]⟩

theorem trod_strC {fuel : Nat} {cs : List Value} {y : DataW H × List MemPlace} (h : DataW.trod enc Tryz.prog w 0 (fun _ => true) true fuel 9 cs = some y) :
  ∃ s : Str, RelL w (oldP w) cs [.str s] ∧ s.length + 1 ≤ Rows.uptoBulk y.1 := by
 obtain ⟨s, rfl, rfl, hs⟩ := DataW.trod_string Tryz.underlying9 h
 exact ⟨s.data.toList, .cons _ _ _ _ (.str _ _ rfl) .nil, by simp [Rows.uptoBulk]⟩

theorem trod_aggs {α : Type} {t e : TypeId} {sz fuel : Nat} {cs : List Value} {x : DataW H × List MemPlace} (f : α → List AV) (m : α → Nat) (ht : Tryz.prog.underlying t = some (.slice e)) (hc : Tryz.prog.cellsOf e = sz) (hsz : 0 < sz)
  (hel : ∀ n cs y, n < fuel → DataW.trod enc Tryz.prog w 0 (fun _ => true) true n e cs = some y → ∃ a : α, RelL w (oldP w) cs (f a) ∧ m a ≤ Rows.uptoBulk y.1)
  (h : DataW.trod enc Tryz.prog w 0 (fun _ => true) true fuel t cs = some x) :
  ∃ l : List α, RelL w (oldP w) cs [.slc sz (l.map fun a => .agg (f a)) .fro] ∧ (l.map m).sum + 1 ≤ Rows.uptoBulk x.1 := by
 obtain ⟨c, l, rfl, h1, h2⟩ := trod_list (fun a => AV.agg (f a)) m ht hc hsz (fun n cs y hn hy _ => by
  obtain ⟨a, g1, g2⟩ := hel n cs y hn hy
  exact ⟨a, .agg cs.toArray, by simp [Value.cells], .agg _ _ (by simpa using g1), g2⟩) h
 exact ⟨l, .cons _ _ _ _ h1 .nil, h2⟩

theorem agg_bulk (l : List (DataW H)) : Rows.uptoBulk (.agg l) = Rows.uptoBulkAll l + 1 := by simp [Rows.uptoBulk]

def fld (nm : String) (t : TypeId) (off boff : Nat) : Field := { name := nm, type := t, offset := off, embedded := false, tag := "", pkgPath := "", byteOffset := boff }

mutual
def FExp.weight : FExp → Nat
 | .mk _ _ t ks => t.length + 5 + FExp.weights ks
def FExp.weights : List FExp → Nat
 | [] => 0
 | k :: r => k.weight + FExp.weights r
end
theorem FExp.weights_eq : ∀ l : List FExp, FExp.weights l = (l.map FExp.weight).sum
 | [] => rfl
 | k :: r => by rw [FExp.weights, FExp.weights_eq r]; rfl

set_option maxRecDepth 10000 in
theorem trod_exp : ∀ (fuel : Nat) (cs : List Value) (y : DataW H × List MemPlace), DataW.trod enc Tryz.prog w 0 (fun _ => true) true fuel 27 cs = some y → ∃ e : FExp, RelL w (oldP w) cs e.cells ∧ e.weight ≤ Rows.uptoBulk y.1 := by
 intro fuel
 induction fuel using Nat.strongRecOn with
 | _ fuel ih =>
  intro cs y h
  obtain ⟨xs, n, rfl, rfl, hl, hlen, hf⟩ := DataW.trod_struct Tryz.underlying27 h
  have c___api_FormExp : Tryz.prog.cellsOf 25 = 1 := by kernel_rfl
  have c_api_FormExp : Tryz.prog.cellsOf 27 = 4 := by kernel_rfl
  have c_api_FormOp : Tryz.prog.cellsOf 24 = 1 := by kernel_rfl
  have c_int : Tryz.prog.cellsOf 3 = 1 := by kernel_rfl
  have c_string : Tryz.prog.cellsOf 9 = 1 := by kernel_rfl
  rw [c_api_FormExp] at hl
  match cs, hl, xs, hlen with
  | [v0, v1, v2, v3], _, [y0, y1, y2, y3], _ =>
   have h0 := hf 0 (fld "Op" 24 0 0) rfl
   have h1 := hf 1 (fld "N" 3 1 8) rfl
   have h2 := hf 2 (fld "Text" 9 2 16) rfl
   have h3 := hf 3 (fld "Kids" 25 3 32) rfl
   simp only [fld, c___api_FormExp, c_api_FormExp, c_api_FormOp, c_int, c_string, List.drop, List.take] at h0 h1 h2 h3
   obtain ⟨o, g0, b0⟩ := trod_int Tryz.underlying24 h0
   obtain ⟨k, g1, b1⟩ := trod_int Tryz.underlying3 h1
   obtain ⟨s, g2, b2⟩ := trod_strC h2
   obtain ⟨ks, g3, b3⟩ := trod_aggs FExp.cells FExp.weight Tryz.underlying25 c_api_FormExp (by omega) (fun m cs y hm hy => ih m (by omega) cs y hy) h3
   refine ⟨.mk o k s ks, ?_, ?_⟩
   ·have : (FExp.mk o k s ks).cells = [.int .i64 o] ++ ([.int .i64 k] ++ ([.str s] ++ [.slc 4 (ks.map FExp.av) .fro])) := by
     show [_, _, _, _] = _
     rw [FExp.kav_eq]; rfl
    rw [this]
    exact RelL.append' (vs := [v0]) g0 (RelL.append' (vs := [v1]) g1 (RelL.append' (vs := [v2]) g2 g3))
   ·simp only [agg_bulk, List.map_cons, List.map_nil, Rows.uptoBulkAll, FExp.weight, FExp.weights_eq]
    omega

mutual
def FFact.weight : FFact → Nat
 | .mk _ x p c _ ks => x.length + (p.map fun s => s.length + 1).sum + c.length + 7 + FFact.weights ks
def FFact.weights : List FFact → Nat
 | [] => 0
 | k :: r => k.weight + FFact.weights r
end
theorem FFact.weights_eq : ∀ l : List FFact, FFact.weights l = (l.map FFact.weight).sum
 | [] => rfl
 | k :: r => by rw [FFact.weights, FFact.weights_eq r]; rfl

def sumS (l : List Str) : Nat := (l.map fun s => s.length + 1).sum
def FInit.weight (x : FInit) : Nat := x.slot.length + 3
def FClass.weight (c : FClass) : Nat := c.name.length + sumS c.parents + sumS c.slots + (c.inits.map FInit.weight).sum + 5
def FMethod.weight (m : FMethod) : Nat := m.name.length + sumS m.params + m.fact.weight + m.body.weight + 4
def FProg.weight (P : FProg) : Nat := (P.classes.map FClass.weight).sum + (P.methods.map FMethod.weight).sum + P.main.weight + 3

end
end Go.Proofs.YtaafacnoddjhgaaGreat

/- How a contract closes a law: the call returns true, and the arguments read as they did. -/
namespace Go.Proofs.YtaafacnoddjhgaaGreat
open Go.AE Go.ChangeShapes Go.WideShapes Go.ChangeAt Go.RowKit

theorem trodAll_stays {H : Type} {enc : TypeId × Value → H} {P : Program} {W W' : World} (hl : laidOutB P = true) : ∀ {ts : List TypeId} {vs : List Value} {ds : List (DataW H)} {ps : List MemPlace} {sp : Nat → Bool}, (∀ t ∈ ts, P.readableRec t = true ∧ t < P.types.size) →
    DataW.TrodAll enc P W 0 (fun _ => true) true ts vs ds ps → (∀ p ∈ ps, W.sameAt W' p) → (∀ p ∈ ps, sp p.block = true) → DataW.TrodAll enc P W' 0 sp true ts vs ds ps
  | [], [], [], _, _, _, h, _, _ => h
  | t :: ts, v :: vs, d :: ds, ps, sp, ht, h, hs, hb => by
    obtain ⟨p, q, h1, h2, rfl⟩ := h
    obtain ⟨r1, r2⟩ := ht t List.mem_cons_self
    exact ⟨p, q, WideElems.Trod_stays hl r1 r2 h1 (fun x hx => hs x (List.mem_append_left _ hx)) (fun x hx => hb x (List.mem_append_left _ hx)),
      trodAll_stays hl (fun t ht' => ht t (List.mem_cons_of_mem _ ht')) h2 (fun x hx => hs x (List.mem_append_right _ hx)) (fun x hx => hb x (List.mem_append_right _ hx)), rfl⟩
  | [], [], _ :: _, _, _, _, h, _, _ => h.elim
  | [], _ :: _, _, _, _, _, h, _, _ => h.elim
  | _ :: _, [], _, _, _, _, h, _, _ => h.elim
  | _ :: _, _ :: _, [], _, _, _, h, _, _ => h.elim

theorem close_true {H : Type} {enc : TypeId × Value → H} {f : FuncId} {fn : Func} {spec : ChangeSpec} {W : World} {args : Array Value} {xs : List AV} {ds gs : List (DataW H)} {before : List MemPlace}
  (hl : laidOutB Tryz.prog = true) (hp : ∀ t ∈ fn.params.toList, Tryz.prog.readableRec t = true ∧ t < Tryz.prog.types.size) (hr : fn.resultTypes = #[4]) (hv : spec.vars = [])
  (hsp : gs = [] → spec.fn H (ds ++ gs) = { results := [.lit (.bool true)], args := ds })
  (hW : DataW.Whole enc Tryz.prog fn.params.toList spec.vars false W args.toList ds gs before) (hrel : RelL W (oldP W) args.toList xs) (hc : ACalls Tryz.prog f xs (fun _ => none) (fun o s' => o = .ret (.bool true) ∧ s' = fun _ => none)) :
  Calls Tryz.prog f args W fun e W' => ∃ v, e = .returned v ∧ spec.post enc Tryz.prog fn false true false false W args v W' := by
 have h := hc.2 W (oldP W) args.toList (wf_old W) hrel
 rw [Array.toArray_toList] at h
 refine Calls.mono h fun e W' ⟨hne, o, s', p', hout, ⟨ho, hs'⟩, hle, hk, hwf⟩ => ?_
 subst ho
 cases e with
 | returned v =>
  have hb : Rel W' p' v (.bool true) := hout
  cases hb
  have hbelow : Below W.heap.size W W' := ⟨hle.os, hle.tape, hle.output, hle.size, fun k hk' => hk.heap k hk' rfl⟩
  have hlt := hW.lt
  have hW' := hW
  obtain ⟨p, q, hA, hV, rfl, hfz, hnd⟩ := hW
  rw [hv] at hV
  obtain ⟨rfl, rfl⟩ := trodVars_none hV
  have hspec := hsp rfl
  refine ⟨_, rfl, ds, [], _, [], p, [], hW', ?_, ?_, ?_, hbelow.frame _, fun h => by cases h⟩
  ·rw [hspec, hr]
   exact trodAll_cons_mk (shut_bool Tryz.underlying4 _) trodAll_mk0
  ·rw [hspec]
   exact trodAll_stays hl hp hA (fun x hx => hbelow.same (hlt x (by simpa using hx))) (fun x hx => by simpa using hlt x (by simpa using hx))
  ·rw [hspec, hv]; exact rfl
 | panicked ch => exact hout.elim
 | outgrown => exact hout.elim

theorem laidOut : laidOutB Tryz.prog = true := by kernel_rfl
end Go.Proofs.YtaafacnoddjhgaaGreat

/- Contracts of the reference: what an expression's node has to have. -/
namespace Go.Proofs.YtaafacnoddjhgaaGreat
open Go.AE

set_option maxRecDepth 10000 in
theorem refIn_spec (n : Int) (s : Store) : ACalls Tryz.prog 98 [.int .i64 n] s (fun o s' => o = .ret (.bool (between n)) ∧ s' = s) := by
 refine ACalls.of_CW tO call98 Tryz.func98 rfl rfl ?_
 repeat' (first | (with_reducible first | apply CW.seq | apply aN | apply CW.ret) | refine wR rfl ?_ | refine CW.reg ?_ | refine RL.nil ?_ | refine wS rfl ?_ | refine RL.skip rfl rfl rfl ?_ | refine RL.gstepT tO rfl rfl rfl rfl rfl rfl rfl (fun _ => ?_) (fun _ => ?_))
 all_goals refine ⟨_, _, _, rfl, aRfl, sSub, ?_, rfl⟩
 all_goals first | (simp_all [between]; done) | (simp_all [between]; omega)

def rowR (op : Int) (len : Nat) : Option (Int × Bool) :=
 if op == 2 || op == 18 then some (0, false) else if op == 3 || op == 6 then some (0, true) else if op == 4 || op == 8 then some (1, true) else if op == 7 || op == 9 then some (2, true)
 else if op == 5 then some (max 1 (min (len : Int) 3), true) else if op == 10 then some (3, false) else if op == 17 then some (1, false)
 else if ((((op == 11 || op == 12) || op == 13) || op == 14) || op == 15) || op == 16 then some (2, false) else none

def lastR (e : FExp) (r : Int × Bool) : Bool := ((e.n == 0 && ((e.kids.length : Int) == r.1)) && (r.2 == !(e.text == []))) && (!r.2 || nameS e.text)
def shapedB (e : FExp) : Bool :=
 if e.op == 1 then (between e.n && e.text == []) && ((e.kids.length : Int) == 0) else match rowR e.op e.kids.length with | none => false | some r => lastR e r

set_option maxRecDepth 10000 in
set_option maxHeartbeats 2000000 in
theorem refShaped_spec (e : FExp) (s : Store) (ht : e.text.length < 9223372036854775807) (hk : e.kids.length < 9223372036854775807) :
  ACalls Tryz.prog 127 [e.av] s (fun o s' => o = .ret (.bool (shapedB e)) ∧ s' = s) := by
 have hkl := e.kav_length
 by_cases h1 : e.op = 1
 ·refine ACalls.of_CW tO call127 Tryz.func127 rfl rfl ?_
  obtain ⟨o, n, t, ks⟩ := e
  simp only [FExp.op] at h1
  subst h1
  repeat' (first | (with_reducible first | apply CW.seq | apply aN | apply aR | apply iR | apply CW.ret | apply CW.block) | refine wR rfl ?_ | refine CW.reg ?_ | refine RL.nil ?_ | refine CW.condT rfl ?_ | refine wS rfl ?_ | refine RL.skip rfl rfl rfl ?_ | refine RL.gstepT tO rfl rfl rfl rfl rfl rfl rfl (fun _ => ?_) (fun _ => ?_) | refine RL.callP rfl rfl rfl rfl rfl (refIn_spec n s) ?_)
  all_goals refine ⟨_, _, _, rfl, AVle.of_eq ?_, sSub, rfl, rfl⟩
  all_goals simp_all [shapedB, FExp.op, FExp.n, FExp.text, FExp.kids]
 by_cases hn : rowR e.op e.kids.length = none
 ·have hall : e.op ≠ 2 ∧ e.op ≠ 18 ∧ e.op ≠ 3 ∧ e.op ≠ 6 ∧ e.op ≠ 4 ∧ e.op ≠ 8 ∧ e.op ≠ 7 ∧ e.op ≠ 9 ∧ e.op ≠ 5 ∧ e.op ≠ 10 ∧ e.op ≠ 17 ∧ e.op ≠ 11 ∧ e.op ≠ 12 ∧ e.op ≠ 13 ∧ e.op ≠ 14 ∧ e.op ≠ 15 ∧ e.op ≠ 16 := by
   refine ⟨?_, ?_, ?_, ?_, ?_, ?_, ?_, ?_, ?_, ?_, ?_, ?_, ?_, ?_, ?_, ?_, ?_⟩ <;> (intro h; rw [h] at hn; simp [rowR] at hn)
  have hs : shapedB e = false := by
   unfold shapedB
   rw [if_neg (by simpa using h1), hn]
  rw [hs]
  refine ACalls.of_CW tO call127 Tryz.func127 rfl rfl ?_
  repeat (first | (with_reducible first | apply CW.seq | apply aN | apply CW.block) | refine wR rfl ?_)
  refine CW.cond rfl (fun h => absurd h (by simp; omega)) (fun _ => ?_)
  repeat (first | (with_reducible first | apply CW.seq | apply aN) | refine wR rfl ?_)
  refine CW.cond rfl (fun h => absurd h (by simp; omega)) (fun _ => ?_)
  repeat (first | with_reducible apply aN | refine wR rfl ?_)
  refine CW.cond rfl (fun h => absurd h (by simp; omega)) (fun _ => ?_)
  repeat (first | (with_reducible first | apply CW.seq | apply aN) | refine wR rfl ?_)
  refine CW.cond rfl (fun h => absurd h (by simp; omega)) (fun _ => ?_)
  repeat (first | with_reducible apply aN | refine wR rfl ?_)
  refine CW.cond rfl (fun h => absurd h (by simp; omega)) (fun _ => ?_)
  repeat (first | (with_reducible first | apply CW.seq | apply aN) | refine wR rfl ?_)
  refine CW.cond rfl (fun h => absurd h (by simp; omega)) (fun _ => ?_)
  repeat (first | with_reducible apply aN | refine wR rfl ?_)
  refine CW.cond rfl (fun h => absurd h (by simp; omega)) (fun _ => ?_)
  repeat (first | (with_reducible first | apply CW.seq | apply aN) | refine wR rfl ?_)
  refine CW.cond rfl (fun h => absurd h (by simp; omega)) (fun _ => ?_)
  repeat (first | with_reducible apply aN | refine wR rfl ?_)
  refine CW.cond rfl (fun h => absurd h (by simp; omega)) (fun _ => ?_)
  repeat (first | (with_reducible first | apply CW.seq | apply aN) | refine wR rfl ?_)
  refine CW.cond rfl (fun h => absurd h (by simp; omega)) (fun _ => ?_)
  repeat (first | (with_reducible first | apply CW.seq | apply aN) | refine wR rfl ?_)
  refine CW.cond rfl (fun h => absurd h (by simp; omega)) (fun _ => ?_)
  repeat (first | (with_reducible first | apply CW.seq | apply aN) | refine wR rfl ?_)
  refine CW.cond rfl (fun h => absurd h (by simp; omega)) (fun _ => ?_)
  repeat (first | (with_reducible first | apply CW.seq | apply aN) | refine wR rfl ?_)
  refine CW.cond rfl (fun h => absurd h (by simp; omega)) (fun _ => ?_)
  repeat (first | (with_reducible first | apply CW.seq | apply aN) | refine wR rfl ?_)
  refine CW.cond rfl (fun h => absurd h (by simp; omega)) (fun _ => ?_)
  repeat (first | (with_reducible first | apply CW.seq | apply aN) | refine wR rfl ?_)
  refine CW.cond rfl (fun h => absurd h (by simp; omega)) (fun _ => ?_)
  repeat (first | (with_reducible first | apply CW.seq | apply aN) | refine wR rfl ?_)
  refine CW.cond rfl (fun h => absurd h (by simp; omega)) (fun _ => ?_)
  repeat (first | (with_reducible first | apply CW.seq | apply aN) | refine wR rfl ?_)
  refine CW.cond rfl (fun h => absurd h (by simp; omega)) (fun _ => ?_)
  repeat (first | with_reducible apply aN | refine wR rfl ?_)
  refine CW.cond rfl (fun h => absurd h (by simp; omega)) (fun _ => ?_)
  repeat (first | (with_reducible first | apply CW.seq | apply aN | apply aR | apply iR | apply CW.ret) | refine wR rfl ?_)
  exact ⟨_, _, _, rfl, aRfl, sSub, rfl, rfl⟩
 ·obtain ⟨r, hr⟩ := Option.ne_none_iff_exists'.1 hn
  have hs : shapedB e = lastR e r := by
   unfold shapedB
   rw [if_neg (by simpa using h1), hr]
  rw [hs]
  refine ACalls.of_CW tO call127 Tryz.func127 rfl rfl ?_
  repeat (first | (with_reducible first | apply CW.seq | apply aN) | refine wR rfl ?_)
  refine CW.atCut (σ := Unit) (fun _ => [(1, .fptr e.cells 0), (3, .int .i64 r.1), (4, .bool r.2)]) (fun _ => s) (fun _ => True) ?_ ?_
  ·have hop : e.op = 2 ∨ e.op = 18 ∨ e.op = 3 ∨ e.op = 6 ∨ e.op = 4 ∨ e.op = 8 ∨ e.op = 7 ∨ e.op = 9 ∨ e.op = 5 ∨ e.op = 10 ∨ e.op = 17 ∨ e.op = 11 ∨ e.op = 12 ∨ e.op = 13 ∨ e.op = 14 ∨ e.op = 15 ∨ e.op = 16 := by
    refine Classical.byContradiction fun hc => hn ?_
    simp only [not_or] at hc
    obtain ⟨k2, k18, k3, k6, k4, k8, k7, k9, k5, k10, k17, k11, k12, k13, k14, k15, k16⟩ := hc
    simp [rowR, k2, k18, k3, k6, k4, k8, k7, k9, k5, k10, k17, k11, k12, k13, k14, k15, k16]
   obtain ⟨o, n, t, ks⟩ := e
   simp only [FExp.op, FExp.kids] at hop hr h1
   rcases hop with rfl | rfl | rfl | rfl | rfl | rfl | rfl | rfl | rfl | rfl | rfl | rfl | rfl | rfl | rfl | rfl | rfl
   all_goals (simp [rowR] at hr; subst hr)
   all_goals repeat (first | (with_reducible first | apply CW.seq | apply aN | apply iN | apply CW.skip | apply CW.block) | refine wR rfl ?_ | refine CW.reg ?_ | refine RL.nil ?_ | refine CW.condT rfl ?_ | refine CW.condF rfl ?_ | refine wS rfl ?_ | refine RL.stepX tO rfl rfl rfl rfl ?_)
   all_goals exact ⟨rfl, (), trivial, (by repeat (first | exact trivial | refine ⟨⟨_, rfl, aRfl⟩, ?_⟩ | refine ⟨⟨_, rfl, AVle.of_eq (by (rw [hkl]; simp only [FExp.kids]; congr 1; (repeat' split) <;> omega))⟩, ?_⟩)), sSub⟩
  ·intro _ _
   repeat' (first | (with_reducible first | apply CW.seq | apply aN | apply CW.ret) | refine CW.reg ?_ | refine RL.nil ?_ | refine wS rfl ?_ | refine RL.skip rfl rfl rfl ?_ | refine RL.gstepT tO rfl rfl rfl rfl rfl rfl rfl (fun _ => ?_) (fun _ => ?_) | refine RL.gstepF tO rfl rfl rfl rfl rfl rfl rfl (fun _ => ?_) (fun _ => ?_) | refine RL.callP rfl rfl rfl rfl rfl (refName_spec e.text s ht) ?_)
   all_goals refine ⟨_, _, _, rfl, AVle.of_eq ?_, sSub, rfl, rfl⟩
   all_goals simp_all [lastR]
end Go.Proofs.YtaafacnoddjhgaaGreat

/- Contracts of the reference: what an expression has to be. -/
namespace Go.Proofs.YtaafacnoddjhgaaGreat
open Go.AE

mutual
def FExp.cnt (d : Nat) (k : Int) : FExp → Bool × Int
 | .mk o n t ks => if (decide (k - 1 < 0) || decide (d > 12)) || !shapedB (.mk o n t ks) then (false, k - 1) else FExp.cnts (d + 1) (k - 1) ks
def FExp.cnts (d : Nat) (k : Int) : List FExp → Bool × Int
 | [] => (true, k)
 | e :: r => if (FExp.cnt d k e).1 then FExp.cnts d (FExp.cnt d k e).2 r else (false, (FExp.cnt d k e).2)
end

theorem FExp.cnt_def (d : Nat) (k : Int) (e : FExp) : FExp.cnt d k e = if (decide (k - 1 < 0) || decide (d > 12)) || !shapedB e then (false, k - 1) else FExp.cnts (d + 1) (k - 1) e.kids := by
 cases e; rw [FExp.cnt]; rfl

mutual
theorem FExp.cnt_le : ∀ (e : FExp) (d : Nat) (k : Int), (FExp.cnt d k e).1 = true → 0 ≤ (FExp.cnt d k e).2 ∧ (FExp.cnt d k e).2 ≤ k
  | .mk o n t ks, d, k, h => by
    rw [FExp.cnt] at h ⊢
    split at h
    · cases h
    · rename_i hc
      rw [if_neg hc]
      have := FExp.cnts_le ks (d + 1) (k - 1) (by simp only [Bool.or_eq_true, decide_eq_true_eq, not_or] at hc; omega) h
      omega
theorem FExp.cnts_le : ∀ (l : List FExp) (d : Nat) (k : Int), 0 ≤ k → (FExp.cnts d k l).1 = true → 0 ≤ (FExp.cnts d k l).2 ∧ (FExp.cnts d k l).2 ≤ k
  | [], d, k, hk, h => by rw [FExp.cnts]; exact ⟨hk, Int.le_refl _⟩
  | e :: r, d, k, hk, h => by
    rw [FExp.cnts] at h ⊢
    split at h
    · rename_i hc
      rw [if_pos hc]
      obtain ⟨h1, h2⟩ := FExp.cnt_le e d k hc
      obtain ⟨h3, h4⟩ := FExp.cnts_le r d _ h1 h
      exact ⟨h3, Int.le_trans h4 h2⟩
    · cases h
end

/-! ### It is the same as the other layer's look -/

theorem max3 (n : Nat) : ((n : Int) == max 1 (min (n : Int) 3)) = (decide ((n : Int) ≥ 1) && decide ((n : Int) ≤ 3)) := by
 rw [Bool.eq_iff_iff]; simp; omega

theorem shaped_node (e : FExp) : shapedB e = nodeE e := by
 obtain ⟨o, n, t, ks⟩ := e
 have hkl : (FExp.mk o n t ks).kav.length = ks.length := FExp.kav_length _
 simp only [nodeE, nodeE1, nodeE2, shapedB, lastR, FExp.op, FExp.n, FExp.text, FExp.kids, hkl]
 by_cases h : o ∈ shapeL.map (·.1)
 ·simp only [shapeL, List.map_cons, List.map_nil, List.mem_cons, List.not_mem_nil, or_false] at h
  rcases h with rfl | rfl | rfl | rfl | rfl | rfl | rfl | rfl | rfl | rfl | rfl | rfl | rfl | rfl | rfl | rfl | rfl | rfl
  all_goals simp only [shapeOf, shapeL, rowR, shA, shB, shN, max3]
  all_goals (rw [Bool.eq_iff_iff]; simp; (try omega); (try grind))
  have hb0 : between 0 = true := by decide
  by_cases hn0 : n = 0
  ·subst hn0; constructor <;> intro h <;> simp_all
  ·constructor <;> intro h <;> simp_all
 ·simp only [shapeL, List.map_cons, List.map_nil, List.mem_cons, List.not_mem_nil, or_false, not_or] at h
  obtain ⟨k1, k2, k18, k3, k6, k4, k8, k7, k9, k5, k10, k17, k11, k12, k13, k14, k15, k16⟩ := h
  simp [shapeOf, shapeL, rowR, k1, k2, k18, k3, k6, k4, k8, k7, k9, k5, k10, k17, k11, k12, k13, k14, k15, k16]

theorem exp_nodes (e : FExp) (d : Nat) : (Part.exp e).nodes d = (d, .exp e) :: e.kids.flatMap (fun k => (Part.exp k).nodes (d + 1)) := by
 rw [Part.nodes_eq]
 show _ :: (e.kids.map Part.exp).flatMap _ = _
 rw [List.flatMap_map]

mutual
theorem cnt_nodes : ∀ (e : FExp) (d : Nat) (k : Int), 0 ≤ k → (FExp.cnt d k e).1 = (decide ((e.size : Int) ≤ k) && ((Part.exp e).nodes d).all nodeOk) ∧ ((FExp.cnt d k e).1 = true → (FExp.cnt d k e).2 = k - e.size)
  | .mk o n t ks, d, k, hk => by
    have hsz : (FExp.mk o n t ks).size = 1 + FExp.sizes ks := by rw [FExp.size]
    rw [FExp.cnt, exp_nodes, List.all_cons]
    have hok : nodeOk (d, .exp (.mk o n t ks)) = (decide (d ≤ 12) && shapedB (.mk o n t ks)) := by rw [shaped_node]; rfl
    rw [hok]
    split
    · rename_i h
      refine ⟨?_, fun h => by cases h⟩
      simp only [Bool.or_eq_true, decide_eq_true_eq, Bool.not_eq_true'] at h
      rcases h with (h | h) | h
      · rw [decide_eq_false (by rw [hsz]; omega)]; rfl
      · rw [decide_eq_false (by omega : ¬ d ≤ 12)]; simp
      · rw [h]; simp
    · rename_i h
      simp only [Bool.or_eq_true, decide_eq_true_eq, Bool.not_eq_true', not_or, Bool.not_eq_false] at h
      obtain ⟨⟨h1, h2⟩, h3⟩ := h
      obtain ⟨g1, g2⟩ := cnts_nodes ks (d + 1) (k - 1) (by omega)
      refine ⟨?_, fun h => by rw [g2 h, hsz]; omega⟩
      rw [g1, h3, decide_eq_true (by omega : d ≤ 12), hsz]
      have : (decide (((1 + FExp.sizes ks : Nat) : Int) ≤ k)) = decide ((FExp.sizes ks : Int) ≤ k - 1) := by
        rw [Bool.eq_iff_iff]; simp; omega
      rw [this]; simp [FExp.kids]
theorem cnts_nodes : ∀ (l : List FExp) (d : Nat) (k : Int), 0 ≤ k → (FExp.cnts d k l).1 = (decide ((FExp.sizes l : Int) ≤ k) && (l.flatMap fun e => (Part.exp e).nodes d).all nodeOk) ∧ ((FExp.cnts d k l).1 = true → (FExp.cnts d k l).2 = k - FExp.sizes l)
  | [], d, k, hk => by simp [FExp.cnts, FExp.sizes, hk]
  | e :: r, d, k, hk => by
    obtain ⟨g1, g2⟩ := cnt_nodes e d k hk
    rw [FExp.cnts, FExp.sizes, List.flatMap_cons, List.all_append]
    split
    · rename_i h
      rw [g2 h]
      rw [h] at g1
      have g1' := g1.symm
      simp only [Bool.and_eq_true, decide_eq_true_eq] at g1'
      obtain ⟨q1, q2⟩ := cnts_nodes r d (k - e.size) (by omega)
      refine ⟨?_, fun h => by rw [q2 h]; omega⟩
      rw [q1, g1'.2]
      have : (decide (((e.size + FExp.sizes r : Nat) : Int) ≤ k)) = decide ((FExp.sizes r : Int) ≤ k - e.size) := by
        rw [Bool.eq_iff_iff]; simp; omega
      rw [this]; simp
    · rename_i h
      rw [Bool.not_eq_true] at h
      refine ⟨?_, fun h => by cases h⟩
      rw [h] at g1
      cases ha : ((Part.exp e).nodes d).all nodeOk with
      | false => simp
      | true =>
        rw [ha] at g1
        simp only [Bool.and_true] at g1
        have := of_decide_eq_false g1.symm
        rw [decide_eq_false (by omega)]; rfl
end

def leftO (k : Int) : AObj := .box 3 [.int .i64 k]

set_option maxRecDepth 10000 in
set_option maxHeartbeats 1000000 in
theorem refCount_spec (lb : Nat) : ∀ (n : Nat) (e : FExp) (dd d : Nat) (k : Int) (s : Store), e.size ≤ n → e.size ≤ big → (∀ x ∈ (Part.exp e).nodes dd, x.2.short) → 0 ≤ k → k ≤ 120 → d ≤ 13 → s lb = some (leftO k) →
  ACalls Tryz.prog 84 [e.av, .int .i64 (d : Int), .ptr lb 0] s (fun o s' => o = .ret (.bool (FExp.cnt d k e).1) ∧ s' = s.set lb (leftO (FExp.cnt d k e).2)) := by
 intro n
 induction n with
 | zero => intro e dd d k s h; have := e.size_pos; omega
 | succ n ih =>
  intro e dd d k s hn hbig hsh hk0 hk hd hs
  have hlen := e.kids_length
  have hkl := e.kav_length
  have hb : big = 1099511627776 := rfl
  have het : e.text.length < 9223372036854775807 := hsh (dd, .exp e) (by rw [Part.nodes_eq]; exact List.mem_cons_self)
  refine ACalls.of_CW tO call84 Tryz.func84 rfl rfl ?_
  refine CW.seqCut [(1, .int .i64 (d : Int)), (2, .ptr lb 0), (3, .fptr e.cells 0)] s ?_ ?_
  ·repeat (first | refine wR rfl ?_)
   exact ⟨rfl, (wE rfl), sSub⟩
  refine CW.seqCut [(1, .int .i64 (d : Int)), (2, .ptr lb 0), (3, .fptr e.cells 0)] (s.set lb (leftO (k - 1))) ?_ ?_
  ·repeat (first | refine CW.reg ?_ | refine wS rfl ?_ | refine RL.loadP tO rfl rfl rfl rfl rfl rfl (by assumption) rfl ?_)
   refine RL.storeP tO rfl rfl rfl rfl rfl rfl rfl rfl rfl hs rfl ?_
   repeat (first | refine RL.nil ?_)
   refine ⟨rfl, (wE rfl), ?_⟩
   show Store.Sub (s.set lb (leftO (k - 1))) (s.set lb (leftO (IntKind.wrap .i64 (k - 1))))
   rw [i64_wrap (by omega) (by omega)]; exact sSub
  have hs1 : (s.set lb (leftO (k - 1))) lb = some (leftO (k - 1)) := sSam
  refine CW.seq ?_
  refine CW.seqCut [(1, .int .i64 (d : Int)), (2, .ptr lb 0), (3, .fptr e.cells 0), (26, .bool ((decide (k - 1 < 0) || decide (d > 12)) || !shapedB e))] (s.set lb (leftO (k - 1))) ?_ ?_
  ·repeat' (first | refine CW.reg ?_ | refine RL.nil ?_ | refine wS rfl ?_ | refine RL.skip rfl rfl rfl ?_ | refine RL.gstepF tO rfl rfl rfl rfl rfl rfl rfl (fun _ => ?_) (fun _ => ?_) | refine RL.loadP tO rfl rfl rfl rfl rfl rfl hs1 rfl ?_ | refine RL.callP rfl rfl rfl rfl rfl (refShaped_spec e _ het (by omega)) ?_)
   all_goals refine ⟨rfl, (by repeat (first | exact trivial | refine ⟨⟨_, rfl, aRfl⟩, ?_⟩ | refine ⟨⟨_, rfl, AVle.of_eq (by (congr 1; rw [Bool.eq_iff_iff]; simp_all; (try omega)))⟩, ?_⟩)), sSub⟩
  have hcd := FExp.cnt_def d k e
  cases hc : (decide (k - 1 < 0) || decide (d > 12)) || !shapedB e with
  | true =>
   rw [hc, if_pos rfl] at hcd
   rw [hcd]
   repeat (first | (with_reducible first | apply CW.seq | apply aN | apply aR | apply CW.ret) | refine wR rfl ?_ | refine CW.condT rfl ?_)
   exact ⟨_, _, _, rfl, aRfl, sSub, rfl, rfl⟩
  | false =>
   rw [hc, if_neg (by simp)] at hcd
   rw [hcd]
   simp only [Bool.or_eq_false_iff, decide_eq_false_iff_not] at hc
   repeat (first | (with_reducible first | apply CW.seq | apply aN | apply CW.skip | apply CW.block) | refine wR rfl ?_ | refine CW.condF rfl ?_)
   refine CW.loop (σ := Nat × Int) (fun q => [(1, .int .i64 (d : Int)), (2, .ptr lb 0), (3, .fptr e.cells 0), (7, .int .i64 (q.1 : Int))]) (fun q => s.set lb (leftO q.2))
    (fun q => q.1 ≤ e.kids.length ∧ 0 ≤ q.2 ∧ q.2 ≤ 120 ∧ FExp.cnts (d + 1) q.2 (e.kids.drop q.1) = FExp.cnts (d + 1) (k - 1) e.kids) (fun q => e.kids.length - q.1) (0, k - 1) ⟨by simp, by show 0 ≤ k - 1; omega, by show k - 1 ≤ 120; omega, rfl⟩ ?_ sSub ?_
   ·exact (wE rfl)
   ·rintro ⟨j, kq⟩ ⟨hj, h0, h120, hI⟩
    simp only at hj h0 h120 hI
    repeat (first | (with_reducible first | apply CW.seq | apply aN) | refine wR rfl ?_)
    refine CW.cond rfl (fun h => ?_) (fun h => ?_)
    ·have hlt : j < e.kids.length := by rw [hkl] at h; simpa using h
     obtain ⟨c, hk1, hk', hks⟩ := FExp.kid_at hlt
     rw [drop_cons hk1, FExp.cnts] at hI
     have hshc : ∀ x ∈ (Part.exp c).nodes (dd + 1), x.2.short := fun x hx => hsh x (by rw [exp_nodes]; exact List.mem_cons_of_mem _ (List.mem_flatMap.2 ⟨c, List.mem_of_getElem? hk1, hx⟩))
     have hcall := ih c (dd + 1) (d + 1) kq (s.set lb (leftO kq)) (by omega) (by omega) hshc h0 h120 (by omega) sSam
     rw [Store.set_set] at hcall
     have hle := FExp.cnt_le c (d + 1) kq
     generalize FExp.cnt (d + 1) kq c = pk at hcall hle hI
     obtain ⟨b, k'⟩ := pk
     have hd1 : IntKind.wrap .i64 ((d : Int) + 1) = ((d + 1 : Nat) : Int) := i64_succ (by omega)
     cases b with
     | true =>
      obtain ⟨g0, g1⟩ := hle rfl
      repeat (first | (with_reducible first | apply CW.seq | apply aN | apply CW.skip | apply CW.block) | refine CW.reg ?_ | refine wS rfl ?_ | refine RL.idx tO _ rfl rfl rfl rfl rfl rfl rfl rfl rfl rfl rfl (by assumption) rfl ?_)
      rw [hd1]
      refine RL.call rfl rfl rfl rfl rfl hcall ?_ (fun _ _ ⟨h, _⟩ => by cases h)
      rintro _ _ ⟨⟨⟩, rfl⟩
      repeat (first | (with_reducible first | apply aN | apply iN | apply CW.skip) | refine wR rfl ?_ | refine RL.nil ?_ | refine CW.condF rfl ?_ | refine wS rfl ?_)
      refine ⟨(j + 1, k'), ⟨hlt, g0, by show k' ≤ 120; simp only at g1; omega, by simpa using hI⟩, (by repeat (first | exact trivial | refine ⟨⟨_, rfl, aRfl⟩, ?_⟩ | refine ⟨⟨_, rfl, AVle.of_eq (by (show AV.int .i64 (IntKind.wrap .i64 ((j : Int) + 1)) = .int .i64 ((j + 1 : Nat) : Int); rw [i64_succ (by omega)]))⟩, ?_⟩)), sSub, by show e.kids.length - (j + 1) < e.kids.length - j; omega⟩
     | false =>
      rw [← hI]
      repeat (first | (with_reducible first | apply CW.seq | apply aN | apply CW.skip | apply CW.block) | refine CW.reg ?_ | refine wS rfl ?_ | refine RL.idx tO _ rfl rfl rfl rfl rfl rfl rfl rfl rfl rfl rfl (by assumption) rfl ?_)
      rw [hd1]
      refine RL.call rfl rfl rfl rfl rfl hcall ?_ (fun _ _ ⟨h, _⟩ => by cases h)
      rintro _ _ ⟨⟨⟩, rfl⟩
      repeat (first | (with_reducible first | apply CW.seq | apply aN | apply aR | apply iR | apply CW.ret) | refine wR rfl ?_ | refine RL.nil ?_ | refine CW.condT rfl ?_ | refine wS rfl ?_)
      exact ⟨_, _, _, rfl, aRfl, sSub, rfl, rfl⟩
    ·have hge : e.kids.length ≤ j := by rw [hkl] at h; simpa using h
     rw [List.drop_eq_nil_of_le hge, FExp.cnts] at hI
     rw [← hI]
     repeat (first | (with_reducible first | apply CW.seq | apply aN | apply aX | apply iH | apply CW.ret | apply CW.exit) | refine wR rfl ?_)
     exact ⟨_, _, _, rfl, aRfl, sSub, rfl, rfl⟩
end Go.Proofs.YtaafacnoddjhgaaGreat

/- Contracts of the reference: Formed, CheckExp, All, DepthOf, Depth. -/
namespace Go.Proofs.YtaafacnoddjhgaaGreat
open Go.AE

theorem part_len : ∀ (e : FExp) (d : Nat), ((Part.exp e).nodes d).length = e.size := by
 intro e d
 exact Part.nodes_size _ _ _ (Nat.le_refl _)

theorem cnt_good (e : FExp) : (FExp.cnt 1 120 e).1 = goodB e := by
 rw [(cnt_nodes e 1 120 (by omega)).1, goodB, lookB, part_len]
 congr 1
 rw [Bool.eq_iff_iff]; simp; omega

set_option maxRecDepth 10000 in
theorem refFormed_spec (e : FExp) (s : Store) (h : e.Fair) : ACalls Tryz.prog 45 [e.av] s (fun o s' => o = .ret (.bool (goodB e)) ∧ s' = s) := by
 refine ACalls.of_CW tO call45 Tryz.func45 rfl rfl ?_
 repeat (first | (with_reducible first | apply CW.seq | apply aN) | refine wR rfl ?_ | refine CW.reg ?_)
 refine RL.alloc tO rfl rfl rfl rfl rfl rfl rfl (fun b hb => ?_)
 repeat (first | (with_reducible first | apply CW.seq | apply aN) | refine CW.reg ?_ | refine RL.nil ?_ | refine wS rfl ?_ | (refine RL.storeP tO rfl rfl rfl rfl rfl rfl rfl rfl rfl sSam rfl ?_; try with_reducible rw [Store.set_set]))
 refine RL.call rfl rfl rfl rfl rfl (refCount_spec b e.size e 1 1 120 _ (Nat.le_refl _) (Nat.le_of_lt h.size) h.short (by omega) (by omega) (by omega) sSam) ?_ (fun _ _ ⟨h, _⟩ => by cases h)
 rintro _ _ ⟨⟨⟩, rfl⟩
 rw [Store.set_set, cnt_good]
 repeat (first | (with_reducible first | apply aN | apply CW.ret) | refine RL.nil ?_ | refine wS rfl ?_)
 exact ⟨_, _, _, rfl, aRfl, Store.sub_set _ _ _ hb, rfl, rfl⟩

mutual
def FExp.dep : FExp → Nat
 | .mk _ _ _ ks => FExp.deps ks + 1
def FExp.deps : List FExp → Nat
 | [] => 0
 | k :: r => max (FExp.dep k) (FExp.deps r)
end

end Go.Proofs.YtaafacnoddjhgaaGreat

/- How the arguments of a law are read. -/
namespace Go.Proofs.YtaafacnoddjhgaaGreat
open Go.AE Go.ChangeShapes Go.WideShapes Go.ChangeAt Go.RowKit

theorem val_agg {P : Program} {W : World} {r : Reach} {b : Nat} {t : TypeId} {fs : Array Field} {v : Value} (ht : P.underlying t = some (.struct fs)) (h : Value.okWide P W r b t v) : ∃ cs, v = .agg cs := by
 obtain ⟨cs, h1, -⟩ := okWide_struct ht h
 exact ⟨cs, h1⟩

theorem rel_agg {w : World} {p : Prot} {v : Value} {xs : List AV} (hv : ∃ cs, v = .agg cs) (h : RelL w p v.cells.toList xs) : Rel w p v (.agg xs) := by
 obtain ⟨cs, rfl⟩ := hv
 exact .agg _ _ h

end Go.Proofs.YtaafacnoddjhgaaGreat

/- General rules: known guards in drawn regions, rows that grow in stores that are known in part. -/
namespace Go.Proofs.YtaafacnoddjhgaaGreat
open Go.AE

theorem RD.knowT {P : Program} {Γ : Tys} {N : Nat} {ops : Array Oper} {Q : AEx → Env → Store → Prop} {D : Nat → Bool} {env : Env} {s : Store} (t : Nat) {b : Bool} (hv : env.get? t = some (.bool b)) (he : b = true)
  (h : RD P Γ N ops Q D ((t, .bool true) :: env) s) : RD P Γ N ops Q D env s := by
 subst he
 refine RD.congr _ (fun x => ?_) h
 show (if Nat.beq t x then _ else _) = _
 split
 ·rename_i hx
  rw [← hv, Nat.eq_of_beq_eq_true hx]
 ·rfl
theorem RD.knowF {P : Program} {Γ : Tys} {N : Nat} {ops : Array Oper} {Q : AEx → Env → Store → Prop} {D : Nat → Bool} {env : Env} {s : Store} (t : Nat) {b : Bool} (hv : env.get? t = some (.bool b)) (he : b = false)
  (h : RD P Γ N ops Q D ((t, .bool false) :: env) s) : RD P Γ N ops Q D env s := by
 subst he
 refine RD.congr _ (fun x => ?_) h
 show (if Nat.beq t x then _ else _) = _
 split
 ·rename_i hx
  rw [← hv, Nat.eq_of_beq_eq_true hx]
 ·rfl

/-! ### A row that grows in a store that is known in part -/
section
variable {s t : Store} {e e2 : TypeId} {sz n m sz2 n2 x : Nat} {own own' own2 : Own} {o : AObj}

theorem row_ne (h : RowIs t e sz n own) (hx : t x = some o) (ho : notRow o = true) : ∀ b, own = .own b → x ≠ b := fun b hb he => by
 subst hb; subst he
 simp only [RowIs] at h; rw [h] at hx; cases hx; cases ho
theorem base_keep (hx : t x = some o) (hne : ∀ b, own = .own b → x ≠ b) : rowBase t own x = some o := by
 cases own with
 | own b => exact (Store.del_ne _ (hne b rfl)).trans hx
 | nil => exact hx
 | clip => exact hx
 | fro => exact hx
theorem grow_at (hok : OwnOk (rowBase t own) n own') (hx : rowBase t own x = some o) : rowOf (rowBase t own) e sz m own' x = some o := by
 cases own' with
 | own b => exact (Store.set_ne _ _ (fun he => by subst he; have : rowBase t own x = none := hok; rw [hx] at this; cases this)).trans hx
 | nil => exact hx
 | clip => exact hx
 | fro => exact hok.elim
theorem grow_keep (h : RowIs t e2 sz2 n2 own) (hok : OwnOk (rowBase t own) n own') (hx : t x = some o) (ho : notRow o = true) : rowOf (rowBase t own) e sz m own' x = some o := grow_at hok (base_keep hx (row_ne h hx ho))
theorem grow_row (h2 : RowIs t e2 sz2 n2 own2) (hd : ∀ b, own = .own b → own2 ≠ .own b) (hok : OwnOk (rowBase t own) n own') : RowIs (rowOf (rowBase t own) e sz m own') e2 sz2 n2 own2 := by
 cases own2 with
 | own b2 => exact grow_at hok (base_keep h2 (fun b hb he => hd b hb (by rw [he])))
 | nil => trivial
 | clip => trivial
 | fro => exact h2
theorem grow_dis (h2 : RowIs t e2 sz2 n2 own2) (hd : ∀ b, own = .own b → own2 ≠ .own b) (hok : OwnOk (rowBase t own) n own') : ∀ b, own' = .own b → own2 ≠ .own b := fun b hb hb2 => by
 subst hb; subst hb2
 have h1 : rowBase t own b = some _ := base_keep h2 (fun c hc he => hd c hc (by rw [he]))
 have h2 : rowBase t own b = none := hok
 rw [h1] at h2; cases h2
theorem grow_own (hok : OwnOk (rowBase t own) n own') : RowIs (rowOf (rowBase t own) e sz m own') e sz m own' := by
 cases own' with
 | own b => exact sSam
 | nil => trivial
 | clip => trivial
 | fro => exact hok
theorem grow_sub (hsub : Store.Sub s t) (hs : ∀ b, own = .own b → s b = none) (hok : OwnOk (rowBase t own) n own') : Store.Sub s (rowOf (rowBase t own) e sz m own') ∧ ∀ b, own' = .own b → s b = none := by
 have h1 : Store.Sub s (rowBase t own) := by
  cases own with
  | own b => exact Store.subDel hsub (hs b rfl)
  | nil => exact hsub
  | clip => exact hsub
  | fro => exact hsub
 have h2 : ∀ b, own' = .own b → s b = none := fun b hb => by
  subst hb
  have : rowBase t own b = none := hok
  rcases h1 b with q | q
  ·rw [q]; exact this
  ·exact q
 exact ⟨Store.subRow h1 (m := n) (by
  cases own' with
  | own b => exact h2 b rfl
  | nil => trivial
  | clip => trivial
  | fro => exact hok.elim), h2⟩
theorem set_row {b : Nat} {o' : AObj} (h : RowIs t e sz n own) (hx : t b = some o) (ho : notRow o = true) : RowIs (t.set b o') e sz n own := by
 cases own with
 | own c => exact (Store.set_ne _ _ (fun he => by subst he; simp only [RowIs] at h; rw [h] at hx; cases hx; cases ho)).trans h
 | nil => trivial
 | clip => trivial
 | fro => exact h
end

section
variable {P : Program} {Γ : Tys} {N : Nat} {Q : AEx → Env → Store → Prop} {env : Env} {s : Store} {l : List Oper} {m : Nat}
theorem RD.appendR (hΓ : TysOk P Γ) {i : Nat} {o : Oper} {d : Nat} {t t' e : TypeId} {x y : Operand} {it it' ie : TI} {sx sy n : Nat} {xs ys : List AV} {own oy : Own} (hr : readyL l.toArray m (idxs 0 l) = [i]) (ho : l.toArray[i]? = some o) (hd : o.dst = some d) (hN : Nat.blt d N = true)
  (hg : guardOf l.toArray (pickE env (looks l.toArray o)) o = some true) (hop : o.op = .call { callee := .builtin .append, args := #[x, y], argTypes := #[t, t'] }) (ht : Γ.get? t = some it) (htd : it.td = .slc e) (ht' : Γ.get? t' = some it') (htd' : ∀ k, it'.td ≠ .int k)
  (hie : Γ.get? e = some ie) (hx : ev (pickE env (looks l.toArray o)) x = some (.slc sx xs own)) (hy : ev (pickE env (looks l.toArray o)) y = some (.slc sy ys oy)) (hsx : sx = ie.size) (hsy : ys = [] ∨ sy = ie.size)
  (hzs' : Nat.beq ie.zero.cells.size ie.size = true) (hel : ∀ y ∈ ys, elemOk ie.size y = true) (hb : (xs.length + ys.length) * ie.bytes ≤ 140737488355328) (h63 : xs.length + ys.length ≤ 9223372036854775807) (hn : n = xs.length)
  {s₀ : Store} (hs : s₀ = rowOf s e ie.size n own) (hok : OwnOk s n own)
  (h : ∀ own', OwnOk s (xs.length + ys.length) own' → RD P Γ N l.toArray Q (dn (m ||| 2 ^ i)) ((d, .slc ie.size (xs ++ ys) own') :: env) (rowOf s e ie.size (xs.length + ys.length) own')) : RD P Γ N l.toArray Q (dn m) env s₀ := by
 subst hs
 subst hn
 refine RD.one hr ho hd hN hg (OW.appendR hΓ hop ht htd ht' htd' hie hx hy hsx hsy hzs' hel hb h63 rfl hok (X := fun _ _ => False)) ?_ (fun _ _ h => h.elim)
 rintro r s' ⟨own', h1, -, -, rfl, rfl⟩
 exact h own' h1
end

end Go.Proofs.YtaafacnoddjhgaaGreat

/- Expressions that weigh little are fair. -/
namespace Go.Proofs.YtaafacnoddjhgaaGreat
open Go.AE

mutual
theorem exp_light {W : Nat} : ∀ (e : FExp), e.weight ≤ W → e.size ≤ e.weight ∧ e.AllT (fun t => t.length ≤ W)
  | .mk o n t ks, h => by
    rw [FExp.weight] at h ⊢
    rw [FExp.size, FExp.AllT]
    have := exps_light ks (by omega : FExp.weights ks ≤ W)
    exact ⟨by omega, by omega, this.2⟩
theorem exps_light {W : Nat} : ∀ (l : List FExp), FExp.weights l ≤ W → FExp.sizes l ≤ FExp.weights l ∧ FExp.AllTs (fun t => t.length ≤ W) l
  | [], _ => ⟨Nat.le_refl _, trivial⟩
  | k :: r, h => by
    rw [FExp.weights] at h ⊢
    rw [FExp.sizes, FExp.AllTs]
    have h1 := exp_light k (by omega : k.weight ≤ W)
    have h2 := exps_light r (by omega : FExp.weights r ≤ W)
    exact ⟨by omega, h1.2, h2.2⟩
end
theorem exp_fair {e : FExp} (h : e.weight ≤ 1048576) : e.Fair := by
 obtain ⟨h1, h2⟩ := exp_light e h
 have hb : big = 1099511627776 := rfl
 refine ⟨by omega, fun x hx => ?_⟩
 obtain ⟨g, hg⟩ := nodes_exp hx
 have := AllT_iff.1 h2 x.2.expOf (mem_nodes_all hx)
 rw [hg] at this ⊢
 show g.text.length < _
 have h3 : g.text.length ≤ 1048576 := this
 omega

end Go.Proofs.YtaafacnoddjhgaaGreat

/- Contracts of the reference: what a fact has to be. -/
namespace Go.Proofs.YtaafacnoddjhgaaGreat
open Go.AE

def opF (op : Int) : Bool := decide (1 ≤ op) && decide (op ≤ 7)
def badK1 (ps : List Str) (f : FFact) : Bool :=
 ((!((f.kids.length : Int) == kidsF f.op) || (!atomF f && (!(f.name == []) || decide ((f.path.length : Int) > 0)))) || (atomF f && !ps.contains f.name)) || decide ((f.path.length : Int) > 2)
def badK2 (cs : List Str) (f : FFact) : Bool := !((f.op == 2) == !(f.cls == [])) || (f.op == 2 && !cs.contains f.cls)
def badK3 (f : FFact) : Bool := ((!(f.op == 3) && !(f.op == 4)) && !(f.n == 0)) || !between f.n
def okK (ps ss cs : List Str) (f : FFact) : Bool := opF f.op && (!badK1 ps f && (!badK2 cs f && (!badK3 f && f.path.all ss.contains)))

mutual
def FFact.cnt (ps ss cs : List Str) (d : Nat) (k : Int) : FFact → Bool × Int
 | .mk o x p c n ks => if (decide (k - 1 < 0) || decide (d > 12)) || !okK ps ss cs (.mk o x p c n ks) then (false, k - 1) else FFact.cnts ps ss cs (d + 1) (k - 1) ks
def FFact.cnts (ps ss cs : List Str) (d : Nat) (k : Int) : List FFact → Bool × Int
 | [] => (true, k)
 | e :: r => if (FFact.cnt ps ss cs d k e).1 then FFact.cnts ps ss cs d (FFact.cnt ps ss cs d k e).2 r else (false, (FFact.cnt ps ss cs d k e).2)
end

theorem FFact.cnt_def (ps ss cs : List Str) (d : Nat) (k : Int) (e : FFact) : FFact.cnt ps ss cs d k e = if (decide (k - 1 < 0) || decide (d > 12)) || !okK ps ss cs e then (false, k - 1) else FFact.cnts ps ss cs (d + 1) (k - 1) e.kids := by
 cases e; rw [FFact.cnt]; rfl

mutual
theorem FFact.cnt_le (ps ss cs : List Str) : ∀ (e : FFact) (d : Nat) (k : Int), (FFact.cnt ps ss cs d k e).1 = true → 0 ≤ (FFact.cnt ps ss cs d k e).2 ∧ (FFact.cnt ps ss cs d k e).2 ≤ k
  | .mk o x p c n ks, d, k, h => by
    rw [FFact.cnt] at h ⊢
    split at h
    · cases h
    · rename_i hc
      rw [if_neg hc]
      have := FFact.cnts_le ps ss cs ks (d + 1) (k - 1) (by simp only [Bool.or_eq_true, decide_eq_true_eq, not_or] at hc; omega) h
      omega
theorem FFact.cnts_le (ps ss cs : List Str) : ∀ (l : List FFact) (d : Nat) (k : Int), 0 ≤ k → (FFact.cnts ps ss cs d k l).1 = true → 0 ≤ (FFact.cnts ps ss cs d k l).2 ∧ (FFact.cnts ps ss cs d k l).2 ≤ k
  | [], d, k, hk, h => by rw [FFact.cnts]; exact ⟨hk, Int.le_refl _⟩
  | e :: r, d, k, hk, h => by
    rw [FFact.cnts] at h ⊢
    split at h
    · rename_i hc
      rw [if_pos hc]
      obtain ⟨h1, h2⟩ := FFact.cnt_le ps ss cs e d k hc
      obtain ⟨h3, h4⟩ := FFact.cnts_le ps ss cs r d _ h1 h
      exact ⟨h3, Int.le_trans h4 h2⟩
    · cases h
end

mutual
def FFact.pl : FFact → Nat
 | .mk _ _ p _ _ ks => p.length + FFact.pls ks
def FFact.pls : List FFact → Nat
 | [] => 0
 | k :: r => FFact.pl k + FFact.pls r
end
theorem FFact.size_def (f : FFact) : f.size = 1 + FFact.sizes f.kids := by cases f; rw [FFact.size]; rfl

end Go.Proofs.YtaafacnoddjhgaaGreat

/- The theorem of substitution, in plain Lean: expressions in which bound names are numbers. -/
namespace Go.Proofs.YtaafacnoddjhgaaGreat
open Go.AE

mutual
def FExp.sub : FExp → Str → FExp → FExp
 | .mk o n t ks, x, y => if o == 3 then (if n == 0 && t == x then y else .mk o n t ks) else .mk o n t (FExp.subs ks x y)
def FExp.subs : List FExp → Str → FExp → List FExp
 | [], _, _ => []
 | k :: r, x, y => FExp.sub k x y :: FExp.subs r x y
end

mutual
def FExp.fv : FExp → List Str
 | .mk o n t ks => if o == 3 then (if n == 0 then [t] else []) else FExp.fvs ks
def FExp.fvs : List FExp → List Str
 | [] => []
 | k :: r => FExp.fv k ++ FExp.fvs r
end

def neat1 (g : FExp) : Bool := (!(g.op == 3) || (g.n == 0 && g.kids.isEmpty)) && (!(g.op == 9) || g.kids.length == 2)
mutual
def FExp.neat : FExp → Bool
 | .mk o n t ks => neat1 (.mk o n t ks) && FExp.neats ks
def FExp.neats : List FExp → Bool
 | [] => true
 | k :: r => FExp.neat k && FExp.neats r
end
mutual
theorem neat_of : ∀ (e : FExp), (∀ g ∈ e.allE, neat1 g = true) → e.neat = true
  | .mk o n t ks, h => by
    rw [FExp.allE] at h
    rw [FExp.neat, Bool.and_eq_true]
    exact ⟨h _ (List.mem_cons_self ..), neats_of ks (fun g hg => h g (List.mem_cons_of_mem _ hg))⟩
theorem neats_of : ∀ (l : List FExp), (∀ g ∈ FExp.allEs l, neat1 g = true) → FExp.neats l = true
  | [], _ => rfl
  | k :: r, h => by
    rw [FExp.neats, Bool.and_eq_true]
    rw [FExp.allEs] at h
    exact ⟨neat_of k (fun g hg => h g (List.mem_append_left _ hg)), neats_of r (fun g hg => h g (List.mem_append_right _ hg))⟩
end
theorem good_neat {e : FExp} (h : goodB e = true) : e.neat = true := by
 refine neat_of e fun g hg => ?_
 have := goodB_node h hg
 have h3 : shapeOf 3 = some (true, 0, 0) := by decide
 have h9 : shapeOf 9 = some (true, 2, 2) := by decide
 obtain ⟨o, n, t, ks⟩ := g
 have hkl : (FExp.mk o n t ks).kav.length = ks.length := FExp.kav_length _
 simp only [nodeE, nodeE1, nodeE2, FExp.op, FExp.n, FExp.text, hkl] at this
 simp only [neat1, FExp.op, FExp.n, FExp.kids]
 by_cases h1 : o = 3
 ·subst h1
  rw [h3] at this
  match ks, this with
  | [], this =>
   simp [shA, shB, shN] at this
   simp
   exact this.2.2
  | k :: r, this =>
   simp [shA, shB, shN] at this
   exact absurd (of_decide_eq_true this.1.2.1) (by omega)
 ·by_cases h2 : o = 9
  ·subst h2
   rw [h9] at this
   match ks, this with
   | [], this => simp [shA, shB, shN] at this
   | [_], this => simp [shA, shB, shN] at this
   | [_, _], _ => simp
   | _ :: _ :: _ :: r, this =>
    simp [shA, shB, shN] at this
    exact absurd (of_decide_eq_true this.1.2.1) (by omega)
  ·simp [h1, h2]

theorem mem_addAll {v : Str} : ∀ {l acc : List Str}, v ∈ addAll acc l ↔ v ∈ acc ∨ v ∈ l
  | [], acc => by simp [addAll]
  | x :: l, acc => by
    show v ∈ addAll (insS acc x) l ↔ _
    rw [mem_addAll, mem_insS, List.mem_cons, or_assoc]
theorem mem_frees {e : FExp} {v : Str} : v ∈ e.frees ↔ v ∈ e.loose [] := by
 unfold FExp.frees; rw [mem_addAll]; simp

end Go.Proofs.YtaafacnoddjhgaaGreat

/- Contracts of the reference: with, loose, Sort, FreeOf, texts. -/
namespace Go.Proofs.YtaafacnoddjhgaaGreat
open Go.AE

section
variable {P : Program} {Γ : Tys} {N : Nat} {env : Env} {s : Store}
theorem OW.appendN (hΓ : TysOk P Γ) {o : Oper} {t t' e : TypeId} {x y : Operand} {it it' ie : TI} {sx sy : Nat} {ys : List AV} {oy : Own}
  (ho : o.op = .call { callee := .builtin .append, args := #[x, y], argTypes := #[t, t'] }) (ht : Γ.get? t = some it) (htd : it.td = .slc e) (ht' : Γ.get? t' = some it') (htd' : ∀ k, it'.td ≠ .int k)
  (hie : Γ.get? e = some ie) (hx : ev env x = some (.slc sx [] .nil)) (hy : ev env y = some (.slc sy ys oy)) (hsy : ys = [] ∨ sy = ie.size)
  (hzs' : Nat.beq ie.zero.cells.size ie.size = true) (hel : ∀ y ∈ ys, elemOk ie.size y = true) (hb : ys.length * ie.bytes ≤ 140737488355328) (h63 : ys.length ≤ 9223372036854775807) {X : AV → Store → Prop} :
  OW P N o env s (fun r s' => ∃ own', OwnOk s ys.length own' ∧ r = .slc ie.size ys own' ∧ s' = rowOf s e ie.size ys.length own') X := by
 refine OW.mono (OW.append hΓ ho ht htd ht' htd' hie hx hy (.inl rfl) hsy hzs' hel (by simpa using hb) (by simpa using h63) (.inl (.inl rfl)) (X := X)) ?_ (fun _ _ h => h)
 rintro r s' (⟨h1, -, rfl, rfl⟩ | ⟨s₁, hs₁, b, h1, rfl, rfl⟩)
 ·exact ⟨.nil, trivial, by rw [h1], rfl⟩
 ·rcases hs₁ with rfl | ⟨b', e, -⟩
  ·exact ⟨.own b, h1, by simp, by simp [rowOf]⟩
  ·cases e
variable {ops : Array Oper} {l : List Oper} {Q : AEx → Env → Store → Prop} {o : Oper} {d m : Nat}
theorem RL.appendN (hΓ : TysOk P Γ) {t t' e : TypeId} {x y : Operand} {it it' ie : TI} {sx sy n : Nat} {ys : List AV} {oy : Own} (hg : guardOf ops env o = some true) (hd : o.dst = some d) (hN : Nat.blt d N = true)
  (ho : o.op = .call { callee := .builtin .append, args := #[x, y], argTypes := #[t, t'] }) (ht : Γ.get? t = some it) (htd : it.td = .slc e) (ht' : Γ.get? t' = some it') (htd' : ∀ k, it'.td ≠ .int k)
  (hie : Γ.get? e = some ie) (hx : ev env x = some (.slc sx [] .nil)) (hy : ev env y = some (.slc sy ys oy)) (hsy : ys = [] ∨ sy = ie.size)
  (hzs' : Nat.beq ie.zero.cells.size ie.size = true) (hel : ∀ y ∈ ys, elemOk ie.size y = true) (hn : n = ys.length) (hb : n * ie.bytes ≤ 140737488355328) (h63 : n ≤ 9223372036854775807)
  (h : ∀ own', OwnOk s n own' → RL P N ops l Q ((d, .slc ie.size ys own') :: env) (rowOf s e ie.size n own')) : RL P N ops (o :: l) Q env s := by
 subst hn
 refine RL.op hg hd hN (OW.appendN hΓ ho ht htd ht' htd' hie hx hy hsy hzs' hel hb h63 (X := fun _ _ => False)) ?_ (fun _ _ h => h.elim)
 rintro r s' ⟨own', h1, rfl, rfl⟩
 exact h own' h1
theorem RD.appendN (hΓ : TysOk P Γ) {i : Nat} {t t' e : TypeId} {x y : Operand} {it it' ie : TI} {sx sy n : Nat} {ys : List AV} {oy : Own} (hr : readyL l.toArray m (idxs 0 l) = [i]) (ho : l.toArray[i]? = some o) (hd : o.dst = some d) (hN : Nat.blt d N = true)
  (hg : guardOf l.toArray (pickE env (looks l.toArray o)) o = some true) (hop : o.op = .call { callee := .builtin .append, args := #[x, y], argTypes := #[t, t'] }) (ht : Γ.get? t = some it) (htd : it.td = .slc e) (ht' : Γ.get? t' = some it') (htd' : ∀ k, it'.td ≠ .int k)
  (hie : Γ.get? e = some ie) (hx : ev (pickE env (looks l.toArray o)) x = some (.slc sx [] .nil)) (hy : ev (pickE env (looks l.toArray o)) y = some (.slc sy ys oy)) (hsy : ys = [] ∨ sy = ie.size)
  (hzs' : Nat.beq ie.zero.cells.size ie.size = true) (hel : ∀ y ∈ ys, elemOk ie.size y = true) (hn : n = ys.length) (hb : n * ie.bytes ≤ 140737488355328) (h63 : n ≤ 9223372036854775807)
  (h : ∀ own', OwnOk s n own' → RD P Γ N l.toArray Q (dn (m ||| 2 ^ i)) ((d, .slc ie.size ys own') :: env) (rowOf s e ie.size n own')) : RD P Γ N l.toArray Q (dn m) env s := by
 subst hn
 refine RD.one hr ho hd hN hg (OW.appendN hΓ hop ht htd ht' htd' hie hx hy hsy hzs' hel hb h63 (X := fun _ _ => False)) ?_ (fun _ _ h => h.elim)
 rintro r s' ⟨own', h1, rfl, rfl⟩
 exact h own' h1
end

set_option maxRecDepth 10000 in
theorem refWith_spec (l : List Str) (own : Own) (x : Str) (s : Store) (hl : l.length < big) :
  ACalls Tryz.prog 128 [.slc 1 (strs l) own, .str x] s (fun o s' => o = .ret (.slc 1 (strs (insS l x)) .fro) ∧ s' = s) := by
 have hb : big = 1099511627776 := rfl
 refine ACalls.of_CW tO call128 Tryz.func128 rfl rfl ?_
 have hcall := refHas_spec l own x s (by omega)
 cases hc : l.contains x with
 | true =>
  rw [hc] at hcall
  repeat (first | (with_reducible first | apply CW.seq | apply aN) | refine wR rfl ?_ | refine CW.reg ?_ | refine wS rfl ?_)
  refine RL.callP rfl rfl rfl rfl rfl hcall ?_
  repeat (first | (with_reducible first | apply CW.seq | apply aN | apply aR | apply CW.ret) | refine wR rfl ?_ | refine RL.nil ?_ | refine CW.condT rfl ?_)
  exact ⟨_, _, _, rfl, AVle.fro, sSub, by rw [insS, if_pos hc], rfl⟩
 | false =>
  rw [hc] at hcall
  repeat (first | (with_reducible first | apply CW.seq | apply aN) | refine wR rfl ?_ | refine CW.reg ?_ | refine wS rfl ?_)
  refine RL.callP rfl rfl rfl rfl rfl hcall ?_
  repeat (first | (with_reducible first | apply CW.seq | apply aN | apply CW.skip) | refine CW.reg ?_ | refine RL.nil ?_ | refine CW.condF rfl ?_ | refine wS rfl ?_)
  refine RL.appendN tO rfl rfl rfl rfl rfl rfl rfl (by intro k h; cases h) rfl rfl rfl (.inr rfl) rfl (strs_elem _) (n := l.length) (strs_length _).symm (by show l.length * 16 ≤ _; omega) (by omega) (fun o1 h1 => ?_)
  repeat (first | refine wS rfl ?_)
  refine RL.append1 tO rfl rfl rfl rfl rfl rfl rfl (by intro k h; cases h) rfl rfl rfl rfl rfl rfl rfl (strs_length _).symm (by show (l.length + 1) * 16 ≤ _; omega) (by omega) (s := s) rfl h1 (fun rb hrb => ?_)
  repeat (first | (with_reducible first | apply aN | apply CW.ret) | refine RL.nil ?_ | refine wS rfl ?_)
  refine ⟨_, _, s, rfl, AVle.fro, Store.sub_set _ _ _ hrb, ?_, rfl⟩
  rw [insS, if_neg (by rw [hc]; simp)]; simp [strs]

/-! ### Free names -/
mutual
def FExp.looseR : List Str → FExp → List Str
 | b, .mk o _ t ks => if o == 3 && !b.contains t then [t] else FExp.loosesR (o == 9) t b 0 ks
def FExp.loosesR (isLet : Bool) (t : Str) (b : List Str) : Nat → List FExp → List Str
 | _, [] => []
 | i, k :: r => FExp.looseR (if isLet && i == 1 then insS b t else b) k ++ FExp.loosesR isLet t b (i + 1) r
end
theorem FExp.looseR_def (b : List Str) (e : FExp) : e.looseR b = if e.op == 3 && !b.contains e.text then [e.text] else FExp.loosesR (e.op == 9) e.text b 0 e.kids := by cases e; rw [FExp.looseR]; rfl

mutual
theorem looseR_eq : ∀ (e : FExp) (b c : List Str), e.neat = true → (∀ z, z ∈ b ↔ z ∈ c) → e.looseR b = e.loose c
  | .mk o n t ks, b, c, h, hbc => by
    rw [FExp.neat, Bool.and_eq_true] at h
    rw [FExp.looseR, FExp.loose]
    have hct : b.contains t = c.contains t := by rw [Bool.eq_iff_iff, List.contains_iff_mem, List.contains_iff_mem]; exact hbc t
    by_cases h3 : o = 3
    · subst h3
      have hk : ks = [] := by
        have := h.1
        simp [neat1, FExp.op, FExp.n, FExp.kids] at this
        exact this.2
      subst hk
      rw [hct]
      cases c.contains t <;> simp [FExp.loosesR, FExp.looses]
    · have h3' : (o == 3) = false := by simpa using h3
      rw [h3', loosesR_eq ks (o == 9) t b c 0 h.2 hbc]
      simp
theorem loosesR_eq : ∀ (ks : List FExp) (isLet : Bool) (t : Str) (b c : List Str) (i : Nat), FExp.neats ks = true → (∀ z, z ∈ b ↔ z ∈ c) → FExp.loosesR isLet t b i ks = FExp.looses isLet t c i ks
  | [], _, _, _, _, _, _, _ => rfl
  | k :: r, isLet, t, b, c, i, h, hbc => by
    rw [FExp.neats, Bool.and_eq_true] at h
    rw [FExp.loosesR, FExp.looses, loosesR_eq r isLet t b c (i + 1) h.2 hbc]
    congr 1
    cases isLet && i == 1 with
    | false => exact looseR_eq k b c h.1 hbc
    | true => exact looseR_eq k (insS b t) (t :: c) h.1 (fun z => by rw [mem_insS, List.mem_cons, hbc z, or_comm])
end
mutual
theorem looseR_len : ∀ (e : FExp) (b : List Str), (e.looseR b).length ≤ e.size
  | .mk o n t ks, b => by
    rw [FExp.looseR, FExp.size]
    have := loosesR_len ks (o == 9) t b 0
    split
    · simp
    · omega
theorem loosesR_len : ∀ (ks : List FExp) (isLet : Bool) (t : Str) (b : List Str) (i : Nat), (FExp.loosesR isLet t b i ks).length ≤ FExp.sizes ks
  | [], _, _, _, _ => by simp [FExp.loosesR, FExp.sizes]
  | k :: r, isLet, t, b, i => by
    rw [FExp.loosesR, FExp.sizes, List.length_append]
    have := looseR_len k (if isLet && i == 1 then insS b t else b)
    have := loosesR_len r isLet t b (i + 1)
    omega
end

set_option maxRecDepth 10000 in
set_option maxHeartbeats 1000000 in
theorem refLoose_spec : ∀ (n : Nat) (e : FExp) (b : List Str) (ob : Own) (s : Store), e.size ≤ n → b.length + e.size < big →
  ACalls Tryz.prog 86 [e.av, .slc 1 (strs b) ob] s (fun o s' => o = .ret (.slc 1 (strs (e.looseR b)) .fro) ∧ s' = s) := by
 intro n
 induction n with
 | zero => intro e b ob s h; have := e.size_pos; omega
 | succ n ih =>
  intro e b ob s hn hbig
  have hlen := e.kids_length
  have hkl := e.kav_length
  have hb : big = 1099511627776 := rfl
  have hdef := e.looseR_def b
  refine ACalls.of_CW tO call86 Tryz.func86 rfl rfl ?_
  refine CW.seqCut [(1, .slc 1 (strs b) ob), (2, .fptr e.cells 0)] s ?_ ?_
  ·repeat (first | refine wR rfl ?_)
   exact ⟨rfl, (wE rfl), sSub⟩
  refine CW.seq ?_
  refine CW.seqCut [(1, .slc 1 (strs b) ob), (2, .fptr e.cells 0), (17, .bool (e.op == 3 && !b.contains e.text))] s ?_ ?_
  ·repeat' (first | refine CW.reg ?_ | refine RL.nil ?_ | refine wS rfl ?_ | refine RL.skip rfl rfl rfl ?_ | refine RL.gstepT tO rfl rfl rfl rfl rfl rfl rfl (fun _ => ?_) (fun _ => ?_) | refine RL.callP rfl rfl rfl rfl rfl (refHas_spec b ob e.text _ (by omega)) ?_)
   all_goals refine ⟨rfl, (by repeat (first | exact trivial | refine ⟨⟨_, rfl, aRfl⟩, ?_⟩ | refine ⟨⟨_, rfl, AVle.of_eq (by (simp_all))⟩, ?_⟩)), sSub⟩
  cases hc : e.op == 3 && !b.contains e.text with
  | true =>
   rw [hc, if_pos rfl] at hdef
   repeat (first | (with_reducible first | apply CW.seq | apply aN | apply aR | apply CW.ret) | refine wR rfl ?_ | refine CW.condT rfl ?_)
   exact ⟨_, _, _, rfl, AVle.fro, sSub, by rw [hdef]; rfl, rfl⟩
  | false =>
  rw [hc, if_neg (by simp)] at hdef
  refine CW.condF rfl (CW.skip (aN ?_))
  repeat (first | (with_reducible first | apply CW.seq | apply aN | apply CW.block) | refine wR rfl ?_)
  refine CW.loop (σ := Nat × Own × List Str) (fun q => [(1, .slc 1 (strs b) ob), (2, .fptr e.cells 0), (5, .slc 1 (strs q.2.2) q.2.1), (6, .int .i64 (q.1 : Int))])
   (fun q => rowOf s 9 1 q.2.2.length q.2.1) (fun q => q.1 ≤ e.kids.length ∧ OwnOk s 0 q.2.1 ∧ q.2.2 ++ FExp.loosesR (e.op == 9) e.text b q.1 (e.kids.drop q.1) = e.looseR b) (fun q => e.kids.length - q.1) (0, .nil, []) ⟨by simp, trivial, by rw [hdef]; rfl⟩ ?_ sSub ?_
  ·exact ⟨⟨_, rfl, aRfl⟩, ⟨_, rfl, aRfl⟩, ⟨_, rfl, AVle.nil (by simp)⟩, ⟨_, rfl, aRfl⟩, trivial⟩
  rintro ⟨j, own, acc⟩ ⟨hj, hok, hI⟩
  simp only at hj hok hI
  repeat (first | (with_reducible first | apply CW.seq | apply aN) | refine wR rfl ?_)
  refine CW.cond rfl (fun h => ?_) (fun h => ?_)
  ·have hlt : j < e.kids.length := by rw [hkl] at h; simpa using h
   obtain ⟨k, hk, hk', hks⟩ := FExp.kid_at hlt
   rw [drop_cons hk, FExp.loosesR, ← List.append_assoc] at hI
   have hl := looseR_len e b
   rw [← hI, List.length_append, List.length_append] at hl
   have hil : (insS b e.text).length ≤ b.length + 1 := insS_len _ _
   refine CW.skip (aN (CW.seq (CW.block ?_)))
   refine CW.seqCut [(1, .slc 1 (strs b) ob), (2, .fptr e.cells 0), (5, .slc 1 (strs acc) own), (6, .int .i64 (j : Int)), (7, .slc 1 (strs b) .fro)] (rowOf s 9 1 acc.length own) ?_ ?_
   ·repeat (first | refine wR rfl ?_)
    exact ⟨rfl, ⟨⟨_, rfl, aRfl⟩, ⟨_, rfl, aRfl⟩, ⟨_, rfl, aRfl⟩, ⟨_, rfl, aRfl⟩, ⟨_, rfl, AVle.fro⟩, trivial⟩, sSub⟩
   refine CW.seqCut [(1, .slc 1 (strs b) ob), (2, .fptr e.cells 0), (5, .slc 1 (strs acc) own), (6, .int .i64 (j : Int)), (7, .slc 1 (strs (if e.op == 9 && j == 1 then insS b e.text else b)) .fro)] (rowOf s 9 1 acc.length own) ?_ ?_
   ·refine CW.seqCut [(1, .slc 1 (strs b) ob), (2, .fptr e.cells 0), (5, .slc 1 (strs acc) own), (6, .int .i64 (j : Int)), (7, .slc 1 (strs b) .fro), (35, .bool (e.op == 9 && j == 1))] (rowOf s 9 1 acc.length own) ?_ ?_
    ·repeat' (first | refine CW.reg ?_ | refine RL.nil ?_ | refine wS rfl ?_ | refine RL.skip rfl rfl rfl ?_ | refine RL.gstepT tO rfl rfl rfl rfl rfl rfl rfl (fun _ => ?_) (fun _ => ?_))
     all_goals refine ⟨rfl, (by repeat (first | exact trivial | refine ⟨⟨_, rfl, aRfl⟩, ?_⟩ | refine ⟨⟨_, rfl, AVle.of_eq (by (first | (simp_all; done) | (simp_all; rw [Bool.eq_iff_iff]; simp; omega)))⟩, ?_⟩)), sSub⟩
    cases hc9 : e.op == 9 && j == 1 with
    | true =>
     repeat (first | refine CW.reg ?_ | refine CW.condT rfl ?_ | refine wS rfl ?_)
     refine RL.callP rfl rfl rfl rfl rfl (refWith_spec b ob e.text _ (by omega)) ?_
     repeat (first | refine RL.nil ?_ | refine wS rfl ?_)
     exact ⟨rfl, (wE rfl), sSub⟩
    | false =>
     repeat (first | with_reducible apply CW.skip | refine CW.condF rfl ?_)
     exact ⟨rfl, (wE rfl), sSub⟩
   have hbb : (if e.op == 9 && j == 1 then insS b e.text else b).length ≤ b.length + 1 := by split <;> omega
   generalize (if e.op == 9 && j == 1 then insS b e.text else b) = bb at hbb hI hl ⊢
   repeat (first | refine CW.reg ?_ | refine wS rfl ?_ | refine RL.idx tO _ rfl rfl rfl rfl rfl rfl rfl rfl rfl rfl rfl (by assumption) rfl ?_)
   refine RL.callP rfl rfl rfl rfl rfl (ih k bb .fro _ (by omega) (by omega)) ?_
   refine RL.appendR tO rfl rfl rfl rfl rfl rfl rfl (by intro k h; cases h) rfl rfl rfl rfl (.inr rfl) rfl (strs_elem _) (n := acc.length) ?_ ?_ (strs_length _).symm rfl (OwnOk.sub' hok) ?_
   ·simp only [strs_length]; show _ * 16 ≤ _; omega
   ·simp only [strs_length]; omega
   rintro own' h1
   repeat (first | (with_reducible first | apply aN | apply iN) | refine wR rfl ?_ | refine RL.nil ?_ | refine wS rfl ?_)
   refine ⟨(j + 1, own', acc ++ k.looseR bb), ⟨hlt, OwnOk.sub' h1, hI⟩, (by repeat (first | exact trivial | refine ⟨⟨_, rfl, aRfl⟩, ?_⟩ | refine ⟨⟨_, rfl, AVle.of_eq (by (first | (show AV.int .i64 (IntKind.wrap .i64 ((j : Int) + 1)) = .int .i64 ((j + 1 : Nat) : Int); rw [i64_succ (by omega)]) | (simp [strs])))⟩, ?_⟩)), ?_, by show e.kids.length - (j + 1) < e.kids.length - j; omega⟩
   show Store.Sub (rowOf s _ 1 (acc ++ k.looseR bb).length own') _
   rw [List.length_append, strs_length, strs_length]
   exact sSub
  ·have hge : e.kids.length ≤ j := by rw [hkl] at h; simpa using h
   rw [List.drop_eq_nil_of_le hge, FExp.loosesR, List.append_nil] at hI
   repeat (first | (with_reducible first | apply CW.seq | apply aN | apply aX | apply iH | apply CW.ret | apply CW.exit) | refine wR rfl ?_)
   exact ⟨_, _, s, rfl, AVle.fro, rowOf_sub hok, by rw [hI], rfl⟩

end Go.Proofs.YtaafacnoddjhgaaGreat

/- Contracts of the reference: Sort, FreeOf. -/
namespace Go.Proofs.YtaafacnoddjhgaaGreat
open Go.AE

def cutS (out : List Str) (x : Str) : Nat := (out.takeWhile fun y => Op.bytesLess y x).length
def insSo (out : List Str) (x : Str) : List Str := if (cutS out x == out.length) || !(out[cutS out x]? == some x) then out.take (cutS out x) ++ [x] ++ out.drop (cutS out x) else out
def sortS (l : List Str) : List Str := l.foldl insSo []
theorem insSo_len (out : List Str) (x : Str) : (insSo out x).length ≤ out.length + 1 := by
 unfold insSo
 split
 ·simp only [List.length_append, List.length_take, List.length_drop, List.length_cons, List.length_nil]; omega
 ·omega
theorem cutS_le (out : List Str) (x : Str) : cutS out x ≤ out.length := by
 unfold cutS
 induction out with
 | nil => simp
 | cons y r ih => rw [List.takeWhile_cons]; split <;> simp <;> omega

set_option maxRecDepth 10000 in
set_option maxHeartbeats 1000000 in
theorem refSort_spec (l : List Str) (ol : Own) (s : Store) (hl : l.length < big) :
  ACalls Tryz.prog 85 [.slc 1 (strs l) ol] s (fun o s' => o = .ret (.slc 1 (strs (sortS l)) .fro) ∧ s' = s) := by
 have hb : big = 1099511627776 := rfl
 refine ACalls.of_CW tO call85 Tryz.func85 rfl rfl ?_
 repeat (first | (with_reducible first | apply CW.seq | apply aN | apply CW.block) | refine wR rfl ?_)
 refine CW.loop (σ := Nat × Own × List Str) (fun q => [(0, .slc 1 (strs l) ol), (3, .slc 1 (strs q.2.2) q.2.1), (4, .int .i64 (q.1 : Int))])
  (fun q => rowOf s 9 1 q.2.2.length q.2.1) (fun q => q.1 ≤ l.length ∧ OwnOk s 0 q.2.1 ∧ q.2.2.length ≤ q.1 ∧ (l.drop q.1).foldl insSo q.2.2 = sortS l) (fun q => l.length - q.1) (0, .nil, []) ⟨by simp, trivial, by simp, rfl⟩ ?_ sSub ?_
 ·exact ⟨⟨_, rfl, aRfl⟩, ⟨_, rfl, AVle.nil (by simp)⟩, ⟨_, rfl, aRfl⟩, trivial⟩
 rintro ⟨i, ow, out⟩ ⟨hi, hok, hol, hI⟩
 simp only at hi hok hol hI
 repeat (first | (with_reducible first | apply CW.seq | apply aN) | refine wR rfl ?_)
 refine CW.cond rfl (fun h => ?_) (fun h => ?_)
 ·have hlt : i < l.length := by simpa using h
  obtain ⟨x, hx⟩ : ∃ x, l[i]? = some x := ⟨_, List.getElem?_eq_getElem hlt⟩
  have hx' : (strs l)[i]? = some (.str x) := by rw [strs_get, hx]; rfl
  rw [drop_cons hx, List.foldl_cons] at hI
  have hcl := cutS_le out x
  refine CW.skip (aN (CW.seq (CW.block ?_)))
  refine CW.seqCut [(0, .slc 1 (strs l) ol), (3, .slc 1 (strs out) ow), (4, .int .i64 (i : Int)), (5, .int .i64 0)] (rowOf s 9 1 out.length ow) ?_ ?_
  ·repeat (first | refine wR rfl ?_)
   exact ⟨rfl, (wE rfl), sSub⟩
  refine CW.seqCut [(0, .slc 1 (strs l) ol), (3, .slc 1 (strs out) ow), (4, .int .i64 (i : Int)), (5, .int .i64 (cutS out x : Int))] (rowOf s 9 1 out.length ow) ?_ ?_
  ·repeat (first | with_reducible apply CW.block)
   refine CW.loop (σ := Nat) (fun a => [(0, .slc 1 (strs l) ol), (3, .slc 1 (strs out) ow), (4, .int .i64 (i : Int)), (5, .int .i64 (a : Int))]) (fun _ => rowOf s 9 1 out.length ow)
    (fun a => a ≤ out.length ∧ a + cutS (out.drop a) x = cutS out x) (fun a => out.length - a) 0 ⟨by simp, by simp⟩ (wE rfl) sSub ?_
   rintro a ⟨ha, hA⟩
   repeat (first | with_reducible apply CW.seq)
   refine CW.drw tO mixed rfl (RD.runs (is := [0, 1, 2, 3, 4]) rfl ?_)
   by_cases hal : a < out.length
   ·obtain ⟨y, hy⟩ : ∃ y, out[a]? = some y := ⟨_, List.getElem?_eq_getElem hal⟩
    have hy' : (strs out)[a]? = some (.str y) := by rw [strs_get, hy]; rfl
    refine RD.knowT 16 (b := decide ((a : Int) < ((strs out).length : Int))) rfl (by simp; omega) ?_
    refine RD.run rfl ?_
    refine RD.idx 7 a rfl rfl rfl rfl rfl rfl rfl rfl rfl rfl rfl rfl rfl hy' rfl ?_
    refine RD.idx 11 i rfl rfl rfl rfl rfl rfl rfl rfl rfl rfl rfl rfl rfl hx' rfl ?_
    refine RD.run rfl (RD.done rfl ?_)
    have hd : cutS (out.drop a) x = if Op.bytesLess y x then cutS (out.drop (a + 1)) x + 1 else 0 := by
     rw [drop_cons hy]; unfold cutS; rw [List.takeWhile_cons]
     cases Op.bytesLess y x <;> simp
    cases hc : Op.bytesLess y x with
    | true =>
     rw [hc, if_pos rfl] at hd
     repeat (first | (with_reducible first | apply aN | apply iN | apply CW.skip | apply CW.block) | refine wR rfl ?_ | refine CW.condT rfl ?_)
     exact ⟨a + 1, ⟨hal, by omega⟩, (by repeat (first | exact trivial | refine ⟨⟨_, rfl, aRfl⟩, ?_⟩ | refine ⟨⟨_, rfl, AVle.of_eq (by (rw [i64_succ (by omega)]))⟩, ?_⟩)), sSub, by omega⟩
    | false =>
     rw [hc, if_neg (by simp)] at hd
     have hac : cutS out x = a := by omega
     rw [hac]
     repeat (first | (with_reducible first | apply aN | apply aX | apply iH | apply CW.exit) | refine CW.condF rfl ?_)
     exact ⟨rfl, (wE rfl), sSub⟩
   ·have hac : cutS out x = a := by
     rw [List.drop_eq_nil_of_le (by omega)] at hA
     have : cutS [] x = 0 := rfl
     omega
    rw [hac]
    refine RD.knowF 16 (b := decide ((a : Int) < ((strs out).length : Int))) rfl (by simp; omega) ?_
    refine RD.run rfl (RD.done rfl ?_)
    repeat (first | (with_reducible first | apply aN | apply aX | apply iH | apply CW.exit) | refine CW.condF rfl ?_)
    exact ⟨rfl, (wE rfl), sSub⟩
  generalize hct : cutS out x = a at hcl ⊢
  have hir : ∀ y, out[a]? = some y → (y == x) = false → insSo out x = out.take a ++ [x] ++ out.drop a := fun y hy hyx => by
   unfold insSo; rw [hct, if_pos]
   rw [hy]; simp; exact .inr (by simpa using hyx)
  repeat (first | with_reducible apply CW.seq)
  refine CW.drw tO mixed rfl (RD.runs (is := [0, 1, 2, 3, 4]) rfl ?_)
  by_cases hal : a < out.length
  ·obtain ⟨y, hy⟩ : ∃ y, out[a]? = some y := ⟨_, List.getElem?_eq_getElem hal⟩
   have hy' : (strs out)[a]? = some (.str y) := by rw [strs_get, hy]; rfl
   refine RD.knowF 33 (b := ((a : Int) == ((strs out).length : Int))) rfl (by simp; omega) ?_
   refine RD.run rfl ?_
   refine RD.idx 7 a rfl rfl rfl rfl rfl rfl rfl rfl rfl rfl rfl rfl rfl hy' rfl ?_
   refine RD.idx 11 i rfl rfl rfl rfl rfl rfl rfl rfl rfl rfl rfl rfl rfl hx' rfl ?_
   refine RD.run rfl (RD.done rfl ?_)
   cases hyx : y == x with
   | true =>
    have hr : insSo out x = out := by
     unfold insSo; rw [hct, if_neg]
     rw [hy]; simp; exact ⟨by omega, by simpa using hyx⟩
    rw [hr] at hI
    repeat (first | (with_reducible first | apply aN | apply iN | apply CW.skip) | refine wR rfl ?_ | refine CW.condF rfl ?_)
    exact ⟨(i + 1, ow, out), ⟨hlt, hok, by show out.length ≤ i + 1; omega, hI⟩, (by repeat (first | exact trivial | refine ⟨⟨_, rfl, aRfl⟩, ?_⟩ | refine ⟨⟨_, rfl, AVle.of_eq (by (show AV.int .i64 (IntKind.wrap .i64 ((i : Int) + 1)) = .int .i64 ((i + 1 : Nat) : Int); rw [i64_succ (by omega)]))⟩, ?_⟩)), sSub, by show l.length - (i + 1) < l.length - i; omega⟩
   | false =>
    have hr := hir y hy hyx
    repeat (first | with_reducible apply aN | refine CW.condT rfl ?_)
    refine CW.sub [(0, .slc 1 (strs l) ol), (3, .slc 1 (strs out) .fro), (4, .int .i64 (i : Int)), (5, .int .i64 (a : Int))] (by exact ⟨⟨_, rfl, aRfl⟩, ⟨_, rfl, AVle.fro⟩, ⟨_, rfl, aRfl⟩, ⟨_, rfl, aRfl⟩, trivial⟩) ?_
    refine CW.drop s (rowOf_sub hok) ?_
    have h1 : (out.take a).length = a := by rw [List.length_take]; omega
    have h2 : (out.drop a).length = out.length - a := List.length_drop
    repeat (first | refine CW.drw tO mixed rfl (RD.run rfl ?_))
    refine RD.slice 2 0 a rfl rfl rfl rfl rfl rfl rfl rfl rfl rfl (.inr rfl) (.inl ⟨rfl, rfl⟩) (.inr ⟨_, _, rfl, rfl⟩) (.inl ⟨rfl, rfl⟩) (by omega) (by rw [strs_length]; omega) ?_
    refine RD.slice 12 a out.length rfl rfl rfl rfl rfl rfl rfl rfl rfl rfl (.inr rfl) (.inr ⟨_, _, rfl, rfl⟩) (.inl ⟨rfl, rfl, by simp⟩) (.inl ⟨rfl, rfl⟩) (by omega) (by rw [strs_length]; omega) ?_
    refine RD.idx 6 i rfl rfl rfl rfl rfl rfl rfl rfl rfl rfl rfl rfl rfl hx' rfl ?_
    refine RD.run rfl ?_
    have e1 : ((strs out).take a).drop 0 = strs (out.take a) := by simp [strs, List.map_take]
    have e2 : ((strs out).take out.length).drop a = strs (out.drop a) := by rw [List.take_of_length_le (by simp)]; simp [strs, List.map_drop]
    rw [e1, e2]
    refine RD.appendN (i := 3) tO rfl rfl rfl rfl rfl rfl rfl rfl rfl (by intro k h; cases h) rfl rfl rfl (.inr rfl) rfl (strs_elem _) (n := a) (by rw [strs_length, h1]) (by show a * 16 ≤ _; omega) (by omega) (fun o1 hq1 => ?_)
    refine RD.run rfl ?_
    refine RD.append1 (i := 9) tO rfl rfl rfl rfl rfl rfl rfl rfl rfl (by intro k h; cases h) rfl rfl rfl rfl rfl rfl rfl (n := a) (by rw [strs_length, h1]) (by show (a + 1) * 16 ≤ _; omega) (by omega) (s := s) rfl hq1 (fun b2 hb2 => ?_)
    refine RD.run rfl ?_
    refine RD.appendR (i := 13) tO rfl rfl rfl rfl rfl rfl rfl rfl rfl (by intro k h; cases h) rfl rfl rfl rfl (.inr rfl) rfl (strs_elem _) (n := a + 1) ?_ ?_ (by rw [List.length_append, strs_length, h1]; rfl) rfl hb2 (fun o3 hq3 => ?_)
    ·simp only [List.length_append, strs_length, List.length_cons, List.length_nil, h1, h2]; show _ * 16 ≤ _; omega
    ·simp only [List.length_append, strs_length, List.length_cons, List.length_nil, h1, h2]; omega
    refine RD.run rfl (RD.done rfl ?_)
    have hrl : (insSo out x).length = out.length + 1 := by rw [hr]; simp only [List.length_append, h1, h2, List.length_cons, List.length_nil]; omega
    have hil := insSo_len out x
    repeat (first | (with_reducible first | apply aN | apply iN) | refine wR rfl ?_)
    refine ⟨(i + 1, o3, insSo out x), ⟨hlt, OwnOk.sub' hq3, by show (insSo out x).length ≤ i + 1; omega, hI⟩, (by repeat (first | exact trivial | refine ⟨⟨_, rfl, aRfl⟩, ?_⟩ | refine ⟨⟨_, rfl, AVle.of_eq (by (first | (show AV.int .i64 (IntKind.wrap .i64 ((i : Int) + 1)) = .int .i64 ((i + 1 : Nat) : Int); rw [i64_succ (by omega)]) | (show AV.slc 1 _ _ = AV.slc 1 (strs (insSo out x)) o3; rw [hr]; simp [strs])))⟩, ?_⟩)), ?_, by show l.length - (i + 1) < l.length - i; omega⟩
    show Store.Sub (rowOf s _ 1 (insSo out x).length o3) _
    rw [hrl]
    simp only [List.length_append, strs_length, List.length_cons, List.length_nil, h1, h2]
    rw [show a + (0 + 1) + (out.length - a) = out.length + 1 by omega]
    exact sSub
  ·have hae : a = out.length := by omega
   have hr : insSo out x = out.take a ++ [x] ++ out.drop a := by unfold insSo; rw [hct, if_pos (by simp [hae])]
   refine RD.knowT 33 (b := ((a : Int) == ((strs out).length : Int))) rfl (by simp; omega) ?_
   refine RD.run rfl (RD.done rfl ?_)
   repeat (first | with_reducible apply aN | refine CW.condT rfl ?_)
   refine CW.sub [(0, .slc 1 (strs l) ol), (3, .slc 1 (strs out) .fro), (4, .int .i64 (i : Int)), (5, .int .i64 (a : Int))] (by exact ⟨⟨_, rfl, aRfl⟩, ⟨_, rfl, AVle.fro⟩, ⟨_, rfl, aRfl⟩, ⟨_, rfl, aRfl⟩, trivial⟩) ?_
   refine CW.drop s (rowOf_sub hok) ?_
   have h1 : (out.take a).length = a := by rw [List.length_take]; omega
   have h2 : (out.drop a).length = out.length - a := List.length_drop
   repeat (first | refine CW.drw tO mixed rfl (RD.run rfl ?_))
   refine RD.slice 2 0 a rfl rfl rfl rfl rfl rfl rfl rfl rfl rfl (.inr rfl) (.inl ⟨rfl, rfl⟩) (.inr ⟨_, _, rfl, rfl⟩) (.inl ⟨rfl, rfl⟩) (by omega) (by rw [strs_length]; omega) ?_
   refine RD.slice 12 a out.length rfl rfl rfl rfl rfl rfl rfl rfl rfl rfl (.inr rfl) (.inr ⟨_, _, rfl, rfl⟩) (.inl ⟨rfl, rfl, by simp⟩) (.inl ⟨rfl, rfl⟩) (by omega) (by rw [strs_length]; omega) ?_
   refine RD.idx 6 i rfl rfl rfl rfl rfl rfl rfl rfl rfl rfl rfl rfl rfl hx' rfl ?_
   refine RD.run rfl ?_
   have e1 : ((strs out).take a).drop 0 = strs (out.take a) := by simp [strs, List.map_take]
   have e2 : ((strs out).take out.length).drop a = strs (out.drop a) := by rw [List.take_of_length_le (by simp)]; simp [strs, List.map_drop]
   rw [e1, e2]
   refine RD.appendN (i := 3) tO rfl rfl rfl rfl rfl rfl rfl rfl rfl (by intro k h; cases h) rfl rfl rfl (.inr rfl) rfl (strs_elem _) (n := a) (by rw [strs_length, h1]) (by show a * 16 ≤ _; omega) (by omega) (fun o1 hq1 => ?_)
   refine RD.run rfl ?_
   refine RD.append1 (i := 9) tO rfl rfl rfl rfl rfl rfl rfl rfl rfl (by intro k h; cases h) rfl rfl rfl rfl rfl rfl rfl (n := a) (by rw [strs_length, h1]) (by show (a + 1) * 16 ≤ _; omega) (by omega) (s := s) rfl hq1 (fun b2 hb2 => ?_)
   refine RD.run rfl ?_
   refine RD.appendR (i := 13) tO rfl rfl rfl rfl rfl rfl rfl rfl rfl (by intro k h; cases h) rfl rfl rfl rfl (.inr rfl) rfl (strs_elem _) (n := a + 1) ?_ ?_ (by rw [List.length_append, strs_length, h1]; rfl) rfl hb2 (fun o3 hq3 => ?_)
   ·simp only [List.length_append, strs_length, List.length_cons, List.length_nil, h1, h2]; show _ * 16 ≤ _; omega
   ·simp only [List.length_append, strs_length, List.length_cons, List.length_nil, h1, h2]; omega
   refine RD.run rfl (RD.done rfl ?_)
   have hrl : (insSo out x).length = out.length + 1 := by rw [hr]; simp only [List.length_append, h1, h2, List.length_cons, List.length_nil]; omega
   have hil := insSo_len out x
   repeat (first | (with_reducible first | apply aN | apply iN) | refine wR rfl ?_)
   refine ⟨(i + 1, o3, insSo out x), ⟨hlt, OwnOk.sub' hq3, by show (insSo out x).length ≤ i + 1; omega, hI⟩, (by repeat (first | exact trivial | refine ⟨⟨_, rfl, aRfl⟩, ?_⟩ | refine ⟨⟨_, rfl, AVle.of_eq (by (first | (show AV.int .i64 (IntKind.wrap .i64 ((i : Int) + 1)) = .int .i64 ((i + 1 : Nat) : Int); rw [i64_succ (by omega)]) | (show AV.slc 1 _ _ = AV.slc 1 (strs (insSo out x)) o3; rw [hr]; simp [strs])))⟩, ?_⟩)), ?_, by show l.length - (i + 1) < l.length - i; omega⟩
   show Store.Sub (rowOf s _ 1 (insSo out x).length o3) _
   rw [hrl]
   simp only [List.length_append, strs_length, List.length_cons, List.length_nil, h1, h2]
   rw [show a + (0 + 1) + (out.length - a) = out.length + 1 by omega]
   exact sSub
 ·have hge : l.length ≤ i := by simpa using h
  rw [List.drop_eq_nil_of_le hge, List.foldl_nil] at hI
  repeat (first | (with_reducible first | apply CW.seq | apply aN | apply aX | apply iH | apply CW.ret | apply CW.exit) | refine wR rfl ?_)
  exact ⟨_, _, s, rfl, AVle.fro, rowOf_sub hok, by rw [hI], rfl⟩

set_option maxRecDepth 10000 in
theorem refFreeOf_spec (e : FExp) (s : Store) (hbig : e.size < big) :
  ACalls Tryz.prog 46 [e.av] s (fun o s' => o = .ret (.slc 1 (strs (sortS (e.looseR []))) .fro) ∧ s' = s) := by
 have hb : big = 1099511627776 := rfl
 have hl := looseR_len e []
 refine ACalls.of_CW tO call46 Tryz.func46 rfl rfl ?_
 repeat (first | (with_reducible first | apply CW.seq | apply aN) | refine wR rfl ?_ | refine CW.reg ?_ | refine wS rfl ?_)
 refine RL.callP rfl rfl rfl rfl rfl (ACalls.weakArgs (.cons aRfl (.one (AVle.nil (by simp)))) (refLoose_spec _ e [] .nil s (Nat.le_refl _) (by simpa using hbig))) ?_
 skip
 refine RL.callP rfl rfl rfl rfl rfl (refSort_spec _ _ s (by omega)) ?_
 repeat (first | (with_reducible first | apply aN | apply CW.ret) | refine RL.nil ?_ | refine wS rfl ?_)
 exact ⟨_, _, s, rfl, aRfl, sSub, rfl, rfl⟩
end Go.Proofs.YtaafacnoddjhgaaGreat

/- Plain laws: sorted strings; expressions that are neat. -/
namespace Go.Proofs.YtaafacnoddjhgaaGreat
open Go.AE

theorem mem_insSo {out : List Str} {x z : Str} : z ∈ insSo out x ↔ z ∈ out ∨ z = x := by
 unfold insSo
 split
 ·rw [List.mem_append, List.mem_append, List.mem_singleton]
  constructor
  ·rintro ((h | h) | h)
   ·exact .inl (List.mem_of_mem_take h)
   ·exact .inr h
   ·exact .inl (List.mem_of_mem_drop h)
  ·rintro (h | h)
   ·rw [← List.take_append_drop (cutS out x) out, List.mem_append] at h
    rcases h with h | h
    ·exact .inl (.inl h)
    ·exact .inr h
   ·exact .inl (.inr h)
 ·rename_i hc
  simp only [Bool.or_eq_true, Bool.not_eq_true', not_or, Bool.not_eq_false, beq_iff_eq] at hc
  exact ⟨.inl, fun h => by
   rcases h with h | h
   ·exact h
   ·rw [h]; exact List.mem_of_getElem? hc.2⟩
theorem mem_foldSo {z : Str} : ∀ {l out : List Str}, z ∈ l.foldl insSo out ↔ z ∈ out ∨ z ∈ l
 | [], out => by simp
 | x :: l, out => by rw [List.foldl_cons, mem_foldSo, mem_insSo, List.mem_cons, or_assoc]
theorem mem_sortS {l : List Str} {z : Str} : z ∈ sortS l ↔ z ∈ l := by unfold sortS; rw [mem_foldSo]; simp

end Go.Proofs.YtaafacnoddjhgaaGreat

/- Plain laws: strings in order. -/
namespace Go.Proofs.YtaafacnoddjhgaaGreat
open Go.AE

/-! ### Sorted strings -/
theorem less_irrefl : ∀ (a : Str), Op.bytesLess a a = false
  | [] => rfl
  | x :: a => by
    rw [Op.bytesLess, less_irrefl a]
    simp
theorem less_trans : ∀ {a b c : Str}, Op.bytesLess a b = true → Op.bytesLess b c = true → Op.bytesLess a c = true
  | a, [], _, h1, _ => by cases a <;> simp [Op.bytesLess] at h1
  | _, _ :: _, [], _, h2 => by simp [Op.bytesLess] at h2
  | [], _ :: _, _ :: _, _, _ => rfl
  | x :: a, y :: b, z :: c, h1, h2 => by
    rw [Op.bytesLess, Bool.or_eq_true, Bool.and_eq_true, decide_eq_true_eq, beq_iff_eq] at h1 h2 ⊢
    rcases h1 with h1 | ⟨rfl, h1⟩
    · rcases h2 with h2 | ⟨rfl, h2⟩
      · exact .inl (UInt8.lt_trans h1 h2)
      · exact .inl h1
    · rcases h2 with h2 | ⟨rfl, h2⟩
      · exact .inl h2
      · exact .inr ⟨rfl, less_trans h1 h2⟩
theorem less_total : ∀ {a b : Str}, Op.bytesLess a b = false → a ≠ b → Op.bytesLess b a = true
  | [], [], _, h => absurd rfl h
  | [], _ :: _, h, _ => by simp [Op.bytesLess] at h
  | _ :: _, [], _, _ => rfl
  | x :: a, y :: b, h1, h2 => by
    rw [Op.bytesLess, Bool.or_eq_false_iff, Bool.and_eq_false_iff, decide_eq_false_iff_not, beq_eq_false_iff_ne] at h1
    rw [Op.bytesLess, Bool.or_eq_true, Bool.and_eq_true, decide_eq_true_eq, beq_iff_eq]
    by_cases hxy : x = y
    · subst hxy
      refine .inr ⟨rfl, less_total ?_ (fun e => h2 (by rw [e]))⟩
      rcases h1.2 with h | h
      · exact absurd rfl h
      · exact h
    · refine .inl ?_
      have h3 : ¬ x.toNat < y.toNat := fun h => h1.1 (UInt8.lt_iff_toNat_lt.2 h)
      have h4 : x.toNat ≠ y.toNat := fun h => hxy (UInt8.toNat_inj.1 h)
      exact UInt8.lt_iff_toNat_lt.2 (by omega)
theorem less_asymm {a b : Str} (h : Op.bytesLess a b = true) : Op.bytesLess b a = false := by
 cases h2 : Op.bytesLess b a with
 | false => rfl
 | true => have := less_trans h h2; rw [less_irrefl] at this; cases this

def Ordered (l : List Str) : Prop := l.Pairwise fun a b => Op.bytesLess a b = true

theorem ordered_eq : ∀ {a b : List Str}, Ordered a → Ordered b → (∀ z, z ∈ a ↔ z ∈ b) → a = b
  | [], [], _, _, _ => rfl
  | [], y :: b, _, _, h => absurd ((h y).2 (List.mem_cons_self ..)) (by simp)
  | x :: a, [], _, _, h => absurd ((h x).1 (List.mem_cons_self ..)) (by simp)
  | x :: a, y :: b, ha, hb, h => by
    unfold Ordered at ha hb
    rw [List.pairwise_cons] at ha hb
    have hxy : x = y := by
      refine Classical.byContradiction fun hne => ?_
      have h1 : x ∈ b := by
        rcases List.mem_cons.1 ((h x).1 (List.mem_cons_self ..)) with e | e
        · exact absurd e hne
        · exact e
      have h2 : y ∈ a := by
        rcases List.mem_cons.1 ((h y).2 (List.mem_cons_self ..)) with e | e
        · exact absurd e.symm hne
        · exact e
      have h3 := less_asymm (ha.1 y h2)
      rw [hb.1 x h1] at h3; cases h3
    subst hxy
    rw [ordered_eq ha.2 hb.2 fun z => ?_]
    have hxa : x ∉ a := fun hc => by have := ha.1 x hc; rw [less_irrefl] at this; cases this
    have hxb : x ∉ b := fun hc => by have := hb.1 x hc; rw [less_irrefl] at this; cases this
    have := h z
    rw [List.mem_cons, List.mem_cons] at this
    constructor
    · intro hz
      rcases this.1 (.inr hz) with e | e
      · subst e; exact absurd hz hxa
      · exact e
    · intro hz
      rcases this.2 (.inr hz) with e | e
      · subst e; exact absurd hz hxb
      · exact e

theorem cut_parts (out : List Str) (x : Str) : out.take (cutS out x) = out.takeWhile (fun y => Op.bytesLess y x) ∧ out.drop (cutS out x) = out.dropWhile (fun y => Op.bytesLess y x) := by
 have h := List.takeWhile_append_dropWhile (p := fun y => Op.bytesLess y x) (l := out)
 unfold cutS
 generalize out.takeWhile (fun y => Op.bytesLess y x) = a at h ⊢
 generalize out.dropWhile (fun y => Op.bytesLess y x) = b at h ⊢
 rw [← h]
 exact ⟨List.take_left' rfl, List.drop_left' rfl⟩

theorem mem_takeWhile' {p : Str → Bool} {y : Str} : ∀ {l : List Str}, y ∈ l.takeWhile p → p y = true
  | [], h => by simp at h
  | x :: l, h => by
    rw [List.takeWhile_cons] at h
    cases hx : p x with
    | true =>
      rw [hx, if_pos rfl] at h
      rcases List.mem_cons.1 h with rfl | h
      · exact hx
      · exact mem_takeWhile' h
    | false => rw [hx, if_neg (by simp)] at h; cases h

theorem insSo_ordered {out : List Str} (x : Str) (h : Ordered out) : Ordered (insSo out x) := by
 unfold insSo
 split
 ·rename_i hc
  obtain ⟨e1, e2⟩ := cut_parts out x
  have hsplit : out = out.take (cutS out x) ++ out.drop (cutS out x) := (List.take_append_drop _ _).symm
  have hlow : ∀ y ∈ out.take (cutS out x), Op.bytesLess y x = true := fun y hy => by
   rw [e1] at hy; exact mem_takeWhile' (p := fun y => Op.bytesLess y x) hy
  have hord := h
  rw [hsplit] at hord
  unfold Ordered at hord ⊢
  rw [List.pairwise_append] at hord
  obtain ⟨p1, p2, p3⟩ := hord
  have hhigh : ∀ z ∈ out.drop (cutS out x), Op.bytesLess x z = true := by
   cases hd : out.drop (cutS out x) with
   | nil => intro z hz; cases hz
   | cons w r =>
    have hw1 : Op.bytesLess w x = false := by
     rw [e2] at hd
     have := List.head?_dropWhile_not (fun y => Op.bytesLess y x) out
     rw [hd] at this
     simpa using this
    have hwx : w ≠ x := by
     intro e
     have hat : out[cutS out x]? = some w := by
      have := congrArg List.head? hd
      rw [List.head?_drop] at this
      simpa using this
     have hlt : cutS out x < out.length := (List.getElem?_eq_some_iff.1 hat).1
     rw [hat, e] at hc
     simp at hc
     omega
    have hxw := less_total hw1 hwx
    rw [hd, List.pairwise_cons] at p2
    intro z hz
    rcases List.mem_cons.1 hz with rfl | hz
    ·exact hxw
    ·exact less_trans hxw (p2.1 z hz)
  rw [List.append_assoc, List.pairwise_append]
  refine ⟨p1, ?_, fun a ha b hb => ?_⟩
  ·rw [List.singleton_append, List.pairwise_cons]
   exact ⟨hhigh, p2⟩
  ·rw [List.singleton_append, List.mem_cons] at hb
   rcases hb with rfl | hb
   ·exact hlow a ha
   ·exact p3 a ha b hb
 ·exact h

theorem sortS_ordered (l : List Str) : Ordered (sortS l) := by
 have : ∀ (l out : List Str), Ordered out → Ordered (l.foldl insSo out) := by
  intro l
  induction l with
  | nil => intro out h; exact h
  | cons x l ih => intro out h; exact ih _ (insSo_ordered x h)
 exact this l [] List.Pairwise.nil

theorem sortS_congr {a b : List Str} (h : ∀ z, z ∈ a ↔ z ∈ b) : sortS a = sortS b :=
 ordered_eq (sortS_ordered a) (sortS_ordered b) fun z => by rw [mem_sortS, mem_sortS]; exact h z
end Go.Proofs.YtaafacnoddjhgaaGreat

/- Contracts of the reference: what expressions speak of; which functions there are. -/
namespace Go.Proofs.YtaafacnoddjhgaaGreat
open Go.AE

section
variable {P : Program} {Γ : Tys} {N : Nat} {env : Env} {s : Store}
end

/-! ### The noter -/
def ints (l : List Int) : List AV := l.map (.int .i64)
def noterCells (G : List (Str × Int)) (o1 o2 : Own) (bad : Bool) : List AV := [.slc 1 (strs (G.map (·.1))) o1, .slc 1 (ints (G.map (·.2))) o2, .bool bad]

structure NoI (s t : Store) (xb : Nat) (G : List (Str × Int)) (is : Bool) (o1 o2 : Own) : Prop where
 hx : t xb = some (.box 153 (noterCells G o1 o2 (!is)))
 r1 : RowIs t 9 1 G.length o1
 r2 : RowIs t 3 1 G.length o2
 sub : Store.Sub s t
 sn : s xb = none
 s1 : ∀ b, o1 = .own b → s b = none
 s2 : ∀ b, o2 = .own b → s b = none
 d12 : ∀ b, o1 = .own b → o2 ≠ .own b

theorem NoI.add {s t : Store} {xb : Nat} {G : List (Str × Int)} {is : Bool} {o1 o2 : Own} (h : NoI s t xb G is o1 o2) (x : Str) (n : Int) {b1 b2 : Nat} (h1 : OwnOk (rowBase t o1) 0 (.own b1))
  (h2 : OwnOk (rowBase (rowOf (rowBase t o1) 9 1 (G.length + 1) (.own b1)) o2) 0 (.own b2)) :
  NoI s ((rowOf (rowBase (rowOf (rowBase t o1) 9 1 (G.length + 1) (.own b1)) o2) 3 1 (G.length + 1) (.own b2)).set xb (.box 153 (noterCells (G ++ [(x, n)]) (.own b1) (.own b2) (!is)))) xb (G ++ [(x, n)]) is (.own b1) (.own b2) := by
 have hx1 := grow_keep (e := 9) (sz := 1) (m := G.length + 1) h.r1 h1 h.hx rfl
 have r2' := grow_row (e := 9) (sz := 1) (m := G.length + 1) h.r2 h.d12 h1
 have q1 := grow_own (e := 9) (sz := 1) (m := G.length + 1) h1
 have g1 := grow_sub (e := 9) (sz := 1) (m := G.length + 1) h.sub h.s1 h1
 have d1 := grow_dis h.r2 h.d12 h1
 generalize rowOf (rowBase t o1) 9 1 (G.length + 1) (.own b1) = t1 at hx1 r2' q1 g1 h2 ⊢
 have d1' : ∀ b, o2 = .own b → Own.own b1 ≠ .own b := fun b hb hc => d1 b hc hb
 have hx2 := grow_keep (e := 3) (sz := 1) (m := G.length + 1) r2' h2 hx1 rfl
 have q1' := grow_row (e := 3) (sz := 1) (m := G.length + 1) q1 d1' h2
 have q2 := grow_own (e := 3) (sz := 1) (m := G.length + 1) h2
 have g2 := grow_sub (e := 3) (sz := 1) (m := G.length + 1) g1.1 h.s2 h2
 have d2 := grow_dis q1 d1' h2
 have hl : (G ++ [(x, n)]).length = G.length + 1 := by simp
 refine ⟨sSam, ?_, ?_, Store.subSet g2.1 h.sn, h.sn, g1.2, g2.2, fun b hb hc => d2 b hc hb⟩
 ·rw [hl]; exact set_row q1' hx2 rfl
 ·rw [hl]; exact set_row q2 hx2 rfl
theorem NoI.bad {s t : Store} {xb : Nat} {G : List (Str × Int)} {is : Bool} {o1 o2 : Own} (h : NoI s t xb G is o1 o2) (is' : Bool) :
  NoI s (t.set xb (.box 153 (noterCells G o1 o2 (!is')))) xb G is' o1 o2 :=
 ⟨sSam, set_row h.r1 h.hx rfl, set_row h.r2 h.hx rfl, Store.subSet h.sub h.sn, h.sn, h.s1, h.s2, h.d12⟩

end Go.Proofs.YtaafacnoddjhgaaGreat

/- Contracts of the reference: place, above, SlotsOf, classes. -/
namespace Go.Proofs.YtaafacnoddjhgaaGreat
open Go.AE

/-! ### The classes above one -/
def at_ (cls : List FClass) (p : Str) : Nat := (cls.findIdx? fun c => c.name == p).getD 0
end Go.Proofs.YtaafacnoddjhgaaGreat

/- The plain law of FormChecks, part 2: classes, and what stands above a class. -/
namespace Go.Proofs.YtaafacnoddjhgaaGreat
open Go.AE

/-! ### What stands above -/
def parsAt (cls : List FClass) (j : Nat) : List Str := (cls[j]?.map FClass.parents).getD []
inductive Up (cls : List FClass) (i : Nat) : Nat → Prop
 | self : Up cls i i
 | step {m : Nat} {p : Str} : Up cls i m → p ∈ parsAt cls m → Up cls i (at_ cls p)
def Ahead (cls : List FClass) : Prop := ∀ j p, p ∈ parsAt cls j → at_ cls p < j

theorem Up.le {cls : List FClass} {i j : Nat} (ha : Ahead cls) (h : Up cls i j) : j ≤ i := by
 induction h with
 | self => exact Nat.le_refl _
 | step _ hp ih => have := ha _ _ hp; omega
theorem Up.trans {cls : List FClass} {i j k : Nat} (h1 : Up cls i j) (h2 : Up cls j k) : Up cls i k := by
 induction h2 with
 | self => exact h1
 | step _ hp ih => exact ih.step hp
theorem Up.tail {cls : List FClass} {i j : Nat} (h : Up cls i j) : j = i ∨ ∃ m, Up cls i m ∧ ∃ p ∈ parsAt cls m, j = at_ cls p := by
 cases h with
 | self => exact .inl rfl
 | step h hp => exact .inr ⟨_, h, _, hp, rfl⟩
theorem Up.head {cls : List FClass} {i j : Nat} (h : Up cls i j) : j = i ∨ ∃ p ∈ parsAt cls i, Up cls (at_ cls p) j := by
 induction h with
 | self => exact .inl rfl
 | step h hp ih =>
  rcases ih with rfl | ⟨q, hq, hu⟩
  ·exact .inr ⟨_, hp, .self⟩
  ·exact .inr ⟨q, hq, hu.step hp⟩
def Tidy (cls : List FClass) : Prop := ∀ j c, cls[j]? = some c → ∀ p ∈ c.parents, p ∈ (cls.take j).map FClass.name

theorem Tidy.find {cls : List FClass} (h : Tidy cls) {j : Nat} {p : Str} (hp : p ∈ parsAt cls j) : (cls.findIdx? fun c => c.name == p) = some (at_ cls p) ∧ at_ cls p < j ∧ j < cls.length := by
 unfold parsAt at hp
 cases hc : cls[j]? with
 | none => rw [hc] at hp; cases hp
 | some c =>
  rw [hc] at hp
  have hm := h j c hc p hp
  obtain ⟨d, hd, rfl⟩ := List.mem_map.1 hm
  obtain ⟨k, hk⟩ := List.getElem?_of_mem hd
  have hkj : k < j := by
   have := (List.getElem?_eq_some_iff.1 hk).1
   rw [List.length_take] at this; omega
  have hk' : cls[k]? = some d := by rw [List.getElem?_take] at hk; rw [if_pos hkj] at hk; exact hk
  have hjl := (List.getElem?_eq_some_iff.1 hc).1
  have hs : (cls.findIdx? fun c => c.name == d.name).isSome = true := by
   rw [List.findIdx?_isSome, List.any_eq_true]
   exact ⟨d, List.mem_of_getElem? hk', by simp⟩
  obtain ⟨q, hq⟩ := Option.isSome_iff_exists.1 hs
  have : at_ cls d.name = q := by unfold at_; rw [hq]; rfl
  refine ⟨by rw [this]; exact hq, ?_, hjl⟩
  rw [this]
  rw [List.findIdx?_eq_some_iff_getElem] at hq
  obtain ⟨q1, q2, q3⟩ := hq
  refine Nat.lt_of_not_le fun hle => ?_
  have := q3 k (by omega)
  obtain ⟨e1, e2⟩ := List.getElem?_eq_some_iff.1 hk'
  rw [e2] at this
  simp at this
theorem Tidy.ahead {cls : List FClass} (h : Tidy cls) : Ahead cls := fun _ _ hp => (h.find hp).2.1

end Go.Proofs.YtaafacnoddjhgaaGreat

