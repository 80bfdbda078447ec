import Derived.Test.YtaafacnoddjhgaaGreatQd
import Derived.Test.YtaafacnoddjhgaaGreatRows
import Derived.ProofKit
import Derived.OpenShut
import Derived.WalkKit
import Derived.JoinedCond
import Derived.Laws.MakeOwn
/- Contracts of the laws: known. -/
namespace Go.Proofs.YtaafacnoddjhgaaGreat
open Go.AE

def exP : FProg := exampleP [[97], [98]]

theorem exP_ok : progOk exP = true := by decide +kernel
theorem exP_count : progCount exP = 13 := by decide +kernel
theorem exP_above : aboveS exP.classes [99] = some [[97], [98]] := by decide +kernel
theorem exP_gens : (progGens exP).1.map (·.1) = [[115, 104, 111, 119]] := by decide +kernel
theorem exP_slots : exP.classes.flatMap FClass.slots = [[102], [103]] := by decide +kernel

def shortB : Part → Bool
 | .exp e => decide (e.text.length < 9223372036854775807)
 | .fact f => decide (f.name.length < 9223372036854775807) && (decide (f.cls.length < 9223372036854775807) && (decide (f.path.length < big) && f.path.all fun x => decide (x.length < 9223372036854775807)))

theorem FExp.fair_of {e : FExp} (h : (decide (e.size < big) && ((Part.exp e).nodes 1).all fun x => shortB x.2) = true) : e.Fair := by
 simp only [Bool.and_eq_true, decide_eq_true_eq, List.all_eq_true] at h
 refine ⟨h.1, fun x hx => ?_⟩
 have := h.2 x hx
 cases hp : x.2 with
 | exp g => rw [hp] at this; simpa [shortB, Part.short] using this
 | fact g => trivial

theorem FFact.fair_of {f : FFact} (h : (decide (f.size < big) && ((Part.fact f).nodes 1).all fun x => shortB x.2) = true) : f.Fair ∧ f.Slim 1 := by
 have hb : big = 1099511627776 := rfl
 simp only [Bool.and_eq_true, decide_eq_true_eq, List.all_eq_true] at h
 refine ⟨⟨h.1, fun x hx => ?_⟩, fun d g hg => ?_⟩
 ·have := h.2 x hx
  cases hp : x.2 with
  | exp g => rw [hp] at this; simpa [shortB, Part.texts] using this
  | fact g =>
   rw [hp] at this
   simp only [shortB, Bool.and_eq_true, decide_eq_true_eq, List.all_eq_true] at this
   exact ⟨this.1, this.2.1, by have := this.2.2.1; omega, this.2.2.2⟩
 ·have := h.2 _ hg
  simp only [shortB, Bool.and_eq_true, decide_eq_true_eq, List.all_eq_true] at this
  exact this.2.2.1

def shtB (x : Str) : Bool := decide (x.length < 9223372036854775807)
def strsB (l : List Str) : Bool := decide (l.length < big) && l.all shtB
theorem Strs.of {l : List Str} (h : strsB l = true) : Strs l := by
 simp only [strsB, shtB, Bool.and_eq_true, decide_eq_true_eq, List.all_eq_true] at h
 exact ⟨h.1, h.2⟩
def fairB (P : FProg) : Bool :=
 decide (P.classes.length < big) && ((P.classes.all fun c => shtB c.name && (strsB c.parents && (strsB c.slots && (decide (c.inits.length < big) && c.inits.all fun x => shtB x.slot)))) &&
  (decide (P.methods.length < big) && ((P.methods.all fun m => shtB m.name && (strsB m.params && ((decide (m.fact.size < big) && ((Part.fact m.fact).nodes 1).all fun x => shortB x.2) && (decide (m.body.size < big) && ((Part.exp m.body).nodes 1).all fun x => shortB x.2)))) &&
   ((decide (P.main.size < big) && ((Part.exp P.main).nodes 1).all fun x => shortB x.2) && (decide ((progNotes P).length < big) && decide ((P.classes.flatMap FClass.slots).length < big))))))
theorem FProg.fair_of {P : FProg} (h : fairB P = true) : P.Fair ∧ P.Slim := by
 simp only [fairB, Bool.and_eq_true] at h
 obtain ⟨h1, h2, h3, h4, h5, h6, h7⟩ := h
 simp only [List.all_eq_true, Bool.and_eq_true] at h2 h4
 refine ⟨⟨by simpa using h1, fun c hc => ?_, by simpa using h3, fun m hm => ?_, FExp.fair_of (by simpa using h5), by simpa using h6, by simpa using h7⟩, fun m hm => ?_⟩
 ·obtain ⟨a, b, c', d, e⟩ := h2 c hc
  exact ⟨by simpa [shtB, Sh] using a, .of b, .of c', by simpa using d, fun x hx => by simpa [shtB, Sh] using e x hx⟩
 ·obtain ⟨a, b, c', d⟩ := h4 m hm
  exact ⟨by simpa [shtB, Sh] using a, .of b, (FFact.fair_of (by simpa using c')).1, FExp.fair_of (by simpa using d)⟩
 ·obtain ⟨a, b, c', d⟩ := h4 m hm
  exact (FFact.fair_of (by simpa using c')).2
theorem exP_fair : exP.Fair ∧ exP.Slim := FProg.fair_of (by decide +kernel)

def exE : FExp := .mk 9 0 [97] [numE 2, .mk 12 0 [] [nameE [120], nameE [97]]]
def exY : FExp := .mk 12 0 [] [nameE [97], numE 1]
def exR : FExp := .mk 9 0 [98] [numE 2, .mk 12 0 [] [.mk 12 0 [] [nameE [97], numE 1], nameE [98]]]
theorem exE_fair : exE.Fair := FExp.fair_of (by decide +kernel)
theorem exY_fair : exY.Fair := FExp.fair_of (by decide +kernel)
theorem exPut : FExp.beq (putR exE [120] exY).1 exR = true := by decide +kernel
theorem exPut2 : (putR exE [120] exY).2 = 0 := by decide +kernel
theorem exPut_size : (putR exE [120] exY).1.size < 100 := by decide +kernel

theorem exCanon : ∃ cl a k nm f o n ks mn, exP.canon = ⟨cl, [a, ⟨k, nm, [[97]], f, .mk o n [98] ks⟩], mn⟩ := by
 have h : exP.canon.methods.length = 2 ∧ (exP.canon.methods[1]?.map fun m => (m.params, m.body.text)) = some ([[97]], [98]) := by decide +kernel
 generalize exP.canon = C at h
 obtain ⟨cl, ms, mn⟩ := C
 obtain ⟨h1, h2⟩ := h
 match ms, h1 with
 | [a, ⟨k, nm, ps, f, .mk o n t ks⟩], _ =>
  simp [FExp.text] at h2
  obtain ⟨rfl, rfl⟩ := h2
  exact ⟨_, _, _, _, _, _, _, _, _, rfl⟩

theorem exFresh : freshS (setOf [[97], [98]]) = [99] := by decide +kernel
theorem exName : nameS [97] = true := by decide +kernel
theorem exName2 : nameS [105, 110] = false := by decide +kernel

set_option maxRecDepth 10000 in
set_option maxHeartbeats 2000000 in
theorem known_true (s : Store) : ACalls Tryz.prog 9 [] s (fun o s' => o = .ret (.bool true) ∧ s' = s) := by
 have hN : ∀ s, ACalls Tryz.prog 23 [exP.av] s (fun o s' => o = .ret (.tup [.int .i64 13, err true]) ∧ s' = s) := fun s => by
  have := shapeNodes_spec exP s exP_fair.1; rw [exP_ok, exP_count] at this; exact this
 have hA : ∀ s, ACalls Tryz.prog 24 [exP.av, .str [99]] s (fun o s' => o = .ret (.tup [.slc 1 (strs [[97], [98]]) .fro, err true]) ∧ s' = s) := fun s => by
  have := shapeAbove_spec exP [99] s exP_fair.1; rw [exP_ok, exP_above] at this; exact this
 have hC : ∀ s, ACalls Tryz.prog 15 [exP.av] s (fun o s' => o = .ret (err true) ∧ s' = s) := fun s => by
  have := shapeCheck_spec exP s exP_fair.1; rw [exP_ok] at this; exact this
 have hG : ∀ s, ACalls Tryz.prog 29 [exP.av] s (fun o s' => o = .ret (.tup [.slc 1 (strs [[115, 104, 111, 119]]) .fro, err true]) ∧ s' = s) := fun s => by
  have := shapeGens_spec exP s exP_fair.1; rw [exP_ok, exP_gens] at this; exact this
 have hS : ∀ s, ACalls Tryz.prog 30 [exP.av] s (fun o s' => o = .ret (.tup [.slc 1 (strs [[102], [103]]) .fro, err true]) ∧ s' = s) := fun s => by
  have := shapeSlots_spec exP s exP_fair.1; rw [exP_ok, exP_slots] at this; exact this
 have hK : ∀ s, ACalls Tryz.prog 6 [exP.av] s (fun o s' => o = .ret (.tup [exP.canon.av, err true]) ∧ s' = s) := fun s => by
  have := shapeCanon_spec exP s exP_fair.1 exP_fair.2; rw [exP_ok] at this; exact this
 have hP : ∀ s, ACalls Tryz.prog 25 [exE.av, .str [120], exY.av] s (fun o s' => o = .ret (.tup [(putR exE [120] exY).1.av, .int .i64 0]) ∧ s' = s) := fun s => by
  have := shapePut_spec exE [120] exY s exE_fair exY_fair (by decide); rw [exPut2] at this; exact this
 have hE : ∀ s, ACalls Tryz.prog 19 [(putR exE [120] exY).1.av, exR.av] s (fun o s' => o = .ret (.bool true) ∧ s' = s) := fun s => by
  have := refSameExp_spec _ (putR exE [120] exY).1 exR s (Nat.le_refl _) (by have := exPut_size; have : big = 1099511627776 := rfl; omega) (by decide); rw [exPut] at this; exact this
 have hT1 : ∀ s, ACalls Tryz.prog 14 [.slc 1 (strs [[97], [98]]) .fro, .slc 1 (strs [[97], [98]]) .clip] s (fun o s' => o = .ret (.bool true) ∧ s' = s) := fun s => sameTexts_spec [[97], [98]] [[97], [98]] .fro .clip s (by decide)
 have hT2 : ∀ s, ACalls Tryz.prog 14 [.slc 1 (strs [[102], [103]]) .fro, .slc 1 (strs [[102], [103]]) .clip] s (fun o s' => o = .ret (.bool true) ∧ s' = s) := fun s => sameTexts_spec [[102], [103]] [[102], [103]] .fro .clip s (by decide)
 have hX : ∀ s, ACalls Tryz.prog 22 [.slc 1 (strs [[97], [98]]) .fro] s (fun o s' => o = .ret exP.av ∧ s' = s) := fun s => example_spec [[97], [98]] s
 generalize (putR exE [120] exY).1 = R at hP hE
 obtain ⟨cl, a, k, nm, f, o, n, ks, mn, hcan⟩ := exCanon
 rw [hcan] at hK
 generalize hEP : exP = E at hN hA hC hG hS hK hX
 refine ACalls.of_CW tO call9 Tryz.func9 rfl rfl ?_
 repeat (first | (with_reducible first | apply CW.seq | apply aN) | refine wR rfl ?_ | refine CW.reg ?_ | refine wS rfl ?_)
 refine RL.callP rfl rfl rfl rfl rfl (ACalls.weakArgs (.one AVle.fro) (hX _)) ?_
 refine RL.newBox tO rfl rfl rfl rfl rfl rfl rfl (fun _ => rfl) rfl rfl (fun _ => rfl) rfl rfl rfl rfl ?_
 repeat (first | (with_reducible first | apply CW.seq | apply aN) | refine CW.reg ?_ | refine RL.nil ?_ | refine wS rfl ?_)
 refine RL.callP rfl rfl rfl rfl rfl (hN _) ?_
 repeat (first | (with_reducible first | apply CW.seq | apply aN) | refine CW.reg ?_ | refine RL.nil ?_ | refine wS rfl ?_)
 refine RL.callP rfl rfl rfl rfl rfl (hA _) ?_
 repeat (first | (with_reducible first | apply CW.seq | apply aN) | refine CW.reg ?_ | refine RL.nil ?_ | refine wS rfl ?_)
 refine RL.callP rfl rfl rfl rfl rfl (hC _) ?_
 repeat (first | refine wS rfl ?_)
 refine RL.callP rfl rfl rfl rfl rfl (hT1 _) ?_
 repeat (first | (with_reducible first | apply CW.seq | apply aN | apply CW.skip) | refine CW.reg ?_ | refine RL.nil ?_ | refine CW.condF rfl ?_ | refine wS rfl ?_)
 refine RL.callP rfl rfl rfl rfl rfl (lawNum_spec 2 _) ?_
 skip
 refine RL.callP rfl rfl rfl rfl rfl (lawName_spec [120] _) ?_
 skip
 refine RL.callP rfl rfl rfl rfl rfl (lawName_spec [97] _) ?_
 repeat (first | refine wS rfl ?_)
 refine RL.callP rfl rfl rfl rfl rfl (ACalls.weakArgs (.cons aRfl (.cons aRfl (.one AVle.fro))) (lawExp_spec 12 [] [nameE [120], nameE [97]] _)) ?_
 repeat (first | refine wS rfl ?_)
 refine RL.callP rfl rfl rfl rfl rfl (ACalls.weakArgs (.cons aRfl (.cons aRfl (.one AVle.fro))) (lawExp_spec 9 [97] [numE 2, .mk 12 0 [] [nameE [120], nameE [97]]] _)) ?_
 skip
 refine RL.callP rfl rfl rfl rfl rfl (lawName_spec [97] _) ?_
 skip
 refine RL.callP rfl rfl rfl rfl rfl (lawNum_spec 1 _) ?_
 repeat (first | refine wS rfl ?_)
 refine RL.callP rfl rfl rfl rfl rfl (ACalls.weakArgs (.cons aRfl (.cons aRfl (.one AVle.fro))) (lawExp_spec 12 [] [nameE [97], numE 1] _)) ?_
 skip
 refine RL.callP rfl rfl rfl rfl rfl (hP _) ?_
 repeat (first | refine wS rfl ?_)
 refine RL.newBox tO rfl rfl rfl rfl rfl rfl rfl (fun _ => rfl) rfl rfl (fun _ => rfl) rfl rfl rfl rfl ?_
 repeat (first | (with_reducible first | apply CW.seq | apply aN) | refine RL.nil ?_ | refine wS rfl ?_)
 refine CW.drw tO mixed rfl (RD.run rfl ?_)
 refine RD.calmP (i := 4) rfl rfl rfl rfl rfl rfl rfl (fun s => lawNum_spec 2 s) ?_
 refine RD.run rfl ?_
 refine RD.calmP (i := 5) rfl rfl rfl rfl rfl rfl rfl (fun s => lawName_spec [97] s) ?_
 refine RD.run rfl ?_
 refine RD.calmP (i := 6) rfl rfl rfl rfl rfl rfl rfl (fun s => lawNum_spec 1 s) ?_
 refine RD.run rfl ?_
 refine RD.calmP (i := 8) rfl rfl rfl rfl rfl rfl rfl (fun s => ACalls.weakArgs (.cons aRfl (.cons aRfl (.one AVle.fro))) (lawExp_spec 12 [] [nameE [97], numE 1] s)) ?_
 refine RD.run rfl ?_
 refine RD.calmP (i := 9) rfl rfl rfl rfl rfl rfl rfl (fun s => lawName_spec [98] s) ?_
 refine RD.run rfl ?_
 refine RD.calmP (i := 11) rfl rfl rfl rfl rfl rfl rfl (fun s => ACalls.weakArgs (.cons aRfl (.cons aRfl (.one AVle.fro))) (lawExp_spec 12 [] [.mk 12 0 [] [nameE [97], numE 1], nameE [98]] s)) ?_
 refine RD.run rfl ?_
 refine RD.calmP (i := 13) rfl rfl rfl rfl rfl rfl rfl (fun s => ACalls.weakArgs (.cons aRfl (.cons aRfl (.one AVle.fro))) (lawExp_spec 9 [98] [numE 2, .mk 12 0 [] [.mk 12 0 [] [nameE [97], numE 1], nameE [98]]] s)) ?_
 refine RD.run rfl ?_
 refine RD.calmP (i := 14) rfl rfl rfl rfl rfl rfl rfl (fun s => hE s) ?_
 refine RD.run rfl (RD.done rfl ?_)
 repeat (first | (with_reducible first | apply CW.seq | apply aN | apply CW.skip) | refine CW.reg ?_ | refine CW.condF rfl ?_ | refine wS rfl ?_)
 refine RL.callP rfl rfl rfl rfl rfl (hK _) ?_
 repeat (first | refine wS rfl ?_)
 refine RL.newBox tO rfl rfl rfl rfl rfl rfl rfl (fun _ => rfl) rfl rfl (fun _ => rfl) rfl rfl rfl rfl ?_
 repeat (first | (with_reducible first | apply CW.seq | apply aN) | refine CW.reg ?_ | refine RL.nil ?_ | refine wS rfl ?_)
 refine RL.idx tO 1 rfl rfl rfl rfl rfl rfl rfl rfl rfl rfl rfl (by rfl) (by rfl) ?_
 repeat (first | refine wS rfl ?_)
 refine RL.idx tO 1 rfl rfl rfl rfl rfl rfl rfl rfl rfl rfl rfl (by rfl) (by rfl) ?_
 repeat (first | refine wS rfl ?_)
 refine RL.idx tO 0 rfl rfl rfl rfl rfl rfl rfl rfl rfl rfl rfl (by rfl) (by rfl) ?_
 repeat (first | refine wS rfl ?_)
 refine RL.idx tO 1 rfl rfl rfl rfl rfl rfl rfl rfl rfl rfl rfl (by rfl) (by rfl) ?_
 repeat (first | (with_reducible first | apply CW.seq | apply aN | apply CW.skip) | refine CW.reg ?_ | refine RL.nil ?_ | refine CW.condF rfl ?_ | refine wS rfl ?_)
 refine RL.callP rfl rfl rfl rfl rfl (hG _) ?_
 repeat (first | (with_reducible first | apply CW.seq | apply aN) | refine CW.reg ?_ | refine RL.nil ?_ | refine wS rfl ?_)
 refine RL.callP rfl rfl rfl rfl rfl (hS _) ?_
 repeat (first | (with_reducible first | apply CW.seq | apply aN) | refine CW.reg ?_ | refine RL.nil ?_ | refine wS rfl ?_)
 refine RL.idx tO 0 rfl rfl rfl rfl rfl rfl rfl rfl rfl rfl rfl (by rfl) (by rfl) ?_
 repeat (first | refine wS rfl ?_)
 refine RL.callP rfl rfl rfl rfl rfl (hT2 _) ?_
 repeat (first | refine wS rfl ?_)
 refine RL.callP rfl rfl rfl rfl rfl (show ACalls Tryz.prog 31 [.str [97]] s (fun o s' => o = .ret (.bool true) ∧ s' = s) by have := shapeName_spec [97] s (by decide); rw [exName] at this; exact this) ?_
 repeat (first | refine wS rfl ?_)
 refine RL.callP rfl rfl rfl rfl rfl (show ACalls Tryz.prog 31 [.str [105, 110]] s (fun o s' => o = .ret (.bool false) ∧ s' = s) by have := shapeName_spec [105, 110] s (by decide); rw [exName2] at this; exact this) ?_
 repeat (first | refine wS rfl ?_)
 refine RL.callP rfl rfl rfl rfl rfl (show ACalls Tryz.prog 32 [.slc 1 (strs [[97], [98]]) .clip] s (fun o s' => o = .ret (.str [99]) ∧ s' = s) by have := shapeFresh_spec [[97], [98]] .clip s (by decide) (hasFree_of (by decide +kernel)); rw [exFresh] at this; exact this) ?_
 repeat (first | (with_reducible first | apply aN | apply CW.ret) | refine RL.nil ?_ | refine wS rfl ?_)
 exact ⟨_, _, _, rfl, aRfl, sSub, rfl, rfl⟩
end Go.Proofs.YtaafacnoddjhgaaGreat

/- Readings: what an argument's datum says of the value itself. -/
namespace Go.Proofs.YtaafacnoddjhgaaGreat
open Go.AE

def oldP (w : World) : Prot := fun b _ => b < w.heap.size

theorem wf_old (w : World) : Wf w (oldP w) (fun _ => none) := ⟨(fun _ _ h => by cases h), fun _ _ h => h⟩

theorem add_add (a : Addr) (x y : Nat) : (a.add x).add y = a.add (x + y) := by
 unfold Addr.add
 by_cases hx : x = 0
 ·subst hx; simp
 ·by_cases hy : y = 0
  ·subst hy; simp [hx]
  ·simp [hx, hy, Nat.add_assoc]

theorem cell_old {w : World} {a : Addr} {v : Value} (h : w.cell? a = some v) : a.spot = none ∧ a.block < w.heap.size := by
 unfold World.cell? at h
 split at h
 ·rename_i c _ _ hb
  refine ⟨?_, (Array.getElem?_eq_some_iff.1 hb).1⟩
  cases hs : a.spot with
  | none => rfl
  | some s => rw [hs] at h; simp at h
 ·cases h

theorem cells_old {w : World} {a : Addr} {n : Nat} {cs : List Value} (h : w.cells? 0 a n = some cs) : cs.length = n ∧ ∀ i v, cs[i]? = some v → w.cell? (a.add i) = some v := by
 unfold World.cells? at h
 rw [if_pos (Nat.zero_le _)] at h
 refine ⟨by simpa using mapM_some_length h, fun i v hv => ?_⟩
 have hi : i < n := by
  have := mapM_some_length h
  rw [List.length_range] at this
  rw [← this]; exact (List.getElem?_eq_some_iff.1 hv).1
 rw [mapM_some_get h i i (by rw [List.getElem?_range hi])]; exact hv

section
variable {H : Type} {enc : TypeId × Value → H} {w : World}

theorem flat_len {sz : Nat} : ∀ {vs : List Value}, (∀ v ∈ vs, v.cells.size = sz) → (flat vs).length = vs.length * sz
  | [], _ => by simp [flat]
  | v :: vs, h => by
    have := flat_len (vs := vs) (fun u hu => h u (List.mem_cons_of_mem _ hu))
    have hv := h v List.mem_cons_self
    simp only [flat, List.flatMap_cons, List.length_append, List.length_cons] at this ⊢
    rw [this, Array.length_toList, hv, Nat.add_mul, Nat.one_mul, Nat.add_comm]

theorem RelL.append' {p : Prot} : ∀ {vs us : List Value} {xs ys : List AV}, RelL w p vs xs → RelL w p us ys → RelL w p (vs ++ us) (xs ++ ys)
 | _, _, _, _, .nil, h => h
 | _, _, _, _, .cons v x vs xs h t, k => .cons _ _ _ _ h (RelL.append' t k)

theorem bulk_append (l r : List (DataW H)) : Rows.uptoBulkAll (l ++ r) = Rows.uptoBulkAll l + Rows.uptoBulkAll r := by
 induction l with
 | nil => simp [Rows.uptoBulkAll]
 | cons x l ih => simp only [List.cons_append, Rows.uptoBulkAll, ih]; omega

theorem trod_list {α : Type} {t e : TypeId} {sz fuel : Nat} {cs : List Value} {x : DataW H × List MemPlace} (f : α → AV) (m : α → Nat) (ht : Tryz.prog.underlying t = some (.slice e)) (hc : Tryz.prog.cellsOf e = sz) (hsz : 0 < sz)
  (hel : ∀ n cs y, n < fuel → DataW.trod enc Tryz.prog w 0 (fun _ => true) true n e cs = some y → cs.length = sz → ∃ (a : α) (v : Value), v.cells.toList = cs ∧ Rel w (oldP w) v (f a) ∧ m a ≤ Rows.uptoBulk y.1)
  (h : DataW.trod enc Tryz.prog w 0 (fun _ => true) true fuel t cs = some x) :
  ∃ (c : Value) (l : List α), cs = [c] ∧ Rel w (oldP w) c (.slc sz (l.map f) .fro) ∧ (l.map m).sum + 1 ≤ Rows.uptoBulk x.1 := by
 rcases DataW.trod_slice ht h with ⟨rfl, rfl⟩ | ⟨a, len, cap, elems, rest, n, rfl, rfl, rfl, hb, hl, hm, hlen, hel', hsp, hns⟩
 ·exact ⟨_, [], rfl, .slcNil _ _ (by simp), by simp [Rows.uptoBulk]⟩
 ·rw [hc] at hel' hsp
  have key : ∀ k, k ≤ len → ∃ (l : List α) (vs : List Value), l.length = k ∧ RelL w (oldP w) vs (l.map f) ∧ (∀ v ∈ vs, v.cells.size = sz) ∧ (∀ i u, (flat vs)[i]? = some u → w.cell? (a.add i) = some u) ∧
    (l.map m).sum ≤ Rows.uptoBulkAll ((elems.take k).map (·.1)) := by
   intro k
   induction k with
   | zero => intro _; exact ⟨[], [], rfl, .nil, by simp, by simp [flat], by simp⟩
   | succ k ih =>
    intro hk
    obtain ⟨l, vs, h1, h2, h3, h4, h5⟩ := ih (by omega)
    have hek : elems[k]? = some (elems[k]'(by omega)) := List.getElem?_eq_getElem (by omega)
    have hb := hel' k (by omega)
    rw [hek, Option.bind_eq_some_iff] at hb
    obtain ⟨cs', hcs, hy⟩ := hb
    obtain ⟨g1, g2⟩ := cells_old hcs
    obtain ⟨a', v, e1, e2, e3⟩ := hel n cs' _ (Nat.lt_succ_self n) hy g1
    have hvs : vs.length = k := by rw [h2.length, List.length_map, h1]
    refine ⟨l ++ [a'], vs ++ [v], by simp [h1], ?_, ?_, ?_, ?_⟩
    ·rw [List.map_append]; exact RelL.append' h2 (.cons _ _ _ _ e2 .nil)
    ·intro u hu
     rcases List.mem_append.1 hu with hu | hu
     ·exact h3 u hu
     ·simp only [List.mem_singleton] at hu
      subst hu
      rw [← Array.length_toList, e1, g1]
    ·intro i u hu
     have hf : flat (vs ++ [v]) = flat vs ++ cs' := by simp [flat, e1]
     rw [hf] at hu
     by_cases hi : i < (flat vs).length
     ·rw [List.getElem?_append_left hi] at hu; exact h4 i u hu
     ·rw [List.getElem?_append_right (by omega), flat_len h3, hvs] at hu
      have := g2 _ _ hu
      rw [add_add] at this
      rw [flat_len h3, hvs] at hi
      rwa [show k * sz + (i - k * sz) = i by omega] at this
    ·rw [List.take_add_one, hek]
     simp only [Option.toList_some, List.map_append, List.map_cons, List.map_nil, bulk_append, List.sum_append, List.sum_cons, List.sum_nil, Rows.uptoBulkAll]
     omega
  obtain ⟨l, vs, h1, h2, h3, h4, h5⟩ := key len (Nat.le_refl _)
  have hvs : vs.length = len := by rw [h2.length, List.length_map, h1]
  refine ⟨_, l, rfl, ?_, ?_⟩
  ·have hmx : maxLen = 9223372036854775807 := rfl
   by_cases hcap : cap = 0
   ·have hl0 : len = 0 := by omega
    subst hl0; subst hcap
    have : l = [] := List.eq_nil_of_length_eq_zero h1
    subst this
    exact .slcZ a _ _ (.inl rfl)
   ·have hcell : ∃ v, w.cell? a = some v := by
     by_cases hl0 : len = 0
     ·obtain ⟨hr, hr'⟩ := hsp rfl
      have hek : rest[0]? = some (rest[0]'(by omega)) := List.getElem?_eq_getElem (by omega)
      have := hr' 0 (by omega)
      rw [hek, Option.bind_eq_some_iff] at this
      obtain ⟨cs', hcs, -⟩ := this
      obtain ⟨g1, g2⟩ := cells_old hcs
      have := g2 0 _ (List.getElem?_eq_getElem (by omega))
      rw [hl0, add_add] at this
      simp only [Nat.add_zero, Nat.zero_mul, Addr.add, if_true] at this
      exact ⟨_, this⟩
     ·have := h4 0 _ (List.getElem?_eq_getElem (by rw [flat_len h3, hvs]; exact Nat.mul_pos (by omega) hsz))
      simp only [Addr.add, if_true] at this
      exact ⟨_, this⟩
    obtain ⟨v, hv⟩ := hcell
    obtain ⟨hs, hlt⟩ := cell_old hv
    obtain ⟨g, off, spot⟩ := a
    simp only at hs hlt
    subst hs
    refine .slc g off len cap sz vs _ .fro (by simp) (by rw [List.length_map, h1]) (fun i u hu => ⟨hlt, ?_⟩) h2 h3 (by omega) hl (by simp) (by simp)
    have := h4 i u hu
    rwa [add_none] at this
  ·simp only [Rows.uptoBulk]
   rw [List.take_of_length_le (by omega)] at h5
   omega

theorem trod_str {fuel : Nat} {cs : List Value} {y : DataW H × List MemPlace} (h : DataW.trod enc Tryz.prog w 0 (fun _ => true) true fuel 9 cs = some y) :
  ∃ (s : Str) (v : Value), v.cells.toList = cs ∧ Rel w (oldP w) v (.str s) ∧ s.length + 1 ≤ Rows.uptoBulk y.1 := by
 obtain ⟨s, rfl, rfl, hs⟩ := DataW.trod_string Tryz.underlying9 h
 exact ⟨s.data.toList, .string s, rfl, .str _ _ rfl, by simp [Rows.uptoBulk]⟩

theorem trod_strs {fuel : Nat} {cs : List Value} {x : DataW H × List MemPlace} (h : DataW.trod enc Tryz.prog w 0 (fun _ => true) true fuel 38 cs = some x) :
  ∃ (c : Value) (l : List Str), cs = [c] ∧ Rel w (oldP w) c (.slc 1 (strs l) .fro) ∧ (l.map fun s => s.length + 1).sum + 1 ≤ Rows.uptoBulk x.1 :=
 trod_list (fun s => AV.str s) (fun s => s.length + 1) Tryz.underlying38 (by kernel_rfl) (by omega) (fun _ _ _ _ h _ => trod_str h) h

theorem trod_int {t : TypeId} {fuel : Nat} {cs : List Value} {y : DataW H × List MemPlace} (ht : Tryz.prog.underlying t = some (.int .i64)) (h : DataW.trod enc Tryz.prog w 0 (fun _ => true) true fuel t cs = some y) :
  ∃ n : Int, RelL w (oldP w) cs [.int .i64 n] ∧ 1 ≤ Rows.uptoBulk y.1 := by
 obtain ⟨n, rfl, rfl, -⟩ := DataW.trod_int ht h
 exact ⟨n, .cons _ _ _ _ (.int _ _) .nil, by simp [Rows.uptoBulk]⟩

theorem trod_strC {fuel : Nat} {cs : List Value} {y : DataW H × List MemPlace} (h : DataW.trod enc Tryz.prog w 0 (fun _ => true) true fuel 9 cs = some y) :
  ∃ s : Str, RelL w (oldP w) cs [.str s] ∧ s.length + 1 ≤ Rows.uptoBulk y.1 := by
 obtain ⟨s, rfl, rfl, hs⟩ := DataW.trod_string Tryz.underlying9 h
 exact ⟨s.data.toList, .cons _ _ _ _ (.str _ _ rfl) .nil, by simp [Rows.uptoBulk]⟩

theorem trod_strsC {fuel : Nat} {cs : List Value} {y : DataW H × List MemPlace} (h : DataW.trod enc Tryz.prog w 0 (fun _ => true) true fuel 38 cs = some y) :
  ∃ l : List Str, RelL w (oldP w) cs [.slc 1 (strs l) .fro] ∧ (l.map fun s => s.length + 1).sum + 1 ≤ Rows.uptoBulk y.1 := by
 obtain ⟨c, l, rfl, h1, h2⟩ := trod_strs h
 exact ⟨l, .cons _ _ _ _ h1 .nil, h2⟩

theorem trod_aggs {α : Type} {t e : TypeId} {sz fuel : Nat} {cs : List Value} {x : DataW H × List MemPlace} (f : α → List AV) (m : α → Nat) (ht : Tryz.prog.underlying t = some (.slice e)) (hc : Tryz.prog.cellsOf e = sz) (hsz : 0 < sz)
  (hel : ∀ n cs y, n < fuel → DataW.trod enc Tryz.prog w 0 (fun _ => true) true n e cs = some y → ∃ a : α, RelL w (oldP w) cs (f a) ∧ m a ≤ Rows.uptoBulk y.1)
  (h : DataW.trod enc Tryz.prog w 0 (fun _ => true) true fuel t cs = some x) :
  ∃ l : List α, RelL w (oldP w) cs [.slc sz (l.map fun a => .agg (f a)) .fro] ∧ (l.map m).sum + 1 ≤ Rows.uptoBulk x.1 := by
 obtain ⟨c, l, rfl, h1, h2⟩ := trod_list (fun a => AV.agg (f a)) m ht hc hsz (fun n cs y hn hy _ => by
  obtain ⟨a, g1, g2⟩ := hel n cs y hn hy
  exact ⟨a, .agg cs.toArray, by simp [Value.cells], .agg _ _ (by simpa using g1), g2⟩) h
 exact ⟨l, .cons _ _ _ _ h1 .nil, h2⟩

theorem agg_bulk (l : List (DataW H)) : Rows.uptoBulk (.agg l) = Rows.uptoBulkAll l + 1 := by simp [Rows.uptoBulk]

def fld (nm : String) (t : TypeId) (off boff : Nat) : Field := { name := nm, type := t, offset := off, embedded := false, tag := "", pkgPath := "", byteOffset := boff }

mutual
def FExp.weight : FExp → Nat
 | .mk _ _ t ks => t.length + 5 + FExp.weights ks
def FExp.weights : List FExp → Nat
 | [] => 0
 | k :: r => k.weight + FExp.weights r
end
theorem FExp.weights_eq : ∀ l : List FExp, FExp.weights l = (l.map FExp.weight).sum
 | [] => rfl
 | k :: r => by rw [FExp.weights, FExp.weights_eq r]; rfl

set_option maxRecDepth 10000 in
theorem trod_exp : ∀ (fuel : Nat) (cs : List Value) (y : DataW H × List MemPlace), DataW.trod enc Tryz.prog w 0 (fun _ => true) true fuel 27 cs = some y → ∃ e : FExp, RelL w (oldP w) cs e.cells ∧ e.weight ≤ Rows.uptoBulk y.1 := by
 intro fuel
 induction fuel using Nat.strongRecOn with
 | _ fuel ih =>
  intro cs y h
  obtain ⟨xs, n, rfl, rfl, hl, hlen, hf⟩ := DataW.trod_struct Tryz.underlying27 h
  have c___api_FormExp : Tryz.prog.cellsOf 25 = 1 := by kernel_rfl
  have c_api_FormExp : Tryz.prog.cellsOf 27 = 4 := by kernel_rfl
  have c_api_FormOp : Tryz.prog.cellsOf 24 = 1 := by kernel_rfl
  have c_int : Tryz.prog.cellsOf 3 = 1 := by kernel_rfl
  have c_string : Tryz.prog.cellsOf 9 = 1 := by kernel_rfl
  rw [c_api_FormExp] at hl
  match cs, hl, xs, hlen with
  | [v0, v1, v2, v3], _, [y0, y1, y2, y3], _ =>
   have h0 := hf 0 (fld "Op" 24 0 0) rfl
   have h1 := hf 1 (fld "N" 3 1 8) rfl
   have h2 := hf 2 (fld "Text" 9 2 16) rfl
   have h3 := hf 3 (fld "Kids" 25 3 32) rfl
   simp only [fld, c___api_FormExp, c_api_FormExp, c_api_FormOp, c_int, c_string, List.drop, List.take] at h0 h1 h2 h3
   obtain ⟨o, g0, b0⟩ := trod_int Tryz.underlying24 h0
   obtain ⟨k, g1, b1⟩ := trod_int Tryz.underlying3 h1
   obtain ⟨s, g2, b2⟩ := trod_strC h2
   obtain ⟨ks, g3, b3⟩ := trod_aggs FExp.cells FExp.weight Tryz.underlying25 c_api_FormExp (by omega) (fun m cs y hm hy => ih m (by omega) cs y hy) h3
   refine ⟨.mk o k s ks, ?_, ?_⟩
   ·have : (FExp.mk o k s ks).cells = [.int .i64 o] ++ ([.int .i64 k] ++ ([.str s] ++ [.slc 4 (ks.map FExp.av) .fro])) := by
     show [_, _, _, _] = _
     rw [FExp.kav_eq]; rfl
    rw [this]
    exact RelL.append' (vs := [v0]) g0 (RelL.append' (vs := [v1]) g1 (RelL.append' (vs := [v2]) g2 g3))
   ·simp only [agg_bulk, List.map_cons, List.map_nil, Rows.uptoBulkAll, FExp.weight, FExp.weights_eq]
    omega

mutual
def FFact.weight : FFact → Nat
 | .mk _ x p c _ ks => x.length + (p.map fun s => s.length + 1).sum + c.length + 7 + FFact.weights ks
def FFact.weights : List FFact → Nat
 | [] => 0
 | k :: r => k.weight + FFact.weights r
end
theorem FFact.weights_eq : ∀ l : List FFact, FFact.weights l = (l.map FFact.weight).sum
 | [] => rfl
 | k :: r => by rw [FFact.weights, FFact.weights_eq r]; rfl

set_option maxRecDepth 10000 in
theorem trod_fact : ∀ (fuel : Nat) (cs : List Value) (y : DataW H × List MemPlace), DataW.trod enc Tryz.prog w 0 (fun _ => true) true fuel 55 cs = some y → ∃ e : FFact, RelL w (oldP w) cs e.cells ∧ e.weight ≤ Rows.uptoBulk y.1 := by
 intro fuel
 induction fuel using Nat.strongRecOn with
 | _ fuel ih =>
  intro cs y h
  obtain ⟨xs, n, rfl, rfl, hl, hlen, hf⟩ := DataW.trod_struct Tryz.underlying55 h
  have c___api_FormFact : Tryz.prog.cellsOf 53 = 1 := by kernel_rfl
  have c___string : Tryz.prog.cellsOf 38 = 1 := by kernel_rfl
  have c_api_FactOp : Tryz.prog.cellsOf 52 = 1 := by kernel_rfl
  have c_api_FormFact : Tryz.prog.cellsOf 55 = 6 := by kernel_rfl
  have c_int : Tryz.prog.cellsOf 3 = 1 := by kernel_rfl
  have c_string : Tryz.prog.cellsOf 9 = 1 := by kernel_rfl
  rw [c_api_FormFact] at hl
  match cs, hl, xs, hlen with
  | [v0, v1, v2, v3, v4, v5], _, [y0, y1, y2, y3, y4, y5], _ =>
   have h0 := hf 0 (fld "Op" 52 0 0) rfl
   have h1 := hf 1 (fld "Name" 9 1 8) rfl
   have h2 := hf 2 (fld "Path" 38 2 24) rfl
   have h3 := hf 3 (fld "Class" 9 3 48) rfl
   have h4 := hf 4 (fld "N" 3 4 64) rfl
   have h5 := hf 5 (fld "Kids" 53 5 72) rfl
   simp only [fld, c___api_FormFact, c___string, c_api_FactOp, c_api_FormFact, c_int, c_string, List.drop, List.take] at h0 h1 h2 h3 h4 h5
   obtain ⟨o, g0, b0⟩ := trod_int Tryz.underlying52 h0
   obtain ⟨a, g1, b1⟩ := trod_strC h1
   obtain ⟨p, g2, b2⟩ := trod_strsC h2
   obtain ⟨c, g3, b3⟩ := trod_strC h3
   obtain ⟨k, g4, b4⟩ := trod_int Tryz.underlying3 h4
   obtain ⟨ks, g5, b5⟩ := trod_aggs FFact.cells FFact.weight Tryz.underlying53 c_api_FormFact (by omega) (fun m cs y hm hy => ih m (by omega) cs y hy) h5
   refine ⟨.mk o a p c k ks, ?_, ?_⟩
   ·have : (FFact.mk o a p c k ks).cells = [.int .i64 o] ++ ([.str a] ++ ([.slc 1 (strs p) .fro] ++ ([.str c] ++ ([.int .i64 k] ++ [.slc 6 (ks.map FFact.av) .fro])))) := by
     show [_, _, _, _, _, _] = _
     rw [FFact.kav_eq]; rfl
    rw [this]
    exact RelL.append' (vs := [v0]) g0 (RelL.append' (vs := [v1]) g1 (RelL.append' (vs := [v2]) g2 (RelL.append' (vs := [v3]) g3 (RelL.append' (vs := [v4]) g4 g5))))
   ·simp only [agg_bulk, List.map_cons, List.map_nil, Rows.uptoBulkAll, FFact.weight, FFact.weights_eq]
    omega

def sumS (l : List Str) : Nat := (l.map fun s => s.length + 1).sum
def FInit.weight (x : FInit) : Nat := x.slot.length + 3
def FClass.weight (c : FClass) : Nat := c.name.length + sumS c.parents + sumS c.slots + (c.inits.map FInit.weight).sum + 5
def FMethod.weight (m : FMethod) : Nat := m.name.length + sumS m.params + m.fact.weight + m.body.weight + 4
def FProg.weight (P : FProg) : Nat := (P.classes.map FClass.weight).sum + (P.methods.map FMethod.weight).sum + P.main.weight + 3

set_option maxRecDepth 10000 in
theorem trod_init (fuel : Nat) (cs : List Value) (y : DataW H × List MemPlace) (h : DataW.trod enc Tryz.prog w 0 (fun _ => true) true fuel 73 cs = some y) : ∃ e : FInit, RelL w (oldP w) cs e.cells ∧ e.weight ≤ Rows.uptoBulk y.1 := by
 obtain ⟨xs, n, rfl, rfl, hl, hlen, hf⟩ := DataW.trod_struct Tryz.underlying73 h
 have c_api_FormInit : Tryz.prog.cellsOf 73 = 2 := by kernel_rfl
 have c_int : Tryz.prog.cellsOf 3 = 1 := by kernel_rfl
 have c_string : Tryz.prog.cellsOf 9 = 1 := by kernel_rfl
 rw [c_api_FormInit] at hl
 match cs, hl, xs, hlen with
 | [v0, v1], _, [y0, y1], _ =>
  have h0 := hf 0 (fld "Slot" 9 0 0) rfl
  have h1 := hf 1 (fld "N" 3 1 16) rfl
  simp only [fld, c_api_FormInit, c_int, c_string, List.drop, List.take] at h0 h1
  obtain ⟨s, g0, b0⟩ := trod_strC h0
  obtain ⟨k, g1, b1⟩ := trod_int Tryz.underlying3 h1
  refine ⟨⟨s, k⟩, ?_, ?_⟩
  ·have : (FInit.mk s k).cells = [.str s] ++ [.int .i64 k] := by
    rfl
   rw [this]
   exact RelL.append' (vs := [v0]) g0 g1
  ·simp only [agg_bulk, List.map_cons, List.map_nil, Rows.uptoBulkAll, FInit.weight]
   omega

set_option maxRecDepth 10000 in
theorem trod_class (fuel : Nat) (cs : List Value) (y : DataW H × List MemPlace) (h : DataW.trod enc Tryz.prog w 0 (fun _ => true) true fuel 49 cs = some y) : ∃ e : FClass, RelL w (oldP w) cs e.cells ∧ e.weight ≤ Rows.uptoBulk y.1 := by
 obtain ⟨xs, n, rfl, rfl, hl, hlen, hf⟩ := DataW.trod_struct Tryz.underlying49 h
 have c___api_FormInit : Tryz.prog.cellsOf 47 = 1 := by kernel_rfl
 have c___string : Tryz.prog.cellsOf 38 = 1 := by kernel_rfl
 have c_api_FormClass : Tryz.prog.cellsOf 49 = 4 := by kernel_rfl
 have c_string : Tryz.prog.cellsOf 9 = 1 := by kernel_rfl
 rw [c_api_FormClass] at hl
 match cs, hl, xs, hlen with
 | [v0, v1, v2, v3], _, [y0, y1, y2, y3], _ =>
  have h0 := hf 0 (fld "Name" 9 0 0) rfl
  have h1 := hf 1 (fld "Parents" 38 1 16) rfl
  have h2 := hf 2 (fld "Slots" 38 2 40) rfl
  have h3 := hf 3 (fld "Inits" 47 3 64) rfl
  simp only [fld, c___api_FormInit, c___string, c_api_FormClass, c_string, List.drop, List.take] at h0 h1 h2 h3
  obtain ⟨a, g0, b0⟩ := trod_strC h0
  obtain ⟨p, g1, b1⟩ := trod_strsC h1
  obtain ⟨q, g2, b2⟩ := trod_strsC h2
  obtain ⟨l, g3, b3⟩ := trod_aggs (sz := 2) FInit.cells FInit.weight Tryz.underlying47 (by kernel_rfl) (by omega) (fun m cs y _ hy => trod_init m cs y hy) h3
  refine ⟨⟨a, p, q, l⟩, ?_, ?_⟩
  ·have : (FClass.mk a p q l).cells = [.str a] ++ ([.slc 1 (strs p) .fro] ++ ([.slc 1 (strs q) .fro] ++ [.slc 2 (l.map FInit.av) .fro])) := by
    rfl
   rw [this]
   exact RelL.append' (vs := [v0]) g0 (RelL.append' (vs := [v1]) g1 (RelL.append' (vs := [v2]) g2 g3))
  ·simp only [agg_bulk, List.map_cons, List.map_nil, Rows.uptoBulkAll, FClass.weight, sumS]
   omega

set_option maxRecDepth 10000 in
theorem trod_method (fuel : Nat) (cs : List Value) (y : DataW H × List MemPlace) (h : DataW.trod enc Tryz.prog w 0 (fun _ => true) true fuel 57 cs = some y) : ∃ e : FMethod, RelL w (oldP w) cs e.cells ∧ e.weight ≤ Rows.uptoBulk y.1 := by
 obtain ⟨xs, n, rfl, rfl, hl, hlen, hf⟩ := DataW.trod_struct Tryz.underlying57 h
 have c___string : Tryz.prog.cellsOf 38 = 1 := by kernel_rfl
 have c_api_FormExp : Tryz.prog.cellsOf 27 = 4 := by kernel_rfl
 have c_api_FormFact : Tryz.prog.cellsOf 55 = 6 := by kernel_rfl
 have c_api_FormKind : Tryz.prog.cellsOf 51 = 1 := by kernel_rfl
 have c_api_FormMethod : Tryz.prog.cellsOf 57 = 13 := by kernel_rfl
 have c_string : Tryz.prog.cellsOf 9 = 1 := by kernel_rfl
 rw [c_api_FormMethod] at hl
 match cs, hl, xs, hlen with
 | [v0, v1, v2, v3, v4, v5, v6, v7, v8, v9, v10, v11, v12], _, [y0, y1, y2, y3, y4], _ =>
  have h0 := hf 0 (fld "Kind" 51 0 0) rfl
  have h1 := hf 1 (fld "Name" 9 1 8) rfl
  have h2 := hf 2 (fld "Params" 38 2 24) rfl
  have h3 := hf 3 (fld "Fact" 55 3 48) rfl
  have h4 := hf 4 (fld "Body" 27 9 144) rfl
  simp only [fld, c___string, c_api_FormExp, c_api_FormFact, c_api_FormKind, c_api_FormMethod, c_string, List.drop, List.take] at h0 h1 h2 h3 h4
  obtain ⟨o, g0, b0⟩ := trod_int Tryz.underlying51 h0
  obtain ⟨a, g1, b1⟩ := trod_strC h1
  obtain ⟨p, g2, b2⟩ := trod_strsC h2
  obtain ⟨f, g3, b3⟩ := trod_fact _ _ _ h3
  obtain ⟨e, g4, b4⟩ := trod_exp _ _ _ h4
  refine ⟨⟨o, a, p, f, e⟩, ?_, ?_⟩
  ·have : (FMethod.mk o a p f e).cells = [.int .i64 o] ++ ([.str a] ++ ([.slc 1 (strs p) .fro] ++ (f.cells ++ e.cells))) := by
    simp [FMethod.cells]
   rw [this]
   exact RelL.append' (vs := [v0]) g0 (RelL.append' (vs := [v1]) g1 (RelL.append' (vs := [v2]) g2 (RelL.append' (vs := [v3, v4, v5, v6, v7, v8]) g3 g4)))
  ·simp only [agg_bulk, List.map_cons, List.map_nil, Rows.uptoBulkAll, FMethod.weight, sumS]
   omega

set_option maxRecDepth 10000 in
theorem trod_prog (fuel : Nat) (cs : List Value) (y : DataW H × List MemPlace) (h : DataW.trod enc Tryz.prog w 0 (fun _ => true) true fuel 29 cs = some y) : ∃ e : FProg, RelL w (oldP w) cs e.cells ∧ e.weight ≤ Rows.uptoBulk y.1 := by
 obtain ⟨xs, n, rfl, rfl, hl, hlen, hf⟩ := DataW.trod_struct Tryz.underlying29 h
 have c___api_FormClass : Tryz.prog.cellsOf 22 = 1 := by kernel_rfl
 have c___api_FormMethod : Tryz.prog.cellsOf 23 = 1 := by kernel_rfl
 have c_api_FormExp : Tryz.prog.cellsOf 27 = 4 := by kernel_rfl
 have c_api_FormProg : Tryz.prog.cellsOf 29 = 6 := by kernel_rfl
 rw [c_api_FormProg] at hl
 match cs, hl, xs, hlen with
 | [v0, v1, v2, v3, v4, v5], _, [y0, y1, y2], _ =>
  have h0 := hf 0 (fld "Classes" 22 0 0) rfl
  have h1 := hf 1 (fld "Methods" 23 1 24) rfl
  have h2 := hf 2 (fld "Main" 27 2 48) rfl
  simp only [fld, c___api_FormClass, c___api_FormMethod, c_api_FormExp, c_api_FormProg, List.drop, List.take] at h0 h1 h2
  obtain ⟨l, g0, b0⟩ := trod_aggs (sz := 4) FClass.cells FClass.weight Tryz.underlying22 (by kernel_rfl) (by omega) (fun m cs y _ hy => trod_class m cs y hy) h0
  obtain ⟨q, g1, b1⟩ := trod_aggs (sz := 13) FMethod.cells FMethod.weight Tryz.underlying23 (by kernel_rfl) (by omega) (fun m cs y _ hy => trod_method m cs y hy) h1
  obtain ⟨e, g2, b2⟩ := trod_exp _ _ _ h2
  refine ⟨⟨l, q, e⟩, ?_, ?_⟩
  ·have : (FProg.mk l q e).cells = [.slc 4 (l.map FClass.av) .fro] ++ ([.slc 13 (q.map FMethod.av) .fro] ++ e.cells) := by
    rfl
   rw [this]
   exact RelL.append' (vs := [v0]) g0 (RelL.append' (vs := [v1]) g1 g2)
  ·simp only [agg_bulk, List.map_cons, List.map_nil, Rows.uptoBulkAll, FProg.weight]
   omega

end
end Go.Proofs.YtaafacnoddjhgaaGreat

/- How a contract closes a law: the call returns true, and the arguments read as they did. -/
namespace Go.Proofs.YtaafacnoddjhgaaGreat
open Go.AE Go.ChangeShapes Go.WideShapes Go.ChangeAt Go.RowKit

theorem trodAll_stays {H : Type} {enc : TypeId × Value → H} {P : Program} {W W' : World} (hl : laidOutB P = true) : ∀ {ts : List TypeId} {vs : List Value} {ds : List (DataW H)} {ps : List MemPlace} {sp : Nat → Bool}, (∀ t ∈ ts, P.readableRec t = true ∧ t < P.types.size) →
    DataW.TrodAll enc P W 0 (fun _ => true) true ts vs ds ps → (∀ p ∈ ps, W.sameAt W' p) → (∀ p ∈ ps, sp p.block = true) → DataW.TrodAll enc P W' 0 sp true ts vs ds ps
  | [], [], [], _, _, _, h, _, _ => h
  | t :: ts, v :: vs, d :: ds, ps, sp, ht, h, hs, hb => by
    obtain ⟨p, q, h1, h2, rfl⟩ := h
    obtain ⟨r1, r2⟩ := ht t List.mem_cons_self
    exact ⟨p, q, WideElems.Trod_stays hl r1 r2 h1 (fun x hx => hs x (List.mem_append_left _ hx)) (fun x hx => hb x (List.mem_append_left _ hx)),
      trodAll_stays hl (fun t ht' => ht t (List.mem_cons_of_mem _ ht')) h2 (fun x hx => hs x (List.mem_append_right _ hx)) (fun x hx => hb x (List.mem_append_right _ hx)), rfl⟩
  | [], [], _ :: _, _, _, _, h, _, _ => h.elim
  | [], _ :: _, _, _, _, _, h, _, _ => h.elim
  | _ :: _, [], _, _, _, _, h, _, _ => h.elim
  | _ :: _, _ :: _, [], _, _, _, h, _, _ => h.elim

theorem close_true {H : Type} {enc : TypeId × Value → H} {f : FuncId} {fn : Func} {spec : ChangeSpec} {W : World} {args : Array Value} {xs : List AV} {ds gs : List (DataW H)} {before : List MemPlace}
  (hl : laidOutB Tryz.prog = true) (hp : ∀ t ∈ fn.params.toList, Tryz.prog.readableRec t = true ∧ t < Tryz.prog.types.size) (hr : fn.resultTypes = #[4]) (hv : spec.vars = [])
  (hsp : gs = [] → spec.fn H (ds ++ gs) = { results := [.lit (.bool true)], args := ds })
  (hW : DataW.Whole enc Tryz.prog fn.params.toList spec.vars false W args.toList ds gs before) (hrel : RelL W (oldP W) args.toList xs) (hc : ACalls Tryz.prog f xs (fun _ => none) (fun o s' => o = .ret (.bool true) ∧ s' = fun _ => none)) :
  Calls Tryz.prog f args W fun e W' => ∃ v, e = .returned v ∧ spec.post enc Tryz.prog fn false true false false W args v W' := by
 have h := hc.2 W (oldP W) args.toList (wf_old W) hrel
 rw [Array.toArray_toList] at h
 refine Calls.mono h fun e W' ⟨hne, o, s', p', hout, ⟨ho, hs'⟩, hle, hk, hwf⟩ => ?_
 subst ho
 cases e with
 | returned v =>
  have hb : Rel W' p' v (.bool true) := hout
  cases hb
  have hbelow : Below W.heap.size W W' := ⟨hle.os, hle.tape, hle.output, hle.size, fun k hk' => hk.heap k hk' rfl⟩
  have hlt := hW.lt
  have hW' := hW
  obtain ⟨p, q, hA, hV, rfl, hfz, hnd⟩ := hW
  rw [hv] at hV
  obtain ⟨rfl, rfl⟩ := trodVars_none hV
  have hspec := hsp rfl
  refine ⟨_, rfl, ds, [], _, [], p, [], hW', ?_, ?_, ?_, hbelow.frame _, fun h => by cases h⟩
  ·rw [hspec, hr]
   exact trodAll_cons_mk (shut_bool Tryz.underlying4 _) trodAll_mk0
  ·rw [hspec]
   exact trodAll_stays hl hp hA (fun x hx => hbelow.same (hlt x (by simpa using hx))) (fun x hx => by simpa using hlt x (by simpa using hx))
  ·rw [hspec, hv]; exact rfl
 | panicked ch => exact hout.elim
 | outgrown => exact hout.elim

theorem laidOut : laidOutB Tryz.prog = true := by kernel_rfl
end Go.Proofs.YtaafacnoddjhgaaGreat

/- Contracts of the reference: what an expression's node has to have. -/
namespace Go.Proofs.YtaafacnoddjhgaaGreat
open Go.AE

set_option maxRecDepth 10000 in
theorem refIn_spec (n : Int) (s : Store) : ACalls Tryz.prog 98 [.int .i64 n] s (fun o s' => o = .ret (.bool (between n)) ∧ s' = s) := by
 refine ACalls.of_CW tO call98 Tryz.func98 rfl rfl ?_
 repeat' (first | (with_reducible first | apply CW.seq | apply aN | apply CW.ret) | refine wR rfl ?_ | refine CW.reg ?_ | refine RL.nil ?_ | refine wS rfl ?_ | refine RL.skip rfl rfl rfl ?_ | refine RL.gstepT tO rfl rfl rfl rfl rfl rfl rfl (fun _ => ?_) (fun _ => ?_))
 all_goals refine ⟨_, _, _, rfl, aRfl, sSub, ?_, rfl⟩
 all_goals first | (simp_all [between]; done) | (simp_all [between]; omega)

def rowR (op : Int) (len : Nat) : Option (Int × Bool) :=
 if op == 2 || op == 18 then some (0, false) else if op == 3 || op == 6 then some (0, true) else if op == 4 || op == 8 then some (1, true) else if op == 7 || op == 9 then some (2, true)
 else if op == 5 then some (max 1 (min (len : Int) 3), true) else if op == 10 then some (3, false) else if op == 17 then some (1, false)
 else if ((((op == 11 || op == 12) || op == 13) || op == 14) || op == 15) || op == 16 then some (2, false) else none

def lastR (e : FExp) (r : Int × Bool) : Bool := ((e.n == 0 && ((e.kids.length : Int) == r.1)) && (r.2 == !(e.text == []))) && (!r.2 || nameS e.text)
def shapedB (e : FExp) : Bool :=
 if e.op == 1 then (between e.n && e.text == []) && ((e.kids.length : Int) == 0) else match rowR e.op e.kids.length with | none => false | some r => lastR e r

set_option maxRecDepth 10000 in
set_option maxHeartbeats 2000000 in
theorem refShaped_spec (e : FExp) (s : Store) (ht : e.text.length < 9223372036854775807) (hk : e.kids.length < 9223372036854775807) :
  ACalls Tryz.prog 127 [e.av] s (fun o s' => o = .ret (.bool (shapedB e)) ∧ s' = s) := by
 have hkl := e.kav_length
 by_cases h1 : e.op = 1
 ·refine ACalls.of_CW tO call127 Tryz.func127 rfl rfl ?_
  obtain ⟨o, n, t, ks⟩ := e
  simp only [FExp.op] at h1
  subst h1
  repeat' (first | (with_reducible first | apply CW.seq | apply aN | apply aR | apply iR | apply CW.ret | apply CW.block) | refine wR rfl ?_ | refine CW.reg ?_ | refine RL.nil ?_ | refine CW.condT rfl ?_ | refine wS rfl ?_ | refine RL.skip rfl rfl rfl ?_ | refine RL.gstepT tO rfl rfl rfl rfl rfl rfl rfl (fun _ => ?_) (fun _ => ?_) | refine RL.callP rfl rfl rfl rfl rfl (refIn_spec n s) ?_)
  all_goals refine ⟨_, _, _, rfl, AVle.of_eq ?_, sSub, rfl, rfl⟩
  all_goals simp_all [shapedB, FExp.op, FExp.n, FExp.text, FExp.kids]
 by_cases hn : rowR e.op e.kids.length = none
 ·have hall : e.op ≠ 2 ∧ e.op ≠ 18 ∧ e.op ≠ 3 ∧ e.op ≠ 6 ∧ e.op ≠ 4 ∧ e.op ≠ 8 ∧ e.op ≠ 7 ∧ e.op ≠ 9 ∧ e.op ≠ 5 ∧ e.op ≠ 10 ∧ e.op ≠ 17 ∧ e.op ≠ 11 ∧ e.op ≠ 12 ∧ e.op ≠ 13 ∧ e.op ≠ 14 ∧ e.op ≠ 15 ∧ e.op ≠ 16 := by
   refine ⟨?_, ?_, ?_, ?_, ?_, ?_, ?_, ?_, ?_, ?_, ?_, ?_, ?_, ?_, ?_, ?_, ?_⟩ <;> (intro h; rw [h] at hn; simp [rowR] at hn)
  have hs : shapedB e = false := by
   unfold shapedB
   rw [if_neg (by simpa using h1), hn]
  rw [hs]
  refine ACalls.of_CW tO call127 Tryz.func127 rfl rfl ?_
  repeat (first | (with_reducible first | apply CW.seq | apply aN | apply CW.block) | refine wR rfl ?_)
  refine CW.cond rfl (fun h => absurd h (by simp; omega)) (fun _ => ?_)
  repeat (first | (with_reducible first | apply CW.seq | apply aN) | refine wR rfl ?_)
  refine CW.cond rfl (fun h => absurd h (by simp; omega)) (fun _ => ?_)
  repeat (first | with_reducible apply aN | refine wR rfl ?_)
  refine CW.cond rfl (fun h => absurd h (by simp; omega)) (fun _ => ?_)
  repeat (first | (with_reducible first | apply CW.seq | apply aN) | refine wR rfl ?_)
  refine CW.cond rfl (fun h => absurd h (by simp; omega)) (fun _ => ?_)
  repeat (first | with_reducible apply aN | refine wR rfl ?_)
  refine CW.cond rfl (fun h => absurd h (by simp; omega)) (fun _ => ?_)
  repeat (first | (with_reducible first | apply CW.seq | apply aN) | refine wR rfl ?_)
  refine CW.cond rfl (fun h => absurd h (by simp; omega)) (fun _ => ?_)
  repeat (first | with_reducible apply aN | refine wR rfl ?_)
  refine CW.cond rfl (fun h => absurd h (by simp; omega)) (fun _ => ?_)
  repeat (first | (with_reducible first | apply CW.seq | apply aN) | refine wR rfl ?_)
  refine CW.cond rfl (fun h => absurd h (by simp; omega)) (fun _ => ?_)
  repeat (first | with_reducible apply aN | refine wR rfl ?_)
  refine CW.cond rfl (fun h => absurd h (by simp; omega)) (fun _ => ?_)
  repeat (first | (with_reducible first | apply CW.seq | apply aN) | refine wR rfl ?_)
  refine CW.cond rfl (fun h => absurd h (by simp; omega)) (fun _ => ?_)
  repeat (first | (with_reducible first | apply CW.seq | apply aN) | refine wR rfl ?_)
  refine CW.cond rfl (fun h => absurd h (by simp; omega)) (fun _ => ?_)
  repeat (first | (with_reducible first | apply CW.seq | apply aN) | refine wR rfl ?_)
  refine CW.cond rfl (fun h => absurd h (by simp; omega)) (fun _ => ?_)
  repeat (first | (with_reducible first | apply CW.seq | apply aN) | refine wR rfl ?_)
  refine CW.cond rfl (fun h => absurd h (by simp; omega)) (fun _ => ?_)
  repeat (first | (with_reducible first | apply CW.seq | apply aN) | refine wR rfl ?_)
  refine CW.cond rfl (fun h => absurd h (by simp; omega)) (fun _ => ?_)
  repeat (first | (with_reducible first | apply CW.seq | apply aN) | refine wR rfl ?_)
  refine CW.cond rfl (fun h => absurd h (by simp; omega)) (fun _ => ?_)
  repeat (first | (with_reducible first | apply CW.seq | apply aN) | refine wR rfl ?_)
  refine CW.cond rfl (fun h => absurd h (by simp; omega)) (fun _ => ?_)
  repeat (first | (with_reducible first | apply CW.seq | apply aN) | refine wR rfl ?_)
  refine CW.cond rfl (fun h => absurd h (by simp; omega)) (fun _ => ?_)
  repeat (first | with_reducible apply aN | refine wR rfl ?_)
  refine CW.cond rfl (fun h => absurd h (by simp; omega)) (fun _ => ?_)
  repeat (first | (with_reducible first | apply CW.seq | apply aN | apply aR | apply iR | apply CW.ret) | refine wR rfl ?_)
  exact ⟨_, _, _, rfl, aRfl, sSub, rfl, rfl⟩
 ·obtain ⟨r, hr⟩ := Option.ne_none_iff_exists'.1 hn
  have hs : shapedB e = lastR e r := by
   unfold shapedB
   rw [if_neg (by simpa using h1), hr]
  rw [hs]
  refine ACalls.of_CW tO call127 Tryz.func127 rfl rfl ?_
  repeat (first | (with_reducible first | apply CW.seq | apply aN) | refine wR rfl ?_)
  refine CW.atCut (σ := Unit) (fun _ => [(1, .fptr e.cells 0), (3, .int .i64 r.1), (4, .bool r.2)]) (fun _ => s) (fun _ => True) ?_ ?_
  ·have hop : e.op = 2 ∨ e.op = 18 ∨ e.op = 3 ∨ e.op = 6 ∨ e.op = 4 ∨ e.op = 8 ∨ e.op = 7 ∨ e.op = 9 ∨ e.op = 5 ∨ e.op = 10 ∨ e.op = 17 ∨ e.op = 11 ∨ e.op = 12 ∨ e.op = 13 ∨ e.op = 14 ∨ e.op = 15 ∨ e.op = 16 := by
    refine Classical.byContradiction fun hc => hn ?_
    simp only [not_or] at hc
    obtain ⟨k2, k18, k3, k6, k4, k8, k7, k9, k5, k10, k17, k11, k12, k13, k14, k15, k16⟩ := hc
    simp [rowR, k2, k18, k3, k6, k4, k8, k7, k9, k5, k10, k17, k11, k12, k13, k14, k15, k16]
   obtain ⟨o, n, t, ks⟩ := e
   simp only [FExp.op, FExp.kids] at hop hr h1
   rcases hop with rfl | rfl | rfl | rfl | rfl | rfl | rfl | rfl | rfl | rfl | rfl | rfl | rfl | rfl | rfl | rfl | rfl
   all_goals (simp [rowR] at hr; subst hr)
   all_goals repeat (first | (with_reducible first | apply CW.seq | apply aN | apply iN | apply CW.skip | apply CW.block) | refine wR rfl ?_ | refine CW.reg ?_ | refine RL.nil ?_ | refine CW.condT rfl ?_ | refine CW.condF rfl ?_ | refine wS rfl ?_ | refine RL.stepX tO rfl rfl rfl rfl ?_)
   all_goals exact ⟨rfl, (), trivial, (by repeat (first | exact trivial | refine ⟨⟨_, rfl, aRfl⟩, ?_⟩ | refine ⟨⟨_, rfl, AVle.of_eq (by (rw [hkl]; simp only [FExp.kids]; congr 1; (repeat' split) <;> omega))⟩, ?_⟩)), sSub⟩
  ·intro _ _
   repeat' (first | (with_reducible first | apply CW.seq | apply aN | apply CW.ret) | refine CW.reg ?_ | refine RL.nil ?_ | refine wS rfl ?_ | refine RL.skip rfl rfl rfl ?_ | refine RL.gstepT tO rfl rfl rfl rfl rfl rfl rfl (fun _ => ?_) (fun _ => ?_) | refine RL.gstepF tO rfl rfl rfl rfl rfl rfl rfl (fun _ => ?_) (fun _ => ?_) | refine RL.callP rfl rfl rfl rfl rfl (refName_spec e.text s ht) ?_)
   all_goals refine ⟨_, _, _, rfl, AVle.of_eq ?_, sSub, rfl, rfl⟩
   all_goals simp_all [lastR]
end Go.Proofs.YtaafacnoddjhgaaGreat

/- Contracts of the reference: what an expression has to be. -/
namespace Go.Proofs.YtaafacnoddjhgaaGreat
open Go.AE

mutual
def FExp.cnt (d : Nat) (k : Int) : FExp → Bool × Int
 | .mk o n t ks => if (decide (k - 1 < 0) || decide (d > 12)) || !shapedB (.mk o n t ks) then (false, k - 1) else FExp.cnts (d + 1) (k - 1) ks
def FExp.cnts (d : Nat) (k : Int) : List FExp → Bool × Int
 | [] => (true, k)
 | e :: r => if (FExp.cnt d k e).1 then FExp.cnts d (FExp.cnt d k e).2 r else (false, (FExp.cnt d k e).2)
end

theorem FExp.cnt_def (d : Nat) (k : Int) (e : FExp) : FExp.cnt d k e = if (decide (k - 1 < 0) || decide (d > 12)) || !shapedB e then (false, k - 1) else FExp.cnts (d + 1) (k - 1) e.kids := by
 cases e; rw [FExp.cnt]; rfl

mutual
theorem FExp.cnt_le : ∀ (e : FExp) (d : Nat) (k : Int), (FExp.cnt d k e).1 = true → 0 ≤ (FExp.cnt d k e).2 ∧ (FExp.cnt d k e).2 ≤ k
  | .mk o n t ks, d, k, h => by
    rw [FExp.cnt] at h ⊢
    split at h
    · cases h
    · rename_i hc
      rw [if_neg hc]
      have := FExp.cnts_le ks (d + 1) (k - 1) (by simp only [Bool.or_eq_true, decide_eq_true_eq, not_or] at hc; omega) h
      omega
theorem FExp.cnts_le : ∀ (l : List FExp) (d : Nat) (k : Int), 0 ≤ k → (FExp.cnts d k l).1 = true → 0 ≤ (FExp.cnts d k l).2 ∧ (FExp.cnts d k l).2 ≤ k
  | [], d, k, hk, h => by rw [FExp.cnts]; exact ⟨hk, Int.le_refl _⟩
  | e :: r, d, k, hk, h => by
    rw [FExp.cnts] at h ⊢
    split at h
    · rename_i hc
      rw [if_pos hc]
      obtain ⟨h1, h2⟩ := FExp.cnt_le e d k hc
      obtain ⟨h3, h4⟩ := FExp.cnts_le r d _ h1 h
      exact ⟨h3, Int.le_trans h4 h2⟩
    · cases h
end

/-! ### It is the same as the other layer's look -/

theorem max3 (n : Nat) : ((n : Int) == max 1 (min (n : Int) 3)) = (decide ((n : Int) ≥ 1) && decide ((n : Int) ≤ 3)) := by
 rw [Bool.eq_iff_iff]; simp; omega

theorem shaped_node (e : FExp) : shapedB e = nodeE e := by
 obtain ⟨o, n, t, ks⟩ := e
 have hkl : (FExp.mk o n t ks).kav.length = ks.length := FExp.kav_length _
 simp only [nodeE, nodeE1, nodeE2, shapedB, lastR, FExp.op, FExp.n, FExp.text, FExp.kids, hkl]
 by_cases h : o ∈ shapeL.map (·.1)
 ·simp only [shapeL, List.map_cons, List.map_nil, List.mem_cons, List.not_mem_nil, or_false] at h
  rcases h with rfl | rfl | rfl | rfl | rfl | rfl | rfl | rfl | rfl | rfl | rfl | rfl | rfl | rfl | rfl | rfl | rfl | rfl
  all_goals simp only [shapeOf, shapeL, rowR, shA, shB, shN, max3]
  all_goals (rw [Bool.eq_iff_iff]; simp; (try omega); (try grind))
  have hb0 : between 0 = true := by decide
  by_cases hn0 : n = 0
  ·subst hn0; constructor <;> intro h <;> simp_all
  ·constructor <;> intro h <;> simp_all
 ·simp only [shapeL, List.map_cons, List.map_nil, List.mem_cons, List.not_mem_nil, or_false, not_or] at h
  obtain ⟨k1, k2, k18, k3, k6, k4, k8, k7, k9, k5, k10, k17, k11, k12, k13, k14, k15, k16⟩ := h
  simp [shapeOf, shapeL, rowR, k1, k2, k18, k3, k6, k4, k8, k7, k9, k5, k10, k17, k11, k12, k13, k14, k15, k16]

theorem exp_nodes (e : FExp) (d : Nat) : (Part.exp e).nodes d = (d, .exp e) :: e.kids.flatMap (fun k => (Part.exp k).nodes (d + 1)) := by
 rw [Part.nodes_eq]
 show _ :: (e.kids.map Part.exp).flatMap _ = _
 rw [List.flatMap_map]

mutual
theorem cnt_nodes : ∀ (e : FExp) (d : Nat) (k : Int), 0 ≤ k → (FExp.cnt d k e).1 = (decide ((e.size : Int) ≤ k) && ((Part.exp e).nodes d).all nodeOk) ∧ ((FExp.cnt d k e).1 = true → (FExp.cnt d k e).2 = k - e.size)
  | .mk o n t ks, d, k, hk => by
    have hsz : (FExp.mk o n t ks).size = 1 + FExp.sizes ks := by rw [FExp.size]
    rw [FExp.cnt, exp_nodes, List.all_cons]
    have hok : nodeOk (d, .exp (.mk o n t ks)) = (decide (d ≤ 12) && shapedB (.mk o n t ks)) := by rw [shaped_node]; rfl
    rw [hok]
    split
    · rename_i h
      refine ⟨?_, fun h => by cases h⟩
      simp only [Bool.or_eq_true, decide_eq_true_eq, Bool.not_eq_true'] at h
      rcases h with (h | h) | h
      · rw [decide_eq_false (by rw [hsz]; omega)]; rfl
      · rw [decide_eq_false (by omega : ¬ d ≤ 12)]; simp
      · rw [h]; simp
    · rename_i h
      simp only [Bool.or_eq_true, decide_eq_true_eq, Bool.not_eq_true', not_or, Bool.not_eq_false] at h
      obtain ⟨⟨h1, h2⟩, h3⟩ := h
      obtain ⟨g1, g2⟩ := cnts_nodes ks (d + 1) (k - 1) (by omega)
      refine ⟨?_, fun h => by rw [g2 h, hsz]; omega⟩
      rw [g1, h3, decide_eq_true (by omega : d ≤ 12), hsz]
      have : (decide (((1 + FExp.sizes ks : Nat) : Int) ≤ k)) = decide ((FExp.sizes ks : Int) ≤ k - 1) := by
        rw [Bool.eq_iff_iff]; simp; omega
      rw [this]; simp [FExp.kids]
theorem cnts_nodes : ∀ (l : List FExp) (d : Nat) (k : Int), 0 ≤ k → (FExp.cnts d k l).1 = (decide ((FExp.sizes l : Int) ≤ k) && (l.flatMap fun e => (Part.exp e).nodes d).all nodeOk) ∧ ((FExp.cnts d k l).1 = true → (FExp.cnts d k l).2 = k - FExp.sizes l)
  | [], d, k, hk => by simp [FExp.cnts, FExp.sizes, hk]
  | e :: r, d, k, hk => by
    obtain ⟨g1, g2⟩ := cnt_nodes e d k hk
    rw [FExp.cnts, FExp.sizes, List.flatMap_cons, List.all_append]
    split
    · rename_i h
      rw [g2 h]
      rw [h] at g1
      have g1' := g1.symm
      simp only [Bool.and_eq_true, decide_eq_true_eq] at g1'
      obtain ⟨q1, q2⟩ := cnts_nodes r d (k - e.size) (by omega)
      refine ⟨?_, fun h => by rw [q2 h]; omega⟩
      rw [q1, g1'.2]
      have : (decide (((e.size + FExp.sizes r : Nat) : Int) ≤ k)) = decide ((FExp.sizes r : Int) ≤ k - e.size) := by
        rw [Bool.eq_iff_iff]; simp; omega
      rw [this]; simp
    · rename_i h
      rw [Bool.not_eq_true] at h
      refine ⟨?_, fun h => by cases h⟩
      rw [h] at g1
      cases ha : ((Part.exp e).nodes d).all nodeOk with
      | false => simp
      | true =>
        rw [ha] at g1
        simp only [Bool.and_true] at g1
        have := of_decide_eq_false g1.symm
        rw [decide_eq_false (by omega)]; rfl
end

def leftO (k : Int) : AObj := .box 3 [.int .i64 k]

set_option maxRecDepth 10000 in
set_option maxHeartbeats 1000000 in
theorem refCount_spec (lb : Nat) : ∀ (n : Nat) (e : FExp) (dd d : Nat) (k : Int) (s : Store), e.size ≤ n → e.size ≤ big → (∀ x ∈ (Part.exp e).nodes dd, x.2.short) → 0 ≤ k → k ≤ 120 → d ≤ 13 → s lb = some (leftO k) →
  ACalls Tryz.prog 84 [e.av, .int .i64 (d : Int), .ptr lb 0] s (fun o s' => o = .ret (.bool (FExp.cnt d k e).1) ∧ s' = s.set lb (leftO (FExp.cnt d k e).2)) := by
 intro n
 induction n with
 | zero => intro e dd d k s h; have := e.size_pos; omega
 | succ n ih =>
  intro e dd d k s hn hbig hsh hk0 hk hd hs
  have hlen := e.kids_length
  have hkl := e.kav_length
  have hb : big = 1099511627776 := rfl
  have het : e.text.length < 9223372036854775807 := hsh (dd, .exp e) (by rw [Part.nodes_eq]; exact List.mem_cons_self)
  refine ACalls.of_CW tO call84 Tryz.func84 rfl rfl ?_
  refine CW.seqCut [(1, .int .i64 (d : Int)), (2, .ptr lb 0), (3, .fptr e.cells 0)] s ?_ ?_
  ·repeat (first | refine wR rfl ?_)
   exact ⟨rfl, (wE rfl), sSub⟩
  refine CW.seqCut [(1, .int .i64 (d : Int)), (2, .ptr lb 0), (3, .fptr e.cells 0)] (s.set lb (leftO (k - 1))) ?_ ?_
  ·repeat (first | refine CW.reg ?_ | refine wS rfl ?_ | refine RL.loadP tO rfl rfl rfl rfl rfl rfl (by assumption) rfl ?_)
   refine RL.storeP tO rfl rfl rfl rfl rfl rfl rfl rfl rfl hs rfl ?_
   repeat (first | refine RL.nil ?_)
   refine ⟨rfl, (wE rfl), ?_⟩
   show Store.Sub (s.set lb (leftO (k - 1))) (s.set lb (leftO (IntKind.wrap .i64 (k - 1))))
   rw [i64_wrap (by omega) (by omega)]; exact sSub
  have hs1 : (s.set lb (leftO (k - 1))) lb = some (leftO (k - 1)) := sSam
  refine CW.seq ?_
  refine CW.seqCut [(1, .int .i64 (d : Int)), (2, .ptr lb 0), (3, .fptr e.cells 0), (26, .bool ((decide (k - 1 < 0) || decide (d > 12)) || !shapedB e))] (s.set lb (leftO (k - 1))) ?_ ?_
  ·repeat' (first | refine CW.reg ?_ | refine RL.nil ?_ | refine wS rfl ?_ | refine RL.skip rfl rfl rfl ?_ | refine RL.gstepF tO rfl rfl rfl rfl rfl rfl rfl (fun _ => ?_) (fun _ => ?_) | refine RL.loadP tO rfl rfl rfl rfl rfl rfl hs1 rfl ?_ | refine RL.callP rfl rfl rfl rfl rfl (refShaped_spec e _ het (by omega)) ?_)
   all_goals refine ⟨rfl, (by repeat (first | exact trivial | refine ⟨⟨_, rfl, aRfl⟩, ?_⟩ | refine ⟨⟨_, rfl, AVle.of_eq (by (congr 1; rw [Bool.eq_iff_iff]; simp_all; (try omega)))⟩, ?_⟩)), sSub⟩
  have hcd := FExp.cnt_def d k e
  cases hc : (decide (k - 1 < 0) || decide (d > 12)) || !shapedB e with
  | true =>
   rw [hc, if_pos rfl] at hcd
   rw [hcd]
   repeat (first | (with_reducible first | apply CW.seq | apply aN | apply aR | apply CW.ret) | refine wR rfl ?_ | refine CW.condT rfl ?_)
   exact ⟨_, _, _, rfl, aRfl, sSub, rfl, rfl⟩
  | false =>
   rw [hc, if_neg (by simp)] at hcd
   rw [hcd]
   simp only [Bool.or_eq_false_iff, decide_eq_false_iff_not] at hc
   repeat (first | (with_reducible first | apply CW.seq | apply aN | apply CW.skip | apply CW.block) | refine wR rfl ?_ | refine CW.condF rfl ?_)
   refine CW.loop (σ := Nat × Int) (fun q => [(1, .int .i64 (d : Int)), (2, .ptr lb 0), (3, .fptr e.cells 0), (7, .int .i64 (q.1 : Int))]) (fun q => s.set lb (leftO q.2))
    (fun q => q.1 ≤ e.kids.length ∧ 0 ≤ q.2 ∧ q.2 ≤ 120 ∧ FExp.cnts (d + 1) q.2 (e.kids.drop q.1) = FExp.cnts (d + 1) (k - 1) e.kids) (fun q => e.kids.length - q.1) (0, k - 1) ⟨by simp, by show 0 ≤ k - 1; omega, by show k - 1 ≤ 120; omega, rfl⟩ ?_ sSub ?_
   ·exact (wE rfl)
   ·rintro ⟨j, kq⟩ ⟨hj, h0, h120, hI⟩
    simp only at hj h0 h120 hI
    repeat (first | (with_reducible first | apply CW.seq | apply aN) | refine wR rfl ?_)
    refine CW.cond rfl (fun h => ?_) (fun h => ?_)
    ·have hlt : j < e.kids.length := by rw [hkl] at h; simpa using h
     obtain ⟨c, hk1, hk', hks⟩ := FExp.kid_at hlt
     rw [drop_cons hk1, FExp.cnts] at hI
     have hshc : ∀ x ∈ (Part.exp c).nodes (dd + 1), x.2.short := fun x hx => hsh x (by rw [exp_nodes]; exact List.mem_cons_of_mem _ (List.mem_flatMap.2 ⟨c, List.mem_of_getElem? hk1, hx⟩))
     have hcall := ih c (dd + 1) (d + 1) kq (s.set lb (leftO kq)) (by omega) (by omega) hshc h0 h120 (by omega) sSam
     rw [Store.set_set] at hcall
     have hle := FExp.cnt_le c (d + 1) kq
     generalize FExp.cnt (d + 1) kq c = pk at hcall hle hI
     obtain ⟨b, k'⟩ := pk
     have hd1 : IntKind.wrap .i64 ((d : Int) + 1) = ((d + 1 : Nat) : Int) := i64_succ (by omega)
     cases b with
     | true =>
      obtain ⟨g0, g1⟩ := hle rfl
      repeat (first | (with_reducible first | apply CW.seq | apply aN | apply CW.skip | apply CW.block) | refine CW.reg ?_ | refine wS rfl ?_ | refine RL.idx tO _ rfl rfl rfl rfl rfl rfl rfl rfl rfl rfl rfl (by assumption) rfl ?_)
      rw [hd1]
      refine RL.call rfl rfl rfl rfl rfl hcall ?_ (fun _ _ ⟨h, _⟩ => by cases h)
      rintro _ _ ⟨⟨⟩, rfl⟩
      repeat (first | (with_reducible first | apply aN | apply iN | apply CW.skip) | refine wR rfl ?_ | refine RL.nil ?_ | refine CW.condF rfl ?_ | refine wS rfl ?_)
      refine ⟨(j + 1, k'), ⟨hlt, g0, by show k' ≤ 120; simp only at g1; omega, by simpa using hI⟩, (by repeat (first | exact trivial | refine ⟨⟨_, rfl, aRfl⟩, ?_⟩ | refine ⟨⟨_, rfl, AVle.of_eq (by (show AV.int .i64 (IntKind.wrap .i64 ((j : Int) + 1)) = .int .i64 ((j + 1 : Nat) : Int); rw [i64_succ (by omega)]))⟩, ?_⟩)), sSub, by show e.kids.length - (j + 1) < e.kids.length - j; omega⟩
     | false =>
      rw [← hI]
      repeat (first | (with_reducible first | apply CW.seq | apply aN | apply CW.skip | apply CW.block) | refine CW.reg ?_ | refine wS rfl ?_ | refine RL.idx tO _ rfl rfl rfl rfl rfl rfl rfl rfl rfl rfl rfl (by assumption) rfl ?_)
      rw [hd1]
      refine RL.call rfl rfl rfl rfl rfl hcall ?_ (fun _ _ ⟨h, _⟩ => by cases h)
      rintro _ _ ⟨⟨⟩, rfl⟩
      repeat (first | (with_reducible first | apply CW.seq | apply aN | apply aR | apply iR | apply CW.ret) | refine wR rfl ?_ | refine RL.nil ?_ | refine CW.condT rfl ?_ | refine wS rfl ?_)
      exact ⟨_, _, _, rfl, aRfl, sSub, rfl, rfl⟩
    ·have hge : e.kids.length ≤ j := by rw [hkl] at h; simpa using h
     rw [List.drop_eq_nil_of_le hge, FExp.cnts] at hI
     rw [← hI]
     repeat (first | (with_reducible first | apply CW.seq | apply aN | apply aX | apply iH | apply CW.ret | apply CW.exit) | refine wR rfl ?_)
     exact ⟨_, _, _, rfl, aRfl, sSub, rfl, rfl⟩
end Go.Proofs.YtaafacnoddjhgaaGreat

/- Contracts of the reference: Formed, CheckExp, All, DepthOf, Depth. -/
namespace Go.Proofs.YtaafacnoddjhgaaGreat
open Go.AE

theorem part_len : ∀ (e : FExp) (d : Nat), ((Part.exp e).nodes d).length = e.size := by
 intro e d
 exact Part.nodes_size _ _ _ (Nat.le_refl _)

theorem cnt_good (e : FExp) : (FExp.cnt 1 120 e).1 = goodB e := by
 rw [(cnt_nodes e 1 120 (by omega)).1, goodB, lookB, part_len]
 congr 1
 rw [Bool.eq_iff_iff]; simp; omega

set_option maxRecDepth 10000 in
theorem refFormed_spec (e : FExp) (s : Store) (h : e.Fair) : ACalls Tryz.prog 45 [e.av] s (fun o s' => o = .ret (.bool (goodB e)) ∧ s' = s) := by
 refine ACalls.of_CW tO call45 Tryz.func45 rfl rfl ?_
 repeat (first | (with_reducible first | apply CW.seq | apply aN) | refine wR rfl ?_ | refine CW.reg ?_)
 refine RL.alloc tO rfl rfl rfl rfl rfl rfl rfl (fun b hb => ?_)
 repeat (first | (with_reducible first | apply CW.seq | apply aN) | refine CW.reg ?_ | refine RL.nil ?_ | refine wS rfl ?_ | (refine RL.storeP tO rfl rfl rfl rfl rfl rfl rfl rfl rfl sSam rfl ?_; try with_reducible rw [Store.set_set]))
 refine RL.call rfl rfl rfl rfl rfl (refCount_spec b e.size e 1 1 120 _ (Nat.le_refl _) (Nat.le_of_lt h.size) h.short (by omega) (by omega) (by omega) sSam) ?_ (fun _ _ ⟨h, _⟩ => by cases h)
 rintro _ _ ⟨⟨⟩, rfl⟩
 rw [Store.set_set, cnt_good]
 repeat (first | (with_reducible first | apply aN | apply CW.ret) | refine RL.nil ?_ | refine wS rfl ?_)
 exact ⟨_, _, _, rfl, aRfl, Store.sub_set _ _ _ hb, rfl, rfl⟩

theorem exps_elem (l : List FExp) : ∀ y ∈ l.map FExp.av, elemOk 4 y = true := by
 intro y hy; simp only [List.mem_map] at hy; obtain ⟨z, -, rfl⟩ := hy; rfl

def allUpto (e : FExp) (j : Nat) : List FExp := e :: (e.kids.take j).flatMap FExp.allE
theorem allUpto_succ {e k : FExp} {j : Nat} (h : e.kids[j]? = some k) : allUpto e (j + 1) = allUpto e j ++ k.allE := by
 unfold allUpto; rw [flatMap_take_succ _ h]; rfl
theorem allUpto_le (e : FExp) (j : Nat) : (allUpto e j).length ≤ e.size := by
 have := flatMap_take_le FExp.allE e.kids j
 rw [← allE_length, FExp.allE_eq]
 simp only [allUpto, List.length_cons]; omega
theorem allUpto_end {e : FExp} {j : Nat} (h : e.kids.length ≤ j) : allUpto e j = e.allE := by
 unfold allUpto; rw [List.take_of_length_le h, FExp.allE_eq]

set_option maxRecDepth 10000 in
theorem refAll_spec : ∀ (n : Nat) (e : FExp) (s : Store), e.size ≤ n → e.size ≤ big → ACalls Tryz.prog 55 [e.av] s (fun o s' => o = .ret (.slc 4 (e.allE.map FExp.av) .fro) ∧ s' = s) := by
 intro n
 induction n with
 | zero => intro e s h; have := e.size_pos; omega
 | succ n ih =>
  intro e s hn hbig
  have hlen := e.kids_length
  have hkl := e.kav_length
  have hb : big = 1099511627776 := rfl
  refine ACalls.of_CW tO call55 Tryz.func55 rfl rfl ?_
  repeat (first | (with_reducible first | apply CW.seq | apply aN | apply CW.block) | refine wR rfl ?_)
  refine CW.loop (σ := Nat × Own) (fun q => [(1, .fptr e.cells 0), (3, .slc 4 ((allUpto e q.1).map FExp.av) q.2), (4, .int .i64 (q.1 : Int))])
   (fun q => rowOf s 27 4 (allUpto e q.1).length q.2) (fun q => q.1 ≤ e.kids.length ∧ OwnOk s 0 q.2) (fun q => e.kids.length - q.1) (0, .clip) ⟨by simp, trivial⟩ ?_ sSub ?_
  ·exact (wE rfl)
  ·rintro ⟨j, own⟩ ⟨hj, hok⟩
   simp only at hj hok
   repeat (first | (with_reducible first | apply CW.seq | apply aN) | refine wR rfl ?_)
   refine CW.cond rfl (fun h => ?_) (fun h => ?_)
   ·have hlt : j < e.kids.length := by rw [hkl] at h; simpa using h
    obtain ⟨k, hk, hk', hks⟩ := FExp.kid_at hlt
    have hle := allUpto_le e (j + 1)
    rw [allUpto_succ hk, List.length_append] at hle
    repeat (first | (with_reducible first | apply CW.seq | apply aN | apply CW.skip | apply CW.block) | refine CW.reg ?_ | refine wS rfl ?_ | refine RL.idx tO _ rfl rfl rfl rfl rfl rfl rfl rfl rfl rfl rfl (by assumption) rfl ?_)
    refine RL.callP rfl rfl rfl rfl rfl (ih k _ (by omega) (by omega)) ?_
    refine RL.appendR tO rfl rfl rfl rfl rfl rfl rfl (by intro k; simp) rfl rfl rfl rfl (.inr rfl) rfl (exps_elem _) (n := (allUpto e j).length) ?_ ?_ (List.length_map ..).symm rfl (OwnOk.sub' hok) ?_
    ·simp only [List.length_map]; show _ * 56 ≤ _; omega
    ·simp only [List.length_map]; omega
    rintro own' h1
    repeat (first | (with_reducible first | apply aN | apply iN) | refine wR rfl ?_ | refine RL.nil ?_ | refine wS rfl ?_)
    refine ⟨(j + 1, own'), ⟨hlt, OwnOk.sub' h1⟩, (by repeat (first | exact trivial | refine ⟨⟨_, rfl, aRfl⟩, ?_⟩ | refine ⟨⟨_, rfl, AVle.of_eq (by (first | (show AV.int .i64 (IntKind.wrap .i64 ((j : Int) + 1)) = .int .i64 ((j + 1 : Nat) : Int); rw [i64_succ (by omega)]) | (rw [allUpto_succ hk, List.map_append])))⟩, ?_⟩)), ?_, by show e.kids.length - (j + 1) < e.kids.length - j; omega⟩
    show Store.Sub (rowOf s _ 4 _ own') _
    rw [allUpto_succ hk, List.length_append, List.length_map, List.length_map]
    exact sSub
   ·have hge : e.kids.length ≤ j := by rw [hkl] at h; simpa using h
    repeat (first | (with_reducible first | apply CW.seq | apply aN | apply aX | apply iH | apply CW.ret | apply CW.exit) | refine wR rfl ?_)
    refine ⟨_, _, s, rfl, AVle.fro, rowOf_sub hok, ?_, rfl⟩
    rw [allUpto_end hge]

mutual
def FExp.dep : FExp → Nat
 | .mk _ _ _ ks => FExp.deps ks + 1
def FExp.deps : List FExp → Nat
 | [] => 0
 | k :: r => max (FExp.dep k) (FExp.deps r)
end

end Go.Proofs.YtaafacnoddjhgaaGreat

/- How the arguments of a law are read. -/
namespace Go.Proofs.YtaafacnoddjhgaaGreat
open Go.AE Go.ChangeShapes Go.WideShapes Go.ChangeAt Go.RowKit

theorem val_agg {P : Program} {W : World} {r : Reach} {b : Nat} {t : TypeId} {fs : Array Field} {v : Value} (ht : P.underlying t = some (.struct fs)) (h : Value.okWide P W r b t v) : ∃ cs, v = .agg cs := by
 obtain ⟨cs, h1, -⟩ := okWide_struct ht h
 exact ⟨cs, h1⟩

theorem rel_agg {w : World} {p : Prot} {v : Value} {xs : List AV} (hv : ∃ cs, v = .agg cs) (h : RelL w p v.cells.toList xs) : Rel w p v (.agg xs) := by
 obtain ⟨cs, rfl⟩ := hv
 exact .agg _ _ h

end Go.Proofs.YtaafacnoddjhgaaGreat

/- General rules: known guards in drawn regions, rows that grow in stores that are known in part. -/
namespace Go.Proofs.YtaafacnoddjhgaaGreat
open Go.AE

theorem RD.knowT {P : Program} {Γ : Tys} {N : Nat} {ops : Array Oper} {Q : AEx → Env → Store → Prop} {D : Nat → Bool} {env : Env} {s : Store} (t : Nat) {b : Bool} (hv : env.get? t = some (.bool b)) (he : b = true)
  (h : RD P Γ N ops Q D ((t, .bool true) :: env) s) : RD P Γ N ops Q D env s := by
 subst he
 refine RD.congr _ (fun x => ?_) h
 show (if Nat.beq t x then _ else _) = _
 split
 ·rename_i hx
  rw [← hv, Nat.eq_of_beq_eq_true hx]
 ·rfl
theorem RD.knowF {P : Program} {Γ : Tys} {N : Nat} {ops : Array Oper} {Q : AEx → Env → Store → Prop} {D : Nat → Bool} {env : Env} {s : Store} (t : Nat) {b : Bool} (hv : env.get? t = some (.bool b)) (he : b = false)
  (h : RD P Γ N ops Q D ((t, .bool false) :: env) s) : RD P Γ N ops Q D env s := by
 subst he
 refine RD.congr _ (fun x => ?_) h
 show (if Nat.beq t x then _ else _) = _
 split
 ·rename_i hx
  rw [← hv, Nat.eq_of_beq_eq_true hx]
 ·rfl

/-! ### A row that grows in a store that is known in part -/
section
variable {s t : Store} {e e2 : TypeId} {sz n m sz2 n2 x : Nat} {own own' own2 : Own} {o : AObj}

theorem row_ne (h : RowIs t e sz n own) (hx : t x = some o) (ho : notRow o = true) : ∀ b, own = .own b → x ≠ b := fun b hb he => by
 subst hb; subst he
 simp only [RowIs] at h; rw [h] at hx; cases hx; cases ho
theorem base_keep (hx : t x = some o) (hne : ∀ b, own = .own b → x ≠ b) : rowBase t own x = some o := by
 cases own with
 | own b => exact (Store.del_ne _ (hne b rfl)).trans hx
 | nil => exact hx
 | clip => exact hx
 | fro => exact hx
theorem grow_at (hok : OwnOk (rowBase t own) n own') (hx : rowBase t own x = some o) : rowOf (rowBase t own) e sz m own' x = some o := by
 cases own' with
 | own b => exact (Store.set_ne _ _ (fun he => by subst he; have : rowBase t own x = none := hok; rw [hx] at this; cases this)).trans hx
 | nil => exact hx
 | clip => exact hx
 | fro => exact hok.elim
theorem grow_keep (h : RowIs t e2 sz2 n2 own) (hok : OwnOk (rowBase t own) n own') (hx : t x = some o) (ho : notRow o = true) : rowOf (rowBase t own) e sz m own' x = some o := grow_at hok (base_keep hx (row_ne h hx ho))
theorem grow_row (h2 : RowIs t e2 sz2 n2 own2) (hd : ∀ b, own = .own b → own2 ≠ .own b) (hok : OwnOk (rowBase t own) n own') : RowIs (rowOf (rowBase t own) e sz m own') e2 sz2 n2 own2 := by
 cases own2 with
 | own b2 => exact grow_at hok (base_keep h2 (fun b hb he => hd b hb (by rw [he])))
 | nil => trivial
 | clip => trivial
 | fro => exact h2
theorem grow_dis (h2 : RowIs t e2 sz2 n2 own2) (hd : ∀ b, own = .own b → own2 ≠ .own b) (hok : OwnOk (rowBase t own) n own') : ∀ b, own' = .own b → own2 ≠ .own b := fun b hb hb2 => by
 subst hb; subst hb2
 have h1 : rowBase t own b = some _ := base_keep h2 (fun c hc he => hd c hc (by rw [he]))
 have h2 : rowBase t own b = none := hok
 rw [h1] at h2; cases h2
theorem grow_own (hok : OwnOk (rowBase t own) n own') : RowIs (rowOf (rowBase t own) e sz m own') e sz m own' := by
 cases own' with
 | own b => exact sSam
 | nil => trivial
 | clip => trivial
 | fro => exact hok
theorem grow_sub (hsub : Store.Sub s t) (hs : ∀ b, own = .own b → s b = none) (hok : OwnOk (rowBase t own) n own') : Store.Sub s (rowOf (rowBase t own) e sz m own') ∧ ∀ b, own' = .own b → s b = none := by
 have h1 : Store.Sub s (rowBase t own) := by
  cases own with
  | own b => exact Store.subDel hsub (hs b rfl)
  | nil => exact hsub
  | clip => exact hsub
  | fro => exact hsub
 have h2 : ∀ b, own' = .own b → s b = none := fun b hb => by
  subst hb
  have : rowBase t own b = none := hok
  rcases h1 b with q | q
  ·rw [q]; exact this
  ·exact q
 exact ⟨Store.subRow h1 (m := n) (by
  cases own' with
  | own b => exact h2 b rfl
  | nil => trivial
  | clip => trivial
  | fro => exact hok.elim), h2⟩
theorem set_row {b : Nat} {o' : AObj} (h : RowIs t e sz n own) (hx : t b = some o) (ho : notRow o = true) : RowIs (t.set b o') e sz n own := by
 cases own with
 | own c => exact (Store.set_ne _ _ (fun he => by subst he; simp only [RowIs] at h; rw [h] at hx; cases hx; cases ho)).trans h
 | nil => trivial
 | clip => trivial
 | fro => exact h
end

section
variable {P : Program} {Γ : Tys} {N : Nat} {Q : AEx → Env → Store → Prop} {env : Env} {s : Store} {l : List Oper} {m : Nat}
theorem RD.appendR (hΓ : TysOk P Γ) {i : Nat} {o : Oper} {d : Nat} {t t' e : TypeId} {x y : Operand} {it it' ie : TI} {sx sy n : Nat} {xs ys : List AV} {own oy : Own} (hr : readyL l.toArray m (idxs 0 l) = [i]) (ho : l.toArray[i]? = some o) (hd : o.dst = some d) (hN : Nat.blt d N = true)
  (hg : guardOf l.toArray (pickE env (looks l.toArray o)) o = some true) (hop : o.op = .call { callee := .builtin .append, args := #[x, y], argTypes := #[t, t'] }) (ht : Γ.get? t = some it) (htd : it.td = .slc e) (ht' : Γ.get? t' = some it') (htd' : ∀ k, it'.td ≠ .int k)
  (hie : Γ.get? e = some ie) (hx : ev (pickE env (looks l.toArray o)) x = some (.slc sx xs own)) (hy : ev (pickE env (looks l.toArray o)) y = some (.slc sy ys oy)) (hsx : sx = ie.size) (hsy : ys = [] ∨ sy = ie.size)
  (hzs' : Nat.beq ie.zero.cells.size ie.size = true) (hel : ∀ y ∈ ys, elemOk ie.size y = true) (hb : (xs.length + ys.length) * ie.bytes ≤ 140737488355328) (h63 : xs.length + ys.length ≤ 9223372036854775807) (hn : n = xs.length)
  {s₀ : Store} (hs : s₀ = rowOf s e ie.size n own) (hok : OwnOk s n own)
  (h : ∀ own', OwnOk s (xs.length + ys.length) own' → RD P Γ N l.toArray Q (dn (m ||| 2 ^ i)) ((d, .slc ie.size (xs ++ ys) own') :: env) (rowOf s e ie.size (xs.length + ys.length) own')) : RD P Γ N l.toArray Q (dn m) env s₀ := by
 subst hs
 subst hn
 refine RD.one hr ho hd hN hg (OW.appendR hΓ hop ht htd ht' htd' hie hx hy hsx hsy hzs' hel hb h63 rfl hok (X := fun _ _ => False)) ?_ (fun _ _ h => h.elim)
 rintro r s' ⟨own', h1, -, -, rfl, rfl⟩
 exact h own' h1
end

end Go.Proofs.YtaafacnoddjhgaaGreat

/- Expressions that weigh little are fair. -/
namespace Go.Proofs.YtaafacnoddjhgaaGreat
open Go.AE

mutual
theorem exp_light {W : Nat} : ∀ (e : FExp), e.weight ≤ W → e.size ≤ e.weight ∧ e.AllT (fun t => t.length ≤ W)
  | .mk o n t ks, h => by
    rw [FExp.weight] at h ⊢
    rw [FExp.size, FExp.AllT]
    have := exps_light ks (by omega : FExp.weights ks ≤ W)
    exact ⟨by omega, by omega, this.2⟩
theorem exps_light {W : Nat} : ∀ (l : List FExp), FExp.weights l ≤ W → FExp.sizes l ≤ FExp.weights l ∧ FExp.AllTs (fun t => t.length ≤ W) l
  | [], _ => ⟨Nat.le_refl _, trivial⟩
  | k :: r, h => by
    rw [FExp.weights] at h ⊢
    rw [FExp.sizes, FExp.AllTs]
    have h1 := exp_light k (by omega : k.weight ≤ W)
    have h2 := exps_light r (by omega : FExp.weights r ≤ W)
    exact ⟨by omega, h1.2, h2.2⟩
end
theorem exp_fair {e : FExp} (h : e.weight ≤ 1048576) : e.Fair := by
 obtain ⟨h1, h2⟩ := exp_light e h
 have hb : big = 1099511627776 := rfl
 refine ⟨by omega, fun x hx => ?_⟩
 obtain ⟨g, hg⟩ := nodes_exp hx
 have := AllT_iff.1 h2 x.2.expOf (mem_nodes_all hx)
 rw [hg] at this ⊢
 show g.text.length < _
 have h3 : g.text.length ≤ 1048576 := this
 omega

end Go.Proofs.YtaafacnoddjhgaaGreat

/- Contracts of the reference: what a fact has to be. -/
namespace Go.Proofs.YtaafacnoddjhgaaGreat
open Go.AE

/-! ### What is known, and a fact within it -/
def knownCells (ps ss cs : List Str) (o1 o2 o3 : Own) : List AV := [.slc 1 (strs ps) o1, .slc 1 (strs ss) o2, .slc 1 (strs cs) o3]

def opF (op : Int) : Bool := decide (1 ≤ op) && decide (op ≤ 7)
def badK1 (ps : List Str) (f : FFact) : Bool :=
 ((!((f.kids.length : Int) == kidsF f.op) || (!atomF f && (!(f.name == []) || decide ((f.path.length : Int) > 0)))) || (atomF f && !ps.contains f.name)) || decide ((f.path.length : Int) > 2)
def badK2 (cs : List Str) (f : FFact) : Bool := !((f.op == 2) == !(f.cls == [])) || (f.op == 2 && !cs.contains f.cls)
def badK3 (f : FFact) : Bool := ((!(f.op == 3) && !(f.op == 4)) && !(f.n == 0)) || !between f.n
def okK (ps ss cs : List Str) (f : FFact) : Bool := opF f.op && (!badK1 ps f && (!badK2 cs f && (!badK3 f && f.path.all ss.contains)))

mutual
def FFact.cnt (ps ss cs : List Str) (d : Nat) (k : Int) : FFact → Bool × Int
 | .mk o x p c n ks => if (decide (k - 1 < 0) || decide (d > 12)) || !okK ps ss cs (.mk o x p c n ks) then (false, k - 1) else FFact.cnts ps ss cs (d + 1) (k - 1) ks
def FFact.cnts (ps ss cs : List Str) (d : Nat) (k : Int) : List FFact → Bool × Int
 | [] => (true, k)
 | e :: r => if (FFact.cnt ps ss cs d k e).1 then FFact.cnts ps ss cs d (FFact.cnt ps ss cs d k e).2 r else (false, (FFact.cnt ps ss cs d k e).2)
end

theorem FFact.cnt_def (ps ss cs : List Str) (d : Nat) (k : Int) (e : FFact) : FFact.cnt ps ss cs d k e = if (decide (k - 1 < 0) || decide (d > 12)) || !okK ps ss cs e then (false, k - 1) else FFact.cnts ps ss cs (d + 1) (k - 1) e.kids := by
 cases e; rw [FFact.cnt]; rfl

mutual
theorem FFact.cnt_le (ps ss cs : List Str) : ∀ (e : FFact) (d : Nat) (k : Int), (FFact.cnt ps ss cs d k e).1 = true → 0 ≤ (FFact.cnt ps ss cs d k e).2 ∧ (FFact.cnt ps ss cs d k e).2 ≤ k
  | .mk o x p c n ks, d, k, h => by
    rw [FFact.cnt] at h ⊢
    split at h
    · cases h
    · rename_i hc
      rw [if_neg hc]
      have := FFact.cnts_le ps ss cs ks (d + 1) (k - 1) (by simp only [Bool.or_eq_true, decide_eq_true_eq, not_or] at hc; omega) h
      omega
theorem FFact.cnts_le (ps ss cs : List Str) : ∀ (l : List FFact) (d : Nat) (k : Int), 0 ≤ k → (FFact.cnts ps ss cs d k l).1 = true → 0 ≤ (FFact.cnts ps ss cs d k l).2 ∧ (FFact.cnts ps ss cs d k l).2 ≤ k
  | [], d, k, hk, h => by rw [FFact.cnts]; exact ⟨hk, Int.le_refl _⟩
  | e :: r, d, k, hk, h => by
    rw [FFact.cnts] at h ⊢
    split at h
    · rename_i hc
      rw [if_pos hc]
      obtain ⟨h1, h2⟩ := FFact.cnt_le ps ss cs e d k hc
      obtain ⟨h3, h4⟩ := FFact.cnts_le ps ss cs r d _ h1 h
      exact ⟨h3, Int.le_trans h4 h2⟩
    · cases h
end

theorem fact_nodes (e : FFact) (d : Nat) : (Part.fact e).nodes d = (d, .fact e) :: e.kids.flatMap (fun k => (Part.fact k).nodes (d + 1)) := by
 rw [Part.nodes_eq]
 show _ :: (e.kids.map Part.fact).flatMap _ = _
 rw [List.flatMap_map]

def okKP (ps ss cs : List Str) (x : Nat × Part) : Bool := decide (x.1 ≤ 12) && match x.2 with | .fact f => okK ps ss cs f | .exp _ => true

mutual
theorem cntF_nodes (ps ss cs : List Str) : ∀ (e : FFact) (d : Nat) (k : Int), 0 ≤ k → (FFact.cnt ps ss cs d k e).1 = (decide ((e.size : Int) ≤ k) && ((Part.fact e).nodes d).all (okKP ps ss cs)) ∧ ((FFact.cnt ps ss cs d k e).1 = true → (FFact.cnt ps ss cs d k e).2 = k - e.size)
  | .mk o x p c n ks, d, k, hk => by
    have hsz : (FFact.mk o x p c n ks).size = 1 + FFact.sizes ks := by rw [FFact.size]
    rw [FFact.cnt, fact_nodes, List.all_cons]
    have hok : okKP ps ss cs (d, .fact (.mk o x p c n ks)) = (decide (d ≤ 12) && okK ps ss cs (.mk o x p c n ks)) := rfl
    rw [hok]
    split
    · rename_i h
      refine ⟨?_, fun h => by cases h⟩
      simp only [Bool.or_eq_true, decide_eq_true_eq, Bool.not_eq_true'] at h
      rcases h with (h | h) | h
      · rw [decide_eq_false (by rw [hsz]; omega)]; rfl
      · rw [decide_eq_false (by omega : ¬ d ≤ 12)]; simp
      · rw [h]; simp
    · rename_i h
      simp only [Bool.or_eq_true, decide_eq_true_eq, Bool.not_eq_true', not_or, Bool.not_eq_false] at h
      obtain ⟨⟨h1, h2⟩, h3⟩ := h
      obtain ⟨g1, g2⟩ := cntsF_nodes ps ss cs ks (d + 1) (k - 1) (by omega)
      refine ⟨?_, fun h => by rw [g2 h, hsz]; omega⟩
      rw [g1, h3, decide_eq_true (by omega : d ≤ 12), hsz]
      have : (decide (((1 + FFact.sizes ks : Nat) : Int) ≤ k)) = decide ((FFact.sizes ks : Int) ≤ k - 1) := by
        rw [Bool.eq_iff_iff]; simp; omega
      rw [this]; simp [FFact.kids]
theorem cntsF_nodes (ps ss cs : List Str) : ∀ (l : List FFact) (d : Nat) (k : Int), 0 ≤ k → (FFact.cnts ps ss cs d k l).1 = (decide ((FFact.sizes l : Int) ≤ k) && (l.flatMap fun e => (Part.fact e).nodes d).all (okKP ps ss cs)) ∧ ((FFact.cnts ps ss cs d k l).1 = true → (FFact.cnts ps ss cs d k l).2 = k - FFact.sizes l)
  | [], d, k, hk => by simp [FFact.cnts, FFact.sizes, hk]
  | e :: r, d, k, hk => by
    obtain ⟨g1, g2⟩ := cntF_nodes ps ss cs e d k hk
    rw [FFact.cnts, FFact.sizes, List.flatMap_cons, List.all_append]
    split
    · rename_i h
      rw [g2 h]
      rw [h] at g1
      have g1' := g1.symm
      simp only [Bool.and_eq_true, decide_eq_true_eq] at g1'
      obtain ⟨q1, q2⟩ := cntsF_nodes ps ss cs r d (k - e.size) (by omega)
      refine ⟨?_, fun h => by rw [q2 h]; omega⟩
      rw [q1, g1'.2]
      have : (decide (((e.size + FFact.sizes r : Nat) : Int) ≤ k)) = decide ((FFact.sizes r : Int) ≤ k - e.size) := by
        rw [Bool.eq_iff_iff]; simp; omega
      rw [this]; simp
    · rename_i h
      rw [Bool.not_eq_true] at h
      refine ⟨?_, fun h => by cases h⟩
      rw [h] at g1
      cases ha : ((Part.fact e).nodes d).all (okKP ps ss cs) with
      | false => simp
      | true =>
        rw [ha] at g1
        simp only [Bool.and_true] at g1
        have := of_decide_eq_false g1.symm
        rw [decide_eq_false (by omega)]; rfl
end

theorem all_take {α : Type} {f : α → Bool} {l : List α} {j : Nat} {x : α} (hx : l[j]? = some x) (h : l.all f = (l.drop j).all f) (hf : f x = true) : l.all f = (l.drop (j + 1)).all f := by
 rw [h, drop_cons hx, List.all_cons, hf]; rfl
theorem all_miss {α : Type} {f : α → Bool} {l : List α} {j : Nat} {x : α} (hx : l[j]? = some x) (hf : f x = false) : l.all f = false := by
 rw [Bool.eq_false_iff]; intro h
 have := List.all_eq_true.1 h x (List.mem_of_getElem? hx)
 rw [hf] at this; cases this

set_option maxRecDepth 10000 in
set_option maxHeartbeats 4000000 in
theorem refKFact_spec (lb : Nat) (ps ss cs : List Str) (o1 o2 o3 : Own) (hps : ps.length < 9223372036854775807) (hss : ss.length < 9223372036854775807) (hcs : cs.length < 9223372036854775807) :
  ∀ (n : Nat) (f : FFact) (dd d : Nat) (k : Int) (s : Store), f.size ≤ n → f.size ≤ big → (∀ x ∈ (Part.fact f).nodes dd, x.2.texts) → 0 ≤ k → k ≤ 120 → d ≤ 13 → s lb = some (leftO k) →
  ACalls Tryz.prog 100 [.agg (knownCells ps ss cs o1 o2 o3), f.av, .int .i64 (d : Int), .ptr lb 0] s (fun o s' => o = .ret (.bool (FFact.cnt ps ss cs d k f).1) ∧ s' = s.set lb (leftO (FFact.cnt ps ss cs d k f).2)) := by
 intro n
 induction n with
 | zero => intro f dd d k s h; have := f.size_pos; omega
 | succ n ih =>
  intro f dd d k s hn hbig hsh hk0 hk hd hs
  have hlen := f.kids_length
  have hkl := f.kav_length
  have hb : big = 1099511627776 := rfl
  have htx : f.Texts := hsh (dd, .fact f) (by rw [Part.nodes_eq]; exact List.mem_cons_self)
  obtain ⟨-, -, hpl, -⟩ := htx
  have hcd := FFact.cnt_def ps ss cs d k f
  refine ACalls.of_CW tO call100 Tryz.func100 rfl rfl ?_
  refine CW.seqCut [(2, .int .i64 (d : Int)), (3, .ptr lb 0), (4, .fptr (knownCells ps ss cs o1 o2 o3) 0), (5, .fptr f.cells 0)] s ?_ ?_
  ·repeat (first | refine wR rfl ?_)
   exact ⟨rfl, (wE rfl), sSub⟩
  refine CW.seqCut [(2, .int .i64 (d : Int)), (3, .ptr lb 0), (4, .fptr (knownCells ps ss cs o1 o2 o3) 0), (5, .fptr f.cells 0)] (s.set lb (leftO (k - 1))) ?_ ?_
  ·repeat (first | refine CW.reg ?_ | refine wS rfl ?_ | refine RL.loadP tO rfl rfl rfl rfl rfl rfl (by assumption) rfl ?_)
   refine RL.storeP tO rfl rfl rfl rfl rfl rfl rfl rfl rfl hs rfl ?_
   repeat (first | refine RL.nil ?_)
   refine ⟨rfl, (wE rfl), ?_⟩
   show Store.Sub (s.set lb (leftO (k - 1))) (s.set lb (leftO (IntKind.wrap .i64 (k - 1))))
   rw [i64_wrap (by omega) (by omega)]; exact sSub
  have hs1 : (s.set lb (leftO (k - 1))) lb = some (leftO (k - 1)) := sSam
  refine CW.seq ?_
  refine CW.seqCut [(2, .int .i64 (d : Int)), (3, .ptr lb 0), (4, .fptr (knownCells ps ss cs o1 o2 o3) 0), (5, .fptr f.cells 0), (26, .bool (decide (k - 1 < 0) || decide (d > 12)))] (s.set lb (leftO (k - 1))) ?_ ?_
  ·repeat' (first | refine CW.reg ?_ | refine RL.nil ?_ | refine wS rfl ?_ | refine RL.skip rfl rfl rfl ?_ | refine RL.gstepF tO rfl rfl rfl rfl rfl rfl rfl (fun _ => ?_) (fun _ => ?_) | refine RL.loadP tO rfl rfl rfl rfl rfl rfl hs1 rfl ?_)
   all_goals refine ⟨rfl, (by repeat (first | exact trivial | refine ⟨⟨_, rfl, aRfl⟩, ?_⟩ | refine ⟨⟨_, rfl, AVle.of_eq (by (congr 1; rw [Bool.eq_iff_iff]; simp_all; (try omega)))⟩, ?_⟩)), sSub⟩
  cases hc : decide (k - 1 < 0) || decide (d > 12) with
  | true =>
   rw [hc, Bool.true_or, if_pos rfl] at hcd
   rw [hcd]
   repeat (first | (with_reducible first | apply CW.seq | apply aN | apply aR | apply CW.ret) | refine wR rfl ?_ | refine CW.condT rfl ?_)
   exact ⟨_, _, _, rfl, aRfl, sSub, rfl, rfl⟩
  | false =>
  rw [hc, Bool.false_or] at hcd
  simp only [Bool.or_eq_false_iff, decide_eq_false_iff_not] at hc
  have hbad : okK ps ss cs f = false → FFact.cnt ps ss cs d k f = (false, k - 1) := fun h => by rw [hcd, h]; rfl
  refine CW.condF rfl (CW.skip (aN ?_))
  refine CW.seqCut [(2, .int .i64 (d : Int)), (3, .ptr lb 0), (4, .fptr (knownCells ps ss cs o1 o2 o3) 0), (5, .fptr f.cells 0), (9, .bool (atomF f))] (s.set lb (leftO (k - 1))) ?_ ?_
  ·repeat' (first | refine CW.reg ?_ | refine RL.nil ?_ | refine wS rfl ?_ | refine RL.skip rfl rfl rfl ?_ | refine RL.gstepF tO rfl rfl rfl rfl rfl rfl rfl (fun _ => ?_) (fun _ => ?_))
   all_goals refine ⟨rfl, (by repeat (first | exact trivial | refine ⟨⟨_, rfl, aRfl⟩, ?_⟩ | refine ⟨⟨_, rfl, AVle.of_eq (by (simp only [atomF]; simp_all))⟩, ?_⟩)), sSub⟩
  by_cases hop : opF f.op = true
  case neg =>
   have hok : okK ps ss cs f = false := by unfold okK; rw [Bool.eq_false_iff.2 hop]; rfl
   have hall : f.op ≠ 1 ∧ f.op ≠ 2 ∧ f.op ≠ 3 ∧ f.op ≠ 4 ∧ f.op ≠ 5 ∧ f.op ≠ 6 ∧ f.op ≠ 7 := by
    refine ⟨?_, ?_, ?_, ?_, ?_, ?_, ?_⟩ <;> (intro h; rw [h] at hop; simp [opF] at hop)
   rw [hbad hok]
   repeat (first | (with_reducible first | apply CW.seq | apply aN | apply CW.block) | refine wR rfl ?_)
   refine CW.cond rfl (fun h => absurd h (by simp; omega)) (fun _ => ?_)
   repeat (first | (with_reducible first | apply CW.seq | apply aN) | refine wR rfl ?_)
   refine CW.cond rfl (fun h => absurd h (by simp; omega)) (fun _ => ?_)
   repeat (first | with_reducible apply aN | refine wR rfl ?_)
   refine CW.cond rfl (fun h => absurd h (by simp; omega)) (fun _ => ?_)
   repeat (first | (with_reducible first | apply CW.seq | apply aN) | refine wR rfl ?_)
   refine CW.cond rfl (fun h => absurd h (by simp; omega)) (fun _ => ?_)
   repeat (first | (with_reducible first | apply CW.seq | apply aN) | refine wR rfl ?_)
   refine CW.cond rfl (fun h => absurd h (by simp; omega)) (fun _ => ?_)
   repeat (first | (with_reducible first | apply CW.seq | apply aN) | refine wR rfl ?_)
   refine CW.cond rfl (fun h => absurd h (by simp; omega)) (fun _ => ?_)
   repeat (first | with_reducible apply aN | refine wR rfl ?_)
   refine CW.cond rfl (fun h => absurd h (by simp; omega)) (fun _ => ?_)
   repeat (first | (with_reducible first | apply CW.seq | apply aN | apply aR | apply iR | apply CW.ret) | refine wR rfl ?_)
   exact ⟨_, _, _, rfl, aRfl, sSub, rfl, rfl⟩
  refine CW.seqCut [(2, .int .i64 (d : Int)), (3, .ptr lb 0), (4, .fptr (knownCells ps ss cs o1 o2 o3) 0), (5, .fptr f.cells 0), (9, .bool (atomF f)), (10, .int .i64 0)] (s.set lb (leftO (k - 1))) ?_ ?_
  ·repeat (first | refine wR rfl ?_)
   exact ⟨rfl, (wE rfl), sSub⟩
  refine CW.seqCut [(2, .int .i64 (d : Int)), (3, .ptr lb 0), (4, .fptr (knownCells ps ss cs o1 o2 o3) 0), (5, .fptr f.cells 0), (9, .bool (atomF f)), (10, .int .i64 (kidsF f.op))] (s.set lb (leftO (k - 1))) ?_ ?_
  ·have ho : f.op = 1 ∨ f.op = 2 ∨ f.op = 3 ∨ f.op = 4 ∨ f.op = 5 ∨ f.op = 6 ∨ f.op = 7 := by
    simp only [opF, Bool.and_eq_true, decide_eq_true_eq] at hop; omega
   generalize hat : atomF f = at_
   clear hat
   obtain ⟨o, x, p, c, n', ks⟩ := f
   simp only [FFact.op] at ho
   rcases ho with rfl | rfl | rfl | rfl | rfl | rfl | rfl
   all_goals repeat (first | (with_reducible first | apply CW.seq | apply aN | apply iN | apply CW.skip | apply CW.block) | refine wR rfl ?_ | refine CW.condT rfl ?_ | refine CW.condF rfl ?_)
   all_goals exact ⟨rfl, (wE rfl), sSub⟩
  refine CW.seq ?_
  refine CW.seqCut [(2, .int .i64 (d : Int)), (3, .ptr lb 0), (4, .fptr (knownCells ps ss cs o1 o2 o3) 0), (5, .fptr f.cells 0), (9, .bool (atomF f)), (88, .bool (badK1 ps f))] (s.set lb (leftO (k - 1))) ?_ ?_
  ·generalize hat : atomF f = at_
   repeat' (first | refine CW.reg ?_ | refine RL.nil ?_ | refine wS rfl ?_ | refine RL.skip rfl rfl rfl ?_ | refine RL.gstepT tO rfl rfl rfl rfl rfl rfl rfl (fun _ => ?_) (fun _ => ?_) | refine RL.gstepF tO rfl rfl rfl rfl rfl rfl rfl (fun _ => ?_) (fun _ => ?_) | refine RL.callP rfl rfl rfl rfl rfl (refHas_spec ps o1 f.name _ hps) ?_)
   all_goals refine ⟨rfl, (by repeat (first | exact trivial | refine ⟨⟨_, rfl, aRfl⟩, ?_⟩ | refine ⟨⟨_, rfl, AVle.of_eq (by (simp only [badK1, hat]; simp_all))⟩, ?_⟩)), sSub⟩
  cases h1 : badK1 ps f with
  | true =>
   rw [hbad (by unfold okK; rw [h1]; simp)]
   repeat (first | (with_reducible first | apply CW.seq | apply aN | apply aR | apply CW.ret) | refine wR rfl ?_ | refine CW.condT rfl ?_)
   exact ⟨_, _, _, rfl, aRfl, sSub, rfl, rfl⟩
  | false =>
  refine CW.condF rfl (CW.skip (aN ?_))
  refine CW.seq ?_
  refine CW.seqCut [(2, .int .i64 (d : Int)), (3, .ptr lb 0), (4, .fptr (knownCells ps ss cs o1 o2 o3) 0), (5, .fptr f.cells 0), (108, .bool (badK2 cs f))] (s.set lb (leftO (k - 1))) ?_ ?_
  ·repeat' (first | refine CW.reg ?_ | refine RL.nil ?_ | refine wS rfl ?_ | refine RL.skip rfl rfl rfl ?_ | refine RL.gstepT tO rfl rfl rfl rfl rfl rfl rfl (fun _ => ?_) (fun _ => ?_) | refine RL.gstepF tO rfl rfl rfl rfl rfl rfl rfl (fun _ => ?_) (fun _ => ?_) | refine RL.callP rfl rfl rfl rfl rfl (refHas_spec cs o3 f.cls _ hcs) ?_)
   all_goals refine ⟨rfl, (by repeat (first | exact trivial | refine ⟨⟨_, rfl, aRfl⟩, ?_⟩ | refine ⟨⟨_, rfl, AVle.of_eq (by (simp only [badK2]; simp_all))⟩, ?_⟩)), sSub⟩
  cases h2 : badK2 cs f with
  | true =>
   rw [hbad (by unfold okK; rw [h2]; simp)]
   repeat (first | (with_reducible first | apply CW.seq | apply aN | apply aR | apply CW.ret) | refine wR rfl ?_ | refine CW.condT rfl ?_)
   exact ⟨_, _, _, rfl, aRfl, sSub, rfl, rfl⟩
  | false =>
  refine CW.condF rfl (CW.skip (aN ?_))
  refine CW.seq ?_
  refine CW.seqCut [(2, .int .i64 (d : Int)), (3, .ptr lb 0), (4, .fptr (knownCells ps ss cs o1 o2 o3) 0), (5, .fptr f.cells 0), (127, .bool (badK3 f))] (s.set lb (leftO (k - 1))) ?_ ?_
  ·repeat' (first | refine CW.reg ?_ | refine RL.nil ?_ | refine wS rfl ?_ | refine RL.skip rfl rfl rfl ?_ | refine RL.gstepT tO rfl rfl rfl rfl rfl rfl rfl (fun _ => ?_) (fun _ => ?_) | refine RL.gstepF tO rfl rfl rfl rfl rfl rfl rfl (fun _ => ?_) (fun _ => ?_) | refine RL.callP rfl rfl rfl rfl rfl (refIn_spec f.n _) ?_)
   all_goals refine ⟨rfl, (by repeat (first | exact trivial | refine ⟨⟨_, rfl, aRfl⟩, ?_⟩ | refine ⟨⟨_, rfl, AVle.of_eq (by (simp only [badK3]; simp_all))⟩, ?_⟩)), sSub⟩
  cases h3 : badK3 f with
  | true =>
   rw [hbad (by unfold okK; rw [h3]; simp)]
   repeat (first | (with_reducible first | apply CW.seq | apply aN | apply aR | apply CW.ret) | refine wR rfl ?_ | refine CW.condT rfl ?_)
   exact ⟨_, _, _, rfl, aRfl, sSub, rfl, rfl⟩
  | false =>
  have hokp : okK ps ss cs f = f.path.all ss.contains := by unfold okK; rw [hop, h1, h2, h3]; rfl
  refine CW.condF rfl (CW.skip (aN ?_))
  repeat (first | (with_reducible first | apply CW.seq | apply aN | apply CW.block) | refine wR rfl ?_)
  refine CW.loop (σ := Nat) (fun j => [(2, .int .i64 (d : Int)), (3, .ptr lb 0), (4, .fptr (knownCells ps ss cs o1 o2 o3) 0), (5, .fptr f.cells 0), (11, .int .i64 (j : Int))]) (fun _ => s.set lb (leftO (k - 1)))
   (fun j => j ≤ f.path.length ∧ f.path.all ss.contains = (f.path.drop j).all ss.contains) (fun j => f.path.length - j) 0 ⟨by omega, rfl⟩ (wE rfl) sSub ?_
  rintro j ⟨hj, hI⟩
  repeat (first | (with_reducible first | apply CW.seq | apply aN) | refine wR rfl ?_)
  refine CW.cond rfl (fun h => ?_) (fun h => ?_)
  ·have hlt : j < f.path.length := by simpa using h
   obtain ⟨x, hx⟩ : ∃ x, f.path[j]? = some x := ⟨_, List.getElem?_eq_getElem hlt⟩
   have hx' : (strs f.path)[j]? = some (.str x) := by rw [strs_get, hx]; rfl
   repeat (first | (with_reducible first | apply CW.seq | apply aN | apply CW.skip | apply CW.block) | refine CW.drw tO mixed rfl (RD.run rfl ?_))
   refine RD.idx 5 j rfl rfl rfl rfl rfl rfl rfl rfl rfl rfl rfl rfl rfl hx' rfl ?_
   refine RD.run rfl ?_
   refine RD.callP (i := 7) rfl rfl rfl rfl rfl rfl rfl (refHas_spec ss o2 x _ hss) ?_
   refine RD.run rfl (RD.done rfl ?_)
   cases hc : ss.contains x with
   | true =>
    repeat (first | (with_reducible first | apply aN | apply iN | apply CW.skip) | refine wR rfl ?_ | refine CW.condF rfl ?_)
    refine ⟨j + 1, ⟨hlt, all_take hx hI hc⟩, (by repeat (first | exact trivial | refine ⟨⟨_, rfl, aRfl⟩, ?_⟩ | refine ⟨⟨_, rfl, AVle.of_eq (by (rw [i64_succ (by omega)]))⟩, ?_⟩)), sSub, by omega⟩
   | false =>
    rw [hbad (by rw [hokp]; exact all_miss hx hc)]
    repeat (first | (with_reducible first | apply CW.seq | apply aN | apply aR | apply iR | apply CW.ret) | refine wR rfl ?_ | refine CW.condT rfl ?_)
    exact ⟨_, _, _, rfl, aRfl, sSub, rfl, rfl⟩
  have hge : f.path.length ≤ j := by simpa using h
  rw [List.drop_eq_nil_of_le hge] at hI
  rw [hokp, hI] at hcd
  replace hcd : FFact.cnt ps ss cs d k f = FFact.cnts ps ss cs (d + 1) (k - 1) f.kids := hcd
  rw [hcd]
  clear hbad hI hge h
  repeat (first | (with_reducible first | apply CW.seq | apply aN | apply aX | apply iH | apply CW.exit | apply CW.block) | refine wR rfl ?_)
  refine CW.loop (σ := Nat × Int) (fun q => [(2, .int .i64 (d : Int)), (3, .ptr lb 0), (4, .fptr (knownCells ps ss cs o1 o2 o3) 0), (5, .fptr f.cells 0), (12, .int .i64 (q.1 : Int))]) (fun q => s.set lb (leftO q.2))
   (fun q => q.1 ≤ f.kids.length ∧ 0 ≤ q.2 ∧ q.2 ≤ 120 ∧ FFact.cnts ps ss cs (d + 1) q.2 (f.kids.drop q.1) = FFact.cnts ps ss cs (d + 1) (k - 1) f.kids) (fun q => f.kids.length - q.1) (0, k - 1) ⟨by simp, by show 0 ≤ k - 1; omega, by show k - 1 ≤ 120; omega, rfl⟩ ?_ sSub ?_
  ·exact (wE rfl)
  ·rintro ⟨j, kq⟩ ⟨hj, h0, h120, hI⟩
   simp only at hj h0 h120 hI
   repeat (first | (with_reducible first | apply CW.seq | apply aN) | refine wR rfl ?_)
   refine CW.cond rfl (fun h => ?_) (fun h => ?_)
   ·have hlt : j < f.kids.length := by rw [hkl] at h; simpa using h
    obtain ⟨c, hk1, hk', hks⟩ := FFact.kid_at hlt
    rw [drop_cons hk1, FFact.cnts] at hI
    have hshc : ∀ x ∈ (Part.fact c).nodes (dd + 1), x.2.texts := fun x hx => hsh x (by rw [fact_nodes]; exact List.mem_cons_of_mem _ (List.mem_flatMap.2 ⟨c, List.mem_of_getElem? hk1, hx⟩))
    have hcall := ih c (dd + 1) (d + 1) kq (s.set lb (leftO kq)) (by omega) (by omega) hshc h0 h120 (by omega) sSam
    rw [Store.set_set] at hcall
    have hle := FFact.cnt_le ps ss cs c (d + 1) kq
    generalize FFact.cnt ps ss cs (d + 1) kq c = pk at hcall hle hI
    obtain ⟨b, k'⟩ := pk
    have hd1 : IntKind.wrap .i64 ((d : Int) + 1) = ((d + 1 : Nat) : Int) := i64_succ (by omega)
    repeat (first | (with_reducible first | apply CW.seq | apply aN | apply CW.skip | apply CW.block) | refine CW.drw tO mixed rfl (RD.run rfl ?_))
    refine RD.idx 4 j rfl rfl rfl rfl rfl rfl rfl rfl rfl rfl rfl rfl rfl hk' rfl ?_
    refine RD.run rfl ?_
    rw [hd1]
    refine RD.call (i := 9) rfl rfl rfl rfl rfl rfl rfl hcall ?_ (fun _ _ ⟨h, _⟩ => by cases h)
    rintro _ _ ⟨⟨⟩, rfl⟩
    refine RD.run rfl (RD.done rfl ?_)
    cases b with
    | true =>
     obtain ⟨g0, g1⟩ := hle rfl
     repeat (first | (with_reducible first | apply aN | apply iN | apply CW.skip) | refine wR rfl ?_ | refine CW.condF rfl ?_)
     refine ⟨(j + 1, k'), ⟨hlt, g0, by show k' ≤ 120; simp only at g1; omega, by simpa using hI⟩, (by repeat (first | exact trivial | refine ⟨⟨_, rfl, aRfl⟩, ?_⟩ | refine ⟨⟨_, rfl, AVle.of_eq (by (show AV.int .i64 (IntKind.wrap .i64 ((j : Int) + 1)) = .int .i64 ((j + 1 : Nat) : Int); rw [i64_succ (by omega)]))⟩, ?_⟩)), sSub, by show f.kids.length - (j + 1) < f.kids.length - j; omega⟩
    | false =>
     rw [← hI]
     repeat (first | (with_reducible first | apply CW.seq | apply aN | apply aR | apply iR | apply CW.ret) | refine wR rfl ?_ | refine CW.condT rfl ?_)
     exact ⟨_, _, _, rfl, aRfl, sSub, rfl, rfl⟩
   ·have hge : f.kids.length ≤ j := by rw [hkl] at h; simpa using h
    rw [List.drop_eq_nil_of_le hge, FFact.cnts] at hI
    rw [← hI]
    repeat (first | (with_reducible first | apply CW.seq | apply aN | apply aX | apply iH | apply CW.ret | apply CW.exit) | refine wR rfl ?_)
    exact ⟨_, _, _, rfl, aRfl, sSub, rfl, rfl⟩

mutual
def FFact.pl : FFact → Nat
 | .mk _ _ p _ _ ks => p.length + FFact.pls ks
def FFact.pls : List FFact → Nat
 | [] => 0
 | k :: r => FFact.pl k + FFact.pls r
end
theorem FFact.pl_def (f : FFact) : f.pl = f.path.length + FFact.pls f.kids := by cases f; rw [FFact.pl]; rfl
theorem FFact.size_def (f : FFact) : f.size = 1 + FFact.sizes f.kids := by cases f; rw [FFact.size]; rfl

mutual
def FFact.allF : FFact → List FFact
 | .mk o x p c n ks => .mk o x p c n ks :: FFact.allFs ks
def FFact.allFs : List FFact → List FFact
 | [] => []
 | k :: r => FFact.allF k ++ FFact.allFs r
end

mutual
theorem mem_allF : ∀ (f : FFact) (d : Nat) (x : Nat × Part), x ∈ (Part.fact f).nodes d → ∃ g ∈ f.allF, x.2 = .fact g
  | .mk o n p c m ks, d, x, h => by
    rw [fact_nodes, List.mem_cons] at h
    rw [FFact.allF]
    rcases h with rfl | h
    · exact ⟨_, List.mem_cons_self .., rfl⟩
    · obtain ⟨g, hg, hx⟩ := mem_allFs ks (d + 1) x h
      exact ⟨g, List.mem_cons_of_mem _ hg, hx⟩
theorem mem_allFs : ∀ (l : List FFact) (d : Nat) (x : Nat × Part), x ∈ l.flatMap (fun k => (Part.fact k).nodes d) → ∃ g ∈ FFact.allFs l, x.2 = .fact g
  | [], _, _, h => by simp at h
  | k :: r, d, x, h => by
    rw [List.flatMap_cons, List.mem_append] at h
    rw [FFact.allFs]
    rcases h with h | h
    · obtain ⟨g, hg, hx⟩ := mem_allF k d x h
      exact ⟨g, List.mem_append_left _ hg, hx⟩
    · obtain ⟨g, hg, hx⟩ := mem_allFs r d x h
      exact ⟨g, List.mem_append_right _ hg, hx⟩
end

end Go.Proofs.YtaafacnoddjhgaaGreat

/- What weighs little is fair. -/
namespace Go.Proofs.YtaafacnoddjhgaaGreat
open Go.AE

theorem sum_mem {l : List Str} {y : Str} (h : y ∈ l) : y.length ≤ (l.map fun s => s.length + 1).sum := by
 induction l with
 | nil => cases h
 | cons a l ih =>
  simp only [List.map_cons, List.sum_cons]
  rcases List.mem_cons.1 h with rfl | h
  ·omega
  ·have := ih h; omega
theorem sum_len (l : List Str) : l.length ≤ (l.map fun s => s.length + 1).sum := by
 induction l with
 | nil => simp
 | cons a l ih => simp only [List.map_cons, List.sum_cons, List.length_cons]; omega

def FFact.light (W : Nat) (f : FFact) : Prop := f.name.length ≤ W ∧ f.cls.length ≤ W ∧ f.path.length ≤ W ∧ ∀ y ∈ f.path, y.length ≤ W
mutual
theorem fact_light {W : Nat} : ∀ (f : FFact) (d : Nat), f.weight ≤ W → (f.size ≤ f.weight ∧ f.pl ≤ f.weight) ∧ ∀ d' g, (d', Part.fact g) ∈ (Part.fact f).nodes d → g.light W
  | .mk o x p c n ks, d, h => by
    rw [FFact.weight] at h ⊢
    rw [FFact.size, FFact.pl, fact_nodes]
    have h1 := facts_light ks (d + 1) (by omega : FFact.weights ks ≤ W)
    have h2 := sum_len p
    refine ⟨⟨by omega, by omega⟩, fun d' g hg => ?_⟩
    rcases List.mem_cons.1 hg with hg | hg
    · cases hg
      exact ⟨by show x.length ≤ _; omega, by show c.length ≤ _; omega, by show p.length ≤ _; omega, fun y hy => by have := sum_mem hy; simp only [FFact.path] at this; omega⟩
    · exact h1.2 d' g hg
theorem facts_light {W : Nat} : ∀ (l : List FFact) (d : Nat), FFact.weights l ≤ W → (FFact.sizes l ≤ FFact.weights l ∧ FFact.pls l ≤ FFact.weights l) ∧ ∀ d' g, (d', Part.fact g) ∈ l.flatMap (fun k => (Part.fact k).nodes d) → g.light W
  | [], _, _ => ⟨⟨Nat.le_refl _, Nat.le_refl _⟩, fun _ _ h => by simp at h⟩
  | k :: r, d, h => by
    rw [FFact.weights] at h ⊢
    rw [FFact.sizes, FFact.pls, List.flatMap_cons]
    have h1 := fact_light k d (by omega : k.weight ≤ W)
    have h2 := facts_light r d (by omega : FFact.weights r ≤ W)
    refine ⟨⟨by omega, by omega⟩, fun d' g hg => ?_⟩
    rcases List.mem_append.1 hg with hg | hg
    · exact h1.2 d' g hg
    · exact h2.2 d' g hg
end
theorem fact_fair {f : FFact} (h : f.weight ≤ 1048576) : f.Fair ∧ f.pl < big ∧ f.Slim 1 := by
 obtain ⟨⟨h1, h2⟩, h3⟩ := fact_light f 1 h
 have hb : big = 1099511627776 := rfl
 refine ⟨⟨by omega, fun x hx => ?_⟩, by omega, fun d' g hg => ?_⟩
 ·obtain ⟨g, hg⟩ := nodes_fact hx
  obtain ⟨d, p⟩ := x
  simp only at hg
  subst hg
  obtain ⟨a, b, c, e⟩ := h3 d g hx
  exact ⟨by omega, by omega, by omega, fun y hy => by have := e y hy; omega⟩
 ·obtain ⟨a, b, c, e⟩ := h3 d' g hg
  omega

theorem map_sum_mem {α : Type} {f : α → Nat} {l : List α} {x : α} (h : x ∈ l) : f x ≤ (l.map f).sum := by
 induction l with
 | nil => cases h
 | cons a l ih =>
  simp only [List.map_cons, List.sum_cons]
  rcases List.mem_cons.1 h with rfl | h
  ·omega
  ·have := ih h; omega
theorem map_sum_len {α : Type} {f : α → Nat} (hf : ∀ x, 1 ≤ f x) (l : List α) : l.length ≤ (l.map f).sum := by
 induction l with
 | nil => simp
 | cons a l ih => have := hf a; simp only [List.map_cons, List.sum_cons, List.length_cons]; omega
theorem flatMap_len {α β : Type} {f : α → List β} {w : α → Nat} (hf : ∀ x, (f x).length ≤ w x) (l : List α) : (l.flatMap f).length ≤ (l.map w).sum := by
 induction l with
 | nil => simp
 | cons a l ih => have := hf a; simp only [List.map_cons, List.sum_cons, List.flatMap_cons, List.length_append]; omega

theorem strs_fair {l : List Str} (h : sumS l ≤ 1048576) : Strs l := by
 have h1 := sum_len l
 have hb : big = 1099511627776 := rfl
 unfold sumS at h
 exact ⟨by omega, fun x hx => by have := sum_mem hx; show x.length < _; omega⟩

theorem prog_fair {P : FProg} (h : P.weight ≤ 1048576) : P.Fair ∧ P.Slim := by
 have hb : big = 1099511627776 := rfl
 unfold FProg.weight at h
 have hcl := map_sum_len (f := FClass.weight) (fun x => by unfold FClass.weight; omega) P.classes
 have hml := map_sum_len (f := FMethod.weight) (fun x => by unfold FMethod.weight; omega) P.methods
 have hme : ∀ m ∈ P.methods, m.weight ≤ 1048576 := fun m hm => by have := map_sum_mem (f := FMethod.weight) hm; omega
 have hmf : ∀ m ∈ P.methods, m.fact.weight ≤ 1048576 ∧ m.body.weight ≤ 1048576 ∧ m.name.length ≤ 1048576 ∧ sumS m.params ≤ 1048576 := fun m hm => by
  have := hme m hm
  unfold FMethod.weight at this
  exact ⟨by omega, by omega, by omega, by omega⟩
 have hsz : ∀ e : FExp, e.weight ≤ 1048576 → e.size ≤ e.weight := fun e he => (exp_light e he).1
 refine ⟨⟨by omega, fun c hc => ?_, by omega, fun m hm => ?_, exp_fair (by omega), ?_, ?_⟩, fun m hm => (fact_fair (hmf m hm).1).2.2⟩
 ·have h1 := map_sum_mem (f := FClass.weight) hc
  replace h1 : c.weight ≤ 1048576 := by omega
  unfold FClass.weight at h1
  have h2 := map_sum_len (f := FInit.weight) (fun x => by unfold FInit.weight; omega) c.inits
  refine ⟨by show c.name.length < _; omega, strs_fair (by omega), strs_fair (by omega), by omega, fun x hx => ?_⟩
  have h3 := map_sum_mem (f := FInit.weight) hx
  replace h3 : x.weight ≤ 1048576 := by omega
  unfold FInit.weight at h3
  show x.slot.length < _; omega
 ·obtain ⟨a, b, c, d⟩ := hmf m hm
  exact ⟨by show m.name.length < _; omega, strs_fair d, (fact_fair a).1, exp_fair b⟩
 ·have hcalls : ∀ l : List FExp, (callsL l).length ≤ l.length := fun l => by unfold callsL; rw [List.length_map]; exact List.length_filter_le _ _
  have h1 := flatMap_len (f := fun e => callsL e.allE) (w := FExp.size) (fun e => by have := hcalls e.allE; rw [allE_length] at this; exact this) (P.methods.map FMethod.body ++ [P.main])
  have h2 : (((P.methods.map FMethod.body ++ [P.main]).map FExp.size).sum) ≤ (P.methods.map FMethod.weight).sum + P.main.weight := by
   rw [List.map_append, List.sum_append]
   have h3 := hsz P.main (by omega)
   have h4 : ∀ l : List FMethod, (∀ m ∈ l, m.weight ≤ 1048576) → ((l.map FMethod.body).map FExp.size).sum ≤ (l.map FMethod.weight).sum := by
    intro l hl
    induction l with
    | nil => simp
    | cons a l ih =>
     have := ih fun m hm => hl m (List.mem_cons_of_mem _ hm)
     have q := hl a (List.mem_cons_self ..)
     unfold FMethod.weight at q
     have q2 := hsz a.body (by omega)
     simp only [List.map_cons, List.sum_cons, FMethod.weight]
     omega
   have := h4 P.methods hme
   simp only [List.map_cons, List.map_nil, List.sum_cons, List.sum_nil]
   omega
  unfold progNotes
  rw [List.length_append]
  have : (methodNotes P.methods).length = P.methods.length := by unfold methodNotes; rw [List.length_map]
  omega
 ·have := flatMap_len (f := FClass.slots) (w := FClass.weight) (fun c => by have := sum_len c.slots; unfold FClass.weight sumS; omega) P.classes
  omega
end Go.Proofs.YtaafacnoddjhgaaGreat

/- The theorem of substitution, in plain Lean: expressions in which bound names are numbers. -/
namespace Go.Proofs.YtaafacnoddjhgaaGreat
open Go.AE

mutual
def FExp.sub : FExp → Str → FExp → FExp
 | .mk o n t ks, x, y => if o == 3 then (if n == 0 && t == x then y else .mk o n t ks) else .mk o n t (FExp.subs ks x y)
def FExp.subs : List FExp → Str → FExp → List FExp
 | [], _, _ => []
 | k :: r, x, y => FExp.sub k x y :: FExp.subs r x y
end

mutual
def FExp.fv : FExp → List Str
 | .mk o n t ks => if o == 3 then (if n == 0 then [t] else []) else FExp.fvs ks
def FExp.fvs : List FExp → List Str
 | [] => []
 | k :: r => FExp.fv k ++ FExp.fvs r
end

def neat1 (g : FExp) : Bool := (!(g.op == 3) || (g.n == 0 && g.kids.isEmpty)) && (!(g.op == 9) || g.kids.length == 2)
mutual
def FExp.neat : FExp → Bool
 | .mk o n t ks => neat1 (.mk o n t ks) && FExp.neats ks
def FExp.neats : List FExp → Bool
 | [] => true
 | k :: r => FExp.neat k && FExp.neats r
end
mutual
theorem neat_of : ∀ (e : FExp), (∀ g ∈ e.allE, neat1 g = true) → e.neat = true
  | .mk o n t ks, h => by
    rw [FExp.allE] at h
    rw [FExp.neat, Bool.and_eq_true]
    exact ⟨h _ (List.mem_cons_self ..), neats_of ks (fun g hg => h g (List.mem_cons_of_mem _ hg))⟩
theorem neats_of : ∀ (l : List FExp), (∀ g ∈ FExp.allEs l, neat1 g = true) → FExp.neats l = true
  | [], _ => rfl
  | k :: r, h => by
    rw [FExp.neats, Bool.and_eq_true]
    rw [FExp.allEs] at h
    exact ⟨neat_of k (fun g hg => h g (List.mem_append_left _ hg)), neats_of r (fun g hg => h g (List.mem_append_right _ hg))⟩
end
theorem neats_mem : ∀ {l : List FExp} {k : FExp}, FExp.neats l = true → k ∈ l → k.neat = true
  | k :: r, x, h, hx => by
    rw [FExp.neats, Bool.and_eq_true] at h
    rcases List.mem_cons.1 hx with rfl | hx
    · exact h.1
    · exact neats_mem h.2 hx

theorem good_neat {e : FExp} (h : goodB e = true) : e.neat = true := by
 refine neat_of e fun g hg => ?_
 have := goodB_node h hg
 have h3 : shapeOf 3 = some (true, 0, 0) := by decide
 have h9 : shapeOf 9 = some (true, 2, 2) := by decide
 obtain ⟨o, n, t, ks⟩ := g
 have hkl : (FExp.mk o n t ks).kav.length = ks.length := FExp.kav_length _
 simp only [nodeE, nodeE1, nodeE2, FExp.op, FExp.n, FExp.text, hkl] at this
 simp only [neat1, FExp.op, FExp.n, FExp.kids]
 by_cases h1 : o = 3
 ·subst h1
  rw [h3] at this
  match ks, this with
  | [], this =>
   simp [shA, shB, shN] at this
   simp
   exact this.2.2
  | k :: r, this =>
   simp [shA, shB, shN] at this
   exact absurd (of_decide_eq_true this.1.2.1) (by omega)
 ·by_cases h2 : o = 9
  ·subst h2
   rw [h9] at this
   match ks, this with
   | [], this => simp [shA, shB, shN] at this
   | [_], this => simp [shA, shB, shN] at this
   | [_, _], _ => simp
   | _ :: _ :: _ :: r, this =>
    simp [shA, shB, shN] at this
    exact absurd (of_decide_eq_true this.1.2.1) (by omega)
  ·simp [h1, h2]

theorem mem_addAll {v : Str} : ∀ {l acc : List Str}, v ∈ addAll acc l ↔ v ∈ acc ∨ v ∈ l
  | [], acc => by simp [addAll]
  | x :: l, acc => by
    show v ∈ addAll (insS acc x) l ↔ _
    rw [mem_addAll, mem_insS, List.mem_cons, or_assoc]
theorem mem_frees {e : FExp} {v : Str} : v ∈ e.frees ↔ v ∈ e.loose [] := by
 unfold FExp.frees; rw [mem_addAll]; simp

end Go.Proofs.YtaafacnoddjhgaaGreat

/- Contracts of the reference: with, loose, Sort, FreeOf, texts. -/
namespace Go.Proofs.YtaafacnoddjhgaaGreat
open Go.AE

section
variable {P : Program} {Γ : Tys} {N : Nat} {env : Env} {s : Store}
theorem OW.appendN (hΓ : TysOk P Γ) {o : Oper} {t t' e : TypeId} {x y : Operand} {it it' ie : TI} {sx sy : Nat} {ys : List AV} {oy : Own}
  (ho : o.op = .call { callee := .builtin .append, args := #[x, y], argTypes := #[t, t'] }) (ht : Γ.get? t = some it) (htd : it.td = .slc e) (ht' : Γ.get? t' = some it') (htd' : ∀ k, it'.td ≠ .int k)
  (hie : Γ.get? e = some ie) (hx : ev env x = some (.slc sx [] .nil)) (hy : ev env y = some (.slc sy ys oy)) (hsy : ys = [] ∨ sy = ie.size)
  (hzs' : Nat.beq ie.zero.cells.size ie.size = true) (hel : ∀ y ∈ ys, elemOk ie.size y = true) (hb : ys.length * ie.bytes ≤ 140737488355328) (h63 : ys.length ≤ 9223372036854775807) {X : AV → Store → Prop} :
  OW P N o env s (fun r s' => ∃ own', OwnOk s ys.length own' ∧ r = .slc ie.size ys own' ∧ s' = rowOf s e ie.size ys.length own') X := by
 refine OW.mono (OW.append hΓ ho ht htd ht' htd' hie hx hy (.inl rfl) hsy hzs' hel (by simpa using hb) (by simpa using h63) (.inl (.inl rfl)) (X := X)) ?_ (fun _ _ h => h)
 rintro r s' (⟨h1, -, rfl, rfl⟩ | ⟨s₁, hs₁, b, h1, rfl, rfl⟩)
 ·exact ⟨.nil, trivial, by rw [h1], rfl⟩
 ·rcases hs₁ with rfl | ⟨b', e, -⟩
  ·exact ⟨.own b, h1, by simp, by simp [rowOf]⟩
  ·cases e
variable {ops : Array Oper} {l : List Oper} {Q : AEx → Env → Store → Prop} {o : Oper} {d m : Nat}
theorem RL.appendN (hΓ : TysOk P Γ) {t t' e : TypeId} {x y : Operand} {it it' ie : TI} {sx sy n : Nat} {ys : List AV} {oy : Own} (hg : guardOf ops env o = some true) (hd : o.dst = some d) (hN : Nat.blt d N = true)
  (ho : o.op = .call { callee := .builtin .append, args := #[x, y], argTypes := #[t, t'] }) (ht : Γ.get? t = some it) (htd : it.td = .slc e) (ht' : Γ.get? t' = some it') (htd' : ∀ k, it'.td ≠ .int k)
  (hie : Γ.get? e = some ie) (hx : ev env x = some (.slc sx [] .nil)) (hy : ev env y = some (.slc sy ys oy)) (hsy : ys = [] ∨ sy = ie.size)
  (hzs' : Nat.beq ie.zero.cells.size ie.size = true) (hel : ∀ y ∈ ys, elemOk ie.size y = true) (hn : n = ys.length) (hb : n * ie.bytes ≤ 140737488355328) (h63 : n ≤ 9223372036854775807)
  (h : ∀ own', OwnOk s n own' → RL P N ops l Q ((d, .slc ie.size ys own') :: env) (rowOf s e ie.size n own')) : RL P N ops (o :: l) Q env s := by
 subst hn
 refine RL.op hg hd hN (OW.appendN hΓ ho ht htd ht' htd' hie hx hy hsy hzs' hel hb h63 (X := fun _ _ => False)) ?_ (fun _ _ h => h.elim)
 rintro r s' ⟨own', h1, rfl, rfl⟩
 exact h own' h1
theorem RD.appendN (hΓ : TysOk P Γ) {i : Nat} {t t' e : TypeId} {x y : Operand} {it it' ie : TI} {sx sy n : Nat} {ys : List AV} {oy : Own} (hr : readyL l.toArray m (idxs 0 l) = [i]) (ho : l.toArray[i]? = some o) (hd : o.dst = some d) (hN : Nat.blt d N = true)
  (hg : guardOf l.toArray (pickE env (looks l.toArray o)) o = some true) (hop : o.op = .call { callee := .builtin .append, args := #[x, y], argTypes := #[t, t'] }) (ht : Γ.get? t = some it) (htd : it.td = .slc e) (ht' : Γ.get? t' = some it') (htd' : ∀ k, it'.td ≠ .int k)
  (hie : Γ.get? e = some ie) (hx : ev (pickE env (looks l.toArray o)) x = some (.slc sx [] .nil)) (hy : ev (pickE env (looks l.toArray o)) y = some (.slc sy ys oy)) (hsy : ys = [] ∨ sy = ie.size)
  (hzs' : Nat.beq ie.zero.cells.size ie.size = true) (hel : ∀ y ∈ ys, elemOk ie.size y = true) (hn : n = ys.length) (hb : n * ie.bytes ≤ 140737488355328) (h63 : n ≤ 9223372036854775807)
  (h : ∀ own', OwnOk s n own' → RD P Γ N l.toArray Q (dn (m ||| 2 ^ i)) ((d, .slc ie.size ys own') :: env) (rowOf s e ie.size n own')) : RD P Γ N l.toArray Q (dn m) env s := by
 subst hn
 refine RD.one hr ho hd hN hg (OW.appendN hΓ hop ht htd ht' htd' hie hx hy hsy hzs' hel hb h63 (X := fun _ _ => False)) ?_ (fun _ _ h => h.elim)
 rintro r s' ⟨own', h1, rfl, rfl⟩
 exact h own' h1
end

set_option maxRecDepth 10000 in
theorem refWith_spec (l : List Str) (own : Own) (x : Str) (s : Store) (hl : l.length < big) :
  ACalls Tryz.prog 128 [.slc 1 (strs l) own, .str x] s (fun o s' => o = .ret (.slc 1 (strs (insS l x)) .fro) ∧ s' = s) := by
 have hb : big = 1099511627776 := rfl
 refine ACalls.of_CW tO call128 Tryz.func128 rfl rfl ?_
 have hcall := refHas_spec l own x s (by omega)
 cases hc : l.contains x with
 | true =>
  rw [hc] at hcall
  repeat (first | (with_reducible first | apply CW.seq | apply aN) | refine wR rfl ?_ | refine CW.reg ?_ | refine wS rfl ?_)
  refine RL.callP rfl rfl rfl rfl rfl hcall ?_
  repeat (first | (with_reducible first | apply CW.seq | apply aN | apply aR | apply CW.ret) | refine wR rfl ?_ | refine RL.nil ?_ | refine CW.condT rfl ?_)
  exact ⟨_, _, _, rfl, AVle.fro, sSub, by rw [insS, if_pos hc], rfl⟩
 | false =>
  rw [hc] at hcall
  repeat (first | (with_reducible first | apply CW.seq | apply aN) | refine wR rfl ?_ | refine CW.reg ?_ | refine wS rfl ?_)
  refine RL.callP rfl rfl rfl rfl rfl hcall ?_
  repeat (first | (with_reducible first | apply CW.seq | apply aN | apply CW.skip) | refine CW.reg ?_ | refine RL.nil ?_ | refine CW.condF rfl ?_ | refine wS rfl ?_)
  refine RL.appendN tO rfl rfl rfl rfl rfl rfl rfl (by intro k h; cases h) rfl rfl rfl (.inr rfl) rfl (strs_elem _) (n := l.length) (strs_length _).symm (by show l.length * 16 ≤ _; omega) (by omega) (fun o1 h1 => ?_)
  repeat (first | refine wS rfl ?_)
  refine RL.append1 tO rfl rfl rfl rfl rfl rfl rfl (by intro k h; cases h) rfl rfl rfl rfl rfl rfl rfl (strs_length _).symm (by show (l.length + 1) * 16 ≤ _; omega) (by omega) (s := s) rfl h1 (fun rb hrb => ?_)
  repeat (first | (with_reducible first | apply aN | apply CW.ret) | refine RL.nil ?_ | refine wS rfl ?_)
  refine ⟨_, _, s, rfl, AVle.fro, Store.sub_set _ _ _ hrb, ?_, rfl⟩
  rw [insS, if_neg (by rw [hc]; simp)]; simp [strs]

/-! ### Free names -/
mutual
def FExp.looseR : List Str → FExp → List Str
 | b, .mk o _ t ks => if o == 3 && !b.contains t then [t] else FExp.loosesR (o == 9) t b 0 ks
def FExp.loosesR (isLet : Bool) (t : Str) (b : List Str) : Nat → List FExp → List Str
 | _, [] => []
 | i, k :: r => FExp.looseR (if isLet && i == 1 then insS b t else b) k ++ FExp.loosesR isLet t b (i + 1) r
end
theorem FExp.looseR_def (b : List Str) (e : FExp) : e.looseR b = if e.op == 3 && !b.contains e.text then [e.text] else FExp.loosesR (e.op == 9) e.text b 0 e.kids := by cases e; rw [FExp.looseR]; rfl

mutual
theorem looseR_eq : ∀ (e : FExp) (b c : List Str), e.neat = true → (∀ z, z ∈ b ↔ z ∈ c) → e.looseR b = e.loose c
  | .mk o n t ks, b, c, h, hbc => by
    rw [FExp.neat, Bool.and_eq_true] at h
    rw [FExp.looseR, FExp.loose]
    have hct : b.contains t = c.contains t := by rw [Bool.eq_iff_iff, List.contains_iff_mem, List.contains_iff_mem]; exact hbc t
    by_cases h3 : o = 3
    · subst h3
      have hk : ks = [] := by
        have := h.1
        simp [neat1, FExp.op, FExp.n, FExp.kids] at this
        exact this.2
      subst hk
      rw [hct]
      cases c.contains t <;> simp [FExp.loosesR, FExp.looses]
    · have h3' : (o == 3) = false := by simpa using h3
      rw [h3', loosesR_eq ks (o == 9) t b c 0 h.2 hbc]
      simp
theorem loosesR_eq : ∀ (ks : List FExp) (isLet : Bool) (t : Str) (b c : List Str) (i : Nat), FExp.neats ks = true → (∀ z, z ∈ b ↔ z ∈ c) → FExp.loosesR isLet t b i ks = FExp.looses isLet t c i ks
  | [], _, _, _, _, _, _, _ => rfl
  | k :: r, isLet, t, b, c, i, h, hbc => by
    rw [FExp.neats, Bool.and_eq_true] at h
    rw [FExp.loosesR, FExp.looses, loosesR_eq r isLet t b c (i + 1) h.2 hbc]
    congr 1
    cases isLet && i == 1 with
    | false => exact looseR_eq k b c h.1 hbc
    | true => exact looseR_eq k (insS b t) (t :: c) h.1 (fun z => by rw [mem_insS, List.mem_cons, hbc z, or_comm])
end
mutual
theorem looseR_len : ∀ (e : FExp) (b : List Str), (e.looseR b).length ≤ e.size
  | .mk o n t ks, b => by
    rw [FExp.looseR, FExp.size]
    have := loosesR_len ks (o == 9) t b 0
    split
    · simp
    · omega
theorem loosesR_len : ∀ (ks : List FExp) (isLet : Bool) (t : Str) (b : List Str) (i : Nat), (FExp.loosesR isLet t b i ks).length ≤ FExp.sizes ks
  | [], _, _, _, _ => by simp [FExp.loosesR, FExp.sizes]
  | k :: r, isLet, t, b, i => by
    rw [FExp.loosesR, FExp.sizes, List.length_append]
    have := looseR_len k (if isLet && i == 1 then insS b t else b)
    have := loosesR_len r isLet t b (i + 1)
    omega
end

set_option maxRecDepth 10000 in
set_option maxHeartbeats 1000000 in
theorem refLoose_spec : ∀ (n : Nat) (e : FExp) (b : List Str) (ob : Own) (s : Store), e.size ≤ n → b.length + e.size < big →
  ACalls Tryz.prog 86 [e.av, .slc 1 (strs b) ob] s (fun o s' => o = .ret (.slc 1 (strs (e.looseR b)) .fro) ∧ s' = s) := by
 intro n
 induction n with
 | zero => intro e b ob s h; have := e.size_pos; omega
 | succ n ih =>
  intro e b ob s hn hbig
  have hlen := e.kids_length
  have hkl := e.kav_length
  have hb : big = 1099511627776 := rfl
  have hdef := e.looseR_def b
  refine ACalls.of_CW tO call86 Tryz.func86 rfl rfl ?_
  refine CW.seqCut [(1, .slc 1 (strs b) ob), (2, .fptr e.cells 0)] s ?_ ?_
  ·repeat (first | refine wR rfl ?_)
   exact ⟨rfl, (wE rfl), sSub⟩
  refine CW.seq ?_
  refine CW.seqCut [(1, .slc 1 (strs b) ob), (2, .fptr e.cells 0), (17, .bool (e.op == 3 && !b.contains e.text))] s ?_ ?_
  ·repeat' (first | refine CW.reg ?_ | refine RL.nil ?_ | refine wS rfl ?_ | refine RL.skip rfl rfl rfl ?_ | refine RL.gstepT tO rfl rfl rfl rfl rfl rfl rfl (fun _ => ?_) (fun _ => ?_) | refine RL.callP rfl rfl rfl rfl rfl (refHas_spec b ob e.text _ (by omega)) ?_)
   all_goals refine ⟨rfl, (by repeat (first | exact trivial | refine ⟨⟨_, rfl, aRfl⟩, ?_⟩ | refine ⟨⟨_, rfl, AVle.of_eq (by (simp_all))⟩, ?_⟩)), sSub⟩
  cases hc : e.op == 3 && !b.contains e.text with
  | true =>
   rw [hc, if_pos rfl] at hdef
   repeat (first | (with_reducible first | apply CW.seq | apply aN | apply aR | apply CW.ret) | refine wR rfl ?_ | refine CW.condT rfl ?_)
   exact ⟨_, _, _, rfl, AVle.fro, sSub, by rw [hdef]; rfl, rfl⟩
  | false =>
  rw [hc, if_neg (by simp)] at hdef
  refine CW.condF rfl (CW.skip (aN ?_))
  repeat (first | (with_reducible first | apply CW.seq | apply aN | apply CW.block) | refine wR rfl ?_)
  refine CW.loop (σ := Nat × Own × List Str) (fun q => [(1, .slc 1 (strs b) ob), (2, .fptr e.cells 0), (5, .slc 1 (strs q.2.2) q.2.1), (6, .int .i64 (q.1 : Int))])
   (fun q => rowOf s 9 1 q.2.2.length q.2.1) (fun q => q.1 ≤ e.kids.length ∧ OwnOk s 0 q.2.1 ∧ q.2.2 ++ FExp.loosesR (e.op == 9) e.text b q.1 (e.kids.drop q.1) = e.looseR b) (fun q => e.kids.length - q.1) (0, .nil, []) ⟨by simp, trivial, by rw [hdef]; rfl⟩ ?_ sSub ?_
  ·exact ⟨⟨_, rfl, aRfl⟩, ⟨_, rfl, aRfl⟩, ⟨_, rfl, AVle.nil (by simp)⟩, ⟨_, rfl, aRfl⟩, trivial⟩
  rintro ⟨j, own, acc⟩ ⟨hj, hok, hI⟩
  simp only at hj hok hI
  repeat (first | (with_reducible first | apply CW.seq | apply aN) | refine wR rfl ?_)
  refine CW.cond rfl (fun h => ?_) (fun h => ?_)
  ·have hlt : j < e.kids.length := by rw [hkl] at h; simpa using h
   obtain ⟨k, hk, hk', hks⟩ := FExp.kid_at hlt
   rw [drop_cons hk, FExp.loosesR, ← List.append_assoc] at hI
   have hl := looseR_len e b
   rw [← hI, List.length_append, List.length_append] at hl
   have hil : (insS b e.text).length ≤ b.length + 1 := insS_len _ _
   refine CW.skip (aN (CW.seq (CW.block ?_)))
   refine CW.seqCut [(1, .slc 1 (strs b) ob), (2, .fptr e.cells 0), (5, .slc 1 (strs acc) own), (6, .int .i64 (j : Int)), (7, .slc 1 (strs b) .fro)] (rowOf s 9 1 acc.length own) ?_ ?_
   ·repeat (first | refine wR rfl ?_)
    exact ⟨rfl, ⟨⟨_, rfl, aRfl⟩, ⟨_, rfl, aRfl⟩, ⟨_, rfl, aRfl⟩, ⟨_, rfl, aRfl⟩, ⟨_, rfl, AVle.fro⟩, trivial⟩, sSub⟩
   refine CW.seqCut [(1, .slc 1 (strs b) ob), (2, .fptr e.cells 0), (5, .slc 1 (strs acc) own), (6, .int .i64 (j : Int)), (7, .slc 1 (strs (if e.op == 9 && j == 1 then insS b e.text else b)) .fro)] (rowOf s 9 1 acc.length own) ?_ ?_
   ·refine CW.seqCut [(1, .slc 1 (strs b) ob), (2, .fptr e.cells 0), (5, .slc 1 (strs acc) own), (6, .int .i64 (j : Int)), (7, .slc 1 (strs b) .fro), (35, .bool (e.op == 9 && j == 1))] (rowOf s 9 1 acc.length own) ?_ ?_
    ·repeat' (first | refine CW.reg ?_ | refine RL.nil ?_ | refine wS rfl ?_ | refine RL.skip rfl rfl rfl ?_ | refine RL.gstepT tO rfl rfl rfl rfl rfl rfl rfl (fun _ => ?_) (fun _ => ?_))
     all_goals refine ⟨rfl, (by repeat (first | exact trivial | refine ⟨⟨_, rfl, aRfl⟩, ?_⟩ | refine ⟨⟨_, rfl, AVle.of_eq (by (first | (simp_all; done) | (simp_all; rw [Bool.eq_iff_iff]; simp; omega)))⟩, ?_⟩)), sSub⟩
    cases hc9 : e.op == 9 && j == 1 with
    | true =>
     repeat (first | refine CW.reg ?_ | refine CW.condT rfl ?_ | refine wS rfl ?_)
     refine RL.callP rfl rfl rfl rfl rfl (refWith_spec b ob e.text _ (by omega)) ?_
     repeat (first | refine RL.nil ?_ | refine wS rfl ?_)
     exact ⟨rfl, (wE rfl), sSub⟩
    | false =>
     repeat (first | with_reducible apply CW.skip | refine CW.condF rfl ?_)
     exact ⟨rfl, (wE rfl), sSub⟩
   have hbb : (if e.op == 9 && j == 1 then insS b e.text else b).length ≤ b.length + 1 := by split <;> omega
   generalize (if e.op == 9 && j == 1 then insS b e.text else b) = bb at hbb hI hl ⊢
   repeat (first | refine CW.reg ?_ | refine wS rfl ?_ | refine RL.idx tO _ rfl rfl rfl rfl rfl rfl rfl rfl rfl rfl rfl (by assumption) rfl ?_)
   refine RL.callP rfl rfl rfl rfl rfl (ih k bb .fro _ (by omega) (by omega)) ?_
   refine RL.appendR tO rfl rfl rfl rfl rfl rfl rfl (by intro k h; cases h) rfl rfl rfl rfl (.inr rfl) rfl (strs_elem _) (n := acc.length) ?_ ?_ (strs_length _).symm rfl (OwnOk.sub' hok) ?_
   ·simp only [strs_length]; show _ * 16 ≤ _; omega
   ·simp only [strs_length]; omega
   rintro own' h1
   repeat (first | (with_reducible first | apply aN | apply iN) | refine wR rfl ?_ | refine RL.nil ?_ | refine wS rfl ?_)
   refine ⟨(j + 1, own', acc ++ k.looseR bb), ⟨hlt, OwnOk.sub' h1, hI⟩, (by repeat (first | exact trivial | refine ⟨⟨_, rfl, aRfl⟩, ?_⟩ | refine ⟨⟨_, rfl, AVle.of_eq (by (first | (show AV.int .i64 (IntKind.wrap .i64 ((j : Int) + 1)) = .int .i64 ((j + 1 : Nat) : Int); rw [i64_succ (by omega)]) | (simp [strs])))⟩, ?_⟩)), ?_, by show e.kids.length - (j + 1) < e.kids.length - j; omega⟩
   show Store.Sub (rowOf s _ 1 (acc ++ k.looseR bb).length own') _
   rw [List.length_append, strs_length, strs_length]
   exact sSub
  ·have hge : e.kids.length ≤ j := by rw [hkl] at h; simpa using h
   rw [List.drop_eq_nil_of_le hge, FExp.loosesR, List.append_nil] at hI
   repeat (first | (with_reducible first | apply CW.seq | apply aN | apply aX | apply iH | apply CW.ret | apply CW.exit) | refine wR rfl ?_)
   exact ⟨_, _, s, rfl, AVle.fro, rowOf_sub hok, by rw [hI], rfl⟩

end Go.Proofs.YtaafacnoddjhgaaGreat

/- Contracts of the reference: Sort, FreeOf. -/
namespace Go.Proofs.YtaafacnoddjhgaaGreat
open Go.AE

def cutS (out : List Str) (x : Str) : Nat := (out.takeWhile fun y => Op.bytesLess y x).length
def insSo (out : List Str) (x : Str) : List Str := if (cutS out x == out.length) || !(out[cutS out x]? == some x) then out.take (cutS out x) ++ [x] ++ out.drop (cutS out x) else out
def sortS (l : List Str) : List Str := l.foldl insSo []
theorem insSo_len (out : List Str) (x : Str) : (insSo out x).length ≤ out.length + 1 := by
 unfold insSo
 split
 ·simp only [List.length_append, List.length_take, List.length_drop, List.length_cons, List.length_nil]; omega
 ·omega
theorem cutS_le (out : List Str) (x : Str) : cutS out x ≤ out.length := by
 unfold cutS
 induction out with
 | nil => simp
 | cons y r ih => rw [List.takeWhile_cons]; split <;> simp <;> omega

set_option maxRecDepth 10000 in
set_option maxHeartbeats 1000000 in
theorem refSort_spec (l : List Str) (ol : Own) (s : Store) (hl : l.length < big) :
  ACalls Tryz.prog 85 [.slc 1 (strs l) ol] s (fun o s' => o = .ret (.slc 1 (strs (sortS l)) .fro) ∧ s' = s) := by
 have hb : big = 1099511627776 := rfl
 refine ACalls.of_CW tO call85 Tryz.func85 rfl rfl ?_
 repeat (first | (with_reducible first | apply CW.seq | apply aN | apply CW.block) | refine wR rfl ?_)
 refine CW.loop (σ := Nat × Own × List Str) (fun q => [(0, .slc 1 (strs l) ol), (3, .slc 1 (strs q.2.2) q.2.1), (4, .int .i64 (q.1 : Int))])
  (fun q => rowOf s 9 1 q.2.2.length q.2.1) (fun q => q.1 ≤ l.length ∧ OwnOk s 0 q.2.1 ∧ q.2.2.length ≤ q.1 ∧ (l.drop q.1).foldl insSo q.2.2 = sortS l) (fun q => l.length - q.1) (0, .nil, []) ⟨by simp, trivial, by simp, rfl⟩ ?_ sSub ?_
 ·exact ⟨⟨_, rfl, aRfl⟩, ⟨_, rfl, AVle.nil (by simp)⟩, ⟨_, rfl, aRfl⟩, trivial⟩
 rintro ⟨i, ow, out⟩ ⟨hi, hok, hol, hI⟩
 simp only at hi hok hol hI
 repeat (first | (with_reducible first | apply CW.seq | apply aN) | refine wR rfl ?_)
 refine CW.cond rfl (fun h => ?_) (fun h => ?_)
 ·have hlt : i < l.length := by simpa using h
  obtain ⟨x, hx⟩ : ∃ x, l[i]? = some x := ⟨_, List.getElem?_eq_getElem hlt⟩
  have hx' : (strs l)[i]? = some (.str x) := by rw [strs_get, hx]; rfl
  rw [drop_cons hx, List.foldl_cons] at hI
  have hcl := cutS_le out x
  refine CW.skip (aN (CW.seq (CW.block ?_)))
  refine CW.seqCut [(0, .slc 1 (strs l) ol), (3, .slc 1 (strs out) ow), (4, .int .i64 (i : Int)), (5, .int .i64 0)] (rowOf s 9 1 out.length ow) ?_ ?_
  ·repeat (first | refine wR rfl ?_)
   exact ⟨rfl, (wE rfl), sSub⟩
  refine CW.seqCut [(0, .slc 1 (strs l) ol), (3, .slc 1 (strs out) ow), (4, .int .i64 (i : Int)), (5, .int .i64 (cutS out x : Int))] (rowOf s 9 1 out.length ow) ?_ ?_
  ·repeat (first | with_reducible apply CW.block)
   refine CW.loop (σ := Nat) (fun a => [(0, .slc 1 (strs l) ol), (3, .slc 1 (strs out) ow), (4, .int .i64 (i : Int)), (5, .int .i64 (a : Int))]) (fun _ => rowOf s 9 1 out.length ow)
    (fun a => a ≤ out.length ∧ a + cutS (out.drop a) x = cutS out x) (fun a => out.length - a) 0 ⟨by simp, by simp⟩ (wE rfl) sSub ?_
   rintro a ⟨ha, hA⟩
   repeat (first | with_reducible apply CW.seq)
   refine CW.drw tO mixed rfl (RD.runs (is := [0, 1, 2, 3, 4]) rfl ?_)
   by_cases hal : a < out.length
   ·obtain ⟨y, hy⟩ : ∃ y, out[a]? = some y := ⟨_, List.getElem?_eq_getElem hal⟩
    have hy' : (strs out)[a]? = some (.str y) := by rw [strs_get, hy]; rfl
    refine RD.knowT 16 (b := decide ((a : Int) < ((strs out).length : Int))) rfl (by simp; omega) ?_
    refine RD.run rfl ?_
    refine RD.idx 7 a rfl rfl rfl rfl rfl rfl rfl rfl rfl rfl rfl rfl rfl hy' rfl ?_
    refine RD.idx 11 i rfl rfl rfl rfl rfl rfl rfl rfl rfl rfl rfl rfl rfl hx' rfl ?_
    refine RD.run rfl (RD.done rfl ?_)
    have hd : cutS (out.drop a) x = if Op.bytesLess y x then cutS (out.drop (a + 1)) x + 1 else 0 := by
     rw [drop_cons hy]; unfold cutS; rw [List.takeWhile_cons]
     cases Op.bytesLess y x <;> simp
    cases hc : Op.bytesLess y x with
    | true =>
     rw [hc, if_pos rfl] at hd
     repeat (first | (with_reducible first | apply aN | apply iN | apply CW.skip | apply CW.block) | refine wR rfl ?_ | refine CW.condT rfl ?_)
     exact ⟨a + 1, ⟨hal, by omega⟩, (by repeat (first | exact trivial | refine ⟨⟨_, rfl, aRfl⟩, ?_⟩ | refine ⟨⟨_, rfl, AVle.of_eq (by (rw [i64_succ (by omega)]))⟩, ?_⟩)), sSub, by omega⟩
    | false =>
     rw [hc, if_neg (by simp)] at hd
     have hac : cutS out x = a := by omega
     rw [hac]
     repeat (first | (with_reducible first | apply aN | apply aX | apply iH | apply CW.exit) | refine CW.condF rfl ?_)
     exact ⟨rfl, (wE rfl), sSub⟩
   ·have hac : cutS out x = a := by
     rw [List.drop_eq_nil_of_le (by omega)] at hA
     have : cutS [] x = 0 := rfl
     omega
    rw [hac]
    refine RD.knowF 16 (b := decide ((a : Int) < ((strs out).length : Int))) rfl (by simp; omega) ?_
    refine RD.run rfl (RD.done rfl ?_)
    repeat (first | (with_reducible first | apply aN | apply aX | apply iH | apply CW.exit) | refine CW.condF rfl ?_)
    exact ⟨rfl, (wE rfl), sSub⟩
  generalize hct : cutS out x = a at hcl ⊢
  have hir : ∀ y, out[a]? = some y → (y == x) = false → insSo out x = out.take a ++ [x] ++ out.drop a := fun y hy hyx => by
   unfold insSo; rw [hct, if_pos]
   rw [hy]; simp; exact .inr (by simpa using hyx)
  repeat (first | with_reducible apply CW.seq)
  refine CW.drw tO mixed rfl (RD.runs (is := [0, 1, 2, 3, 4]) rfl ?_)
  by_cases hal : a < out.length
  ·obtain ⟨y, hy⟩ : ∃ y, out[a]? = some y := ⟨_, List.getElem?_eq_getElem hal⟩
   have hy' : (strs out)[a]? = some (.str y) := by rw [strs_get, hy]; rfl
   refine RD.knowF 33 (b := ((a : Int) == ((strs out).length : Int))) rfl (by simp; omega) ?_
   refine RD.run rfl ?_
   refine RD.idx 7 a rfl rfl rfl rfl rfl rfl rfl rfl rfl rfl rfl rfl rfl hy' rfl ?_
   refine RD.idx 11 i rfl rfl rfl rfl rfl rfl rfl rfl rfl rfl rfl rfl rfl hx' rfl ?_
   refine RD.run rfl (RD.done rfl ?_)
   cases hyx : y == x with
   | true =>
    have hr : insSo out x = out := by
     unfold insSo; rw [hct, if_neg]
     rw [hy]; simp; exact ⟨by omega, by simpa using hyx⟩
    rw [hr] at hI
    repeat (first | (with_reducible first | apply aN | apply iN | apply CW.skip) | refine wR rfl ?_ | refine CW.condF rfl ?_)
    exact ⟨(i + 1, ow, out), ⟨hlt, hok, by show out.length ≤ i + 1; omega, hI⟩, (by repeat (first | exact trivial | refine ⟨⟨_, rfl, aRfl⟩, ?_⟩ | refine ⟨⟨_, rfl, AVle.of_eq (by (show AV.int .i64 (IntKind.wrap .i64 ((i : Int) + 1)) = .int .i64 ((i + 1 : Nat) : Int); rw [i64_succ (by omega)]))⟩, ?_⟩)), sSub, by show l.length - (i + 1) < l.length - i; omega⟩
   | false =>
    have hr := hir y hy hyx
    repeat (first | with_reducible apply aN | refine CW.condT rfl ?_)
    refine CW.sub [(0, .slc 1 (strs l) ol), (3, .slc 1 (strs out) .fro), (4, .int .i64 (i : Int)), (5, .int .i64 (a : Int))] (by exact ⟨⟨_, rfl, aRfl⟩, ⟨_, rfl, AVle.fro⟩, ⟨_, rfl, aRfl⟩, ⟨_, rfl, aRfl⟩, trivial⟩) ?_
    refine CW.drop s (rowOf_sub hok) ?_
    have h1 : (out.take a).length = a := by rw [List.length_take]; omega
    have h2 : (out.drop a).length = out.length - a := List.length_drop
    repeat (first | refine CW.drw tO mixed rfl (RD.run rfl ?_))
    refine RD.slice 2 0 a rfl rfl rfl rfl rfl rfl rfl rfl rfl rfl (.inr rfl) (.inl ⟨rfl, rfl⟩) (.inr ⟨_, _, rfl, rfl⟩) (.inl ⟨rfl, rfl⟩) (by omega) (by rw [strs_length]; omega) ?_
    refine RD.slice 12 a out.length rfl rfl rfl rfl rfl rfl rfl rfl rfl rfl (.inr rfl) (.inr ⟨_, _, rfl, rfl⟩) (.inl ⟨rfl, rfl, by simp⟩) (.inl ⟨rfl, rfl⟩) (by omega) (by rw [strs_length]; omega) ?_
    refine RD.idx 6 i rfl rfl rfl rfl rfl rfl rfl rfl rfl rfl rfl rfl rfl hx' rfl ?_
    refine RD.run rfl ?_
    have e1 : ((strs out).take a).drop 0 = strs (out.take a) := by simp [strs, List.map_take]
    have e2 : ((strs out).take out.length).drop a = strs (out.drop a) := by rw [List.take_of_length_le (by simp)]; simp [strs, List.map_drop]
    rw [e1, e2]
    refine RD.appendN (i := 3) tO rfl rfl rfl rfl rfl rfl rfl rfl rfl (by intro k h; cases h) rfl rfl rfl (.inr rfl) rfl (strs_elem _) (n := a) (by rw [strs_length, h1]) (by show a * 16 ≤ _; omega) (by omega) (fun o1 hq1 => ?_)
    refine RD.run rfl ?_
    refine RD.append1 (i := 9) tO rfl rfl rfl rfl rfl rfl rfl rfl rfl (by intro k h; cases h) rfl rfl rfl rfl rfl rfl rfl (n := a) (by rw [strs_length, h1]) (by show (a + 1) * 16 ≤ _; omega) (by omega) (s := s) rfl hq1 (fun b2 hb2 => ?_)
    refine RD.run rfl ?_
    refine RD.appendR (i := 13) tO rfl rfl rfl rfl rfl rfl rfl rfl rfl (by intro k h; cases h) rfl rfl rfl rfl (.inr rfl) rfl (strs_elem _) (n := a + 1) ?_ ?_ (by rw [List.length_append, strs_length, h1]; rfl) rfl hb2 (fun o3 hq3 => ?_)
    ·simp only [List.length_append, strs_length, List.length_cons, List.length_nil, h1, h2]; show _ * 16 ≤ _; omega
    ·simp only [List.length_append, strs_length, List.length_cons, List.length_nil, h1, h2]; omega
    refine RD.run rfl (RD.done rfl ?_)
    have hrl : (insSo out x).length = out.length + 1 := by rw [hr]; simp only [List.length_append, h1, h2, List.length_cons, List.length_nil]; omega
    have hil := insSo_len out x
    repeat (first | (with_reducible first | apply aN | apply iN) | refine wR rfl ?_)
    refine ⟨(i + 1, o3, insSo out x), ⟨hlt, OwnOk.sub' hq3, by show (insSo out x).length ≤ i + 1; omega, hI⟩, (by repeat (first | exact trivial | refine ⟨⟨_, rfl, aRfl⟩, ?_⟩ | refine ⟨⟨_, rfl, AVle.of_eq (by (first | (show AV.int .i64 (IntKind.wrap .i64 ((i : Int) + 1)) = .int .i64 ((i + 1 : Nat) : Int); rw [i64_succ (by omega)]) | (show AV.slc 1 _ _ = AV.slc 1 (strs (insSo out x)) o3; rw [hr]; simp [strs])))⟩, ?_⟩)), ?_, by show l.length - (i + 1) < l.length - i; omega⟩
    show Store.Sub (rowOf s _ 1 (insSo out x).length o3) _
    rw [hrl]
    simp only [List.length_append, strs_length, List.length_cons, List.length_nil, h1, h2]
    rw [show a + (0 + 1) + (out.length - a) = out.length + 1 by omega]
    exact sSub
  ·have hae : a = out.length := by omega
   have hr : insSo out x = out.take a ++ [x] ++ out.drop a := by unfold insSo; rw [hct, if_pos (by simp [hae])]
   refine RD.knowT 33 (b := ((a : Int) == ((strs out).length : Int))) rfl (by simp; omega) ?_
   refine RD.run rfl (RD.done rfl ?_)
   repeat (first | with_reducible apply aN | refine CW.condT rfl ?_)
   refine CW.sub [(0, .slc 1 (strs l) ol), (3, .slc 1 (strs out) .fro), (4, .int .i64 (i : Int)), (5, .int .i64 (a : Int))] (by exact ⟨⟨_, rfl, aRfl⟩, ⟨_, rfl, AVle.fro⟩, ⟨_, rfl, aRfl⟩, ⟨_, rfl, aRfl⟩, trivial⟩) ?_
   refine CW.drop s (rowOf_sub hok) ?_
   have h1 : (out.take a).length = a := by rw [List.length_take]; omega
   have h2 : (out.drop a).length = out.length - a := List.length_drop
   repeat (first | refine CW.drw tO mixed rfl (RD.run rfl ?_))
   refine RD.slice 2 0 a rfl rfl rfl rfl rfl rfl rfl rfl rfl rfl (.inr rfl) (.inl ⟨rfl, rfl⟩) (.inr ⟨_, _, rfl, rfl⟩) (.inl ⟨rfl, rfl⟩) (by omega) (by rw [strs_length]; omega) ?_
   refine RD.slice 12 a out.length rfl rfl rfl rfl rfl rfl rfl rfl rfl rfl (.inr rfl) (.inr ⟨_, _, rfl, rfl⟩) (.inl ⟨rfl, rfl, by simp⟩) (.inl ⟨rfl, rfl⟩) (by omega) (by rw [strs_length]; omega) ?_
   refine RD.idx 6 i rfl rfl rfl rfl rfl rfl rfl rfl rfl rfl rfl rfl rfl hx' rfl ?_
   refine RD.run rfl ?_
   have e1 : ((strs out).take a).drop 0 = strs (out.take a) := by simp [strs, List.map_take]
   have e2 : ((strs out).take out.length).drop a = strs (out.drop a) := by rw [List.take_of_length_le (by simp)]; simp [strs, List.map_drop]
   rw [e1, e2]
   refine RD.appendN (i := 3) tO rfl rfl rfl rfl rfl rfl rfl rfl rfl (by intro k h; cases h) rfl rfl rfl (.inr rfl) rfl (strs_elem _) (n := a) (by rw [strs_length, h1]) (by show a * 16 ≤ _; omega) (by omega) (fun o1 hq1 => ?_)
   refine RD.run rfl ?_
   refine RD.append1 (i := 9) tO rfl rfl rfl rfl rfl rfl rfl rfl rfl (by intro k h; cases h) rfl rfl rfl rfl rfl rfl rfl (n := a) (by rw [strs_length, h1]) (by show (a + 1) * 16 ≤ _; omega) (by omega) (s := s) rfl hq1 (fun b2 hb2 => ?_)
   refine RD.run rfl ?_
   refine RD.appendR (i := 13) tO rfl rfl rfl rfl rfl rfl rfl rfl rfl (by intro k h; cases h) rfl rfl rfl rfl (.inr rfl) rfl (strs_elem _) (n := a + 1) ?_ ?_ (by rw [List.length_append, strs_length, h1]; rfl) rfl hb2 (fun o3 hq3 => ?_)
   ·simp only [List.length_append, strs_length, List.length_cons, List.length_nil, h1, h2]; show _ * 16 ≤ _; omega
   ·simp only [List.length_append, strs_length, List.length_cons, List.length_nil, h1, h2]; omega
   refine RD.run rfl (RD.done rfl ?_)
   have hrl : (insSo out x).length = out.length + 1 := by rw [hr]; simp only [List.length_append, h1, h2, List.length_cons, List.length_nil]; omega
   have hil := insSo_len out x
   repeat (first | (with_reducible first | apply aN | apply iN) | refine wR rfl ?_)
   refine ⟨(i + 1, o3, insSo out x), ⟨hlt, OwnOk.sub' hq3, by show (insSo out x).length ≤ i + 1; omega, hI⟩, (by repeat (first | exact trivial | refine ⟨⟨_, rfl, aRfl⟩, ?_⟩ | refine ⟨⟨_, rfl, AVle.of_eq (by (first | (show AV.int .i64 (IntKind.wrap .i64 ((i : Int) + 1)) = .int .i64 ((i + 1 : Nat) : Int); rw [i64_succ (by omega)]) | (show AV.slc 1 _ _ = AV.slc 1 (strs (insSo out x)) o3; rw [hr]; simp [strs])))⟩, ?_⟩)), ?_, by show l.length - (i + 1) < l.length - i; omega⟩
   show Store.Sub (rowOf s _ 1 (insSo out x).length o3) _
   rw [hrl]
   simp only [List.length_append, strs_length, List.length_cons, List.length_nil, h1, h2]
   rw [show a + (0 + 1) + (out.length - a) = out.length + 1 by omega]
   exact sSub
 ·have hge : l.length ≤ i := by simpa using h
  rw [List.drop_eq_nil_of_le hge, List.foldl_nil] at hI
  repeat (first | (with_reducible first | apply CW.seq | apply aN | apply aX | apply iH | apply CW.ret | apply CW.exit) | refine wR rfl ?_)
  exact ⟨_, _, s, rfl, AVle.fro, rowOf_sub hok, by rw [hI], rfl⟩

set_option maxRecDepth 10000 in
theorem refFreeOf_spec (e : FExp) (s : Store) (hbig : e.size < big) :
  ACalls Tryz.prog 46 [e.av] s (fun o s' => o = .ret (.slc 1 (strs (sortS (e.looseR []))) .fro) ∧ s' = s) := by
 have hb : big = 1099511627776 := rfl
 have hl := looseR_len e []
 refine ACalls.of_CW tO call46 Tryz.func46 rfl rfl ?_
 repeat (first | (with_reducible first | apply CW.seq | apply aN) | refine wR rfl ?_ | refine CW.reg ?_ | refine wS rfl ?_)
 refine RL.callP rfl rfl rfl rfl rfl (ACalls.weakArgs (.cons aRfl (.one (AVle.nil (by simp)))) (refLoose_spec _ e [] .nil s (Nat.le_refl _) (by simpa using hbig))) ?_
 skip
 refine RL.callP rfl rfl rfl rfl rfl (refSort_spec _ _ s (by omega)) ?_
 repeat (first | (with_reducible first | apply aN | apply CW.ret) | refine RL.nil ?_ | refine wS rfl ?_)
 exact ⟨_, _, s, rfl, aRfl, sSub, rfl, rfl⟩
end Go.Proofs.YtaafacnoddjhgaaGreat

/- Plain laws: sorted strings; expressions that are neat. -/
namespace Go.Proofs.YtaafacnoddjhgaaGreat
open Go.AE

theorem mem_insSo {out : List Str} {x z : Str} : z ∈ insSo out x ↔ z ∈ out ∨ z = x := by
 unfold insSo
 split
 ·rw [List.mem_append, List.mem_append, List.mem_singleton]
  constructor
  ·rintro ((h | h) | h)
   ·exact .inl (List.mem_of_mem_take h)
   ·exact .inr h
   ·exact .inl (List.mem_of_mem_drop h)
  ·rintro (h | h)
   ·rw [← List.take_append_drop (cutS out x) out, List.mem_append] at h
    rcases h with h | h
    ·exact .inl (.inl h)
    ·exact .inr h
   ·exact .inl (.inr h)
 ·rename_i hc
  simp only [Bool.or_eq_true, Bool.not_eq_true', not_or, Bool.not_eq_false, beq_iff_eq] at hc
  exact ⟨.inl, fun h => by
   rcases h with h | h
   ·exact h
   ·rw [h]; exact List.mem_of_getElem? hc.2⟩
theorem mem_foldSo {z : Str} : ∀ {l out : List Str}, z ∈ l.foldl insSo out ↔ z ∈ out ∨ z ∈ l
 | [], out => by simp
 | x :: l, out => by rw [List.foldl_cons, mem_foldSo, mem_insSo, List.mem_cons, or_assoc]
theorem mem_sortS {l : List Str} {z : Str} : z ∈ sortS l ↔ z ∈ l := by unfold sortS; rw [mem_foldSo]; simp

/-! ### The state of it -/
theorem neat_name {e : FExp} (h : e.neat = true) (h3 : (e.op == 3) = true) : e = nameE e.text := by
 obtain ⟨o, n, t, ks⟩ := e
 rw [FExp.neat, Bool.and_eq_true] at h
 have h3' : o = 3 := by simpa [FExp.op] using h3
 subst h3'
 have := h.1
 simp [neat1, FExp.op, FExp.n, FExp.kids] at this
 rw [this.1, this.2]; rfl
theorem neat_kid {e k : FExp} (h : e.neat = true) (hk : k ∈ e.kids) : k.neat = true := by
 obtain ⟨o, n, t, ks⟩ := e
 rw [FExp.neat, Bool.and_eq_true] at h
 exact neats_mem h.2 hk
theorem neat_let {e : FExp} (h : e.neat = true) (h9 : (e.op == 9) = true) : e.kids.length = 2 := by
 obtain ⟨o, n, t, ks⟩ := e
 rw [FExp.neat, Bool.and_eq_true] at h
 have h9' : o = 9 := by simpa [FExp.op] using h9
 subst h9'
 have := h.1
 simpa [neat1, FExp.op, FExp.n, FExp.kids] using this

end Go.Proofs.YtaafacnoddjhgaaGreat

/- Contracts of the reference: what expressions speak of; which functions there are. -/
namespace Go.Proofs.YtaafacnoddjhgaaGreat
open Go.AE

def saysB (e : FExp) (free slots own : List Str) (next : Bool) : Bool := e.allE.all (spokenE own slots next) && (sortS (e.looseR [])).all free.contains

theorem sortS_length (l : List Str) : (sortS l).length ≤ l.length := by
 have : ∀ (l out : List Str), (l.foldl insSo out).length ≤ out.length + l.length := by
  intro l
  induction l with
  | nil => intro out; simp
  | cons z l ih => intro out; have h1 := ih (insSo out z); have h2 := insSo_len out z; simp only [List.foldl_cons, List.length_cons]; omega
 have := this l []
 unfold sortS
 simpa using this

set_option maxRecDepth 10000 in
set_option maxHeartbeats 2000000 in
theorem refSays_spec (e : FExp) (free slots own : List Str) (o1 o2 o3 : Own) (next : Bool) (s : Store) (he : e.size < big) (hf : free.length < 9223372036854775807) (hs : slots.length < 9223372036854775807) (ho : own.length < 9223372036854775807) :
  ACalls Tryz.prog 57 [e.av, .slc 1 (strs free) o1, .slc 1 (strs slots) o2, .slc 1 (strs own) o3, .bool next] s (fun o s' => o = .ret (.bool (saysB e free slots own next)) ∧ s' = s) := by
 have hb : big = 1099511627776 := rfl
 have hal := allE_length e
 have hfl := sortS_length (e.looseR [])
 have hll := looseR_len e []
 refine ACalls.of_CW tO call57 Tryz.func57 rfl rfl ?_
 refine CW.seqCut [(1, .slc 1 (strs free) o1), (2, .slc 1 (strs slots) o2), (3, .slc 1 (strs own) o3), (4, .bool next), (5, .fptr e.cells 0)] s ?_ ?_
 ·repeat (first | refine wR rfl ?_)
  exact ⟨rfl, (wE rfl), sSub⟩
 refine CW.seqCut [(1, .slc 1 (strs free) o1), (2, .slc 1 (strs slots) o2), (3, .slc 1 (strs own) o3), (4, .bool next), (5, .fptr e.cells 0), (11, .slc 4 (e.allE.map FExp.av) .fro)] s ?_ ?_
 ·repeat (first | refine CW.reg ?_ | refine wS rfl ?_)
  refine RL.callP rfl rfl rfl rfl rfl (refAll_spec _ e s (Nat.le_refl _) (Nat.le_of_lt he)) ?_
  repeat (first | refine RL.nil ?_ | refine wS rfl ?_)
  exact ⟨rfl, (wE rfl), sSub⟩
 have hsb : saysB e free slots own next = (e.allE.all (spokenE own slots next) && (sortS (e.looseR [])).all free.contains) := rfl
 generalize e.allE = l at hal hsb ⊢
 repeat (first | (with_reducible first | apply CW.seq | apply aN | apply CW.block) | refine wR rfl ?_)
 refine CW.loop (σ := Nat) (fun j => [(1, .slc 1 (strs free) o1), (2, .slc 1 (strs slots) o2), (3, .slc 1 (strs own) o3), (4, .bool next), (5, .fptr e.cells 0), (11, .slc 4 (l.map FExp.av) .fro), (12, .int .i64 (j : Int))]) (fun _ => s)
  (fun j => j ≤ l.length ∧ l.all (spokenE own slots next) = (l.drop j).all (spokenE own slots next)) (fun j => l.length - j) 0 ⟨by omega, rfl⟩ (wE rfl) sSub ?_
 rintro j ⟨hj, hI⟩
 repeat (first | (with_reducible first | apply CW.seq | apply aN) | refine wR rfl ?_)
 refine CW.cond rfl (fun h => ?_) (fun h => ?_)
 ·have hlt : j < l.length := by simpa using h
  obtain ⟨g, hg⟩ : ∃ g, l[j]? = some g := ⟨_, List.getElem?_eq_getElem hlt⟩
  have hg' : (l.map FExp.av)[j]? = some (.agg g.cells) := by rw [List.getElem?_map, hg]; rfl
  have hgood : spokenE own slots next g = true → l.all (spokenE own slots next) = (l.drop (j + 1)).all (spokenE own slots next) := all_take hg hI
  have hbad : spokenE own slots next g = false → saysB e free slots own next = false := fun hc => by rw [hsb, all_miss hg hc]; rfl
  clear hsb hI
  obtain ⟨o, n, t, ks⟩ := g
  have hse : spokenE own slots next (.mk o n t ks) = if o == 4 || o == 7 then slots.contains t else if o == 6 || o == 8 then own.contains t else if o == 18 then next else true := rfl
  rw [hse] at hgood hbad
  by_cases q4 : o = 4
  ·subst q4
   have hcall := refHas_spec slots o2 t s hs
   replace hgood : slots.contains t = true → _ := hgood
   replace hbad : slots.contains t = false → _ := hbad
   cases hc : slots.contains t with
   | true =>
    rw [hc] at hcall hgood
    repeat (first | (with_reducible first | apply CW.seq | apply aN | apply CW.skip | apply CW.block) | refine wR rfl ?_ | refine CW.reg ?_ | refine RL.nil ?_ | refine CW.condT rfl ?_ | refine wS rfl ?_ | refine RL.idx tO _ rfl rfl rfl rfl rfl rfl rfl rfl rfl rfl rfl (by assumption) rfl ?_)
    refine RL.callP rfl rfl rfl rfl rfl hcall ?_
    repeat (first | (with_reducible first | apply aN | apply iN | apply CW.skip) | refine wR rfl ?_ | refine RL.nil ?_ | refine CW.condF rfl ?_ | refine wS rfl ?_)
    exact ⟨j + 1, ⟨hlt, hgood rfl⟩, (by repeat (first | exact trivial | refine ⟨⟨_, rfl, aRfl⟩, ?_⟩ | refine ⟨⟨_, rfl, AVle.of_eq (by (rw [i64_succ (by omega)]))⟩, ?_⟩)), sSub, by omega⟩
   | false =>
    rw [hc] at hcall hbad
    repeat (first | (with_reducible first | apply CW.seq | apply aN | apply CW.skip | apply CW.block) | refine wR rfl ?_ | refine CW.reg ?_ | refine RL.nil ?_ | refine CW.condT rfl ?_ | refine wS rfl ?_ | refine RL.idx tO _ rfl rfl rfl rfl rfl rfl rfl rfl rfl rfl rfl (by assumption) rfl ?_)
    refine RL.callP rfl rfl rfl rfl rfl hcall ?_
    rw [hbad rfl]
    repeat (first | (with_reducible first | apply CW.seq | apply aN | apply aR | apply iR | apply CW.ret) | refine wR rfl ?_ | refine RL.nil ?_ | refine CW.condT rfl ?_ | refine wS rfl ?_)
    exact ⟨_, _, _, rfl, aRfl, sSub, rfl, rfl⟩
  by_cases q7 : o = 7
  ·subst q7
   have hcall := refHas_spec slots o2 t s hs
   replace hgood : slots.contains t = true → _ := hgood
   replace hbad : slots.contains t = false → _ := hbad
   cases hc : slots.contains t with
   | true =>
    rw [hc] at hcall hgood
    repeat (first | (with_reducible first | apply CW.seq | apply aN | apply CW.skip | apply CW.block) | refine wR rfl ?_ | refine CW.reg ?_ | refine RL.nil ?_ | refine CW.condT rfl ?_ | refine CW.condF rfl ?_ | refine wS rfl ?_ | refine RL.idx tO _ rfl rfl rfl rfl rfl rfl rfl rfl rfl rfl rfl (by assumption) rfl ?_)
    refine RL.callP rfl rfl rfl rfl rfl hcall ?_
    repeat (first | (with_reducible first | apply aN | apply iN | apply CW.skip) | refine wR rfl ?_ | refine RL.nil ?_ | refine CW.condF rfl ?_ | refine wS rfl ?_)
    exact ⟨j + 1, ⟨hlt, hgood rfl⟩, (by repeat (first | exact trivial | refine ⟨⟨_, rfl, aRfl⟩, ?_⟩ | refine ⟨⟨_, rfl, AVle.of_eq (by (rw [i64_succ (by omega)]))⟩, ?_⟩)), sSub, by omega⟩
   | false =>
    rw [hc] at hcall hbad
    repeat (first | (with_reducible first | apply CW.seq | apply aN | apply CW.skip | apply CW.block) | refine wR rfl ?_ | refine CW.reg ?_ | refine RL.nil ?_ | refine CW.condT rfl ?_ | refine CW.condF rfl ?_ | refine wS rfl ?_ | refine RL.idx tO _ rfl rfl rfl rfl rfl rfl rfl rfl rfl rfl rfl (by assumption) rfl ?_)
    refine RL.callP rfl rfl rfl rfl rfl hcall ?_
    rw [hbad rfl]
    repeat (first | (with_reducible first | apply CW.seq | apply aN | apply aR | apply iR | apply CW.ret) | refine wR rfl ?_ | refine RL.nil ?_ | refine CW.condT rfl ?_ | refine wS rfl ?_)
    exact ⟨_, _, _, rfl, aRfl, sSub, rfl, rfl⟩
  by_cases q6 : o = 6
  ·subst q6
   have hcall := refHas_spec own o3 t s ho
   replace hgood : own.contains t = true → _ := hgood
   replace hbad : own.contains t = false → _ := hbad
   cases hc : own.contains t with
   | true =>
    rw [hc] at hcall hgood
    repeat (first | (with_reducible first | apply CW.seq | apply aN | apply CW.skip | apply CW.block) | refine wR rfl ?_ | refine CW.reg ?_ | refine RL.nil ?_ | refine CW.condT rfl ?_ | refine CW.condF rfl ?_ | refine wS rfl ?_ | refine RL.idx tO _ rfl rfl rfl rfl rfl rfl rfl rfl rfl rfl rfl (by assumption) rfl ?_)
    refine RL.callP rfl rfl rfl rfl rfl hcall ?_
    repeat (first | (with_reducible first | apply aN | apply iN | apply CW.skip) | refine wR rfl ?_ | refine RL.nil ?_ | refine CW.condF rfl ?_ | refine wS rfl ?_)
    exact ⟨j + 1, ⟨hlt, hgood rfl⟩, (by repeat (first | exact trivial | refine ⟨⟨_, rfl, aRfl⟩, ?_⟩ | refine ⟨⟨_, rfl, AVle.of_eq (by (rw [i64_succ (by omega)]))⟩, ?_⟩)), sSub, by omega⟩
   | false =>
    rw [hc] at hcall hbad
    repeat (first | (with_reducible first | apply CW.seq | apply aN | apply CW.skip | apply CW.block) | refine wR rfl ?_ | refine CW.reg ?_ | refine RL.nil ?_ | refine CW.condT rfl ?_ | refine CW.condF rfl ?_ | refine wS rfl ?_ | refine RL.idx tO _ rfl rfl rfl rfl rfl rfl rfl rfl rfl rfl rfl (by assumption) rfl ?_)
    refine RL.callP rfl rfl rfl rfl rfl hcall ?_
    rw [hbad rfl]
    repeat (first | (with_reducible first | apply CW.seq | apply aN | apply aR | apply iR | apply CW.ret) | refine wR rfl ?_ | refine RL.nil ?_ | refine CW.condT rfl ?_ | refine wS rfl ?_)
    exact ⟨_, _, _, rfl, aRfl, sSub, rfl, rfl⟩
  by_cases q8 : o = 8
  ·subst q8
   have hcall := refHas_spec own o3 t s ho
   replace hgood : own.contains t = true → _ := hgood
   replace hbad : own.contains t = false → _ := hbad
   cases hc : own.contains t with
   | true =>
    rw [hc] at hcall hgood
    repeat (first | (with_reducible first | apply CW.seq | apply aN | apply CW.skip | apply CW.block) | refine wR rfl ?_ | refine CW.reg ?_ | refine RL.nil ?_ | refine CW.condT rfl ?_ | refine CW.condF rfl ?_ | refine wS rfl ?_ | refine RL.idx tO _ rfl rfl rfl rfl rfl rfl rfl rfl rfl rfl rfl (by assumption) rfl ?_)
    refine RL.callP rfl rfl rfl rfl rfl hcall ?_
    repeat (first | (with_reducible first | apply aN | apply iN | apply CW.skip) | refine wR rfl ?_ | refine RL.nil ?_ | refine CW.condF rfl ?_ | refine wS rfl ?_)
    exact ⟨j + 1, ⟨hlt, hgood rfl⟩, (by repeat (first | exact trivial | refine ⟨⟨_, rfl, aRfl⟩, ?_⟩ | refine ⟨⟨_, rfl, AVle.of_eq (by (rw [i64_succ (by omega)]))⟩, ?_⟩)), sSub, by omega⟩
   | false =>
    rw [hc] at hcall hbad
    repeat (first | (with_reducible first | apply CW.seq | apply aN | apply CW.skip | apply CW.block) | refine wR rfl ?_ | refine CW.reg ?_ | refine RL.nil ?_ | refine CW.condT rfl ?_ | refine CW.condF rfl ?_ | refine wS rfl ?_ | refine RL.idx tO _ rfl rfl rfl rfl rfl rfl rfl rfl rfl rfl rfl (by assumption) rfl ?_)
    refine RL.callP rfl rfl rfl rfl rfl hcall ?_
    rw [hbad rfl]
    repeat (first | (with_reducible first | apply CW.seq | apply aN | apply aR | apply iR | apply CW.ret) | refine wR rfl ?_ | refine RL.nil ?_ | refine CW.condT rfl ?_ | refine wS rfl ?_)
    exact ⟨_, _, _, rfl, aRfl, sSub, rfl, rfl⟩
  by_cases q18 : o = 18
  ·subst q18
   cases next with
   | true =>
    repeat (first | (with_reducible first | apply CW.seq | apply aN | apply iN | apply CW.skip | apply CW.block) | refine wR rfl ?_ | refine CW.reg ?_ | refine RL.nil ?_ | refine CW.condT rfl ?_ | refine CW.condF rfl ?_ | refine wS rfl ?_ | refine RL.idx tO _ rfl rfl rfl rfl rfl rfl rfl rfl rfl rfl rfl (by assumption) rfl ?_)
    exact ⟨j + 1, ⟨hlt, hgood rfl⟩, (by repeat (first | exact trivial | refine ⟨⟨_, rfl, aRfl⟩, ?_⟩ | refine ⟨⟨_, rfl, AVle.of_eq (by (rw [i64_succ (by omega)]))⟩, ?_⟩)), sSub, by omega⟩
   | false =>
    rw [hbad rfl]
    repeat (first | (with_reducible first | apply CW.seq | apply aN | apply aR | apply iR | apply CW.ret | apply CW.skip | apply CW.block) | refine wR rfl ?_ | refine CW.reg ?_ | refine RL.nil ?_ | refine CW.condT rfl ?_ | refine CW.condF rfl ?_ | refine wS rfl ?_ | refine RL.idx tO _ rfl rfl rfl rfl rfl rfl rfl rfl rfl rfl rfl (by assumption) rfl ?_)
    exact ⟨_, _, _, rfl, aRfl, sSub, rfl, rfl⟩
  have hn : (if o == 4 || o == 7 then slots.contains t else if o == 6 || o == 8 then own.contains t else if o == 18 then next else true) = true := by simp [q4, q7, q6, q8, q18]
  have hgood' := hgood hn
  repeat (first | (with_reducible first | apply CW.seq | apply aN | apply CW.skip | apply CW.block) | refine wR rfl ?_ | refine CW.reg ?_ | refine RL.nil ?_ | refine wS rfl ?_ | refine RL.idx tO _ rfl rfl rfl rfl rfl rfl rfl rfl rfl rfl rfl (by assumption) rfl ?_)
  refine CW.cond rfl (fun h => absurd h (by simp only [FExp.op, beq_iff_eq]; omega)) (fun _ => ?_)
  repeat (first | with_reducible apply aN | refine wR rfl ?_)
  refine CW.cond rfl (fun h => absurd h (by simp only [FExp.op, beq_iff_eq]; omega)) (fun _ => ?_)
  repeat (first | (with_reducible first | apply CW.seq | apply aN) | refine wR rfl ?_)
  refine CW.cond rfl (fun h => absurd h (by simp only [FExp.op, beq_iff_eq]; omega)) (fun _ => ?_)
  repeat (first | with_reducible apply aN | refine wR rfl ?_)
  refine CW.cond rfl (fun h => absurd h (by simp only [FExp.op, beq_iff_eq]; omega)) (fun _ => ?_)
  repeat (first | (with_reducible first | apply CW.seq | apply aN) | refine wR rfl ?_)
  refine CW.cond rfl (fun h => absurd h (by simp only [FExp.op, beq_iff_eq]; omega)) (fun _ => ?_)
  repeat (first | (with_reducible first | apply aN | apply iN | apply CW.skip) | refine wR rfl ?_)
  exact ⟨j + 1, ⟨hlt, hgood'⟩, (by repeat (first | exact trivial | refine ⟨⟨_, rfl, aRfl⟩, ?_⟩ | refine ⟨⟨_, rfl, AVle.of_eq (by (rw [i64_succ (by omega)]))⟩, ?_⟩)), sSub, by omega⟩
 ·have hge : l.length ≤ j := by simpa using h
  rw [List.drop_eq_nil_of_le hge, List.all_nil] at hI
  rw [hI, Bool.true_and] at hsb
  repeat (first | (with_reducible first | apply CW.seq | apply aN | apply aX | apply iH | apply CW.exit) | refine CW.reg ?_ | refine wS rfl ?_)
  refine RL.callP rfl rfl rfl rfl rfl (refFreeOf_spec e s he) ?_
  generalize sortS (e.looseR []) = f at hsb hfl ⊢
  repeat (first | (with_reducible first | apply CW.seq | apply aN | apply CW.block) | refine wR rfl ?_ | refine RL.nil ?_ | refine wS rfl ?_)
  refine CW.loop (σ := Nat) (fun j => [(1, .slc 1 (strs free) o1), (13, .slc 1 (strs f) .fro), (14, .int .i64 (j : Int))]) (fun _ => s)
   (fun j => j ≤ f.length ∧ f.all free.contains = (f.drop j).all free.contains) (fun j => f.length - j) 0 ⟨by omega, rfl⟩ (wE rfl) sSub ?_
  rintro k ⟨hk, hK⟩
  repeat (first | (with_reducible first | apply CW.seq | apply aN) | refine wR rfl ?_)
  refine CW.cond rfl (fun h => ?_) (fun h => ?_)
  ·have hlt : k < f.length := by simpa using h
   obtain ⟨x, hx⟩ : ∃ x, f[k]? = some x := ⟨_, List.getElem?_eq_getElem hlt⟩
   have hx' : (strs f)[k]? = some (.str x) := by rw [strs_get, hx]; rfl
   have hcall := refHas_spec free o1 x s hf
   repeat (first | (with_reducible first | apply CW.seq | apply aN | apply CW.skip | apply CW.block) | refine CW.reg ?_ | refine wS rfl ?_ | refine RL.idx tO _ rfl rfl rfl rfl rfl rfl rfl rfl rfl rfl rfl (by assumption) rfl ?_)
   cases hc : free.contains x with
   | true =>
    rw [hc] at hcall
    refine RL.callP rfl rfl rfl rfl rfl hcall ?_
    repeat (first | (with_reducible first | apply aN | apply iN | apply CW.skip) | refine wR rfl ?_ | refine RL.nil ?_ | refine CW.condF rfl ?_ | refine wS rfl ?_)
    exact ⟨k + 1, ⟨hlt, all_take hx hK hc⟩, (by repeat (first | exact trivial | refine ⟨⟨_, rfl, aRfl⟩, ?_⟩ | refine ⟨⟨_, rfl, AVle.of_eq (by (rw [i64_succ (by omega)]))⟩, ?_⟩)), sSub, by omega⟩
   | false =>
    rw [hc] at hcall
    refine RL.callP rfl rfl rfl rfl rfl hcall ?_
    rw [hsb, all_miss hx hc]
    repeat (first | (with_reducible first | apply CW.seq | apply aN | apply aR | apply iR | apply CW.ret) | refine wR rfl ?_ | refine RL.nil ?_ | refine CW.condT rfl ?_ | refine wS rfl ?_)
    exact ⟨_, _, _, rfl, aRfl, sSub, rfl, rfl⟩
  ·have hge : f.length ≤ k := by simpa using h
   rw [List.drop_eq_nil_of_le hge, List.all_nil] at hK
   rw [hsb, hK]
   repeat (first | (with_reducible first | apply CW.seq | apply aN | apply aX | apply iH | apply CW.ret | apply CW.exit) | refine wR rfl ?_)
   exact ⟨_, _, _, rfl, aRfl, sSub, rfl, rfl⟩

section
variable {P : Program} {Γ : Tys} {N : Nat} {env : Env} {s : Store}
theorem OW.appendB (hΓ : TysOk P Γ) {o : Oper} {t t' e : TypeId} {x y : Operand} {it it' ie : TI} {sx sy n : Nat} {xs : List AV} {v : AV} {own oy : Own}
  (ho : o.op = .call { callee := .builtin .append, args := #[x, y], argTypes := #[t, t'] }) (ht : Γ.get? t = some it) (htd : it.td = .slc e) (ht' : Γ.get? t' = some it') (htd' : ∀ k, it'.td ≠ .int k)
  (hie : Γ.get? e = some ie) (hx : ev env x = some (.slc sx xs own)) (hy : ev env y = some (.slc sy [v] oy)) (hsx : sx = ie.size) (hsy : sy = ie.size)
  (hzs' : Nat.beq ie.zero.cells.size ie.size = true) (hel : elemOk ie.size v = true) (hn : n = xs.length) (hb : (n + 1) * ie.bytes ≤ 140737488355328) (h63 : n + 1 ≤ 9223372036854775807)
  (hrow : RowIs s e ie.size n own) {X : AV → Store → Prop} :
  OW P N o env s (fun r s' => ∃ b, OwnOk (rowBase s own) 0 (.own b) ∧ r = .slc ie.size (xs ++ [v]) (.own b) ∧ s' = rowOf (rowBase s own) e ie.size (n + 1) (.own b)) X := by
 subst hn
 have h := OW.appendR (N := N) (own := own) (s := rowBase s own) hΓ ho ht htd ht' htd' hie hx hy hsx (.inr hsy) hzs' (by intro y hy; simp at hy; subst hy; exact hel) hb h63 rfl (rowBase_ok hrow) (X := X)
 rw [← rowBase_eq hrow] at h
 refine OW.mono h ?_ (fun _ _ h => h)
 rintro r s' ⟨own', h1, h2, -, rfl, rfl⟩
 obtain ⟨b, rfl⟩ := h2 (by simp)
 exact ⟨b, h1, rfl, rfl⟩
end

/-! ### The noter -/
def ints (l : List Int) : List AV := l.map (.int .i64)
theorem ints_length (l : List Int) : (ints l).length = l.length := by simp [ints]
def noterCells (G : List (Str × Int)) (o1 o2 : Own) (bad : Bool) : List AV := [.slc 1 (strs (G.map (·.1))) o1, .slc 1 (ints (G.map (·.2))) o2, .bool bad]

structure NoI (s t : Store) (xb : Nat) (G : List (Str × Int)) (is : Bool) (o1 o2 : Own) : Prop where
 hx : t xb = some (.box 153 (noterCells G o1 o2 (!is)))
 r1 : RowIs t 9 1 G.length o1
 r2 : RowIs t 3 1 G.length o2
 sub : Store.Sub s t
 sn : s xb = none
 s1 : ∀ b, o1 = .own b → s b = none
 s2 : ∀ b, o2 = .own b → s b = none
 d12 : ∀ b, o1 = .own b → o2 ≠ .own b

theorem NoI.add {s t : Store} {xb : Nat} {G : List (Str × Int)} {is : Bool} {o1 o2 : Own} (h : NoI s t xb G is o1 o2) (x : Str) (n : Int) {b1 b2 : Nat} (h1 : OwnOk (rowBase t o1) 0 (.own b1))
  (h2 : OwnOk (rowBase (rowOf (rowBase t o1) 9 1 (G.length + 1) (.own b1)) o2) 0 (.own b2)) :
  NoI s ((rowOf (rowBase (rowOf (rowBase t o1) 9 1 (G.length + 1) (.own b1)) o2) 3 1 (G.length + 1) (.own b2)).set xb (.box 153 (noterCells (G ++ [(x, n)]) (.own b1) (.own b2) (!is)))) xb (G ++ [(x, n)]) is (.own b1) (.own b2) := by
 have hx1 := grow_keep (e := 9) (sz := 1) (m := G.length + 1) h.r1 h1 h.hx rfl
 have r2' := grow_row (e := 9) (sz := 1) (m := G.length + 1) h.r2 h.d12 h1
 have q1 := grow_own (e := 9) (sz := 1) (m := G.length + 1) h1
 have g1 := grow_sub (e := 9) (sz := 1) (m := G.length + 1) h.sub h.s1 h1
 have d1 := grow_dis h.r2 h.d12 h1
 generalize rowOf (rowBase t o1) 9 1 (G.length + 1) (.own b1) = t1 at hx1 r2' q1 g1 h2 ⊢
 have d1' : ∀ b, o2 = .own b → Own.own b1 ≠ .own b := fun b hb hc => d1 b hc hb
 have hx2 := grow_keep (e := 3) (sz := 1) (m := G.length + 1) r2' h2 hx1 rfl
 have q1' := grow_row (e := 3) (sz := 1) (m := G.length + 1) q1 d1' h2
 have q2 := grow_own (e := 3) (sz := 1) (m := G.length + 1) h2
 have g2 := grow_sub (e := 3) (sz := 1) (m := G.length + 1) g1.1 h.s2 h2
 have d2 := grow_dis q1 d1' h2
 have hl : (G ++ [(x, n)]).length = G.length + 1 := by simp
 refine ⟨sSam, ?_, ?_, Store.subSet g2.1 h.sn, h.sn, g1.2, g2.2, fun b hb hc => d2 b hc hb⟩
 ·rw [hl]; exact set_row q1' hx2 rfl
 ·rw [hl]; exact set_row q2 hx2 rfl
theorem NoI.bad {s t : Store} {xb : Nat} {G : List (Str × Int)} {is : Bool} {o1 o2 : Own} (h : NoI s t xb G is o1 o2) (is' : Bool) :
  NoI s (t.set xb (.box 153 (noterCells G o1 o2 (!is')))) xb G is' o1 o2 :=
 ⟨sSam, set_row h.r1 h.hx rfl, set_row h.r2 h.hx rfl, Store.subSet h.sub h.sn, h.sn, h.s1, h.s2, h.d12⟩

theorem find_idxFrom (G : List (Str × Int)) (s : Str) :
  match G.find? (fun x => s == x.1) with
  | some q => ∃ j : Nat, G[j]? = some q ∧ idxFrom (G.map (·.1)) s 0 = (j : Int)
  | none => idxFrom (G.map (·.1)) s 0 = -1 := by
 unfold idxFrom
 rw [List.drop_zero, List.findIdx?_map]
 have he : ((fun x => x == s) ∘ fun x : Str × Int => x.1) = fun x => s == x.1 := by funext x; exact BEq.comm
 rw [he]
 cases hf : G.find? (fun x => s == x.1) with
 | none =>
  have : G.findIdx? (fun x => s == x.1) = none := by
   rw [List.findIdx?_eq_none_iff]
   intro x hx
   have := List.find?_eq_none.1 hf x hx
   simpa using this
  rw [this]
 | some q =>
  simp only
  have hsome : (G.findIdx? (fun x => s == x.1)).isSome = true := by
   rw [List.findIdx?_isSome, List.any_eq_true]
   exact ⟨q, List.mem_of_find?_eq_some hf, List.find?_some (p := fun x : Str × Int => s == x.1) hf⟩
  obtain ⟨j, hj⟩ := Option.isSome_iff_exists.1 hsome
  refine ⟨j, ?_, by rw [hj]; simp⟩
  rw [List.findIdx?_eq_some_iff_getElem] at hj
  obtain ⟨hlt, h1, h2⟩ := hj
  rw [List.find?_eq_some_iff_getElem] at hf
  obtain ⟨h3, i, hi, h4, h5⟩ := hf
  have hij : i = j := by
   refine Classical.byContradiction fun hne => ?_
   rcases Nat.lt_or_gt_of_ne hne with h | h
   ·have := h2 i h
    rw [h4] at this
    exact absurd h3 this
   ·have := h5 j h
    rw [h1] at this; cases this
  subst hij
  rw [List.getElem?_eq_getElem hi, h4]

set_option maxRecDepth 10000 in
set_option maxHeartbeats 1000000 in
theorem refNote_spec (s t : Store) (xb : Nat) (G : List (Str × Int)) (is : Bool) (o1 o2 : Own) (x : Str) (n : Int) (h : NoI s t xb G is o1 o2) (hG : G.length < big) :
  ACalls Tryz.prog 101 [.ptr xb 0, .str x, .int .i64 n] t (fun o t' => o = .ret (.tup []) ∧ ∃ o1' o2', NoI s t' xb (gNote (G, is) x n).1 (gNote (G, is) x n).2 o1' o2') := by
 have hb : big = 1099511627776 := rfl
 have hx := h.hx
 have hidx := find_idxFrom G x
 refine ACalls.of_CW tO call101 Tryz.func101 rfl rfl ?_
 repeat (first | with_reducible apply CW.seq | refine CW.reg ?_ | refine wS rfl ?_ | refine RL.loadP tO rfl rfl rfl rfl rfl rfl (by assumption) rfl ?_)
 refine RL.callP rfl rfl rfl rfl rfl (refIndex_spec (G.map (·.1)) o1 x t (by rw [List.length_map]; omega)) ?_
 cases hf : G.find? (fun q => x == q.1) with
 | none =>
  have hgn : gNote (G, is) x n = (G ++ [(x, n)], is) := by unfold gNote; rw [hf]
  rw [hf] at hidx
  simp only at hidx
  rw [hidx, hgn]
  repeat (first | (with_reducible first | apply CW.seq | apply aN) | refine wR rfl ?_ | refine RL.nil ?_ | refine CW.condT rfl ?_ | refine wS rfl ?_ | refine CW.drw tO mixed rfl (RD.run rfl ?_))
  refine RD.many rfl (RDAll.c (RDStep.mk (i := 5) rfl rfl rfl rfl (OW.loadP tO rfl rfl rfl hx rfl (X := fun _ _ => False)) ?_ (fun _ _ h => False.elim h)) (RDAll.c (RDStep.mk (i := 12) rfl rfl rfl rfl (OW.loadP tO rfl rfl rfl hx rfl (X := fun _ _ => False)) ?_ (fun _ _ h => False.elim h)) RDAll.n))
  ·rintro _ _ ⟨rfl, hs2⟩
   rw [hs2]
   clear hs2
   refine RD.run rfl ?_
   refine RD.many rfl (RDAll.c (RDStep.mk (i := 8) rfl rfl rfl rfl (OW.appendB tO rfl rfl rfl rfl (by intro k h; cases h) rfl rfl rfl rfl rfl rfl rfl (n := G.length) (by rw [strs_length, List.length_map]) (by show (G.length + 1) * 16 ≤ _; omega) (by omega) h.r1 (X := fun _ _ => False)) ?_ (fun _ _ h => False.elim h)) (RDAll.c (RDStep.mk (i := 12) rfl rfl rfl rfl (OW.loadP tO rfl rfl rfl hx rfl (X := fun _ _ => False)) ?_ (fun _ _ h => False.elim h)) RDAll.n))
   ·rintro _ _ ⟨b1, hf1, rfl, rfl⟩
    refine RD.run rfl ?_
    refine RD.many rfl (RDAll.c (RDStep.mk (i := 12) rfl rfl rfl rfl (OW.loadP tO rfl rfl rfl (grow_keep (n := 0) (own' := .own b1) h.r1 hf1 hx rfl) rfl (X := fun _ _ => False)) ?_ (fun _ _ h => False.elim h)) RDAll.n)
    ·rintro _ _ ⟨rfl, hs2⟩
     rw [hs2]
     clear hs2
     refine RD.run rfl ?_
     have r2' := grow_row (e := 9) (sz := 1) (m := G.length + 1) (n := 0) (own' := .own b1) h.r2 h.d12 hf1
     have hx1 := grow_keep (e := 9) (sz := 1) (m := G.length + 1) (n := 0) (own' := .own b1) h.r1 hf1 hx rfl
     refine RD.one (i := 15) rfl rfl rfl rfl rfl (OW.appendB tO rfl rfl rfl rfl (by intro k h; cases h) rfl rfl rfl rfl rfl rfl rfl (n := G.length) (by rw [ints_length, List.length_map]) (by show (G.length + 1) * 8 ≤ _; omega) (by omega) r2' (X := fun _ _ => False)) ?_ (fun _ _ h => False.elim h)
     rintro _ _ ⟨b2, hb2, rfl, rfl⟩
     have hx2 := grow_keep (e := 3) (sz := 1) (m := G.length + 1) (n := 0) (own' := .own b2) r2' hb2 hx1 rfl
     refine RD.run rfl ?_
     refine RD.oneN (i := 18) rfl rfl rfl rfl (OW.storeP tO rfl rfl rfl rfl rfl rfl rfl hx2 rfl (X := fun _ _ => False)) ?_ (fun _ _ h => False.elim h)
     rintro _ _ rfl
     refine RD.run rfl ?_
     refine RD.oneN (i := 21) rfl rfl rfl rfl (OW.storeP tO rfl rfl rfl rfl rfl rfl rfl sSam rfl (X := fun _ _ => False)) ?_ (fun _ _ h => False.elim h)
     rintro _ _ rfl
     refine RD.run rfl (RD.done rfl ?_)
     rw [Store.set_set]
     have hA := h.add x n hf1 hb2
     skip
     refine ⟨_, _, _, rfl, aRfl, ?_, rfl, .own b1, .own b2, hA⟩
     have e1 : strs ((G ++ [(x, n)]).map (·.1)) = strs (G.map (·.1)) ++ [.str x] := by simp [strs]
     have e2 : ints ((G ++ [(x, n)]).map (·.2)) = ints (G.map (·.2)) ++ [.int .i64 n] := by simp [ints]
     rw [noterCells, e1, e2]
     exact sSub
   ·rintro _ _ ⟨rfl, hs2⟩
    rw [hs2]
    clear hs2
    refine RD.run rfl ?_
    refine RD.many rfl (RDAll.c (RDStep.mk (i := 8) rfl rfl rfl rfl (OW.appendB tO rfl rfl rfl rfl (by intro k h; cases h) rfl rfl rfl rfl rfl rfl rfl (n := G.length) (by rw [strs_length, List.length_map]) (by show (G.length + 1) * 16 ≤ _; omega) (by omega) h.r1 (X := fun _ _ => False)) ?_ (fun _ _ h => False.elim h)) RDAll.n)
    ·rintro _ _ ⟨b1, hf1, rfl, rfl⟩
     refine RD.run rfl ?_
     have r2' := grow_row (e := 9) (sz := 1) (m := G.length + 1) (n := 0) (own' := .own b1) h.r2 h.d12 hf1
     have hx1 := grow_keep (e := 9) (sz := 1) (m := G.length + 1) (n := 0) (own' := .own b1) h.r1 hf1 hx rfl
     refine RD.one (i := 15) rfl rfl rfl rfl rfl (OW.appendB tO rfl rfl rfl rfl (by intro k h; cases h) rfl rfl rfl rfl rfl rfl rfl (n := G.length) (by rw [ints_length, List.length_map]) (by show (G.length + 1) * 8 ≤ _; omega) (by omega) r2' (X := fun _ _ => False)) ?_ (fun _ _ h => False.elim h)
     rintro _ _ ⟨b2, hb2, rfl, rfl⟩
     have hx2 := grow_keep (e := 3) (sz := 1) (m := G.length + 1) (n := 0) (own' := .own b2) r2' hb2 hx1 rfl
     refine RD.run rfl ?_
     refine RD.oneN (i := 18) rfl rfl rfl rfl (OW.storeP tO rfl rfl rfl rfl rfl rfl rfl hx2 rfl (X := fun _ _ => False)) ?_ (fun _ _ h => False.elim h)
     rintro _ _ rfl
     refine RD.run rfl ?_
     refine RD.oneN (i := 21) rfl rfl rfl rfl (OW.storeP tO rfl rfl rfl rfl rfl rfl rfl sSam rfl (X := fun _ _ => False)) ?_ (fun _ _ h => False.elim h)
     rintro _ _ rfl
     refine RD.run rfl (RD.done rfl ?_)
     rw [Store.set_set]
     have hA := h.add x n hf1 hb2
     skip
     refine ⟨_, _, _, rfl, aRfl, ?_, rfl, .own b1, .own b2, hA⟩
     have e1 : strs ((G ++ [(x, n)]).map (·.1)) = strs (G.map (·.1)) ++ [.str x] := by simp [strs]
     have e2 : ints ((G ++ [(x, n)]).map (·.2)) = ints (G.map (·.2)) ++ [.int .i64 n] := by simp [ints]
     rw [noterCells, e1, e2]
     exact sSub
  ·rintro _ _ ⟨rfl, hs2⟩
   rw [hs2]
   clear hs2
   refine RD.run rfl ?_
   refine RD.many rfl (RDAll.c (RDStep.mk (i := 5) rfl rfl rfl rfl (OW.loadP tO rfl rfl rfl hx rfl (X := fun _ _ => False)) ?_ (fun _ _ h => False.elim h)) RDAll.n)
   ·rintro _ _ ⟨rfl, hs2⟩
    rw [hs2]
    clear hs2
    refine RD.run rfl ?_
    refine RD.many rfl (RDAll.c (RDStep.mk (i := 8) rfl rfl rfl rfl (OW.appendB tO rfl rfl rfl rfl (by intro k h; cases h) rfl rfl rfl rfl rfl rfl rfl (n := G.length) (by rw [strs_length, List.length_map]) (by show (G.length + 1) * 16 ≤ _; omega) (by omega) h.r1 (X := fun _ _ => False)) ?_ (fun _ _ h => False.elim h)) RDAll.n)
    ·rintro _ _ ⟨b1, hf1, rfl, rfl⟩
     refine RD.run rfl ?_
     have r2' := grow_row (e := 9) (sz := 1) (m := G.length + 1) (n := 0) (own' := .own b1) h.r2 h.d12 hf1
     have hx1 := grow_keep (e := 9) (sz := 1) (m := G.length + 1) (n := 0) (own' := .own b1) h.r1 hf1 hx rfl
     refine RD.one (i := 15) rfl rfl rfl rfl rfl (OW.appendB tO rfl rfl rfl rfl (by intro k h; cases h) rfl rfl rfl rfl rfl rfl rfl (n := G.length) (by rw [ints_length, List.length_map]) (by show (G.length + 1) * 8 ≤ _; omega) (by omega) r2' (X := fun _ _ => False)) ?_ (fun _ _ h => False.elim h)
     rintro _ _ ⟨b2, hb2, rfl, rfl⟩
     have hx2 := grow_keep (e := 3) (sz := 1) (m := G.length + 1) (n := 0) (own' := .own b2) r2' hb2 hx1 rfl
     refine RD.run rfl ?_
     refine RD.oneN (i := 18) rfl rfl rfl rfl (OW.storeP tO rfl rfl rfl rfl rfl rfl rfl hx2 rfl (X := fun _ _ => False)) ?_ (fun _ _ h => False.elim h)
     rintro _ _ rfl
     refine RD.run rfl ?_
     refine RD.oneN (i := 21) rfl rfl rfl rfl (OW.storeP tO rfl rfl rfl rfl rfl rfl rfl sSam rfl (X := fun _ _ => False)) ?_ (fun _ _ h => False.elim h)
     rintro _ _ rfl
     refine RD.run rfl (RD.done rfl ?_)
     rw [Store.set_set]
     have hA := h.add x n hf1 hb2
     skip
     refine ⟨_, _, _, rfl, aRfl, ?_, rfl, .own b1, .own b2, hA⟩
     have e1 : strs ((G ++ [(x, n)]).map (·.1)) = strs (G.map (·.1)) ++ [.str x] := by simp [strs]
     have e2 : ints ((G ++ [(x, n)]).map (·.2)) = ints (G.map (·.2)) ++ [.int .i64 n] := by simp [ints]
     rw [noterCells, e1, e2]
     exact sSub
 | some q =>
  have hgn : gNote (G, is) x n = (G, is && q.2 == n) := by unfold gNote; rw [hf]
  rw [hf] at hidx
  simp only at hidx
  obtain ⟨j, hj, hidx⟩ := hidx
  rw [hidx, hgn]
  have hjl : j < G.length := (List.getElem?_eq_some_iff.1 hj).1
  have hq' : (ints (G.map (·.2)))[j]? = some (.int .i64 q.2) := by simp [ints, hj]
  repeat (first | (with_reducible first | apply CW.seq | apply aN) | refine wR rfl ?_ | refine CW.reg ?_ | refine RL.nil ?_ | refine CW.condF rfl ?_ | refine wS rfl ?_ | refine RL.loadP tO rfl rfl rfl rfl rfl rfl (by assumption) rfl ?_ | refine RL.idx tO _ rfl rfl rfl rfl rfl rfl rfl rfl rfl rfl rfl (by assumption) rfl ?_)
  refine CW.cond rfl (fun hc => ?_) (fun hc => ?_)
  ·have hne : (q.2 == n) = false := by simpa using hc
   rw [hne, Bool.and_false]
   repeat (first | refine CW.reg ?_ | refine wS rfl ?_)
   refine RL.storeP tO rfl rfl rfl rfl rfl rfl rfl rfl rfl hx rfl ?_
   repeat (first | refine RL.nil ?_)
   exact ⟨_, _, _, rfl, aRfl, sSub, rfl, o1, o2, h.bad false⟩
  ·have heq : (q.2 == n) = true := by simpa using hc
   rw [heq, Bool.and_true]
   repeat (first | with_reducible apply CW.skip)
   exact ⟨_, _, _, rfl, aRfl, sSub, rfl, o1, o2, h⟩
end Go.Proofs.YtaafacnoddjhgaaGreat

/- Contracts of the reference: the functions of a program. -/
namespace Go.Proofs.YtaafacnoddjhgaaGreat
open Go.AE

theorem own_nil2 {X : Nat → Prop} : ∀ b, Own.nil = Own.own b → X b := fun _ h => by cases h
theorem gNotes_cons (st : List (Str × Int) × Bool) (x : Str × Int) (l : List (Str × Int)) : gNotes st (x :: l) = gNotes (gNote st x.1 x.2) l := rfl
theorem callsL_cons (g : FExp) (l : List FExp) : callsL (g :: l) = (if g.op == 5 then [(g.text, (g.kids.length : Int))] else []) ++ callsL l := by
 unfold callsL; rw [List.filter_cons]; cases g.op == 5 <;> simp

def bodies (P : FProg) : List FExp := P.methods.map FMethod.body ++ [P.main]
theorem progNotes_eq (P : FProg) : progNotes P = methodNotes P.methods ++ (bodies P).flatMap fun e => callsL e.allE := rfl

set_option maxRecDepth 10000 in
set_option maxHeartbeats 4000000 in
theorem refFunctions_spec (P : FProg) (s : Store) (hP : P.Fair) :
  ACalls Tryz.prog 59 [P.av] s (fun o s' => o = .ret (.tup [.slc 1 (strs ((progGens P).1.map (·.1))) .fro, .slc 1 (ints ((progGens P).1.map (·.2))) .fro, .bool (progGens P).2]) ∧ s' = s) := by
 have hb : big = 1099511627776 := rfl
 have hml := hP.mlen
 have hnl := hP.notes
 have hpg : progGens P = gNotes ([], true) (methodNotes P.methods ++ (bodies P).flatMap fun e => callsL e.allE) := rfl
 rw [progNotes_eq] at hnl
 generalize hR : (bodies P).flatMap (fun e => callsL e.allE) = R at hpg hnl
 refine ACalls.of_CW tO call59 Tryz.func59 rfl rfl ?_
 refine CW.seqCut [(1, .fptr P.cells 0)] s ?_ ?_
 ·repeat (first | refine wR rfl ?_)
  exact ⟨rfl, (wE rfl), sSub⟩
 refine CW.seqCutX (σ := Nat × Store) (fun z => [(1, .fptr P.cells 0), (5, .ptr z.1 0)]) (fun z => z.2) (fun z => NoI s z.2 z.1 [] true .nil .nil) ?_ ?_
 ·refine CW.reg ?_
  refine wS rfl ?_
  refine RL.boxM rfl rfl rfl rfl rfl rfl (fun xb hxb => ?_)
  refine RL.boxWeak xb (noterCells [] .nil .nil false) sSam ?_ ?_
  ·exact .cons (AVle.nil (by simp)) (.cons (AVle.nil (by simp)) (.one aRfl))
  rw [Store.set_set]
  repeat (first | refine RL.nil ?_ | refine wS rfl ?_)
  exact ⟨rfl, (xb, _), ⟨sSam, trivial, trivial, Store.subSet sSub hxb, hxb, own_nil2, own_nil2, own_nil2⟩, (wE rfl), sSub⟩
 rintro ⟨xb, t0⟩ hI0
 simp only at hI0 ⊢
 refine CW.seqCutX (σ := Store × List (Str × Int) × Bool × Own × Own) (fun _ => [(1, .fptr P.cells 0), (5, .ptr xb 0)]) (fun z => z.1) (fun z => NoI s z.1 xb z.2.1 z.2.2.1 z.2.2.2.1 z.2.2.2.2 ∧ gNotes (z.2.1, z.2.2.1) R = progGens P ∧ z.2.1.length + R.length < big) ?_ ?_
 ·repeat (first | (with_reducible first | apply CW.seq | apply aN | apply CW.block) | refine wR rfl ?_)
  refine CW.loop (σ := Nat × Store × List (Str × Int) × Bool × Own × Own) (fun q => [(1, .fptr P.cells 0), (5, .ptr xb 0), (6, .int .i64 (q.1 : Int))]) (fun q => q.2.1)
   (fun q => q.1 ≤ P.methods.length ∧ NoI s q.2.1 xb q.2.2.1 q.2.2.2.1 q.2.2.2.2.1 q.2.2.2.2.2 ∧ gNotes (q.2.2.1, q.2.2.2.1) (methodNotes (P.methods.drop q.1) ++ R) = progGens P ∧ q.2.2.1.length + (methodNotes (P.methods.drop q.1)).length + R.length < big) (fun q => P.methods.length - q.1)
   (0, t0, [], true, .nil, .nil) ⟨by simp, hI0, hpg.symm, by rw [List.length_append] at hnl; simpa using hnl⟩ (wE rfl) sSub ?_
  rintro ⟨j, t, G, is, o1, o2⟩ ⟨hj, hI, hE, hL⟩
  simp only at hj hI hE hL
  repeat (first | (with_reducible first | apply CW.seq | apply aN) | refine wR rfl ?_)
  refine CW.cond rfl (fun h => ?_) (fun h => ?_)
  ·have hlt : j < P.methods.length := by simpa using h
   obtain ⟨m, hm⟩ : ∃ m, P.methods[j]? = some m := ⟨_, List.getElem?_eq_getElem hlt⟩
   have hm' : (P.methods.map FMethod.av)[j]? = some (.agg m.cells) := by rw [List.getElem?_map, hm]; rfl
   rw [drop_cons hm] at hE hL
   simp only [methodNotes, List.map_cons, List.cons_append, List.length_cons] at hE hL
   rw [gNotes_cons] at hE
   have hgl := gNote_length (G, is) m.name (m.params.length : Int)
   have hcall := refNote_spec s t xb G is o1 o2 m.name (m.params.length : Int) hI (by omega)
   generalize gNote (G, is) m.name (m.params.length : Int) = st at hE hgl hcall
   obtain ⟨G', is'⟩ := st
   repeat (first | (with_reducible first | apply CW.seq | apply aN | apply CW.skip | apply CW.block) | refine CW.drw tO mixed rfl (RD.run rfl ?_))
   refine RD.idx 4 j rfl rfl rfl rfl rfl rfl rfl rfl rfl rfl rfl rfl rfl hm' rfl ?_
   refine RD.idx 10 j rfl rfl rfl rfl rfl rfl rfl rfl rfl rfl rfl rfl rfl hm' rfl ?_
   refine RD.run rfl ?_
   rw [strs_length]
   refine RD.call (i := 14) rfl rfl rfl rfl rfl rfl rfl hcall ?_ (fun _ _ ⟨h, _⟩ => by cases h)
   rintro _ t' ⟨⟨⟩, o1', o2', hI'⟩
   refine RD.run rfl (RD.done rfl ?_)
   repeat (first | (with_reducible first | apply aN | apply iN) | refine wR rfl ?_)
   exact ⟨(j + 1, t', G', is', o1', o2'), ⟨hlt, hI', hE, by simp only [methodNotes, List.length_map] at hL hgl ⊢; omega⟩, (by repeat (first | exact trivial | refine ⟨⟨_, rfl, aRfl⟩, ?_⟩ | refine ⟨⟨_, rfl, AVle.of_eq (by (show AV.int .i64 (IntKind.wrap .i64 ((j : Int) + 1)) = .int .i64 ((j + 1 : Nat) : Int); rw [i64_succ (by omega)]))⟩, ?_⟩)), sSub, by show P.methods.length - (j + 1) < P.methods.length - j; omega⟩
  ·have hge : P.methods.length ≤ j := by simpa using h
   rw [List.drop_eq_nil_of_le hge] at hE hL
   repeat (with_reducible first | apply aX | apply iH | apply CW.exit)
   exact ⟨rfl, (t, G, is, o1, o2), ⟨hI, hE, by simpa [methodNotes] using hL⟩, (wE rfl), sSub⟩
 rintro ⟨t1, G1, is1, p1, p2⟩ ⟨hI1, hE1, hL1⟩
 simp only at hI1 hE1 hL1 ⊢
 have hbl : (bodies P).length = P.methods.length + 1 := by simp [bodies]
 have hbf : ∀ e ∈ bodies P, e.size < big := fun e he => by
  rcases List.mem_append.1 he with he | he
  ·obtain ⟨m, hm, rfl⟩ := List.mem_map.1 he
   exact (hP.mth m hm).body.size
  ·rw [List.mem_singleton.1 he]; exact hP.main.size
 subst hR
 refine CW.seqCutX (σ := Store × Own × Own) (fun _ => [(5, .ptr xb 0)]) (fun z => z.1) (fun z => NoI s z.1 xb (progGens P).1 (progGens P).2 z.2.1 z.2.2) ?_ ?_
 ·repeat (first | (with_reducible first | apply CW.seq | apply aN | apply CW.block) | refine wR rfl ?_)
  refine CW.loop (σ := Nat × Store × List (Str × Int) × Bool × Own × Own) (fun q => [(1, .fptr P.cells 0), (5, .ptr xb 0), (7, .int .i64 (q.1 : Int))]) (fun q => q.2.1)
   (fun q => q.1 ≤ (bodies P).length ∧ NoI s q.2.1 xb q.2.2.1 q.2.2.2.1 q.2.2.2.2.1 q.2.2.2.2.2 ∧ gNotes (q.2.2.1, q.2.2.2.1) (((bodies P).drop q.1).flatMap fun e => callsL e.allE) = progGens P ∧ q.2.2.1.length + (((bodies P).drop q.1).flatMap fun e => callsL e.allE).length < big) (fun q => (bodies P).length - q.1)
   (0, t1, G1, is1, p1, p2) ⟨by simp, hI1, hE1, hL1⟩ (wE rfl) sSub ?_
  rintro ⟨j, t, G, is, o1, o2⟩ ⟨hj, hI, hE, hL⟩
  simp only at hj hI hE hL
  repeat (first | (with_reducible first | apply CW.seq | apply aN) | refine wR rfl ?_)
  refine CW.cond rfl (fun h => ?_) (fun h => ?_)
  ·have hlt : j < (bodies P).length := by
    have : (j : Int) ≤ ((P.methods.map FMethod.av).length : Int) := by simpa using h
    rw [List.length_map] at this; omega
   obtain ⟨e, he⟩ : ∃ e, (bodies P)[j]? = some e := ⟨_, List.getElem?_eq_getElem hlt⟩
   have hes := hbf e (List.mem_of_getElem? he)
   rw [drop_cons he, List.flatMap_cons] at hE hL
   rw [List.length_append] at hL
   generalize hR2 : ((bodies P).drop (j + 1)).flatMap (fun e => callsL e.allE) = R2 at hE hL
   refine CW.skip (aN (CW.seq (CW.block ?_)))
   refine CW.seqCutX (σ := Nat) (fun b => [(1, .fptr P.cells 0), (5, .ptr xb 0), (7, .int .i64 (j : Int)), (8, .ptr b 0)]) (fun b => t.set b (.box 27 P.main.cells)) (fun b => t b = none) ?_ ?_
   ·repeat (first | refine CW.reg ?_ | refine wS rfl ?_)
    refine RL.alloc tO rfl rfl rfl rfl rfl rfl rfl (fun b hb => ?_)
    repeat (first | refine RL.nil ?_ | (refine RL.storeP tO rfl rfl rfl rfl rfl rfl rfl rfl rfl sSam rfl ?_; try with_reducible rw [Store.set_set]))
    exact ⟨rfl, b, hb, (wE rfl), sSub⟩
   intro b8 hb8
   refine CW.seqCut [(1, .fptr P.cells 0), (5, .ptr xb 0), (7, .int .i64 (j : Int)), (8, .ptr b8 0)] (t.set b8 (.box 27 e.cells)) ?_ ?_
   ·repeat (first | (with_reducible first | apply CW.seq | apply aN) | refine wR rfl ?_)
    refine CW.cond rfl (fun h => ?_) (fun h => ?_)
    ·have hlm : j < P.methods.length := by simpa using h
     obtain ⟨m, hm⟩ : ∃ m, P.methods[j]? = some m := ⟨_, List.getElem?_eq_getElem hlm⟩
     have hm' : (P.methods.map FMethod.av)[j]? = some (.agg m.cells) := by rw [List.getElem?_map, hm]; rfl
     have hem : e = m.body := by
      rw [bodies, List.getElem?_append_left (by simpa using hlm), List.getElem?_map, hm] at he
      simpa using he.symm
     subst hem
     repeat (first | refine CW.reg ?_ | refine RL.nil ?_ | refine wS rfl ?_ | (refine RL.storeP tO rfl rfl rfl rfl rfl rfl rfl rfl rfl sSam rfl ?_; try with_reducible rw [Store.set_set]) | refine RL.idx tO _ rfl rfl rfl rfl rfl rfl rfl rfl rfl rfl rfl (by assumption) rfl ?_)
     exact ⟨rfl, (wE rfl), sSub⟩
    ·have hgm : P.methods.length ≤ j := by simpa using h
     have hem : e = P.main := by
      rw [bodies, List.getElem?_append_right (by simpa using hgm), List.length_map] at he
      have : j - P.methods.length = 0 := by omega
      rw [this] at he
      simpa using he.symm
     subst hem
     refine CW.skip ?_
     exact ⟨rfl, (wE rfl), sSub⟩
   refine CW.freeze 8 b8 rfl sSam ?_
   rw [Store.del_set _ _ _ hb8]
   refine CW.seqCut [(1, .fptr P.cells 0), (5, .ptr xb 0), (7, .int .i64 (j : Int)), (9, .slc 4 (e.allE.map FExp.av) .fro)] t ?_ ?_
   ·repeat (first | refine CW.reg ?_ | refine wS rfl ?_)
    refine RL.callP rfl rfl rfl rfl rfl (refAll_spec _ e t (Nat.le_refl _) (Nat.le_of_lt hes)) ?_
    repeat (first | refine RL.nil ?_ | refine wS rfl ?_)
    exact ⟨rfl, (wE rfl), sSub⟩
   have hall := allE_length e
   generalize e.allE = l at hall hE hL ⊢
   repeat (first | (with_reducible first | apply CW.seq | apply aN | apply CW.block) | refine wR rfl ?_)
   refine CW.loop (σ := Nat × Store × List (Str × Int) × Bool × Own × Own) (fun q => [(1, .fptr P.cells 0), (5, .ptr xb 0), (7, .int .i64 (j : Int)), (9, .slc 4 (l.map FExp.av) .fro), (10, .int .i64 (q.1 : Int))]) (fun q => q.2.1)
    (fun q => q.1 ≤ l.length ∧ NoI s q.2.1 xb q.2.2.1 q.2.2.2.1 q.2.2.2.2.1 q.2.2.2.2.2 ∧ gNotes (q.2.2.1, q.2.2.2.1) (callsL (l.drop q.1) ++ R2) = progGens P ∧ q.2.2.1.length + ((callsL (l.drop q.1)).length + R2.length) < big) (fun q => l.length - q.1)
    (0, t, G, is, o1, o2) ⟨by simp, hI, hE, hL⟩ (wE rfl) sSub ?_
   rintro ⟨k, t2, G2, is2, r1, r2⟩ ⟨hk, hI2, hE2, hL2⟩
   simp only at hk hI2 hE2 hL2
   repeat (first | (with_reducible first | apply CW.seq | apply aN) | refine wR rfl ?_)
   refine CW.cond rfl (fun h => ?_) (fun h => ?_)
   ·have hltk : k < l.length := by simpa using h
    obtain ⟨g, hg⟩ : ∃ g, l[k]? = some g := ⟨_, List.getElem?_eq_getElem hltk⟩
    have hg' : (l.map FExp.av)[k]? = some (.agg g.cells) := by rw [List.getElem?_map, hg]; rfl
    rw [drop_cons hg, callsL_cons] at hE2 hL2
    repeat (first | (with_reducible first | apply CW.seq | apply aN | apply CW.skip | apply CW.block) | refine CW.reg ?_ | refine RL.nil ?_ | refine wS rfl ?_ | refine RL.idx tO _ rfl rfl rfl rfl rfl rfl rfl rfl rfl rfl rfl (by assumption) rfl ?_)
    refine CW.cond rfl (fun hc => ?_) (fun hc => ?_)
    ·have hc' : (g.op == 5) = true := hc
     rw [hc', if_pos rfl] at hE2 hL2
     simp only [List.cons_append, List.nil_append, List.length_cons] at hE2 hL2
     rw [gNotes_cons] at hE2
     have hgl := gNote_length (G2, is2) g.text (g.kids.length : Int)
     have hcall := refNote_spec s t2 xb G2 is2 r1 r2 g.text (g.kids.length : Int) hI2 (by omega)
     rw [← FExp.kav_length] at hcall
     rw [← FExp.kav_length] at hE2 hgl
     generalize gNote (G2, is2) g.text (g.kav.length : Int) = st at hE2 hgl hcall
     obtain ⟨G', is'⟩ := st
     repeat (first | refine CW.drw tO mixed rfl (RD.run rfl ?_))
     refine RD.idx 3 k rfl rfl rfl rfl rfl rfl rfl rfl rfl rfl rfl rfl rfl hg' rfl ?_
     refine RD.idx 8 k rfl rfl rfl rfl rfl rfl rfl rfl rfl rfl rfl rfl rfl hg' rfl ?_
     refine RD.run rfl ?_
     refine RD.call (i := 12) rfl rfl rfl rfl rfl rfl rfl hcall ?_ (fun _ _ ⟨h, _⟩ => by cases h)
     rintro _ t' ⟨⟨⟩, o1', o2', hI'⟩
     refine RD.run rfl (RD.done rfl ?_)
     repeat (first | (with_reducible first | apply aN | apply iN) | refine wR rfl ?_)
     exact ⟨(k + 1, t', G', is', o1', o2'), ⟨hltk, hI', hE2, by simp only at hgl ⊢; omega⟩, (by repeat (first | exact trivial | refine ⟨⟨_, rfl, aRfl⟩, ?_⟩ | refine ⟨⟨_, rfl, AVle.of_eq (by (show AV.int .i64 (IntKind.wrap .i64 ((k : Int) + 1)) = .int .i64 ((k + 1 : Nat) : Int); rw [i64_succ (by omega)]))⟩, ?_⟩)), sSub, by show l.length - (k + 1) < l.length - k; omega⟩
    ·have hc' : (g.op == 5) = false := hc
     rw [hc', if_neg (by simp), List.nil_append] at hE2 hL2
     repeat (first | (with_reducible first | apply aN | apply iN | apply CW.skip) | refine wR rfl ?_)
     exact ⟨(k + 1, t2, G2, is2, r1, r2), ⟨hltk, hI2, hE2, hL2⟩, (by repeat (first | exact trivial | refine ⟨⟨_, rfl, aRfl⟩, ?_⟩ | refine ⟨⟨_, rfl, AVle.of_eq (by (show AV.int .i64 (IntKind.wrap .i64 ((k : Int) + 1)) = .int .i64 ((k + 1 : Nat) : Int); rw [i64_succ (by omega)]))⟩, ?_⟩)), sSub, by show l.length - (k + 1) < l.length - k; omega⟩
   ·have hge : l.length ≤ k := by simpa using h
    rw [List.drop_eq_nil_of_le hge] at hE2 hL2
    subst hR2
    repeat (first | (with_reducible first | apply aN | apply aX | apply iN | apply iH | apply CW.exit) | refine wR rfl ?_)
    exact ⟨(j + 1, t2, G2, is2, r1, r2), ⟨hlt, hI2, hE2, by simpa [callsL] using hL2⟩, (by repeat (first | exact trivial | refine ⟨⟨_, rfl, aRfl⟩, ?_⟩ | refine ⟨⟨_, rfl, AVle.of_eq (by (show AV.int .i64 (IntKind.wrap .i64 ((j : Int) + 1)) = .int .i64 ((j + 1 : Nat) : Int); rw [i64_succ (by omega)]))⟩, ?_⟩)), sSub, by show (bodies P).length - (j + 1) < (bodies P).length - j; omega⟩
  ·have hge : (bodies P).length ≤ j := by
    have : ¬ (j : Int) ≤ ((P.methods.map FMethod.av).length : Int) := by simpa using h
    rw [List.length_map] at this; omega
   rw [List.drop_eq_nil_of_le hge] at hE
   have hE' : (G, is) = progGens P := hE
   repeat (with_reducible first | apply aX | apply iH | apply CW.exit)
   exact ⟨rfl, (t, o1, o2), by rw [← hE']; exact hI, (wE rfl), sSub⟩
 rintro ⟨t, o1, o2⟩ hI
 simp only at hI ⊢
 generalize progGens P = pg at hI ⊢
 refine CW.freeze 5 xb rfl hI.hx ?_
 repeat (first | (with_reducible first | apply CW.seq | apply aN | apply CW.ret) | refine CW.drw tO mixed rfl (RD.run rfl (RD.done rfl ?_)))
 refine ⟨_, _, s, rfl, AVle.tup (.cons AVle.fro (.cons AVle.fro (.one (AVle.of_eq ?_)))), Store.subDel hI.sub hI.sn, rfl, rfl⟩
 simp
end Go.Proofs.YtaafacnoddjhgaaGreat

/- Slices that are written: a row of cells of one's own. -/
namespace Go.Proofs.YtaafacnoddjhgaaGreat
open Go.AE

section
variable {P : Program} {Γ : Tys} {N : Nat} {env : Env} {s : Store}

theorem madeCells_one {z : Value} {n : Nat} : (madeCells #[z] n).toList = List.replicate n z := by
 apply List.ext_getElem
 ·simp [madeCells]
 ·intro i h1 h2
  simp [madeCells, Nat.mod_one]

theorem OW.mkSlice (hΓ : TysOk P Γ) {o : Oper} {t e : TypeId} {x y : Operand} {it ie : TI} {k k' : IntKind} {m : Nat} {z : Value} {c : AV} (ho : o.op = .makeSlice t x y) (ht : Γ.get? t = some it) (htd : it.td = .slc e) (hie : Γ.get? e = some ie)
  (hx : ev env x = some (.int k (m : Int))) (hy : ev env y = some (.int k' (m : Int))) (h1 : ie.size = 1) (hz : ie.zero.cells = #[z]) (hc : constAV z = some c) (hb : (ie.bytes : Int) * (m : Int) ≤ 281474976710656) (h63 : (m : Int) ≤ 9223372036854775807) {X : AV → Store → Prop} :
  OW P N o env s (fun r s' => ∃ b, s b = none ∧ r = .mslc b m ∧ s' = s.set b (.box e (List.replicate m c))) X := by
 refine OW.of_run (by simp [noDefer, ho]) fun ro B a w p hst => ?_
 obtain ⟨info, d, g1, g2, g3, -⟩ := hΓ.parts ht
 obtain ⟨infoe, de, k1, k2, k3, k4, k5, k6⟩ := hΓ.parts hie
 have hd : d = .slice e := by rw [htd] at g3; cases d <;> simp [tdOf] at g3; rw [g3]
 subst hd
 have hrx := hst.ev hx
 have hry := hst.ev hy
 generalize hvx : a.eval x = vx at hrx
 generalize hvy : a.eval y = vy at hry
 cases hrx
 cases hry
 obtain ⟨hn, hle, hk, hwf⟩ := new_obj hst.wf (.cells (madeCells ie.zero.cells (m * infoe.size)) e (0, 0)) (.box e (List.replicate m c)) (fun w' hw' hr hrl =>
  ⟨_, hw', hrl _ _ (by
   rw [hz, k4, h1, Nat.mul_one, madeCells_one]
   exact RelL.replicate (constAV_rel hc) m), fun o' hp => absurd (hst.wf.lt _ _ hp) (by omega)⟩)
 refine ⟨.slice (some ⟨w.heap.size, 0, none⟩) m m, _, _, p, _, ?_, hle, hk, hwf, ⟨w.heap.size, hn, rfl, rfl⟩, .mslc _ _ _ (by omega) (Nat.le_refl _)⟩
 unfold execOp
 rw [ho]
 simp only [hvx, hvy]
 refine run_v ?_
 have := run_make (P := P) w t e infoe ie.zero g2 k1 k6 k k' (m : Int) (m : Int) (by omega) (Int.le_refl _) (by rw [k5]; exact hb) h63
 simp only [Int.toNat_natCast] at this
 exact this

theorem OW.idxM (hΓ : TysOk P Γ) {o : Oper} {t e : TypeId} {x y : Operand} {it ie : TI} {b n : Nat} {k : IntKind} {i : Int} {j : Nat} (ho : o.op = .indexAddr t x y)
  (ht : Γ.get? t = some it) (htd : it.td = .slc e) (hie : Γ.get? e = some ie) (hx : ev env x = some (.mslc b n)) (h1 : ie.size = 1) (hy : ev env y = some (.int k i)) (hij : i = (j : Int)) (hj : j < n) {X : AV → Store → Prop} :
  OW P N o env s (fun r s' => r = .ptr b j ∧ s' = s) X := by
 refine OW.of_run (by simp [noDefer, ho]) fun ro B a w p hst => ?_
 obtain ⟨info, d, g1, g2, g3, -⟩ := hΓ.parts ht
 obtain ⟨infoe, de, k1, k2, k3, k4, -⟩ := hΓ.parts hie
 have hd : d = .slice e := by rw [htd] at g3; cases d <;> simp [tdOf] at g3; rw [g3]
 subst hd
 have hr := hst.ev hx
 have hri := hst.ev hy
 generalize hvx : a.eval x = vx at hr
 generalize hvy : a.eval y = vy at hri
 cases hri
 subst hij
 cases hr with
 | mslc _ _ cap hm hk =>
 refine ⟨.pointer (some ⟨b, 0 + j * 1, none⟩), w, s, p, _, ?_, .refl w p, .refl s w p, hst.wf, ⟨rfl, rfl⟩, ?_⟩
 ·unfold execOp
  rw [ho]
  simp only [hvx, hvy]
  refine run_v ?_
  have hlt : (0 : Int) ≤ (j : Int) ∧ (j : Int) < (n : Int) := by omega
  simp [Instr.indexAt, asIntOf, run_underlying g2, hlt.2, sizeOf, typeInfo, k1, k4, h1, add_none]
  intro hge; omega
 ·rw [Nat.zero_add, Nat.mul_one]; exact .ptr _ _

theorem OW.lenM (hΓ : TysOk P Γ) {o : Oper} {x : Operand} {t e : TypeId} {i : TI} {b n : Nat} (ho : o.op = .call { callee := .builtin .len, args := #[x], argTypes := #[t] }) (ht : Γ.get? t = some i) (htd : i.td = .slc e) (hx : ev env x = some (.mslc b n)) {X : AV → Store → Prop} :
  OW P N o env s (fun r s' => r = .int .i64 (n : Int) ∧ s' = s) X := by
 refine OW.of_run (by simp [noDefer, ho]) fun ro B a w p hst => ?_
 obtain ⟨info, d, h1, h2, h3, -⟩ := hΓ.parts ht
 have hr := hst.ev hx
 generalize hv : a.eval x = vx at hr
 have hd : d = .slice e := by rw [htd] at h3; cases d <;> simp [tdOf] at h3; rw [h3]
 subst hd
 cases hr with
 | mslc _ _ cap hm hk =>
 refine ⟨.int .i64 (n : Int), w, s, p, _, ?_, .refl w p, .refl s w p, hst.wf, ⟨rfl, rfl⟩, .int _ _⟩
 unfold execOp
 rw [ho]
 simp only [resolve, invoke, builtin, Sem.run_bind, Sem.run_pure, Result.andThen_ok, List.map_toArray, List.map_cons, List.map_nil, hv]
 simp [Builtin.len_, run_underlying h2, goInt]

variable {ops : Array Oper} {l : List Oper} {Q : AEx → Env → Store → Prop} {o : Oper} {d : Nat}
theorem RL.mkSlice (hΓ : TysOk P Γ) {t e : TypeId} {x y : Operand} {it ie : TI} {k k' : IntKind} {m : Nat} {z : Value} {c : AV} (hg : guardOf ops env o = some true) (hd : o.dst = some d) (hN : Nat.blt d N = true) (ho : o.op = .makeSlice t x y) (ht : Γ.get? t = some it) (htd : it.td = .slc e) (hie : Γ.get? e = some ie)
  (hx : ev env x = some (.int k (m : Int))) (hy : ev env y = some (.int k' (m : Int))) (h1 : ie.size = 1) (hz : ie.zero.cells = #[z]) (hc : constAV z = some c) (hb : (ie.bytes : Int) * (m : Int) ≤ 281474976710656) (h63 : (m : Int) ≤ 9223372036854775807)
  (h : ∀ b, s b = none → RL P N ops l Q ((d, .mslc b m) :: env) (s.set b (.box e (List.replicate m c)))) : RL P N ops (o :: l) Q env s :=
 RL.op hg hd hN (OW.mkSlice hΓ ho ht htd hie hx hy h1 hz hc hb h63 (X := fun _ _ => False)) (fun x s' ⟨b, h1, h2, h3⟩ => by subst h2; subst h3; exact h b h1) (fun _ _ h => h.elim)
theorem RL.idxM (hΓ : TysOk P Γ) {t e : TypeId} {x y : Operand} {it ie : TI} {b n : Nat} {k : IntKind} {i : Int} (j : Nat) (hg : guardOf ops env o = some true) (hd : o.dst = some d) (hN : Nat.blt d N = true) (ho : o.op = .indexAddr t x y)
  (ht : Γ.get? t = some it) (htd : it.td = .slc e) (hie : Γ.get? e = some ie) (hx : ev env x = some (.mslc b n)) (h1 : ie.size = 1) (hy : ev env y = some (.int k i)) (hij : i = (j : Int)) (hj : j < n)
  (h : RL P N ops l Q ((d, .ptr b j) :: env) s) : RL P N ops (o :: l) Q env s :=
 RL.op hg hd hN (OW.idxM hΓ ho ht htd hie hx h1 hy hij hj (X := fun _ _ => False)) (fun x s' ⟨h1, h2⟩ => by subst h1; subst h2; exact h) (fun _ _ h => h.elim)
theorem RL.lenM (hΓ : TysOk P Γ) {x : Operand} {t e : TypeId} {i : TI} {b n : Nat} (hg : guardOf ops env o = some true) (hd : o.dst = some d) (hN : Nat.blt d N = true) (ho : o.op = .call { callee := .builtin .len, args := #[x], argTypes := #[t] }) (ht : Γ.get? t = some i) (htd : i.td = .slc e) (hx : ev env x = some (.mslc b n))
  (h : RL P N ops l Q ((d, .int .i64 (n : Int)) :: env) s) : RL P N ops (o :: l) Q env s :=
 RL.op hg hd hN (OW.lenM hΓ ho ht htd hx (X := fun _ _ => False)) (fun x s' ⟨h1, h2⟩ => by subst h1; subst h2; exact h) (fun _ _ h => h.elim)
end

def bools (l : List Bool) : List AV := l.map .bool
theorem bools_length (l : List Bool) : (bools l).length = l.length := by simp [bools]
theorem bools_set (l : List Bool) (j : Nat) (b : Bool) : (bools l).set j (.bool b) = bools (l.set j b) := by simp [bools, List.map_set]
theorem bools_get {l : List Bool} {j : Nat} {b : Bool} (h : l[j]? = some b) : (bools l)[j]? = some (.bool b) := by simp [bools, h]

end Go.Proofs.YtaafacnoddjhgaaGreat

/- Contracts of the reference: place, above, SlotsOf, classes. -/
namespace Go.Proofs.YtaafacnoddjhgaaGreat
open Go.AE

theorem dropC_get {v : AV} : ∀ {cells : List AV} {j : Nat}, cells[j]? = some v → ∃ r, dropC j cells = some (v :: r)
  | [], j, h => by simp at h
  | x :: r, 0, h => by simp at h; subst h; exact ⟨r, rfl⟩
  | x :: r, j + 1, h => by
    obtain ⟨r', hr⟩ := dropC_get (cells := r) (j := j) (by simpa using h)
    exact ⟨r', hr⟩
theorem loadC_bool {i : TI} (hi : i.td = .bool) {cells : List AV} {j : Nat} {v : AV} (h : cells[j]? = some v) : loadC i cells j = some v := by
 obtain ⟨r, hr⟩ := dropC_get h
 unfold loadC
 rw [hr]
 simp only [hi]

set_option maxRecDepth 10000 in
theorem refPlace_spec (P : FProg) (name : Str) (s : Store) (hl : P.classes.length < big) :
  ACalls Tryz.prog 133 [P.av, .str name] s (fun o s' => o = .ret (.int .i64 (placeOf P.classes name 0)) ∧ s' = s) := by
 have hb : big = 1099511627776 := rfl
 refine ACalls.of_CW tO call133 Tryz.func133 rfl rfl ?_
 repeat (first | (with_reducible first | apply CW.seq | apply aN | apply CW.block) | refine wR rfl ?_)
 refine CW.loop (σ := Nat) (fun j => [(1, .str name), (2, .fptr P.cells 0), (5, .int .i64 (j : Int))]) (fun _ => s) (fun j => j ≤ P.classes.length ∧ placeOf P.classes name 0 = placeOf P.classes name j) (fun j => P.classes.length - j) 0 ⟨by omega, rfl⟩ (wE rfl) sSub ?_
 rintro j ⟨hj, hI⟩
 repeat (first | (with_reducible first | apply CW.seq | apply aN) | refine wR rfl ?_)
 refine CW.cond rfl (fun h => ?_) (fun h => ?_)
 ·have hlt : j < P.classes.length := by simpa using h
  obtain ⟨c, hy⟩ : ∃ y, P.classes[j]? = some y := ⟨_, List.getElem?_eq_getElem hlt⟩
  have hy' : (P.classes.map FClass.av)[j]? = some (.agg c.cells) := by rw [List.getElem?_map, hy]; rfl
  repeat (first | (with_reducible first | apply CW.seq | apply aN | apply CW.skip | apply CW.block) | refine CW.reg ?_ | refine RL.nil ?_ | refine wS rfl ?_ | refine RL.idx tO _ rfl rfl rfl rfl rfl rfl rfl rfl rfl rfl rfl (by assumption) rfl ?_)
  refine CW.cond rfl (fun hc => ?_) (fun hc => ?_)
  ·repeat (first | (with_reducible first | apply CW.seq | apply aN | apply aR | apply iR | apply CW.ret) | refine wR rfl ?_)
   exact ⟨_, _, _, rfl, aRfl, sSub, by rw [hI, placeOf_hit hy hc], rfl⟩
  ·repeat (first | (with_reducible first | apply aN | apply iN | apply CW.skip) | refine wR rfl ?_)
   exact ⟨j + 1, ⟨hlt, by rw [hI, placeOf_miss hy hc]⟩, (by repeat (first | exact trivial | refine ⟨⟨_, rfl, aRfl⟩, ?_⟩ | refine ⟨⟨_, rfl, AVle.of_eq (by (rw [i64_succ (by omega)]))⟩, ?_⟩)), sSub, by omega⟩
 ·have hge : P.classes.length ≤ j := by simpa using h
  repeat (first | (with_reducible first | apply CW.seq | apply aN | apply aX | apply iH | apply CW.ret | apply CW.exit) | refine wR rfl ?_)
  exact ⟨_, _, _, rfl, aRfl, sSub, by rw [hI, placeOf_end hge], rfl⟩

/-! ### The classes above one -/
def at_ (cls : List FClass) (p : Str) : Nat := (cls.findIdx? fun c => c.name == p).getD 0
def upStep (cls : List FClass) (ps : List Str) (out : List Bool) : List Bool := ps.foldl (fun out p => out.set (at_ cls p) true) out
def upGo (cls : List FClass) (n : Nat) : Nat → List Bool → List Bool
 | 0, out => out
 | i + 1, out => upGo cls n i (if i == n || out.getD i false then upStep cls ((cls[i]?.map FClass.parents).getD []) out else out)
def aboveB (cls : List FClass) (n : Nat) : List Bool := upGo cls n (n + 1) (List.replicate cls.length false)

def Known (cls : List FClass) : Prop := ∀ c ∈ cls, ∀ p ∈ c.parents, (cls.findIdx? fun c => c.name == p).isSome = true

theorem placeOf_at {cls : List FClass} {p : Str} (h : (cls.findIdx? fun c => c.name == p).isSome = true) : placeOf cls p 0 = (at_ cls p : Int) ∧ at_ cls p < cls.length := by
 obtain ⟨j, hj⟩ := Option.isSome_iff_exists.1 h
 unfold placeOf at_
 rw [List.drop_zero, hj]
 simp only [Option.getD_some, Nat.zero_add]
 refine ⟨trivial, ?_⟩
 rw [List.findIdx?_eq_some_iff_getElem] at hj
 exact hj.1

theorem upStep_len (cls : List FClass) : ∀ (ps : List Str) (out : List Bool), (upStep cls ps out).length = out.length
  | [], _ => rfl
  | p :: ps, out => by
    show (upStep cls ps (out.set _ true)).length = _
    rw [upStep_len cls ps, List.length_set]

def boolBox (l : List Bool) : AObj := .box 4 (bools l)

set_option maxRecDepth 10000 in
set_option maxHeartbeats 2000000 in
theorem refAbove_spec (P : FProg) (n : Nat) (s : Store) (hl : P.classes.length < big) (hn : n < P.classes.length) (hk : Known P.classes) (hp : ∀ c ∈ P.classes, c.parents.length < big) :
  ACalls Tryz.prog 97 [P.av, .int .i64 (n : Int)] s (fun o s' => ∃ b, s b = none ∧ o = .ret (.mslc b P.classes.length) ∧ s' = s.set b (boolBox (aboveB P.classes n))) := by
 have hb : big = 1099511627776 := rfl
 have hml : (P.classes.map FClass.av).length = P.classes.length := List.length_map ..
 refine ACalls.of_CW tO call97 Tryz.func97 rfl rfl ?_
 refine CW.seqCut [(1, .int .i64 (n : Int)), (2, .fptr P.cells 0)] s ?_ ?_
 ·repeat (first | refine wR rfl ?_)
  exact ⟨rfl, (wE rfl), sSub⟩
 refine CW.seqCutX (σ := Nat) (fun b => [(1, .int .i64 (n : Int)), (2, .fptr P.cells 0), (5, .mslc b P.classes.length)]) (fun b => s.set b (boolBox (List.replicate P.classes.length false))) (fun b => s b = none) ?_ ?_
 ·repeat (first | refine CW.reg ?_ | refine wS rfl ?_)
  rw [hml]
  refine RL.mkSlice tO rfl rfl rfl rfl rfl rfl rfl rfl rfl rfl rfl rfl (by show (1 : Int) * _ ≤ _; omega) (by omega) (fun b hb => ?_)
  repeat (first | refine RL.nil ?_ | refine wS rfl ?_)
  refine ⟨rfl, b, hb, (wE rfl), ?_⟩
  have : bools (List.replicate P.classes.length false) = List.replicate P.classes.length (.bool false) := by simp [bools]
  rw [boolBox, this]; exact sSub
 intro b hbn
 repeat (first | (with_reducible first | apply CW.seq | apply aN | apply CW.block) | refine wR rfl ?_)
 refine CW.loop (σ := Nat × List Bool) (fun q => [(1, .int .i64 (n : Int)), (2, .fptr P.cells 0), (5, .mslc b P.classes.length), (6, .int .i64 ((n : Int) - (q.1 : Int)))]) (fun q => s.set b (boolBox q.2))
  (fun q => q.1 ≤ n + 1 ∧ q.2.length = P.classes.length ∧ upGo P.classes n (n + 1 - q.1) q.2 = aboveB P.classes n) (fun q => n + 1 - q.1) (0, List.replicate P.classes.length false) ⟨by simp, by simp, rfl⟩ (by repeat (first | exact trivial | refine ⟨⟨_, rfl, aRfl⟩, ?_⟩ | refine ⟨⟨_, rfl, AVle.of_eq (by (simp))⟩, ?_⟩)) sSub ?_
 rintro ⟨k, out⟩ ⟨hk1, hol, hI⟩
 simp only at hk1 hol hI
 repeat (first | (with_reducible first | apply CW.seq | apply aN) | refine wR rfl ?_)
 refine CW.cond rfl (fun h => ?_) (fun h => ?_)
 ·have hlt : k ≤ n := by simp only [decide_eq_true_eq] at h; omega
  have hin : (n : Int) - (k : Int) = ((n - k : Nat) : Int) := by omega
  have hil : n - k < P.classes.length := by omega
  obtain ⟨c, hc⟩ : ∃ c, P.classes[n - k]? = some c := ⟨_, List.getElem?_eq_getElem hil⟩
  have hc' : (P.classes.map FClass.av)[n - k]? = some (.agg c.cells) := by rw [List.getElem?_map, hc]; rfl
  obtain ⟨v, hv⟩ : ∃ v, out[n - k]? = some v := ⟨_, List.getElem?_eq_getElem (by omega)⟩
  have hgo : upGo P.classes n (n + 1 - k) out = upGo P.classes n (n - k) (if n - k == n || v then upStep P.classes c.parents out else out) := by
   rw [show n + 1 - k = (n - k) + 1 by omega, upGo, hc]
   simp [hv]
  rw [hgo] at hI
  have hcm : c ∈ P.classes := List.mem_of_getElem? hc
  have hcp := hp c hcm
  refine CW.skip (aN (CW.seq (CW.block ?_)))
  refine CW.seq ?_
  refine CW.seqCut [(1, .int .i64 (n : Int)), (2, .fptr P.cells 0), (5, .mslc b P.classes.length), (6, .int .i64 ((n : Int) - (k : Int))), (27, .bool (!(n - k == n || v)))] (s.set b (boolBox out)) ?_ ?_
  ·repeat (first | refine CW.reg ?_ | refine wS rfl ?_)
   by_cases hk0 : k = 0
   ·subst hk0
    refine RL.knowF 21 rfl (by simp) ?_
    repeat (first | refine RL.nil ?_ | refine wS rfl ?_ | refine RL.skip rfl rfl rfl ?_)
    exact ⟨rfl, (by repeat (first | exact trivial | refine ⟨⟨_, rfl, aRfl⟩, ?_⟩ | refine ⟨⟨_, rfl, AVle.of_eq (by (simp))⟩, ?_⟩)), sSub⟩
   ·refine RL.knowT 21 rfl (by simp; omega) ?_
    repeat (first | refine wS rfl ?_)
    refine RL.idxM tO (n - k) rfl rfl rfl rfl rfl rfl rfl rfl rfl rfl hin hil ?_
    refine RL.loadP tO rfl rfl rfl rfl rfl rfl sSam (loadC_bool rfl (bools_get hv)) ?_
    repeat (first | refine RL.nil ?_ | refine wS rfl ?_)
    have hne : (n - k == n) = false := by simp; omega
    exact ⟨rfl, (by repeat (first | exact trivial | refine ⟨⟨_, rfl, aRfl⟩, ?_⟩ | refine ⟨⟨_, rfl, AVle.of_eq (by (rw [hne]; rfl))⟩, ?_⟩)), sSub⟩
  cases hu : n - k == n || v with
  | false =>
   rw [hu, if_neg (by simp)] at hI
   repeat (first | (with_reducible first | apply aN | apply aX | apply iH | apply CW.exit) | refine wR rfl ?_ | refine CW.condT rfl ?_)
   exact ⟨(k + 1, out), ⟨by show k + 1 ≤ n + 1; omega, hol, by rw [show n + 1 - (k + 1) = n - k by omega]; exact hI⟩, (by repeat (first | exact trivial | refine ⟨⟨_, rfl, aRfl⟩, ?_⟩ | refine ⟨⟨_, rfl, AVle.of_eq (by (rw [i64_wrap (by omega) (by omega)]; congr 1; omega))⟩, ?_⟩)), sSub, by show n + 1 - (k + 1) < n + 1 - k; omega⟩
  | true =>
   rw [hu, if_pos rfl] at hI
   refine CW.condF rfl (CW.skip (aN ?_))
   refine CW.seqCut [(1, .int .i64 (n : Int)), (2, .fptr P.cells 0), (5, .mslc b P.classes.length), (6, .int .i64 ((n : Int) - (k : Int))), (7, .slc 1 (strs c.parents) .fro)] (s.set b (boolBox out)) ?_ ?_
   ·repeat (first | refine CW.reg ?_ | refine wS rfl ?_)
    refine RL.idx tO (n - k) rfl rfl rfl rfl rfl rfl rfl rfl rfl rfl hin hc' rfl ?_
    repeat (first | refine RL.nil ?_ | refine wS rfl ?_)
    exact ⟨rfl, (wE rfl), sSub⟩
   repeat (first | (with_reducible first | apply CW.seq | apply aN | apply CW.block) | refine wR rfl ?_)
   refine CW.loop (σ := Nat × List Bool) (fun q => [(1, .int .i64 (n : Int)), (2, .fptr P.cells 0), (5, .mslc b P.classes.length), (6, .int .i64 ((n : Int) - (k : Int))), (7, .slc 1 (strs c.parents) .fro), (8, .int .i64 (q.1 : Int))]) (fun q => s.set b (boolBox q.2))
    (fun q => q.1 ≤ c.parents.length ∧ q.2.length = P.classes.length ∧ upStep P.classes (c.parents.drop q.1) q.2 = upStep P.classes c.parents out) (fun q => c.parents.length - q.1) (0, out) ⟨by simp, hol, rfl⟩ (wE rfl) sSub ?_
   rintro ⟨j, out2⟩ ⟨hj, hol2, hJ⟩
   simp only at hj hol2 hJ
   repeat (first | (with_reducible first | apply CW.seq | apply aN) | refine wR rfl ?_)
   refine CW.cond rfl (fun h => ?_) (fun h => ?_)
   ·have hltj : j < c.parents.length := by simpa using h
    obtain ⟨p, hpj⟩ : ∃ p, c.parents[j]? = some p := ⟨_, List.getElem?_eq_getElem hltj⟩
    have hpj' : (strs c.parents)[j]? = some (.str p) := by rw [strs_get, hpj]; rfl
    obtain ⟨q1, q2⟩ := placeOf_at (hk c hcm p (List.mem_of_getElem? hpj))
    rw [drop_cons hpj] at hJ
    have hJ' : upStep P.classes (c.parents.drop (j + 1)) (out2.set (at_ P.classes p) true) = upStep P.classes c.parents out := hJ
    repeat (first | (with_reducible first | apply CW.seq | apply aN | apply CW.skip | apply CW.block) | refine CW.drw tO mixed rfl (RD.run rfl ?_))
    refine RD.idx 4 j rfl rfl rfl rfl rfl rfl rfl rfl rfl rfl rfl rfl rfl hpj' rfl ?_
    refine RD.run rfl ?_
    refine RD.callP (i := 6) rfl rfl rfl rfl rfl rfl rfl (refPlace_spec P p _ hl) ?_
    rw [q1]
    refine RD.one (i := 7) rfl rfl rfl rfl rfl (OW.idxM tO rfl rfl rfl rfl rfl rfl rfl rfl q2 (X := fun _ _ => False)) ?_ (fun _ _ h => False.elim h)
    rintro _ s2 ⟨rfl, hs2⟩
    rw [hs2]
    clear hs2 s2
    refine RD.run rfl ?_
    refine RD.oneN (i := 8) rfl rfl rfl rfl (OW.storeP tO rfl rfl rfl rfl rfl rfl rfl sSam (by rw [Nat.ble_eq, bools_length]; show at_ P.classes p + 1 ≤ out2.length; omega) (X := fun _ _ => False)) ?_ (fun _ _ h => False.elim h)
    rintro _ _ rfl
    refine RD.run rfl (RD.done rfl ?_)
    rw [Store.set_set]
    repeat (first | (with_reducible first | apply aN | apply iN) | refine wR rfl ?_)
    refine ⟨(j + 1, out2.set (at_ P.classes p) true), ⟨hltj, by rw [List.length_set]; exact hol2, hJ'⟩, (by repeat (first | exact trivial | refine ⟨⟨_, rfl, aRfl⟩, ?_⟩ | refine ⟨⟨_, rfl, AVle.of_eq (by (show AV.int .i64 (IntKind.wrap .i64 ((j : Int) + 1)) = .int .i64 ((j + 1 : Nat) : Int); rw [i64_succ (by omega)]))⟩, ?_⟩)), ?_, by show c.parents.length - (j + 1) < c.parents.length - j; omega⟩
    show Store.Sub (s.set b (boolBox (out2.set (at_ P.classes p) true))) _
    rw [boolBox, ← bools_set]
    exact sSub
   ·have hge : c.parents.length ≤ j := by simpa using h
    rw [List.drop_eq_nil_of_le hge] at hJ
    have hJ' : out2 = upStep P.classes c.parents out := hJ
    rw [← hJ'] at hI
    repeat (first | (with_reducible first | apply aN | apply aX | apply iN | apply iH | apply CW.exit) | refine wR rfl ?_)
    exact ⟨(k + 1, out2), ⟨by show k + 1 ≤ n + 1; omega, hol2, by rw [show n + 1 - (k + 1) = n - k by omega]; exact hI⟩, (by repeat (first | exact trivial | refine ⟨⟨_, rfl, aRfl⟩, ?_⟩ | refine ⟨⟨_, rfl, AVle.of_eq (by (rw [i64_wrap (by omega) (by omega)]; congr 1; omega))⟩, ?_⟩)), sSub, by show n + 1 - (k + 1) < n + 1 - k; omega⟩
 ·have hge : k = n + 1 := by simp only [decide_eq_false_iff_not] at h; omega
  subst hge
  have hI' : out = aboveB P.classes n := by rw [← hI]; simp [upGo]
  repeat (first | (with_reducible first | apply CW.seq | apply aN | apply aX | apply iH | apply CW.ret | apply CW.exit) | refine wR rfl ?_)
  exact ⟨_, _, _, rfl, aRfl, sSub, b, hbn, rfl, by rw [hI']⟩

set_option maxRecDepth 10000 in
theorem refSlotsOf_spec (P : FProg) (s : Store) (hl : P.classes.length < big) (hs : (P.classes.flatMap FClass.slots).length < big) :
  ACalls Tryz.prog 56 [P.av] s (fun o s' => o = .ret (.slc 1 (strs (P.classes.flatMap FClass.slots)) .fro) ∧ s' = s) := by
 have hb : big = 1099511627776 := rfl
 refine ACalls.of_CW tO call56 Tryz.func56 rfl rfl ?_
 repeat (first | (with_reducible first | apply CW.seq | apply aN | apply CW.block) | refine wR rfl ?_)
 refine CW.loop (σ := Nat × Own) (fun q => [(1, .fptr P.cells 0), (3, .slc 1 (strs ((P.classes.take q.1).flatMap FClass.slots)) q.2), (4, .int .i64 (q.1 : Int))])
  (fun q => rowOf s 9 1 ((P.classes.take q.1).flatMap FClass.slots).length q.2) (fun q => q.1 ≤ P.classes.length ∧ OwnOk s 0 q.2) (fun q => P.classes.length - q.1) (0, .nil) ⟨by simp, trivial⟩ ?_ sSub ?_
 ·exact ⟨⟨_, rfl, aRfl⟩, ⟨_, rfl, AVle.nil (by simp)⟩, ⟨_, rfl, aRfl⟩, trivial⟩
 rintro ⟨i, own⟩ ⟨hi, hown⟩
 simp only at hi hown
 repeat (first | (with_reducible first | apply CW.seq | apply aN) | refine wR rfl ?_)
 refine CW.cond rfl (fun h => ?_) (fun h => ?_)
 ·have hlt : i < P.classes.length := by simpa using h
  obtain ⟨c, hci⟩ : ∃ c, P.classes[i]? = some c := ⟨_, List.getElem?_eq_getElem hlt⟩
  have hci' : (P.classes.map FClass.av)[i]? = some (.agg c.cells) := by rw [List.getElem?_map, hci]; rfl
  have hle := flatMap_take_le FClass.slots P.classes (i + 1)
  rw [flatMap_take_succ _ hci, List.length_append] at hle
  repeat (first | (with_reducible first | apply CW.seq | apply aN | apply CW.skip | apply CW.block) | refine CW.reg ?_ | refine wS rfl ?_ | refine RL.idx tO _ rfl rfl rfl rfl rfl rfl rfl rfl rfl rfl rfl (by assumption) rfl ?_)
  refine RL.appendR tO rfl rfl rfl rfl rfl rfl rfl (by intro k; simp) rfl rfl rfl rfl (.inr rfl) rfl (strs_elem _) (n := ((P.classes.take i).flatMap FClass.slots).length) ?_ ?_ (strs_length _).symm rfl (OwnOk.sub' hown) ?_
  ·simp only [strs_length]; show _ * 16 ≤ _; omega
  ·simp only [strs_length]; omega
  rintro own' h1
  repeat (first | (with_reducible first | apply aN | apply iN) | refine wR rfl ?_ | refine RL.nil ?_ | refine wS rfl ?_)
  refine ⟨(i + 1, own'), ⟨hlt, OwnOk.sub' h1⟩, ⟨⟨_, rfl, aRfl⟩, ⟨_, rfl, AVle.of_eq ?_⟩, ⟨_, rfl, AVle.of_eq ?_⟩, trivial⟩, ?_, by show P.classes.length - (i + 1) < P.classes.length - i; omega⟩
  ·rw [flatMap_take_succ _ hci]; simp [strs]
  ·rw [i64_succ (by omega)]
  ·have e : (strs ((P.classes.take i).flatMap FClass.slots)).length + (strs c.slots).length = ((P.classes.take (i + 1)).flatMap FClass.slots).length := by
    rw [flatMap_take_succ _ hci]; simp
   show Store.Sub (rowOf s _ 1 _ own') _
   rw [← e]; exact sSub
 ·have hge : P.classes.length ≤ i := by simpa using h
  rw [List.take_of_length_le hge]
  repeat (first | (with_reducible first | apply CW.seq | apply aN | apply aX | apply iH | apply CW.ret | apply CW.exit) | refine wR rfl ?_)
  exact ⟨_, _, s, rfl, AVle.fro, rowOf_sub hown, rfl, rfl⟩

/-! ### Classes -/
def clsOkR (pre : List Str) (c : FClass) : Bool := ((decide (c.parents.length ≤ 3) && decide (c.slots.length ≤ 4)) && decide c.parents.Nodup) && c.parents.all pre.contains
def allPreN : List Str → List FClass → Bool
 | _, [] => true
 | pre, c :: r => clsOkR pre c && allPreN (pre ++ [c.name]) r
def classesR (cls : List FClass) : Bool := decide (cls.length ≤ 10) && (allPreN [] cls && (((cls.map FClass.name).all nameS && decide (cls.map FClass.name).Nodup) && ((cls.flatMap FClass.slots).all nameS && decide (cls.flatMap FClass.slots).Nodup)))

set_option maxRecDepth 10000 in
set_option maxHeartbeats 2000000 in
theorem refClasses_spec (P : FProg) (s : Store) (hP : P.Fair) :
    ACalls Tryz.prog 53 [P.av] s (fun o s' => o = .ret (.bool (classesR P.classes)) ∧ s' = s) := by
  have hb : big = 1099511627776 := rfl
  have hl := hP.clen
  have hsl := hP.slen
  have hml : (P.classes.map FClass.av).length = P.classes.length := List.length_map ..
  refine ACalls.of_CW tO call53 Tryz.func53 rfl rfl ?_
  repeat (first | (with_reducible first | apply CW.seq | apply aN) | refine wR rfl ?_)
  refine CW.cond rfl (fun h => ?_) (fun h => ?_)
  · have hgt : ¬ P.classes.length ≤ 10 := by rw [hml] at h; simp at h; omega
    have : classesR P.classes = false := by unfold classesR; rw [decide_eq_false hgt]; rfl
    rw [this]
    repeat (first | (with_reducible first | apply CW.seq | apply aN | apply aR | apply CW.ret) | refine wR rfl ?_)
    exact ⟨_, _, _, rfl, aRfl, sSub, rfl, rfl⟩
  have hle : P.classes.length ≤ 10 := by rw [hml] at h; simp at h; omega
  have hdef : classesR P.classes = (allPreN [] P.classes && (((P.classes.map FClass.name).all nameS && decide (P.classes.map FClass.name).Nodup) && ((P.classes.flatMap FClass.slots).all nameS && decide (P.classes.flatMap FClass.slots).Nodup))) := by
    unfold classesR; rw [decide_eq_true hle]; rfl
  repeat (first | (with_reducible first | apply CW.seq | apply aN | apply CW.skip | apply CW.block) | refine wR rfl ?_)
  refine CW.loop (σ := Nat × Own) (fun q => [(1, .fptr P.cells 0), (3, .slc 1 (strs ((P.classes.take q.1).map FClass.name)) q.2), (4, .int .i64 (q.1 : Int))])
    (fun q => rowOf s 9 1 q.1 q.2) (fun q => q.1 ≤ P.classes.length ∧ OwnOk s 0 q.2 ∧ allPreN [] P.classes = allPreN ((P.classes.take q.1).map FClass.name) (P.classes.drop q.1)) (fun q => P.classes.length - q.1) (0, .nil) ⟨by simp, trivial, rfl⟩ ?_ sSub ?_
  · exact ⟨⟨_, rfl, aRfl⟩, ⟨_, rfl, AVle.nil (by simp)⟩, ⟨_, rfl, aRfl⟩, trivial⟩
  rintro ⟨i, own⟩ ⟨hi, hown, hI⟩
  simp only at hi hown hI
  have hln : ((P.classes.take i).map FClass.name).length = i := by simp; omega
  repeat (first | (with_reducible first | apply CW.seq | apply aN) | refine wR rfl ?_)
  refine CW.cond rfl (fun h => ?_) (fun h => ?_)
  · have hlt : i < P.classes.length := by rw [hml] at h; simpa using h
    obtain ⟨c, hci⟩ : ∃ c, P.classes[i]? = some c := ⟨_, List.getElem?_eq_getElem hlt⟩
    have hci' : (P.classes.map FClass.av)[i]? = some (.agg c.cells) := by rw [List.getElem?_map, hci]; rfl
    have hcf := hP.cls c (List.mem_of_getElem? hci)
    have hpl := hcf.parents.len
    rw [drop_cons hci, allPreN] at hI
    have hbad : clsOkR ((P.classes.take i).map FClass.name) c = false → classesR P.classes = false := fun hc => by rw [hdef, hI, hc]; rfl
    have hnx : (P.classes.take i).map FClass.name ++ [c.name] = (P.classes.take (i + 1)).map FClass.name := by rw [← take_snoc hci]; simp
    rw [hnx] at hI
    refine CW.skip (aN (CW.seq (CW.block ?_)))
    refine CW.seqCut [(1, .fptr P.cells 0), (3, .slc 1 (strs ((P.classes.take i).map FClass.name)) own), (4, .int .i64 (i : Int)), (5, .fptr c.cells 0)] (rowOf s 9 1 i own) ?_ ?_
    · repeat (first | refine CW.reg ?_ | refine wS rfl ?_ | refine RL.idx tO _ rfl rfl rfl rfl rfl rfl rfl rfl rfl rfl rfl (by assumption) rfl ?_)
      refine RL.newBox tO rfl rfl rfl rfl rfl rfl rfl (fun _ => rfl) rfl rfl (fun _ => rfl) rfl rfl rfl rfl ?_
      repeat (first | refine RL.nil ?_)
      exact ⟨rfl, (wE rfl), sSub⟩
    refine CW.seqCutX (σ := Own) (fun o' => [(1, .fptr P.cells 0), (3, .slc 1 (strs ((P.classes.take (i + 1)).map FClass.name)) o'), (4, .int .i64 (i : Int)), (5, .fptr c.cells 0)]) (fun o' => rowOf s 9 1 (i + 1) o') (fun o' => OwnOk s 0 o') ?_ ?_
    · repeat (first | refine CW.reg ?_ | refine wS rfl ?_)
      refine RL.append1 tO rfl rfl rfl rfl rfl rfl rfl (by intro k; simp) rfl rfl rfl rfl rfl rfl rfl (n := i) (by rw [strs_length, hln]) (by show (i + 1) * 16 ≤ _; omega) (by omega) (s := s) rfl (OwnOk.sub' hown) (fun rb hrb => ?_)
      repeat (first | refine RL.nil ?_ | refine wS rfl ?_)
      exact ⟨rfl, .own rb, hrb, (by repeat (first | exact trivial | refine ⟨⟨_, rfl, aRfl⟩, ?_⟩ | refine ⟨⟨_, rfl, AVle.of_eq (by (rw [← hnx]; simp [strs]))⟩, ?_⟩)), sSub⟩
    intro o' ho'
    have hln2 : ((P.classes.take (i + 1)).map FClass.name).length = i + 1 := by simp; omega
    have hdf := fun s => differ_spec c.parents .fro s (by omega)
    refine CW.seq ?_
    refine CW.seqCut [(1, .fptr P.cells 0), (3, .slc 1 (strs ((P.classes.take (i + 1)).map FClass.name)) o'), (4, .int .i64 (i : Int)), (5, .fptr c.cells 0), (43, .bool (!((decide (c.parents.length ≤ 3) && decide (c.slots.length ≤ 4)) && decide c.parents.Nodup)))] (rowOf s 9 1 (i + 1) o') ?_ ?_
    · generalize decide c.parents.Nodup = nd at hdf
      repeat' (first | refine CW.reg ?_ | refine RL.nil ?_ | refine wS rfl ?_ | refine RL.skip rfl rfl rfl ?_ | refine RL.gstepF tO rfl rfl rfl rfl rfl rfl rfl (fun _ => ?_) (fun _ => ?_) | refine RL.callP rfl rfl rfl rfl rfl (hdf _) ?_)
      all_goals refine ⟨rfl, (by repeat (first | exact trivial | refine ⟨⟨_, rfl, aRfl⟩, ?_⟩ | refine ⟨⟨_, rfl, AVle.of_eq (by (simp_all; (try (rw [Bool.eq_iff_iff]; simp; omega)); (try omega)))⟩, ?_⟩)), sSub⟩
    cases hc1 : (decide (c.parents.length ≤ 3) && decide (c.slots.length ≤ 4)) && decide c.parents.Nodup with
    | false =>
      rw [hbad (by unfold clsOkR; rw [hc1]; rfl)]
      repeat (first | (with_reducible first | apply CW.seq | apply aN | apply aR | apply iR | apply CW.ret) | refine wR rfl ?_ | refine CW.condT rfl ?_)
      exact ⟨_, _, s, rfl, aRfl, rowOf_sub ho', rfl, rfl⟩
    | true =>
    have hck : clsOkR ((P.classes.take i).map FClass.name) c = c.parents.all ((P.classes.take i).map FClass.name).contains := by unfold clsOkR; rw [hc1]; rfl
    refine CW.condF rfl (CW.skip (aN ?_))
    have htk : ((strs ((P.classes.take (i + 1)).map FClass.name)).take i).drop 0 = strs ((P.classes.take i).map FClass.name) := by
      rw [← hnx]
      have : strs ((P.classes.take i).map FClass.name ++ [c.name]) = strs ((P.classes.take i).map FClass.name) ++ [.str c.name] := by simp [strs]
      rw [this, List.drop_zero]
      exact List.take_left' (by rw [strs_length, hln])
    generalize (P.classes.take i).map FClass.name = pre at hln hck hI hbad htk
    repeat (first | (with_reducible first | apply CW.seq | apply aN | apply CW.block) | refine wR rfl ?_)
    refine CW.loop (σ := Nat) (fun j => [(1, .fptr P.cells 0), (3, .slc 1 (strs ((P.classes.take (i + 1)).map FClass.name)) o'), (4, .int .i64 (i : Int)), (5, .fptr c.cells 0), (6, .int .i64 (j : Int))]) (fun _ => rowOf s 9 1 (i + 1) o')
      (fun j => j ≤ c.parents.length ∧ c.parents.all pre.contains = (c.parents.drop j).all pre.contains) (fun j => c.parents.length - j) 0 ⟨by omega, rfl⟩ (wE rfl) sSub ?_
    rintro j ⟨hj, hJ⟩
    repeat (first | (with_reducible first | apply CW.seq | apply aN) | refine wR rfl ?_)
    refine CW.cond rfl (fun h => ?_) (fun h => ?_)
    · have hltj : j < c.parents.length := by simpa using h
      obtain ⟨p, hpj⟩ : ∃ p, c.parents[j]? = some p := ⟨_, List.getElem?_eq_getElem hltj⟩
      have hpj' : (strs c.parents)[j]? = some (.str p) := by rw [strs_get, hpj]; rfl
      repeat (first | (with_reducible first | apply CW.seq | apply aN | apply CW.skip | apply CW.block) | refine CW.drw tO mixed rfl (RD.run rfl ?_))
      refine RD.slice 2 0 i rfl rfl rfl rfl rfl rfl rfl rfl rfl rfl (.inr rfl) (.inl ⟨rfl, rfl⟩) (.inr ⟨_, _, rfl, rfl⟩) (.inl ⟨rfl, rfl⟩) (by omega) (by rw [strs_length, hln2]; omega) ?_
      rw [htk]
      refine RD.idx 6 j rfl rfl rfl rfl rfl rfl rfl rfl rfl rfl rfl rfl rfl hpj' rfl ?_
      refine RD.run rfl ?_
      refine RD.callP (i := 8) rfl rfl rfl rfl rfl rfl rfl (refHas_spec pre .fro p _ (by omega)) ?_
      refine RD.run rfl (RD.done rfl ?_)
      cases hpc : pre.contains p with
      | true =>
        repeat (first | (with_reducible first | apply aN | apply iN | apply CW.skip) | refine wR rfl ?_ | refine CW.condF rfl ?_)
        exact ⟨j + 1, ⟨hltj, all_take hpj hJ hpc⟩, (by repeat (first | exact trivial | refine ⟨⟨_, rfl, aRfl⟩, ?_⟩ | refine ⟨⟨_, rfl, AVle.of_eq (by (rw [i64_succ (by omega)]))⟩, ?_⟩)), sSub, by omega⟩
      | false =>
        rw [hbad (by rw [hck]; exact all_miss hpj hpc)]
        repeat (first | (with_reducible first | apply CW.seq | apply aN | apply aR | apply iR | apply CW.ret) | refine wR rfl ?_ | refine CW.condT rfl ?_)
        exact ⟨_, _, s, rfl, aRfl, rowOf_sub ho', rfl, rfl⟩
    · have hge : c.parents.length ≤ j := by simpa using h
      rw [List.drop_eq_nil_of_le hge] at hJ
      rw [hck, hJ] at hI
      repeat (first | (with_reducible first | apply aN | apply aX | apply iN | apply iH | apply CW.exit) | refine wR rfl ?_)
      exact ⟨(i + 1, o'), ⟨hlt, ho', hI⟩, (by repeat (first | exact trivial | refine ⟨⟨_, rfl, aRfl⟩, ?_⟩ | refine ⟨⟨_, rfl, AVle.of_eq (by (show AV.int .i64 (IntKind.wrap .i64 ((i : Int) + 1)) = .int .i64 ((i + 1 : Nat) : Int); rw [i64_succ (by omega)]))⟩, ?_⟩)), sSub, by show P.classes.length - (i + 1) < P.classes.length - i; omega⟩
  · have hge : P.classes.length ≤ i := by rw [hml] at h; simpa using h
    rw [List.drop_eq_nil_of_le hge, allPreN] at hI
    rw [hI, Bool.true_and] at hdef
    rw [List.take_of_length_le hge] at hln ⊢
    have hn1 := fun s => refNames_spec (P.classes.map FClass.name) own s (by rw [List.length_map]; omega) (by
      intro x hx
      obtain ⟨c, hc, rfl⟩ := List.mem_map.1 hx
      exact (hP.cls c hc).name)
    have hn2 := fun s => refNames_spec (P.classes.flatMap FClass.slots) .fro s (by omega) (by
      intro x hx
      obtain ⟨c, hc, hx⟩ := List.mem_flatMap.1 hx
      exact (hP.cls c hc).slots.sh x hx)
    rw [hdef]
    generalize ((P.classes.map FClass.name).all nameS && decide (P.classes.map FClass.name).Nodup) = n1 at hn1 ⊢
    generalize ((P.classes.flatMap FClass.slots).all nameS && decide (P.classes.flatMap FClass.slots).Nodup) = n2 at hn2 ⊢
    repeat (first | (with_reducible first | apply CW.seq | apply aN | apply aX | apply iH | apply CW.exit) | refine CW.reg ?_ | refine wS rfl ?_)
    refine RL.callP rfl rfl rfl rfl rfl (hn1 _) ?_
    cases n1 with
    | false =>
      repeat (first | (with_reducible first | apply aN | apply CW.ret) | refine RL.nil ?_ | refine wS rfl ?_ | refine RL.skip rfl rfl rfl ?_)
      exact ⟨_, _, s, rfl, aRfl, rowOf_sub hown, rfl, rfl⟩
    | true =>
      repeat (first | refine wS rfl ?_)
      refine RL.callP rfl rfl rfl rfl rfl (refSlotsOf_spec P _ hl hsl) ?_
      skip
      refine RL.callP rfl rfl rfl rfl rfl (hn2 _) ?_
      repeat (first | (with_reducible first | apply aN | apply CW.ret) | refine RL.nil ?_ | refine wS rfl ?_)
      exact ⟨_, _, s, rfl, aRfl, rowOf_sub hown, rfl, rfl⟩
end Go.Proofs.YtaafacnoddjhgaaGreat

/- Contracts of the reference: inits. -/
namespace Go.Proofs.YtaafacnoddjhgaaGreat
open Go.AE

def slotsAt (cls : List FClass) (j : Nat) : List Str := (cls[j]?.map FClass.slots).getD []
def initsAt (cls : List FClass) (j : Nat) : List FInit := (cls[j]?.map FClass.inits).getD []
def mineUpto (cls : List FClass) (up : List Bool) (k : Nat) : List Str := (List.range k).flatMap fun j => if up.getD j false then slotsAt cls j else []
def initsOkR (mine : List Str) : List Str → List FInit → Bool
 | _, [] => true
 | set, x :: r => ((mine.contains x.slot && !set.contains x.slot) && between x.n) && initsOkR mine (set ++ [x.slot]) r
def initsI (cls : List FClass) (i : Nat) : Bool := initsOkR (mineUpto cls ((aboveB cls i).set i true) cls.length) [] (initsAt cls i)
def initsR (cls : List FClass) : Bool := (List.range cls.length).all (initsI cls)

theorem mineUpto_succ (cls : List FClass) (up : List Bool) (k : Nat) : mineUpto cls up (k + 1) = mineUpto cls up k ++ (if up.getD k false then slotsAt cls k else []) := by
 unfold mineUpto; rw [List.range_succ, List.flatMap_append]; simp
theorem mineUpto_len {cls : List FClass} {up : List Bool} : ∀ {k : Nat}, k ≤ cls.length → (mineUpto cls up k).length ≤ ((cls.take k).flatMap FClass.slots).length
  | 0, _ => by simp [mineUpto]
  | k + 1, hk => by
    obtain ⟨c, hc⟩ : ∃ c, cls[k]? = some c := ⟨_, List.getElem?_eq_getElem (by omega)⟩
    rw [mineUpto_succ, flatMap_take_succ _ hc, List.length_append, List.length_append]
    have h1 := mineUpto_len (cls := cls) (up := up) (k := k) (by omega)
    have h2 : slotsAt cls k = c.slots := by simp [slotsAt, hc]
    rw [h2]
    have h3 : (if up.getD k false then c.slots else []).length ≤ c.slots.length := by split <;> simp
    omega

theorem upGo_len (cls : List FClass) (n : Nat) : ∀ (i : Nat) (out : List Bool), (upGo cls n i out).length = out.length
  | 0, _ => rfl
  | i + 1, out => by
    rw [upGo, upGo_len cls n i]
    split
    · exact upStep_len _ _ _
    · rfl
theorem aboveB_len (cls : List FClass) (n : Nat) : (aboveB cls n).length = cls.length := by unfold aboveB; rw [upGo_len, List.length_replicate]

set_option maxRecDepth 10000 in
set_option maxHeartbeats 4000000 in
theorem refInits_spec (P : FProg) (s : Store) (hP : P.Fair) (hk : Known P.classes) :
  ACalls Tryz.prog 54 [P.av] s (fun o s' => o = .ret (.bool (initsR P.classes)) ∧ s' = s) := by
 have hb : big = 1099511627776 := rfl
 have hl := hP.clen
 have hsl := hP.slen
 have hml : (P.classes.map FClass.av).length = P.classes.length := List.length_map ..
 have hpar : ∀ c ∈ P.classes, c.parents.length < big := fun c hc => (hP.cls c hc).parents.len
 refine ACalls.of_CW tO call54 Tryz.func54 rfl rfl ?_
 repeat (first | (with_reducible first | apply CW.seq | apply aN | apply CW.block) | refine wR rfl ?_)
 refine CW.loop (σ := Nat) (fun i => [(1, .fptr P.cells 0), (3, .int .i64 (i : Int))]) (fun _ => s) (fun i => i ≤ P.classes.length ∧ initsR P.classes = ((List.range P.classes.length).drop i).all (initsI P.classes)) (fun i => P.classes.length - i) 0 ⟨by omega, rfl⟩ (wE rfl) sSub ?_
 rintro i ⟨hi, hI⟩
 repeat (first | (with_reducible first | apply CW.seq | apply aN) | refine wR rfl ?_)
 refine CW.cond rfl (fun h => ?_) (fun h => ?_)
 ·have hlt : i < P.classes.length := by rw [hml] at h; simpa using h
  obtain ⟨c, hci⟩ : ∃ c, P.classes[i]? = some c := ⟨_, List.getElem?_eq_getElem hlt⟩
  have hci' : (P.classes.map FClass.av)[i]? = some (.agg c.cells) := by rw [List.getElem?_map, hci]; rfl
  have hcf := hP.cls c (List.mem_of_getElem? hci)
  have hri : (List.range P.classes.length)[i]? = some i := by rw [List.getElem?_range hlt]
  rw [drop_cons hri, List.all_cons] at hI
  have hii : initsI P.classes i = initsOkR (mineUpto P.classes ((aboveB P.classes i).set i true) P.classes.length) [] c.inits := by simp [initsI, initsAt, hci]
  rw [hii] at hI
  have hul : ((aboveB P.classes i).set i true).length = P.classes.length := by rw [List.length_set, aboveB_len]
  have hal := aboveB_len P.classes i
  refine CW.skip (aN (CW.seq (CW.block ?_)))
  refine CW.seqCutX (σ := Nat) (fun b => [(1, .fptr P.cells 0), (3, .int .i64 (i : Int)), (4, .mslc b P.classes.length)]) (fun b => s.set b (boolBox (aboveB P.classes i))) (fun b => s b = none) ?_ ?_
  ·repeat (first | refine CW.reg ?_ | refine wS rfl ?_)
   refine RL.call rfl rfl rfl rfl rfl (refAbove_spec P i s hl hlt hk hpar) ?_ (fun _ _ ⟨_, _, h, _⟩ => by cases h)
   rintro _ _ ⟨b, hbn, ⟨⟩, rfl⟩
   repeat (first | refine RL.nil ?_ | refine wS rfl ?_)
   exact ⟨rfl, b, hbn, (wE rfl), sSub⟩
  intro b hbn
  refine CW.seqCut [(1, .fptr P.cells 0), (3, .int .i64 (i : Int)), (4, .mslc b P.classes.length)] (s.set b (boolBox ((aboveB P.classes i).set i true))) ?_ ?_
  ·repeat (first | refine CW.reg ?_ | refine wS rfl ?_)
   refine RL.idxM tO i rfl rfl rfl rfl rfl rfl rfl rfl rfl rfl rfl hlt ?_
   refine RL.storeP tO rfl rfl rfl rfl rfl rfl rfl rfl rfl sSam (by rw [Nat.ble_eq, bools_length]; show _ + 1 ≤ _; omega) ?_
   rw [Store.set_set]
   repeat (first | refine RL.nil ?_)
   refine ⟨rfl, (wE rfl), ?_⟩
   rw [boolBox, ← bools_set]
   exact sSub
  generalize (aboveB P.classes i).set i true = up at hul hI ⊢
  clear hal hii
  refine CW.seqCut [(1, .fptr P.cells 0), (3, .int .i64 (i : Int)), (4, .mslc b P.classes.length), (5, .slc 1 (strs []) .nil), (6, .slc 1 (strs []) .nil)] (s.set b (boolBox up)) ?_ ?_
  ·repeat (first | refine wR rfl ?_)
   exact ⟨rfl, ⟨⟨_, rfl, aRfl⟩, ⟨_, rfl, aRfl⟩, ⟨_, rfl, aRfl⟩, ⟨_, rfl, AVle.nil (by simp)⟩, ⟨_, rfl, AVle.nil (by simp)⟩, trivial⟩, sSub⟩
  refine CW.seqCut [(1, .fptr P.cells 0), (3, .int .i64 (i : Int)), (5, .slc 1 (strs (mineUpto P.classes up P.classes.length)) .fro), (6, .slc 1 (strs []) .nil)] s ?_ ?_
  ·repeat (first | (with_reducible first | apply CW.seq | apply aN | apply CW.block) | refine wR rfl ?_)
   refine CW.loop (σ := Nat × Own) (fun q => [(1, .fptr P.cells 0), (3, .int .i64 (i : Int)), (4, .mslc b P.classes.length), (5, .slc 1 (strs (mineUpto P.classes up q.1)) q.2), (6, .slc 1 (strs []) .nil), (7, .int .i64 (q.1 : Int))])
    (fun q => rowOf (s.set b (boolBox up)) 9 1 (mineUpto P.classes up q.1).length q.2) (fun q => q.1 ≤ P.classes.length ∧ OwnOk (s.set b (boolBox up)) 0 q.2) (fun q => P.classes.length - q.1) (0, .nil) ⟨by simp, trivial⟩ (wE rfl) sSub ?_
   rintro ⟨k, ow⟩ ⟨hk1, hok⟩
   simp only at hk1 hok
   have hbx : rowOf (s.set b (boolBox up)) 9 1 (mineUpto P.classes up k).length ow b = some (boolBox up) := rowOf_get (m := 0) hok sSam
   repeat (first | with_reducible apply CW.seq | refine CW.reg ?_ | refine wS rfl ?_)
   refine RL.lenM tO rfl rfl rfl rfl rfl rfl rfl ?_
   repeat (first | with_reducible apply aN | refine RL.nil ?_ | refine wS rfl ?_)
   refine CW.cond rfl (fun h => ?_) (fun h => ?_)
   ·have hltk : k < P.classes.length := by simpa using h
    obtain ⟨d, hdk⟩ : ∃ d, P.classes[k]? = some d := ⟨_, List.getElem?_eq_getElem hltk⟩
    have hdk' : (P.classes.map FClass.av)[k]? = some (.agg d.cells) := by rw [List.getElem?_map, hdk]; rfl
    obtain ⟨v, hv⟩ : ∃ v, up[k]? = some v := ⟨_, List.getElem?_eq_getElem (by omega)⟩
    have hsa : slotsAt P.classes k = d.slots := by simp [slotsAt, hdk]
    have hms := mineUpto_succ P.classes up k
    have hgd : up.getD k false = v := by simp [hv]
    rw [hgd, hsa] at hms
    have hmlen := mineUpto_len (cls := P.classes) (up := up) (k := k + 1) (by omega)
    have hfl := flatMap_take_le FClass.slots P.classes (k + 1)
    repeat (first | (with_reducible first | apply CW.seq | apply aN | apply CW.skip | apply CW.block) | refine CW.reg ?_ | refine wS rfl ?_)
    refine RL.idxM tO k rfl rfl rfl rfl rfl rfl rfl rfl rfl rfl rfl hltk ?_
    refine RL.loadP tO rfl rfl rfl rfl rfl rfl hbx (loadC_bool rfl (bools_get hv)) ?_
    cases v with
    | true =>
     rw [if_pos rfl] at hms
     rw [hms, List.length_append] at hmlen
     repeat (first | with_reducible apply aN | refine CW.reg ?_ | refine RL.nil ?_ | refine CW.condT rfl ?_ | refine wS rfl ?_ | refine RL.idx tO _ rfl rfl rfl rfl rfl rfl rfl rfl rfl rfl rfl (by assumption) rfl ?_)
     refine RL.appendR tO rfl rfl rfl rfl rfl rfl rfl (by intro k; simp) rfl rfl rfl rfl (.inr rfl) rfl (strs_elem _) (n := (mineUpto P.classes up k).length) ?_ ?_ (strs_length _).symm rfl (OwnOk.sub' hok) ?_
     ·simp only [strs_length]; show _ * 16 ≤ _; omega
     ·simp only [strs_length]; omega
     rintro own' h1
     repeat (first | (with_reducible first | apply aN | apply iN) | refine wR rfl ?_ | refine RL.nil ?_ | refine wS rfl ?_)
     refine ⟨(k + 1, own'), ⟨hltk, OwnOk.sub' h1⟩, (by repeat (first | exact trivial | refine ⟨⟨_, rfl, aRfl⟩, ?_⟩ | refine ⟨⟨_, rfl, AVle.of_eq (by (first | (show AV.int .i64 (IntKind.wrap .i64 ((k : Int) + 1)) = .int .i64 ((k + 1 : Nat) : Int); rw [i64_succ (by omega)]) | (simp only [hms]; simp [strs])))⟩, ?_⟩)), ?_, by show P.classes.length - (k + 1) < P.classes.length - k; omega⟩
     show Store.Sub (rowOf _ _ 1 (mineUpto P.classes up (k + 1)).length own') _
     rw [hms, List.length_append, strs_length, strs_length]
     exact sSub
    | false =>
     rw [if_neg (by simp), List.append_nil] at hms
     repeat (first | (with_reducible first | apply aN | apply iN | apply CW.skip) | refine wR rfl ?_ | refine RL.nil ?_ | refine CW.condF rfl ?_)
     refine ⟨(k + 1, ow), ⟨hltk, hok⟩, (by repeat (first | exact trivial | refine ⟨⟨_, rfl, aRfl⟩, ?_⟩ | refine ⟨⟨_, rfl, AVle.of_eq (by (first | (show AV.int .i64 (IntKind.wrap .i64 ((k : Int) + 1)) = .int .i64 ((k + 1 : Nat) : Int); rw [i64_succ (by omega)]) | (simp only [hms])))⟩, ?_⟩)), ?_, by show P.classes.length - (k + 1) < P.classes.length - k; omega⟩
     show Store.Sub (rowOf _ _ 1 (mineUpto P.classes up (k + 1)).length ow) _
     rw [hms]; exact sSub
   ·have hge : k = P.classes.length := by
     have : P.classes.length ≤ k := by simpa using h
     omega
    subst hge
    repeat (with_reducible first | apply aX | apply iH | apply CW.exit)
    exact ⟨rfl, ⟨⟨_, rfl, aRfl⟩, ⟨_, rfl, aRfl⟩, ⟨_, rfl, AVle.fro⟩, ⟨_, rfl, aRfl⟩, trivial⟩, (Store.sub_set _ _ _ hbn).trans (rowOf_sub hok)⟩
  have hmfin := mineUpto_len (cls := P.classes) (up := up) (k := P.classes.length) (Nat.le_refl _)
  rw [List.take_length] at hmfin
  generalize mineUpto P.classes up P.classes.length = mine at hI hmfin ⊢
  refine CW.seqCut [(1, .fptr P.cells 0), (3, .int .i64 (i : Int)), (5, .slc 1 (strs mine) .fro), (6, .slc 1 (strs []) .nil), (8, .slc 2 (c.inits.map FInit.av) .fro)] s ?_ ?_
  ·repeat (first | refine CW.reg ?_ | refine RL.nil ?_ | refine wS rfl ?_ | refine RL.idx tO _ rfl rfl rfl rfl rfl rfl rfl rfl rfl rfl rfl (by assumption) rfl ?_)
   exact ⟨rfl, (wE rfl), sSub⟩
  have hil := hcf.ilen
  repeat (first | (with_reducible first | apply CW.seq | apply aN | apply CW.block) | refine wR rfl ?_)
  refine CW.loop (σ := Nat × Own) (fun q => [(1, .fptr P.cells 0), (3, .int .i64 (i : Int)), (5, .slc 1 (strs mine) .fro), (6, .slc 1 (strs ((c.inits.take q.1).map FInit.slot)) q.2), (8, .slc 2 (c.inits.map FInit.av) .fro), (9, .int .i64 (q.1 : Int))])
   (fun q => rowOf s 9 1 q.1 q.2) (fun q => q.1 ≤ c.inits.length ∧ OwnOk s 0 q.2 ∧ initsOkR mine [] c.inits = initsOkR mine ((c.inits.take q.1).map FInit.slot) (c.inits.drop q.1)) (fun q => c.inits.length - q.1) (0, .nil) ⟨by simp, trivial, rfl⟩ (wE rfl) sSub ?_
  rintro ⟨j, ow⟩ ⟨hj, hok, hJ⟩
  simp only at hj hok hJ
  have hln : ((c.inits.take j).map FInit.slot).length = j := by simp; omega
  repeat (first | (with_reducible first | apply CW.seq | apply aN) | refine wR rfl ?_)
  refine CW.cond rfl (fun h => ?_) (fun h => ?_)
  ·have hltj : j < c.inits.length := by simpa using h
   obtain ⟨x, hxj⟩ : ∃ x, c.inits[j]? = some x := ⟨_, List.getElem?_eq_getElem hltj⟩
   have hxj' : (c.inits.map FInit.av)[j]? = some (.agg x.cells) := by rw [List.getElem?_map, hxj]; rfl
   rw [drop_cons hxj, initsOkR] at hJ
   have hnx : (c.inits.take j).map FInit.slot ++ [x.slot] = (c.inits.take (j + 1)).map FInit.slot := by rw [← take_snoc hxj]; simp
   rw [hnx] at hJ
   have k1 := fun s => refHas_spec mine .fro x.slot s (by omega)
   have k2 := fun s => refHas_spec ((c.inits.take j).map FInit.slot) ow x.slot s (by omega)
   have k3 := fun s => refIn_spec x.n s
   refine CW.skip (aN (CW.seq (CW.block ?_)))
   refine CW.seq ?_
   refine CW.seqCut [(1, .fptr P.cells 0), (3, .int .i64 (i : Int)), (5, .slc 1 (strs mine) .fro), (6, .slc 1 (strs ((c.inits.take j).map FInit.slot)) ow), (8, .slc 2 (c.inits.map FInit.av) .fro), (9, .int .i64 (j : Int)), (78, .bool (!((mine.contains x.slot && !((c.inits.take j).map FInit.slot).contains x.slot) && between x.n)))] (rowOf s 9 1 j ow) ?_ ?_
   ·generalize mine.contains x.slot = m1 at k1
    generalize ((c.inits.take j).map FInit.slot).contains x.slot = m2 at k2
    generalize between x.n = m3 at k3
    repeat' (first | refine CW.reg ?_ | refine RL.nil ?_ | refine wS rfl ?_ | refine RL.skip rfl rfl rfl ?_ | refine RL.gstepF tO rfl rfl rfl rfl rfl rfl rfl (fun _ => ?_) (fun _ => ?_) | refine RL.idx tO j rfl rfl rfl rfl rfl rfl rfl rfl rfl rfl rfl hxj' rfl ?_ | refine RL.callP rfl rfl rfl rfl rfl (k1 _) ?_ | refine RL.callP rfl rfl rfl rfl rfl (k2 _) ?_ | refine RL.callP rfl rfl rfl rfl rfl (k3 _) ?_)
    all_goals refine ⟨rfl, (by repeat (first | exact trivial | refine ⟨⟨_, rfl, aRfl⟩, ?_⟩ | refine ⟨⟨_, rfl, AVle.of_eq (by (simp_all))⟩, ?_⟩)), sSub⟩
   cases hc1 : (mine.contains x.slot && !((c.inits.take j).map FInit.slot).contains x.slot) && between x.n with
   | false =>
    rw [hc1, Bool.false_and] at hJ
    rw [hI, hJ, Bool.false_and]
    repeat (first | (with_reducible first | apply CW.seq | apply aN | apply aR | apply iR | apply CW.ret) | refine wR rfl ?_ | refine CW.condT rfl ?_)
    exact ⟨_, _, s, rfl, aRfl, rowOf_sub hok, rfl, rfl⟩
   | true =>
    rw [hc1, Bool.true_and] at hJ
    refine CW.condF rfl (CW.skip (aN ?_))
    repeat (first | refine CW.reg ?_ | refine wS rfl ?_ | refine RL.idx tO _ rfl rfl rfl rfl rfl rfl rfl rfl rfl rfl rfl (by assumption) rfl ?_)
    refine RL.append1 tO rfl rfl rfl rfl rfl rfl rfl (by intro k; simp) rfl rfl rfl rfl rfl rfl rfl (n := j) (by rw [strs_length, hln]) (by show (j + 1) * 16 ≤ _; omega) (by omega) (s := s) rfl (OwnOk.sub' hok) (fun rb hrb => ?_)
    repeat (first | (with_reducible first | apply aN | apply iN) | refine wR rfl ?_ | refine RL.nil ?_ | refine wS rfl ?_)
    exact ⟨(j + 1, .own rb), ⟨hltj, hrb, hJ⟩, (by repeat (first | exact trivial | refine ⟨⟨_, rfl, aRfl⟩, ?_⟩ | refine ⟨⟨_, rfl, AVle.of_eq (by (first | (show AV.int .i64 (IntKind.wrap .i64 ((j : Int) + 1)) = .int .i64 ((j + 1 : Nat) : Int); rw [i64_succ (by omega)]) | (simp only [← hnx]; simp [strs])))⟩, ?_⟩)), sSub, by show c.inits.length - (j + 1) < c.inits.length - j; omega⟩
  ·have hge : c.inits.length ≤ j := by simpa using h
   rw [List.drop_eq_nil_of_le hge, initsOkR] at hJ
   rw [hJ, Bool.true_and] at hI
   repeat (first | (with_reducible first | apply aN | apply aX | apply iN | apply iH | apply CW.exit) | refine wR rfl ?_)
   exact ⟨i + 1, ⟨hlt, hI⟩, (by repeat (first | exact trivial | refine ⟨⟨_, rfl, aRfl⟩, ?_⟩ | refine ⟨⟨_, rfl, AVle.of_eq (by (rw [i64_succ (by omega)]))⟩, ?_⟩)), rowOf_sub hok, by omega⟩
 ·have hge : P.classes.length ≤ i := by rw [hml] at h; simpa using h
  rw [List.drop_eq_nil_of_le (by simpa using hge), List.all_nil] at hI
  rw [hI]
  repeat (first | (with_reducible first | apply CW.seq | apply aN | apply aX | apply iH | apply CW.ret | apply CW.exit) | refine wR rfl ?_)
  exact ⟨_, _, _, rfl, aRfl, sSub, rfl, rfl⟩
end Go.Proofs.YtaafacnoddjhgaaGreat

/- Contracts of the reference: methods and programs that are formed. -/
namespace Go.Proofs.YtaafacnoddjhgaaGreat
open Go.AE

section
variable {P : Program} {Γ : Tys} {N : Nat} {env : Env} {s : Store}
theorem OW.appendF (hΓ : TysOk P Γ) {o : Oper} {t t' e : TypeId} {x y : Operand} {it it' ie : TI} {sx sy n : Nat} {xs ys : List AV} {own oy : Own} (S : Store) {S' : Store}
  (ho : o.op = .call { callee := .builtin .append, args := #[x, y], argTypes := #[t, t'] }) (ht : Γ.get? t = some it) (htd : it.td = .slc e) (ht' : Γ.get? t' = some it') (htd' : ∀ k, it'.td ≠ .int k)
  (hie : Γ.get? e = some ie) (hx : ev env x = some (.slc sx xs own)) (hy : ev env y = some (.slc sy ys oy)) (hsx : sx = ie.size) (hsy : ys = [] ∨ sy = ie.size)
  (hzs' : Nat.beq ie.zero.cells.size ie.size = true) (hel : ∀ y ∈ ys, elemOk ie.size y = true) (hn : n = xs.length) (hb : (n + ys.length) * ie.bytes ≤ 140737488355328) (h63 : n + ys.length ≤ 9223372036854775807)
  (hs : s = rowOf S' e ie.size n own) (hok : OwnOk S' n own) (hsub : Store.Sub S S') {X : AV → Store → Prop} :
  OW P N o env s (fun r s' => r = .slc ie.size (xs ++ ys) .fro ∧ s' = S) X := by
 subst hs
 subst hn
 have h := OW.appendR (N := N) (own := own) (s := S') hΓ ho ht htd ht' htd' hie hx hy hsx hsy hzs' hel hb h63 rfl hok (X := X)
 refine ⟨h.1, fun ro B a w p hst => ?_⟩
 refine ResDoes.mono (h.2 ro B a w p hst) ?_
 rintro e' w' ⟨s', p', h1, h2, h3, h4⟩
 cases e' with
 | returned v =>
  obtain ⟨r, ⟨own', k1, -, -, rfl, rfl⟩, k3⟩ := h4
  have hs2 : Store.Sub S (rowOf S' e ie.size (xs.length + ys.length) own') := hsub.trans (rowOf_sub (m := xs.length + 1) k1)
  exact ⟨S, p', h1, h2.sub hs2, h3.sub hs2, _, ⟨rfl, rfl⟩, AVle.fro _ _ _ k3⟩
 | panicked ch =>
  obtain ⟨v, x, e1, hX, hr⟩ := h4
  exact ⟨s', p', h1, h2, h3, v, x, e1, hX, hr⟩
 | outgrown => exact h4.elim
end

theorem own_plus {s : Store} {n b : Nat} {own : Own} (h : OwnOk s n own) (hb : ∀ c, own = .own c → c ≠ b) (o : AObj) : OwnOk (s.set b o) n own := by
 cases own with
 | own c => exact (Store.set_ne _ _ (hb c rfl)).trans h
 | nil => trivial
 | clip => trivial
 | fro => exact h

def boxK0 : AObj := .box 149 [.slc 0 [] .nil, .slc 0 [] .nil, .slc 0 [] .nil]
def others3 : List Str := [anyS, intS, noneS]
def headR (m : FMethod) : Bool := ((((decide (m.kind ≥ 1) && decide (m.kind ≤ 4)) && nameS m.name) && decide ((m.params.length : Int) ≥ 1)) && decide ((m.params.length : Int) ≤ 3)) && (m.params.all nameS && decide m.params.Nodup)
def methodR (slots own : List Str) (k : Int) (m : FMethod) : Bool × Int :=
 if !headR m then (false, k)
 else if !((FFact.cnt m.params slots (own ++ others3) 1 k m.fact).1 && goodB m.body) then (false, (FFact.cnt m.params slots (own ++ others3) 1 k m.fact).2)
 else (decide ((FFact.cnt m.params slots (own ++ others3) 1 k m.fact).2 - m.body.size ≥ 0) && saysB m.body m.params slots own (m.kind == 1 || m.kind == 4), (FFact.cnt m.params slots (own ++ others3) 1 k m.fact).2 - m.body.size)
def methodsR (slots own : List Str) : Int → List FMethod → Bool
 | _, [] => true
 | k, m :: r => (methodR slots own k m).1 && methodsR slots own (methodR slots own k m).2 r

set_option maxRecDepth 10000 in
set_option maxHeartbeats 4000000 in
theorem refMethod_spec (lb : Nat) (m : FMethod) (slots own : List Str) (o2 o3 : Own) (k : Int) (s : Store) (hm : m.Fair) (hsl : slots.length < big) (hol : own.length < big) (hk0 : 0 ≤ k) (hk : k ≤ 120) (hs : s lb = some (leftO k)) :
  ACalls Tryz.prog 58 [m.av, .slc 1 (strs slots) o2, .slc 1 (strs own) o3, .ptr lb 0] s (fun o s' => o = .ret (.bool (methodR slots own k m).1) ∧ s' = s.set lb (leftO (methodR slots own k m).2)) := by
 have hb : big = 1099511627776 := rfl
 have hpl := hm.params.len
 have hbs := hm.body.size
 have hst : s.set lb (leftO k) = s := Store.set_eq _ _ _ hs
 refine ACalls.of_CW tO call58 Tryz.func58 rfl rfl ?_
 refine CW.seqCut [(1, .slc 1 (strs slots) o2), (2, .slc 1 (strs own) o3), (3, .ptr lb 0), (4, .fptr m.cells 0)] s ?_ ?_
 ·repeat (first | refine wR rfl ?_)
  exact ⟨rfl, (wE rfl), sSub⟩
 refine CW.seq ?_
 refine CW.seqCut [(1, .slc 1 (strs slots) o2), (2, .slc 1 (strs own) o3), (3, .ptr lb 0), (4, .fptr m.cells 0), (41, .bool (!headR m))] s ?_ ?_
 ·have k1 := fun s => refName_spec m.name s hm.name
  have k2 := fun s => refNames_spec m.params .fro s (by omega) (fun x hx => hm.params.sh x hx)
  have hh : headR m = (((((decide (m.kind ≥ 1) && decide (m.kind ≤ 4)) && nameS m.name) && decide ((m.params.length : Int) ≥ 1)) && decide ((m.params.length : Int) ≤ 3)) && (m.params.all nameS && decide m.params.Nodup)) := rfl
  rw [hh]
  generalize nameS m.name = n1 at k1
  generalize (m.params.all nameS && decide m.params.Nodup) = n2 at k2
  repeat' (first | refine CW.reg ?_ | refine RL.nil ?_ | refine wS rfl ?_ | refine RL.skip rfl rfl rfl ?_ | refine RL.gstepF tO rfl rfl rfl rfl rfl rfl rfl (fun _ => ?_) (fun _ => ?_) | refine RL.callP rfl rfl rfl rfl rfl (k1 _) ?_ | refine RL.callP rfl rfl rfl rfl rfl (k2 _) ?_)
  all_goals refine ⟨rfl, (by repeat (first | exact trivial | refine ⟨⟨_, rfl, aRfl⟩, ?_⟩ | refine ⟨⟨_, rfl, AVle.of_eq (by (first | (simp_all; done) | (simp_all; rw [Bool.eq_iff_iff]; simp; omega) | (simp_all; omega) | (simp_all; trace_state)))⟩, ?_⟩)), sSub⟩
 have hd : methodR slots own k m = if !headR m then (false, k)
   else if !((FFact.cnt m.params slots (own ++ others3) 1 k m.fact).1 && goodB m.body) then (false, (FFact.cnt m.params slots (own ++ others3) 1 k m.fact).2)
   else (decide ((FFact.cnt m.params slots (own ++ others3) 1 k m.fact).2 - m.body.size ≥ 0) && saysB m.body m.params slots own (m.kind == 1 || m.kind == 4), (FFact.cnt m.params slots (own ++ others3) 1 k m.fact).2 - m.body.size) := rfl
 cases hh : headR m with
 | false =>
  rw [hh, if_pos (by rfl)] at hd
  rw [hd, hst]
  repeat (first | (with_reducible first | apply CW.seq | apply aN | apply aR | apply CW.ret) | refine wR rfl ?_ | refine CW.condT rfl ?_)
  exact ⟨_, _, _, rfl, aRfl, sSub, rfl, rfl⟩
 | true =>
 rw [hh, if_neg (by simp)] at hd
 refine CW.condF rfl (CW.skip (aN ?_))
 have a1 : (strs own).length = own.length := strs_length _
 refine CW.seqCutX (σ := Nat) (fun b => [(1, .slc 1 (strs slots) o2), (2, .slc 1 (strs own) o3), (3, .ptr lb 0), (4, .fptr m.cells 0), (9, .ptr b 0)]) (fun b => s.set b (.box 149 (knownCells m.params slots (own ++ others3) .fro o2 .fro))) (fun b => s b = none) ?_ ?_
 ·have e3 : strs own ++ [.str anyS, .str intS, .str noneS] = strs (own ++ others3) := by simp [strs, others3]
  have a3 : ((strs own).length + [AV.str anyS, .str intS, .str noneS].length) * 16 ≤ 140737488355328 := by simp only [List.length_cons, List.length_nil]; omega
  have a5 : (strs own).length + [AV.str anyS, .str intS, .str noneS].length ≤ 9223372036854775807 := by simp only [List.length_cons, List.length_nil]; omega
  have a7 : (strs own).length * 16 ≤ 140737488355328 := by omega
  have a9 : (strs own).length ≤ 9223372036854775807 := by omega
  have hel3 : ∀ y ∈ [AV.str anyS, .str intS, .str noneS], elemOk 1 y = true := by intro y hy; simp at hy; rcases hy with rfl | rfl | rfl <;> rfl
  repeat (first | refine CW.drw tO mixed rfl (RD.run rfl ?_))
  refine RD.many rfl (RDAll.c (RDStep.mk (i := 4) rfl rfl rfl rfl (OW.appendN tO rfl rfl rfl rfl (by intro k h; cases h) rfl rfl rfl (.inr rfl) rfl (strs_elem _) a7 a9 (X := fun _ _ => False)) ?_ (fun _ _ h => False.elim h)) (RDAll.c (RDStep.mk (i := 8) rfl rfl rfl rfl (OW.alloc tO rfl rfl rfl rfl (X := fun _ _ => False)) ?_ (fun _ _ h => False.elim h)) RDAll.n))
  ·rintro _ _ ⟨p1, hp1, rfl, rfl⟩
   refine RD.run rfl ?_
   refine RD.many rfl (RDAll.c (RDStep.mk (i := 6) rfl rfl rfl rfl (OW.appendF tO s rfl rfl rfl rfl (by intro k h; cases h) rfl rfl rfl rfl (.inr rfl) rfl hel3 rfl a3 a5 rfl hp1 sSub (X := fun _ _ => False)) ?_ (fun _ _ h => False.elim h)) (RDAll.c (RDStep.mk (i := 8) rfl rfl rfl rfl (OW.alloc tO rfl rfl rfl rfl (X := fun _ _ => False)) ?_ (fun _ _ h => False.elim h)) RDAll.n))
   ·rintro _ _ ⟨rfl, hs2⟩
    rw [hs2]
    clear hs2
    refine RD.run rfl ?_
    refine RD.many rfl (RDAll.c (RDStep.mk (i := 8) rfl rfl rfl rfl (OW.alloc tO rfl rfl rfl rfl (X := fun _ _ => False)) ?_ (fun _ _ h => False.elim h)) RDAll.n)
    ·rintro _ _ ⟨b9, hf9, rfl, hs2⟩
     rw [hs2]
     clear hs2
     skip
     refine RD.run rfl ?_
     refine RD.oneN (i := 9) rfl rfl rfl rfl (OW.storeP tO rfl rfl rfl rfl rfl rfl rfl sSam rfl (X := fun _ _ => False)) ?_ (fun _ _ h => False.elim h)
     rintro _ _ rfl
     refine RD.run rfl (RD.done rfl ?_)
     rw [Store.set_set]
     refine ⟨rfl, b9, hf9, (wE rfl), ?_⟩
     rw [knownCells, ← e3]
     exact sSub
   ·rintro _ _ ⟨b9, hf9, rfl, hs2⟩
    rw [hs2]
    clear hs2
    obtain ⟨hpn, hf9⟩ := rowOf_none hf9
    rw [rowOf_set hpn]
    have hp1 := own_plus hp1 hpn boxK0
    refine RD.run rfl ?_
    refine RD.many rfl (RDAll.c (RDStep.mk (i := 6) rfl rfl rfl rfl (OW.appendF tO (s.set b9 boxK0) rfl rfl rfl rfl (by intro k h; cases h) rfl rfl rfl rfl (.inr rfl) rfl hel3 rfl a3 a5 rfl hp1 sSub (X := fun _ _ => False)) ?_ (fun _ _ h => False.elim h)) RDAll.n)
    ·rintro _ _ ⟨rfl, hs2⟩
     rw [hs2]
     clear hs2
     refine RD.run rfl ?_
     refine RD.oneN (i := 9) rfl rfl rfl rfl (OW.storeP tO rfl rfl rfl rfl rfl rfl rfl sSam rfl (X := fun _ _ => False)) ?_ (fun _ _ h => False.elim h)
     rintro _ _ rfl
     refine RD.run rfl (RD.done rfl ?_)
     rw [Store.set_set]
     refine ⟨rfl, b9, hf9, (wE rfl), ?_⟩
     rw [knownCells, ← e3]
     exact sSub
  ·rintro _ _ ⟨b9, hf9, rfl, hs2⟩
   rw [hs2]
   clear hs2
   skip
   refine RD.run rfl ?_
   refine RD.many rfl (RDAll.c (RDStep.mk (i := 4) rfl rfl rfl rfl (OW.appendN tO rfl rfl rfl rfl (by intro k h; cases h) rfl rfl rfl (.inr rfl) rfl (strs_elem _) a7 a9 (X := fun _ _ => False)) ?_ (fun _ _ h => False.elim h)) RDAll.n)
   ·rintro _ _ ⟨p1, hp1, rfl, rfl⟩
    refine RD.run rfl ?_
    refine RD.many rfl (RDAll.c (RDStep.mk (i := 6) rfl rfl rfl rfl (OW.appendF tO (s.set b9 boxK0) rfl rfl rfl rfl (by intro k h; cases h) rfl rfl rfl rfl (.inr rfl) rfl hel3 rfl a3 a5 rfl hp1 sSub (X := fun _ _ => False)) ?_ (fun _ _ h => False.elim h)) RDAll.n)
    ·rintro _ _ ⟨rfl, hs2⟩
     rw [hs2]
     clear hs2
     refine RD.run rfl ?_
     refine RD.oneN (i := 9) rfl rfl rfl rfl (OW.storeP tO rfl rfl rfl rfl rfl rfl rfl sSam rfl (X := fun _ _ => False)) ?_ (fun _ _ h => False.elim h)
     rintro _ _ rfl
     refine RD.run rfl (RD.done rfl ?_)
     rw [Store.set_set]
     refine ⟨rfl, b9, hf9, (wE rfl), ?_⟩
     rw [knownCells, ← e3]
     exact sSub
 intro b9 hb9
 have hne : lb ≠ b9 := fun e => by subst e; rw [hs] at hb9; cases hb9
 refine CW.freeze 9 b9 rfl sSam ?_
 rw [Store.del_set _ _ _ hb9]
 have hle := FFact.cnt_le m.params slots (own ++ others3) m.fact 1 k
 have hcall := refKFact_spec lb m.params slots (own ++ others3) .fro o2 .fro (by omega) (by omega) (by rw [List.length_append]; simp [others3]; omega) m.fact.size m.fact 1 1 k s (Nat.le_refl _) (Nat.le_of_lt hm.fact.size) hm.fact.texts hk0 hk (by omega) hs
 generalize FFact.cnt m.params slots (own ++ others3) 1 k m.fact = fc at hle hcall hd
 obtain ⟨f1, k1⟩ := fc
 simp only at hle hd
 have hF := fun s => refFormed_spec m.body s hm.body
 repeat (first | with_reducible apply CW.seq | refine CW.reg ?_ | refine wS rfl ?_)
 refine RL.call rfl rfl rfl rfl rfl hcall ?_ (fun _ _ ⟨h, _⟩ => by cases h)
 rintro _ _ ⟨⟨⟩, rfl⟩
 cases f1 with
 | false =>
  rw [Bool.false_and, if_pos (by rfl)] at hd
  rw [hd]
  repeat (first | (with_reducible first | apply CW.seq | apply aN | apply aR | apply CW.ret) | refine wR rfl ?_ | refine RL.nil ?_ | refine CW.condT rfl ?_ | refine wS rfl ?_ | refine RL.skip rfl rfl rfl ?_)
  exact ⟨_, _, _, rfl, aRfl, sSub, rfl, rfl⟩
 | true =>
 obtain ⟨h1, h2⟩ := hle rfl
 rw [Bool.true_and] at hd
 repeat (first | refine wS rfl ?_)
 refine RL.callP rfl rfl rfl rfl rfl (hF _) ?_
 cases hg : goodB m.body with
 | false =>
  rw [hg, if_pos (by rfl)] at hd
  rw [hd]
  repeat (first | (with_reducible first | apply CW.seq | apply aN | apply aR | apply CW.ret) | refine wR rfl ?_ | refine RL.nil ?_ | refine CW.condT rfl ?_ | refine wS rfl ?_)
  exact ⟨_, _, _, rfl, aRfl, sSub, rfl, rfl⟩
 | true =>
 rw [hg, if_neg (by simp)] at hd
 have hbz := goodB_size hg
 have hal := allE_length m.body
 repeat (first | (with_reducible first | apply CW.seq | apply aN | apply CW.skip) | refine RL.nil ?_ | refine CW.condF rfl ?_ | refine wS rfl ?_ | refine CW.drw tO mixed rfl (RD.run rfl ?_))
 refine RD.calmP (i := 6) rfl rfl rfl rfl rfl rfl rfl (fun s => refAll_spec _ m.body s (Nat.le_refl _) (Nat.le_of_lt hbs)) ?_
 refine RD.run rfl ?_
 refine RD.one (i := 3) rfl rfl rfl rfl rfl (OW.loadP tO rfl rfl rfl sSam rfl (X := fun _ _ => False)) ?_ (fun _ _ h => False.elim h)
 rintro _ s2 ⟨rfl, hs2⟩
 rw [hs2]
 clear hs2 s2
 refine RD.run rfl ?_
 refine RD.oneN (i := 10) rfl rfl rfl rfl (OW.storeP tO rfl rfl rfl rfl rfl rfl rfl sSam rfl (X := fun _ _ => False)) ?_ (fun _ _ h => False.elim h)
 rintro _ _ rfl
 refine RD.run rfl (RD.done rfl ?_)
 rw [Store.set_set, List.length_map, hal]
 have hkw : IntKind.wrap .i64 (k1 - (m.body.size : Int)) = k1 - (m.body.size : Int) := i64_wrap (by omega) (by omega)
 have hs2 : Store.set s lb (.box 3 (setL (0 + 0) [.int .i64 (IntKind.wrap .i64 (k1 - (m.body.size : Int)))] [.int .i64 k1])) = s.set lb (leftO (k1 - (m.body.size : Int))) := by
  rw [hkw]; rfl
 rw [hd]
 have hS := fun s => refSays_spec m.body m.params slots own .fro o2 o3 (m.kind == 1 || m.kind == 4) s hbs (by omega) (by omega) (by omega)
 refine aN ?_
 refine CW.drop (s.set lb (leftO (k1 - (m.body.size : Int)))) (by rw [← hs2]; exact sSub) ?_
 clear hs2 hkw hcall hd
 generalize k1 - (m.body.size : Int) = k2
 simp only
 cases hk2 : decide (k2 ≥ 0) with
 | false =>
  repeat (first | with_reducible apply CW.seq | refine CW.reg ?_ | refine wS rfl ?_ | refine RL.loadP tO rfl rfl rfl rfl rfl rfl sSam rfl ?_)
  refine RL.knowF 76 rfl hk2 ?_
  repeat (first | (with_reducible first | apply aN | apply CW.ret) | refine RL.nil ?_ | refine wS rfl ?_ | refine RL.skip rfl rfl rfl ?_)
  exact ⟨_, _, _, rfl, aRfl, sSub, rfl, rfl⟩
 | true =>
  cases q1 : m.kind == 1 with
  | true =>
   rw [q1] at hS
   repeat (first | with_reducible apply CW.seq | refine CW.reg ?_ | refine wS rfl ?_ | refine RL.loadP tO rfl rfl rfl rfl rfl rfl sSam rfl ?_)
   refine RL.knowT 76 rfl hk2 ?_
   repeat (first | refine wS rfl ?_)
   refine RL.knowT 86 rfl q1 ?_
   repeat (first | refine wS rfl ?_ | refine RL.skip rfl rfl rfl ?_)
   refine RL.callP rfl rfl rfl rfl rfl (hS _) ?_
   repeat (first | (with_reducible first | apply aN | apply CW.ret) | refine RL.nil ?_ | refine wS rfl ?_)
   exact ⟨_, _, _, rfl, aRfl, sSub, rfl, rfl⟩
  | false =>
   rw [q1] at hS
   repeat (first | with_reducible apply CW.seq | refine CW.reg ?_ | refine wS rfl ?_ | refine RL.loadP tO rfl rfl rfl rfl rfl rfl sSam rfl ?_)
   refine RL.knowT 76 rfl hk2 ?_
   repeat (first | refine wS rfl ?_)
   refine RL.knowF 86 rfl q1 ?_
   repeat (first | refine wS rfl ?_)
   refine RL.callP rfl rfl rfl rfl rfl (hS _) ?_
   repeat (first | (with_reducible first | apply aN | apply CW.ret) | refine RL.nil ?_ | refine wS rfl ?_)
   exact ⟨_, _, _, rfl, aRfl, sSub, rfl, rfl⟩
end Go.Proofs.YtaafacnoddjhgaaGreat

