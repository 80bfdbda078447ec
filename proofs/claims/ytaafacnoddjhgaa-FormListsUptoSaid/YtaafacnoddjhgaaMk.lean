import Derived.Test.YtaafacnoddjhgaaMj
import Derived.Test.YtaafacnoddjhgaaRows
import Derived.ProofKit
import Derived.OpenShut
import Derived.WalkKit
import Derived.JoinedCond
/- Contracts of the laws' own small functions, and of the example. -/
namespace Go.Proofs.Ytaafacnoddjhgaa
open Go.AE

def numE (n : Int) : FExp := .mk 1 n [] []
theorem num_le (n : Int) : AVle (.agg [.int .i64 1, .int .i64 n, .str [], .slc 0 [] .nil]) (numE n).av :=
  AVle.agg (.cons (AVle.refl _) (.cons (AVle.refl _) (.cons (AVle.refl _) (.one AVle.empty))))

set_option maxRecDepth 10000 in
theorem lawName_spec (x : Str) (s : Store) : ACalls Try.prog 31 [.str x] s (fun o s' => o = .ret (nameE x).av ∧ s' = s) := by
  refine ACalls.of_CW tysOk call31 Try.func31 rfl rfl ?_
  repeat (first | with_reducible refine CW.seq ?_ | refine CW.reg ?_)
  refine RL.alloc tysOk rfl rfl rfl rfl rfl rfl rfl (fun b2 hb2 => ?_)
  repeat (first | with_reducible refine CW.seq ?_ | with_reducible refine andThen_normal ?_ | with_reducible refine CW.ret ?_ | refine CW.reg ?_ | refine RL.nil ?_ | refine RL.step tysOk rfl rfl rfl rfl ?_ | (refine RL.storeP tysOk rfl rfl rfl rfl rfl rfl rfl rfl rfl (Store.set_same _ _ _) rfl ?_; try with_reducible rw [Store.set_set]))
  exact ⟨_, _, s, resA_cell rfl rfl (Store.set_same _ _ _) rfl, name_le _, Store.sub_set _ _ _ hb2, rfl, rfl⟩

set_option maxRecDepth 10000 in
theorem lawNum_spec (n : Int) (s : Store) : ACalls Try.prog 42 [.int .i64 n] s (fun o s' => o = .ret (numE n).av ∧ s' = s) := by
  refine ACalls.of_CW tysOk call42 Try.func42 rfl rfl ?_
  repeat (first | with_reducible refine CW.seq ?_ | refine CW.reg ?_)
  refine RL.alloc tysOk rfl rfl rfl rfl rfl rfl rfl (fun b2 hb2 => ?_)
  repeat (first | with_reducible refine CW.seq ?_ | with_reducible refine andThen_normal ?_ | with_reducible refine CW.ret ?_ | refine CW.reg ?_ | refine RL.nil ?_ | refine RL.step tysOk rfl rfl rfl rfl ?_ | (refine RL.storeP tysOk rfl rfl rfl rfl rfl rfl rfl rfl rfl (Store.set_same _ _ _) rfl ?_; try with_reducible rw [Store.set_set]))
  exact ⟨_, _, s, resA_cell rfl rfl (Store.set_same _ _ _) rfl, num_le _, Store.sub_set _ _ _ hb2, rfl, rfl⟩

set_option maxRecDepth 10000 in
theorem lawExp_spec (o : Int) (t : Str) (ks : List FExp) (s : Store) : ACalls Try.prog 41 [.int .i64 o, .str t, .slc 4 (ks.map FExp.av) .fro] s (fun r s' => r = .ret (FExp.mk o 0 t ks).av ∧ s' = s) := by
  refine ACalls.of_CW tysOk call41 Try.func41 rfl rfl ?_
  repeat (first | with_reducible refine CW.seq ?_ | refine CW.reg ?_)
  refine RL.alloc tysOk rfl rfl rfl rfl rfl rfl rfl (fun b2 hb2 => ?_)
  repeat (first | with_reducible refine CW.seq ?_ | with_reducible refine andThen_normal ?_ | with_reducible refine CW.ret ?_ | refine CW.reg ?_ | refine RL.nil ?_ | refine RL.step tysOk rfl rfl rfl rfl ?_ | (refine RL.storeP tysOk rfl rfl rfl rfl rfl rfl rfl rfl rfl (Store.set_same _ _ _) rfl ?_; try with_reducible rw [Store.set_set]))
  refine ⟨_, _, s, resA_cell rfl rfl (Store.set_same _ _ _) rfl, AVle.of_eq ?_, Store.sub_set _ _ _ hb2, rfl, rfl⟩
  simp only [FExp.av, FExp.cells, FExp.kav_eq]; rfl

/-- The example's program. -/
def exA : FClass := ⟨[97], [], [[102]], [⟨[102], 7⟩]⟩
def exB : FClass := ⟨[98], [[97]], [[103]], []⟩
def exC (parents : List Str) : FClass := ⟨[99], parents, [], [⟨[102], 1⟩]⟩
def exM : FMethod := ⟨1, [115, 104, 111, 119], [[120]], .mk 2 [120] [] [97] 0 [], .mk 17 0 [] [.mk 4 0 [102] [nameE [120]]]⟩
def exN : FMethod := ⟨2, [115, 104, 111, 119], [[121]], .mk 3 [121] [[102]] [] 5 [], .mk 9 0 [122] [nameE [121], nameE [122]]⟩
def exampleP (parents : List Str) : FProg := ⟨[exA, exB, exC parents], [exM, exN], .mk 5 0 [115, 104, 111, 119] [.mk 6 0 [99] []]⟩

set_option maxRecDepth 10000 in
set_option maxHeartbeats 1000000 in
theorem example_spec (parents : List Str) (s : Store) : ACalls Try.prog 40 [.slc 1 (strs parents) .fro] s (fun o s' => o = .ret (exampleP parents).av ∧ s' = s) := by
  refine ACalls.of_CW tysOk call40 Try.func40 rfl rfl ?_
  repeat (first | with_reducible refine CW.seq ?_ | refine CW.reg ?_)
  refine RL.alloc tysOk rfl rfl rfl rfl rfl rfl rfl (fun b2 hb2 => ?_)
  repeat (first | with_reducible refine CW.seq ?_ | with_reducible refine andThen_normal ?_ | refine CW.reg ?_ | refine RL.nil ?_ | refine RL.step tysOk rfl rfl rfl rfl ?_)
  refine RL.callP rfl rfl rfl rfl rfl (lawName_spec _ _) ?_
  repeat (first | refine RL.step tysOk rfl rfl rfl rfl ?_)
  refine RL.callP rfl rfl rfl rfl rfl (ACalls.weakArgs (.cons (AVle.refl _) (.cons (AVle.refl _) (.one AVle.fro))) (lawExp_spec 4 [102] [nameE [120]] _)) ?_
  repeat (first | refine RL.step tysOk rfl rfl rfl rfl ?_)
  refine RL.callP rfl rfl rfl rfl rfl (ACalls.weakArgs (.cons (AVle.refl _) (.cons (AVle.refl _) (.one AVle.fro))) (lawExp_spec 17 [] [.mk 4 0 [102] [nameE [120]]] _)) ?_
  repeat (first | refine RL.step tysOk rfl rfl rfl rfl ?_)
  refine RL.callP rfl rfl rfl rfl rfl (lawName_spec _ _) ?_
  skip
  refine RL.callP rfl rfl rfl rfl rfl (lawName_spec _ _) ?_
  repeat (first | refine RL.step tysOk rfl rfl rfl rfl ?_)
  refine RL.callP rfl rfl rfl rfl rfl (ACalls.weakArgs (.cons (AVle.refl _) (.cons (AVle.refl _) (.one AVle.fro))) (lawExp_spec 9 [122] [nameE [121], nameE [122]] _)) ?_
  repeat (first | refine RL.step tysOk rfl rfl rfl rfl ?_)
  refine RL.callP rfl rfl rfl rfl rfl (ACalls.weakArgs (.cons (AVle.refl _) (.cons (AVle.refl _) (.one AVle.empty))) (lawExp_spec 6 [99] [] _)) ?_
  repeat (first | refine RL.step tysOk rfl rfl rfl rfl ?_)
  refine RL.callP rfl rfl rfl rfl rfl (ACalls.weakArgs (.cons (AVle.refl _) (.cons (AVle.refl _) (.one AVle.fro))) (lawExp_spec 5 [115, 104, 111, 119] [.mk 6 0 [99] []] _)) ?_
  repeat (first | with_reducible refine andThen_normal ?_ | with_reducible refine CW.ret ?_ | refine RL.nil ?_ | refine RL.step tysOk rfl rfl rfl rfl ?_ | (refine RL.storeP tysOk rfl rfl rfl rfl rfl rfl rfl rfl rfl (Store.set_same _ _ _) rfl ?_; try with_reducible rw [Store.set_set]))
  refine ⟨_, _, s, resA_cell rfl rfl (Store.set_same _ _ _) rfl, ?_, Store.sub_set _ _ _ hb2, rfl, rfl⟩
  repeat' (first | exact AVle.refl _ | exact AVle.empty | exact AVleL.nil | refine AVle.slc ?_ | refine AVle.agg ?_ | refine AVleL.cons ?_ ?_)
end Go.Proofs.Ytaafacnoddjhgaa

/- Contracts of the laws: known. -/
namespace Go.Proofs.Ytaafacnoddjhgaa
open Go.AE

def exP : FProg := exampleP [[97], [98]]

theorem exP_ok : progOk exP = true := by decide +kernel
theorem exP_count : progCount exP = 13 := by decide +kernel
theorem exP_above : aboveS exP.classes [99] = some [[97], [98]] := by decide +kernel
theorem exP_gens : (progGens exP).1.map (·.1) = [[115, 104, 111, 119]] := by decide +kernel
theorem exP_slots : exP.classes.flatMap FClass.slots = [[102], [103]] := by decide +kernel

def shortB : Part → Bool
  | .exp e => decide (e.text.length < 9223372036854775807)
  | .fact f => decide (f.name.length < 9223372036854775807) && (decide (f.cls.length < 9223372036854775807) && (decide (f.path.length < big) && f.path.all fun x => decide (x.length < 9223372036854775807)))

theorem FExp.fair_of {e : FExp} (h : (decide (e.size < big) && ((Part.exp e).nodes 1).all fun x => shortB x.2) = true) : e.Fair := by
  simp only [Bool.and_eq_true, decide_eq_true_eq, List.all_eq_true] at h
  refine ⟨h.1, fun x hx => ?_⟩
  have := h.2 x hx
  cases hp : x.2 with
  | exp g => rw [hp] at this; simpa [shortB, Part.short] using this
  | fact g => trivial

theorem FFact.fair_of {f : FFact} (h : (decide (f.size < big) && ((Part.fact f).nodes 1).all fun x => shortB x.2) = true) : f.Fair ∧ f.Slim 1 := by
  have hb : big = 1099511627776 := rfl
  simp only [Bool.and_eq_true, decide_eq_true_eq, List.all_eq_true] at h
  refine ⟨⟨h.1, fun x hx => ?_⟩, fun d g hg => ?_⟩
  · have := h.2 x hx
    cases hp : x.2 with
    | exp g => rw [hp] at this; simpa [shortB, Part.texts] using this
    | fact g =>
      rw [hp] at this
      simp only [shortB, Bool.and_eq_true, decide_eq_true_eq, List.all_eq_true] at this
      exact ⟨this.1, this.2.1, by have := this.2.2.1; omega, this.2.2.2⟩
  · have := h.2 _ hg
    simp only [shortB, Bool.and_eq_true, decide_eq_true_eq, List.all_eq_true] at this
    exact this.2.2.1

def shtB (x : Str) : Bool := decide (x.length < 9223372036854775807)
def strsB (l : List Str) : Bool := decide (l.length < big) && l.all shtB
theorem Strs.of {l : List Str} (h : strsB l = true) : Strs l := by
  simp only [strsB, shtB, Bool.and_eq_true, decide_eq_true_eq, List.all_eq_true] at h
  exact ⟨h.1, h.2⟩
def fairB (P : FProg) : Bool :=
  decide (P.classes.length < big) && ((P.classes.all fun c => shtB c.name && (strsB c.parents && (strsB c.slots && (decide (c.inits.length < big) && c.inits.all fun x => shtB x.slot)))) &&
    (decide (P.methods.length < big) && ((P.methods.all fun m => shtB m.name && (strsB m.params && ((decide (m.fact.size < big) && ((Part.fact m.fact).nodes 1).all fun x => shortB x.2) && (decide (m.body.size < big) && ((Part.exp m.body).nodes 1).all fun x => shortB x.2)))) &&
      ((decide (P.main.size < big) && ((Part.exp P.main).nodes 1).all fun x => shortB x.2) && (decide ((progNotes P).length < big) && decide ((P.classes.flatMap FClass.slots).length < big))))))
theorem FProg.fair_of {P : FProg} (h : fairB P = true) : P.Fair ∧ P.Slim := by
  simp only [fairB, Bool.and_eq_true] at h
  obtain ⟨h1, h2, h3, h4, h5, h6, h7⟩ := h
  simp only [List.all_eq_true, Bool.and_eq_true] at h2 h4
  refine ⟨⟨by simpa using h1, fun c hc => ?_, by simpa using h3, fun m hm => ?_, FExp.fair_of (by simpa using h5), by simpa using h6, by simpa using h7⟩, fun m hm => ?_⟩
  · obtain ⟨a, b, c', d, e⟩ := h2 c hc
    exact ⟨by simpa [shtB, Sh] using a, .of b, .of c', by simpa using d, fun x hx => by simpa [shtB, Sh] using e x hx⟩
  · obtain ⟨a, b, c', d⟩ := h4 m hm
    exact ⟨by simpa [shtB, Sh] using a, .of b, (FFact.fair_of (by simpa using c')).1, FExp.fair_of (by simpa using d)⟩
  · obtain ⟨a, b, c', d⟩ := h4 m hm
    exact (FFact.fair_of (by simpa using c')).2
theorem exP_fair : exP.Fair ∧ exP.Slim := FProg.fair_of (by decide +kernel)

/-- What is put into, what is put in, and what comes of it. -/
def exE : FExp := .mk 9 0 [97] [numE 2, .mk 12 0 [] [nameE [120], nameE [97]]]
def exY : FExp := .mk 12 0 [] [nameE [97], numE 1]
def exR : FExp := .mk 9 0 [98] [numE 2, .mk 12 0 [] [.mk 12 0 [] [nameE [97], numE 1], nameE [98]]]
theorem exE_fair : exE.Fair := FExp.fair_of (by decide +kernel)
theorem exY_fair : exY.Fair := FExp.fair_of (by decide +kernel)
theorem exPut : FExp.beq (putR exE [120] exY).1 exR = true := by decide +kernel
theorem exPut2 : (putR exE [120] exY).2 = 0 := by decide +kernel
theorem exPut_size : (putR exE [120] exY).1.size < 100 := by decide +kernel

theorem exCanon : ∃ cl a k nm f o n ks mn, exP.canon = ⟨cl, [a, ⟨k, nm, [[97]], f, .mk o n [98] ks⟩], mn⟩ := by
  have h : exP.canon.methods.length = 2 ∧ (exP.canon.methods[1]?.map fun m => (m.params, m.body.text)) = some ([[97]], [98]) := by decide +kernel
  generalize exP.canon = C at h
  obtain ⟨cl, ms, mn⟩ := C
  obtain ⟨h1, h2⟩ := h
  match ms, h1 with
  | [a, ⟨k, nm, ps, f, .mk o n t ks⟩], _ =>
    simp [FExp.text] at h2
    obtain ⟨rfl, rfl⟩ := h2
    exact ⟨_, _, _, _, _, _, _, _, _, rfl⟩

theorem exFresh : freshS (setOf [[97], [98]]) = [99] := by decide +kernel
theorem exName : nameS [97] = true := by decide +kernel
theorem exName2 : nameS [105, 110] = false := by decide +kernel

theorem exE_le (n : Int) : AVle (.agg [.int .i64 1, .int .i64 n, .str [], .slc 0 [] .nil]) (numE n).av := num_le n

set_option maxRecDepth 10000 in
set_option maxHeartbeats 2000000 in
theorem known_true (s : Store) : ACalls Try.prog 9 [] s (fun o s' => o = .ret (.bool true) ∧ s' = s) := by
  have hN : ∀ s, ACalls Try.prog 14 [exP.av] s (fun o s' => o = .ret (.tup [.int .i64 13, err true]) ∧ s' = s) := fun s => by
    have := shapeNodes_spec exP s exP_fair.1; rw [exP_ok, exP_count] at this; exact this
  have hA : ∀ s, ACalls Try.prog 26 [exP.av, .str [99]] s (fun o s' => o = .ret (.tup [.slc 1 (strs [[97], [98]]) .fro, err true]) ∧ s' = s) := fun s => by
    have := shapeAbove_spec exP [99] s exP_fair.1; rw [exP_ok, exP_above] at this; exact this
  have hC : ∀ s, ACalls Try.prog 16 [exP.av] s (fun o s' => o = .ret (err true) ∧ s' = s) := fun s => by
    have := shapeCheck_spec exP s exP_fair.1; rw [exP_ok] at this; exact this
  have hG : ∀ s, ACalls Try.prog 21 [exP.av] s (fun o s' => o = .ret (.tup [.slc 1 (strs [[115, 104, 111, 119]]) .fro, err true]) ∧ s' = s) := fun s => by
    have := shapeGens_spec exP s exP_fair.1; rw [exP_ok, exP_gens] at this; exact this
  have hS : ∀ s, ACalls Try.prog 24 [exP.av] s (fun o s' => o = .ret (.tup [.slc 1 (strs [[102], [103]]) .fro, err true]) ∧ s' = s) := fun s => by
    have := shapeSlots_spec exP s exP_fair.1; rw [exP_ok, exP_slots] at this; exact this
  have hK : ∀ s, ACalls Try.prog 43 [exP.av] s (fun o s' => o = .ret (.tup [exP.canon.av, err true]) ∧ s' = s) := fun s => by
    have := shapeCanon_spec exP s exP_fair.1 exP_fair.2; rw [exP_ok] at this; exact this
  have hP : ∀ s, ACalls Try.prog 18 [exE.av, .str [120], exY.av] s (fun o s' => o = .ret (.tup [(putR exE [120] exY).1.av, .int .i64 0]) ∧ s' = s) := fun s => by
    have := shapePut_spec exE [120] exY s exE_fair exY_fair (by decide); rw [exPut2] at this; exact this
  have hE : ∀ s, ACalls Try.prog 20 [(putR exE [120] exY).1.av, exR.av] s (fun o s' => o = .ret (.bool true) ∧ s' = s) := fun s => by
    have := refSameExp_spec _ (putR exE [120] exY).1 exR s (Nat.le_refl _) (by have := exPut_size; have : big = 1099511627776 := rfl; omega) (by decide); rw [exPut] at this; exact this
  have hT1 : ∀ s, ACalls Try.prog 23 [.slc 1 (strs [[97], [98]]) .fro, .slc 1 (strs [[97], [98]]) .clip] s (fun o s' => o = .ret (.bool true) ∧ s' = s) := fun s => sameTexts_spec [[97], [98]] [[97], [98]] .fro .clip s (by decide)
  have hT2 : ∀ s, ACalls Try.prog 23 [.slc 1 (strs [[102], [103]]) .fro, .slc 1 (strs [[102], [103]]) .clip] s (fun o s' => o = .ret (.bool true) ∧ s' = s) := fun s => sameTexts_spec [[102], [103]] [[102], [103]] .fro .clip s (by decide)
  have hX : ∀ s, ACalls Try.prog 40 [.slc 1 (strs [[97], [98]]) .fro] s (fun o s' => o = .ret exP.av ∧ s' = s) := fun s => example_spec [[97], [98]] s
  generalize (putR exE [120] exY).1 = R at hP hE
  obtain ⟨cl, a, k, nm, f, o, n, ks, mn, hcan⟩ := exCanon
  rw [hcan] at hK
  generalize hEP : exP = E at hN hA hC hG hS hK hX
  refine ACalls.of_CW tysOk call9 Try.func9 rfl rfl ?_
  repeat (first | with_reducible refine CW.seq ?_ | with_reducible refine andThen_normal ?_ | refine CW.reg (RL.run tysOk rfl (RL.nil ?_)) | refine CW.reg ?_ | refine RL.step tysOk rfl rfl rfl rfl ?_)
  refine RL.callP rfl rfl rfl rfl rfl (ACalls.weakArgs (.one AVle.fro) (hX _)) ?_
  refine RL.newBox tysOk rfl rfl rfl rfl rfl rfl rfl (fun _ => rfl) rfl rfl (fun _ => rfl) rfl rfl rfl rfl ?_
  repeat (first | with_reducible refine CW.seq ?_ | with_reducible refine andThen_normal ?_ | refine CW.reg ?_ | refine RL.nil ?_ | refine RL.step tysOk rfl rfl rfl rfl ?_)
  refine RL.callP rfl rfl rfl rfl rfl (hN _) ?_
  repeat (first | with_reducible refine CW.seq ?_ | with_reducible refine andThen_normal ?_ | refine CW.reg ?_ | refine RL.nil ?_ | refine RL.step tysOk rfl rfl rfl rfl ?_)
  refine RL.callP rfl rfl rfl rfl rfl (hA _) ?_
  repeat (first | with_reducible refine CW.seq ?_ | with_reducible refine andThen_normal ?_ | refine CW.reg ?_ | refine RL.nil ?_ | refine RL.step tysOk rfl rfl rfl rfl ?_)
  refine RL.callP rfl rfl rfl rfl rfl (hC _) ?_
  repeat (first | refine RL.step tysOk rfl rfl rfl rfl ?_)
  refine RL.callP rfl rfl rfl rfl rfl (hT1 _) ?_
  repeat (first | with_reducible refine CW.seq ?_ | with_reducible refine andThen_normal ?_ | with_reducible refine CW.skip ?_ | refine CW.reg ?_ | refine RL.nil ?_ | refine CW.condF rfl ?_ | refine RL.step tysOk rfl rfl rfl rfl ?_)
  refine RL.callP rfl rfl rfl rfl rfl (lawNum_spec 2 _) ?_
  skip
  refine RL.callP rfl rfl rfl rfl rfl (lawName_spec [120] _) ?_
  skip
  refine RL.callP rfl rfl rfl rfl rfl (lawName_spec [97] _) ?_
  repeat (first | refine RL.step tysOk rfl rfl rfl rfl ?_)
  refine RL.callP rfl rfl rfl rfl rfl (ACalls.weakArgs (.cons (AVle.refl _) (.cons (AVle.refl _) (.one AVle.fro))) (lawExp_spec 12 [] [nameE [120], nameE [97]] _)) ?_
  repeat (first | refine RL.step tysOk rfl rfl rfl rfl ?_)
  refine RL.callP rfl rfl rfl rfl rfl (ACalls.weakArgs (.cons (AVle.refl _) (.cons (AVle.refl _) (.one AVle.fro))) (lawExp_spec 9 [97] [numE 2, .mk 12 0 [] [nameE [120], nameE [97]]] _)) ?_
  skip
  refine RL.callP rfl rfl rfl rfl rfl (lawName_spec [97] _) ?_
  skip
  refine RL.callP rfl rfl rfl rfl rfl (lawNum_spec 1 _) ?_
  repeat (first | refine RL.step tysOk rfl rfl rfl rfl ?_)
  refine RL.callP rfl rfl rfl rfl rfl (ACalls.weakArgs (.cons (AVle.refl _) (.cons (AVle.refl _) (.one AVle.fro))) (lawExp_spec 12 [] [nameE [97], numE 1] _)) ?_
  skip
  refine RL.callP rfl rfl rfl rfl rfl (hP _) ?_
  repeat (first | refine RL.step tysOk rfl rfl rfl rfl ?_)
  refine RL.newBox tysOk rfl rfl rfl rfl rfl rfl rfl (fun _ => rfl) rfl rfl (fun _ => rfl) rfl rfl rfl rfl ?_
  repeat (first | with_reducible refine CW.seq ?_ | with_reducible refine andThen_normal ?_ | refine RL.nil ?_ | refine RL.step tysOk rfl rfl rfl rfl ?_)
  refine CW.drw tysOk mixed rfl (RD.run rfl ?_)
  refine RD.calmP (i := 4) rfl rfl rfl rfl rfl rfl rfl (fun s => lawNum_spec 2 s) ?_
  refine RD.run rfl ?_
  refine RD.calmP (i := 5) rfl rfl rfl rfl rfl rfl rfl (fun s => lawName_spec [97] s) ?_
  refine RD.run rfl ?_
  refine RD.calmP (i := 6) rfl rfl rfl rfl rfl rfl rfl (fun s => lawNum_spec 1 s) ?_
  refine RD.run rfl ?_
  refine RD.calmP (i := 8) rfl rfl rfl rfl rfl rfl rfl (fun s => ACalls.weakArgs (.cons (AVle.refl _) (.cons (AVle.refl _) (.one AVle.fro))) (lawExp_spec 12 [] [nameE [97], numE 1] s)) ?_
  refine RD.run rfl ?_
  refine RD.calmP (i := 9) rfl rfl rfl rfl rfl rfl rfl (fun s => lawName_spec [98] s) ?_
  refine RD.run rfl ?_
  refine RD.calmP (i := 11) rfl rfl rfl rfl rfl rfl rfl (fun s => ACalls.weakArgs (.cons (AVle.refl _) (.cons (AVle.refl _) (.one AVle.fro))) (lawExp_spec 12 [] [.mk 12 0 [] [nameE [97], numE 1], nameE [98]] s)) ?_
  refine RD.run rfl ?_
  refine RD.calmP (i := 13) rfl rfl rfl rfl rfl rfl rfl (fun s => ACalls.weakArgs (.cons (AVle.refl _) (.cons (AVle.refl _) (.one AVle.fro))) (lawExp_spec 9 [98] [numE 2, .mk 12 0 [] [.mk 12 0 [] [nameE [97], numE 1], nameE [98]]] s)) ?_
  refine RD.run rfl ?_
  refine RD.calmP (i := 14) rfl rfl rfl rfl rfl rfl rfl (fun s => hE s) ?_
  refine RD.run rfl (RD.done rfl ?_)
  repeat (first | with_reducible refine CW.seq ?_ | with_reducible refine andThen_normal ?_ | with_reducible refine CW.skip ?_ | refine CW.reg ?_ | refine CW.condF rfl ?_ | refine RL.step tysOk rfl rfl rfl rfl ?_)
  refine RL.callP rfl rfl rfl rfl rfl (hK _) ?_
  repeat (first | refine RL.step tysOk rfl rfl rfl rfl ?_)
  refine RL.newBox tysOk rfl rfl rfl rfl rfl rfl rfl (fun _ => rfl) rfl rfl (fun _ => rfl) rfl rfl rfl rfl ?_
  repeat (first | with_reducible refine CW.seq ?_ | with_reducible refine andThen_normal ?_ | refine CW.reg ?_ | refine RL.nil ?_ | refine RL.step tysOk rfl rfl rfl rfl ?_)
  refine RL.idx tysOk 1 rfl rfl rfl rfl rfl rfl rfl rfl rfl rfl rfl (by rfl) (by rfl) ?_
  repeat (first | refine RL.step tysOk rfl rfl rfl rfl ?_)
  refine RL.idx tysOk 1 rfl rfl rfl rfl rfl rfl rfl rfl rfl rfl rfl (by rfl) (by rfl) ?_
  repeat (first | refine RL.step tysOk rfl rfl rfl rfl ?_)
  refine RL.idx tysOk 0 rfl rfl rfl rfl rfl rfl rfl rfl rfl rfl rfl (by rfl) (by rfl) ?_
  repeat (first | refine RL.step tysOk rfl rfl rfl rfl ?_)
  refine RL.idx tysOk 1 rfl rfl rfl rfl rfl rfl rfl rfl rfl rfl rfl (by rfl) (by rfl) ?_
  repeat (first | with_reducible refine CW.seq ?_ | with_reducible refine andThen_normal ?_ | with_reducible refine CW.skip ?_ | refine CW.reg ?_ | refine RL.nil ?_ | refine CW.condF rfl ?_ | refine RL.step tysOk rfl rfl rfl rfl ?_)
  refine RL.callP rfl rfl rfl rfl rfl (hG _) ?_
  repeat (first | with_reducible refine CW.seq ?_ | with_reducible refine andThen_normal ?_ | refine CW.reg ?_ | refine RL.nil ?_ | refine RL.step tysOk rfl rfl rfl rfl ?_)
  refine RL.callP rfl rfl rfl rfl rfl (hS _) ?_
  repeat (first | with_reducible refine CW.seq ?_ | with_reducible refine andThen_normal ?_ | refine CW.reg ?_ | refine RL.nil ?_ | refine RL.step tysOk rfl rfl rfl rfl ?_)
  refine RL.idx tysOk 0 rfl rfl rfl rfl rfl rfl rfl rfl rfl rfl rfl (by rfl) (by rfl) ?_
  repeat (first | refine RL.step tysOk rfl rfl rfl rfl ?_)
  refine RL.callP rfl rfl rfl rfl rfl (hT2 _) ?_
  repeat (first | refine RL.step tysOk rfl rfl rfl rfl ?_)
  refine RL.callP rfl rfl rfl rfl rfl (show ACalls Try.prog 10 [.str [97]] s (fun o s' => o = .ret (.bool true) ∧ s' = s) by have := shapeName_spec [97] s (by decide); rw [exName] at this; exact this) ?_
  repeat (first | refine RL.step tysOk rfl rfl rfl rfl ?_)
  refine RL.callP rfl rfl rfl rfl rfl (show ACalls Try.prog 10 [.str [105, 110]] s (fun o s' => o = .ret (.bool false) ∧ s' = s) by have := shapeName_spec [105, 110] s (by decide); rw [exName2] at this; exact this) ?_
  repeat (first | refine RL.step tysOk rfl rfl rfl rfl ?_)
  refine RL.callP rfl rfl rfl rfl rfl (show ACalls Try.prog 12 [.slc 1 (strs [[97], [98]]) .clip] s (fun o s' => o = .ret (.str [99]) ∧ s' = s) by have := shapeFresh_spec [[97], [98]] .clip s (by decide) (hasFree_of (by decide +kernel)); rw [exFresh] at this; exact this) ?_
  repeat (first | with_reducible refine andThen_normal ?_ | with_reducible refine CW.ret ?_ | refine RL.nil ?_ | refine RL.step tysOk rfl rfl rfl rfl ?_)
  exact ⟨_, _, _, rfl, AVle.refl _, Store.sub_refl _, rfl, rfl⟩
end Go.Proofs.Ytaafacnoddjhgaa

/- Readings: what an argument's datum says of the value itself. -/
namespace Go.Proofs.Ytaafacnoddjhgaa
open Go.AE

/-- All that was there already stays. -/
def oldP (w : World) : Prot := fun b _ => b < w.heap.size

theorem wf_old (w : World) : Wf w (oldP w) (fun _ => none) := ⟨(fun _ _ h => by cases h), fun _ _ h => h⟩

theorem add_add (a : Addr) (x y : Nat) : (a.add x).add y = a.add (x + y) := by
  unfold Addr.add
  by_cases hx : x = 0
  · subst hx; simp
  · by_cases hy : y = 0
    · subst hy; simp [hx]
    · simp [hx, hy, Nat.add_assoc]

theorem cell_old {w : World} {a : Addr} {v : Value} (h : w.cell? a = some v) : a.spot = none ∧ a.block < w.heap.size := by
  unfold World.cell? at h
  split at h
  · rename_i c _ _ hb
    refine ⟨?_, (Array.getElem?_eq_some_iff.1 hb).1⟩
    cases hs : a.spot with
    | none => rfl
    | some s => rw [hs] at h; simp at h
  · cases h

theorem cells_old {w : World} {a : Addr} {n : Nat} {cs : List Value} (h : w.cells? 0 a n = some cs) : cs.length = n ∧ ∀ i v, cs[i]? = some v → w.cell? (a.add i) = some v := by
  unfold World.cells? at h
  rw [if_pos (Nat.zero_le _)] at h
  refine ⟨by simpa using mapM_some_length h, fun i v hv => ?_⟩
  have hi : i < n := by
    have := mapM_some_length h
    rw [List.length_range] at this
    rw [← this]; exact (List.getElem?_eq_some_iff.1 hv).1
  rw [mapM_some_get h i i (by rw [List.getElem?_range hi])]; exact hv

section
variable {H : Type} {enc : TypeId × Value → H} {w : World}

theorem flat_len {sz : Nat} : ∀ {vs : List Value}, (∀ v ∈ vs, v.cells.size = sz) → (flat vs).length = vs.length * sz
  | [], _ => by simp [flat]
  | v :: vs, h => by
    have := flat_len (vs := vs) (fun u hu => h u (List.mem_cons_of_mem _ hu))
    have hv := h v List.mem_cons_self
    simp only [flat, List.flatMap_cons, List.length_append, List.length_cons] at this ⊢
    rw [this, Array.length_toList, hv, Nat.add_mul, Nat.one_mul, Nat.add_comm]

theorem RelL.append' {p : Prot} : ∀ {vs us : List Value} {xs ys : List AV}, RelL w p vs xs → RelL w p us ys → RelL w p (vs ++ us) (xs ++ ys)
  | _, _, _, _, .nil, h => h
  | _, _, _, _, .cons v x vs xs h t, k => .cons _ _ _ _ h (RelL.append' t k)

theorem bulk_append (l r : List (DataW H)) : Rows.uptoBulkAll (l ++ r) = Rows.uptoBulkAll l + Rows.uptoBulkAll r := by
  induction l with
  | nil => simp [Rows.uptoBulkAll]
  | cons x l ih => simp only [List.cons_append, Rows.uptoBulkAll, ih]; omega

/-- A slice whose elements can be read: the list of what they are. -/
theorem trod_list {α : Type} {t e : TypeId} {sz fuel : Nat} {cs : List Value} {x : DataW H × List MemPlace} (f : α → AV) (m : α → Nat) (ht : Try.prog.underlying t = some (.slice e)) (hc : Try.prog.cellsOf e = sz) (hsz : 0 < sz)
    (hel : ∀ n cs y, n < fuel → DataW.trod enc Try.prog w 0 (fun _ => true) true n e cs = some y → cs.length = sz → ∃ (a : α) (v : Value), v.cells.toList = cs ∧ Rel w (oldP w) v (f a) ∧ m a ≤ Rows.uptoBulk y.1)
    (h : DataW.trod enc Try.prog w 0 (fun _ => true) true fuel t cs = some x) :
    ∃ (c : Value) (l : List α), cs = [c] ∧ Rel w (oldP w) c (.slc sz (l.map f) .fro) ∧ (l.map m).sum + 1 ≤ Rows.uptoBulk x.1 := by
  rcases DataW.trod_slice ht h with ⟨rfl, rfl⟩ | ⟨a, len, cap, elems, rest, n, rfl, rfl, rfl, hb, hl, hm, hlen, hel', hsp, hns⟩
  · exact ⟨_, [], rfl, .slcNil _ _ (by simp), by simp [Rows.uptoBulk]⟩
  · rw [hc] at hel' hsp
    have key : ∀ k, k ≤ len → ∃ (l : List α) (vs : List Value), l.length = k ∧ RelL w (oldP w) vs (l.map f) ∧ (∀ v ∈ vs, v.cells.size = sz) ∧ (∀ i u, (flat vs)[i]? = some u → w.cell? (a.add i) = some u) ∧
        (l.map m).sum ≤ Rows.uptoBulkAll ((elems.take k).map (·.1)) := by
      intro k
      induction k with
      | zero => intro _; exact ⟨[], [], rfl, .nil, by simp, by simp [flat], by simp⟩
      | succ k ih =>
        intro hk
        obtain ⟨l, vs, h1, h2, h3, h4, h5⟩ := ih (by omega)
        have hek : elems[k]? = some (elems[k]'(by omega)) := List.getElem?_eq_getElem (by omega)
        have hb := hel' k (by omega)
        rw [hek, Option.bind_eq_some_iff] at hb
        obtain ⟨cs', hcs, hy⟩ := hb
        obtain ⟨g1, g2⟩ := cells_old hcs
        obtain ⟨a', v, e1, e2, e3⟩ := hel n cs' _ (Nat.lt_succ_self n) hy g1
        have hvs : vs.length = k := by rw [h2.length, List.length_map, h1]
        refine ⟨l ++ [a'], vs ++ [v], by simp [h1], ?_, ?_, ?_, ?_⟩
        · rw [List.map_append]; exact RelL.append' h2 (.cons _ _ _ _ e2 .nil)
        · intro u hu
          rcases List.mem_append.1 hu with hu | hu
          · exact h3 u hu
          · simp only [List.mem_singleton] at hu
            subst hu
            rw [← Array.length_toList, e1, g1]
        · intro i u hu
          have hf : flat (vs ++ [v]) = flat vs ++ cs' := by simp [flat, e1]
          rw [hf] at hu
          by_cases hi : i < (flat vs).length
          · rw [List.getElem?_append_left hi] at hu; exact h4 i u hu
          · rw [List.getElem?_append_right (by omega), flat_len h3, hvs] at hu
            have := g2 _ _ hu
            rw [add_add] at this
            rw [flat_len h3, hvs] at hi
            rwa [show k * sz + (i - k * sz) = i by omega] at this
        · rw [List.take_add_one, hek]
          simp only [Option.toList_some, List.map_append, List.map_cons, List.map_nil, bulk_append, List.sum_append, List.sum_cons, List.sum_nil, Rows.uptoBulkAll]
          omega
    obtain ⟨l, vs, h1, h2, h3, h4, h5⟩ := key len (Nat.le_refl _)
    have hvs : vs.length = len := by rw [h2.length, List.length_map, h1]
    refine ⟨_, l, rfl, ?_, ?_⟩
    · have hmx : maxLen = 9223372036854775807 := rfl
      by_cases hcap : cap = 0
      · have hl0 : len = 0 := by omega
        subst hl0; subst hcap
        have : l = [] := List.eq_nil_of_length_eq_zero h1
        subst this
        exact .slcZ a _ _ (.inl rfl)
      · have hcell : ∃ v, w.cell? a = some v := by
          by_cases hl0 : len = 0
          · obtain ⟨hr, hr'⟩ := hsp rfl
            have hek : rest[0]? = some (rest[0]'(by omega)) := List.getElem?_eq_getElem (by omega)
            have := hr' 0 (by omega)
            rw [hek, Option.bind_eq_some_iff] at this
            obtain ⟨cs', hcs, -⟩ := this
            obtain ⟨g1, g2⟩ := cells_old hcs
            have := g2 0 _ (List.getElem?_eq_getElem (by omega))
            rw [hl0, add_add] at this
            simp only [Nat.add_zero, Nat.zero_mul, Addr.add, if_true] at this
            exact ⟨_, this⟩
          · have := h4 0 _ (List.getElem?_eq_getElem (by rw [flat_len h3, hvs]; exact Nat.mul_pos (by omega) hsz))
            simp only [Addr.add, if_true] at this
            exact ⟨_, this⟩
        obtain ⟨v, hv⟩ := hcell
        obtain ⟨hs, hlt⟩ := cell_old hv
        obtain ⟨g, off, spot⟩ := a
        simp only at hs hlt
        subst hs
        refine .slc g off len cap sz vs _ .fro (by simp) (by rw [List.length_map, h1]) (fun i u hu => ⟨hlt, ?_⟩) h2 h3 (by omega) hl (by simp) (by simp)
        have := h4 i u hu
        rwa [add_none] at this
    · simp only [Rows.uptoBulk]
      rw [List.take_of_length_le (by omega)] at h5
      omega

theorem trod_str {fuel : Nat} {cs : List Value} {y : DataW H × List MemPlace} (h : DataW.trod enc Try.prog w 0 (fun _ => true) true fuel 9 cs = some y) :
    ∃ (s : Str) (v : Value), v.cells.toList = cs ∧ Rel w (oldP w) v (.str s) ∧ s.length + 1 ≤ Rows.uptoBulk y.1 := by
  obtain ⟨s, rfl, rfl, hs⟩ := DataW.trod_string Try.underlying9 h
  exact ⟨s.data.toList, .string s, rfl, .str _ _ rfl, by simp [Rows.uptoBulk]⟩

theorem trod_strs {fuel : Nat} {cs : List Value} {x : DataW H × List MemPlace} (h : DataW.trod enc Try.prog w 0 (fun _ => true) true fuel 22 cs = some x) :
    ∃ (c : Value) (l : List Str), cs = [c] ∧ Rel w (oldP w) c (.slc 1 (strs l) .fro) ∧ (l.map fun s => s.length + 1).sum + 1 ≤ Rows.uptoBulk x.1 :=
  trod_list (fun s => AV.str s) (fun s => s.length + 1) Try.underlying22 (by kernel_rfl) (by omega) (fun _ _ _ _ h _ => trod_str h) h

theorem trod_int {t : TypeId} {fuel : Nat} {cs : List Value} {y : DataW H × List MemPlace} (ht : Try.prog.underlying t = some (.int .i64)) (h : DataW.trod enc Try.prog w 0 (fun _ => true) true fuel t cs = some y) :
    ∃ n : Int, RelL w (oldP w) cs [.int .i64 n] ∧ 1 ≤ Rows.uptoBulk y.1 := by
  obtain ⟨n, rfl, rfl, -⟩ := DataW.trod_int ht h
  exact ⟨n, .cons _ _ _ _ (.int _ _) .nil, by simp [Rows.uptoBulk]⟩

theorem trod_strC {fuel : Nat} {cs : List Value} {y : DataW H × List MemPlace} (h : DataW.trod enc Try.prog w 0 (fun _ => true) true fuel 9 cs = some y) :
    ∃ s : Str, RelL w (oldP w) cs [.str s] ∧ s.length + 1 ≤ Rows.uptoBulk y.1 := by
  obtain ⟨s, rfl, rfl, hs⟩ := DataW.trod_string Try.underlying9 h
  exact ⟨s.data.toList, .cons _ _ _ _ (.str _ _ rfl) .nil, by simp [Rows.uptoBulk]⟩

theorem trod_strsC {fuel : Nat} {cs : List Value} {y : DataW H × List MemPlace} (h : DataW.trod enc Try.prog w 0 (fun _ => true) true fuel 22 cs = some y) :
    ∃ l : List Str, RelL w (oldP w) cs [.slc 1 (strs l) .fro] ∧ (l.map fun s => s.length + 1).sum + 1 ≤ Rows.uptoBulk y.1 := by
  obtain ⟨c, l, rfl, h1, h2⟩ := trod_strs h
  exact ⟨l, .cons _ _ _ _ h1 .nil, h2⟩

/-- A slice of aggregates. -/
theorem trod_aggs {α : Type} {t e : TypeId} {sz fuel : Nat} {cs : List Value} {x : DataW H × List MemPlace} (f : α → List AV) (m : α → Nat) (ht : Try.prog.underlying t = some (.slice e)) (hc : Try.prog.cellsOf e = sz) (hsz : 0 < sz)
    (hel : ∀ n cs y, n < fuel → DataW.trod enc Try.prog w 0 (fun _ => true) true n e cs = some y → ∃ a : α, RelL w (oldP w) cs (f a) ∧ m a ≤ Rows.uptoBulk y.1)
    (h : DataW.trod enc Try.prog w 0 (fun _ => true) true fuel t cs = some x) :
    ∃ l : List α, RelL w (oldP w) cs [.slc sz (l.map fun a => .agg (f a)) .fro] ∧ (l.map m).sum + 1 ≤ Rows.uptoBulk x.1 := by
  obtain ⟨c, l, rfl, h1, h2⟩ := trod_list (fun a => AV.agg (f a)) m ht hc hsz (fun n cs y hn hy _ => by
    obtain ⟨a, g1, g2⟩ := hel n cs y hn hy
    exact ⟨a, .agg cs.toArray, by simp [Value.cells], .agg _ _ (by simpa using g1), g2⟩) h
  exact ⟨l, .cons _ _ _ _ h1 .nil, h2⟩

theorem agg_bulk (l : List (DataW H)) : Rows.uptoBulk (.agg l) = Rows.uptoBulkAll l + 1 := by simp [Rows.uptoBulk]

/-- A field's place. -/
def fld (nm : String) (t : TypeId) (off boff : Nat) : Field := { name := nm, type := t, offset := off, embedded := false, tag := "", pkgPath := "", byteOffset := boff }

mutual
def FExp.weight : FExp → Nat
  | .mk _ _ t ks => t.length + 5 + FExp.weights ks
def FExp.weights : List FExp → Nat
  | [] => 0
  | k :: r => k.weight + FExp.weights r
end
theorem FExp.weights_eq : ∀ l : List FExp, FExp.weights l = (l.map FExp.weight).sum
  | [] => rfl
  | k :: r => by rw [FExp.weights, FExp.weights_eq r]; rfl

set_option maxRecDepth 10000 in
theorem trod_exp : ∀ (fuel : Nat) (cs : List Value) (y : DataW H × List MemPlace), DataW.trod enc Try.prog w 0 (fun _ => true) true fuel 32 cs = some y → ∃ e : FExp, RelL w (oldP w) cs e.cells ∧ e.weight ≤ Rows.uptoBulk y.1 := by
  intro fuel
  induction fuel using Nat.strongRecOn with
  | _ fuel ih =>
    intro cs y h
    obtain ⟨xs, n, rfl, rfl, hl, hlen, hf⟩ := DataW.trod_struct Try.underlying32 h
    have c___api_FormExp : Try.prog.cellsOf 30 = 1 := by kernel_rfl
    have c_api_FormExp : Try.prog.cellsOf 32 = 4 := by kernel_rfl
    have c_api_FormOp : Try.prog.cellsOf 29 = 1 := by kernel_rfl
    have c_int : Try.prog.cellsOf 3 = 1 := by kernel_rfl
    have c_string : Try.prog.cellsOf 9 = 1 := by kernel_rfl
    rw [c_api_FormExp] at hl
    match cs, hl, xs, hlen with
    | [v0, v1, v2, v3], _, [y0, y1, y2, y3], _ =>
      have h0 := hf 0 (fld "Op" 29 0 0) rfl
      have h1 := hf 1 (fld "N" 3 1 8) rfl
      have h2 := hf 2 (fld "Text" 9 2 16) rfl
      have h3 := hf 3 (fld "Kids" 30 3 32) rfl
      simp only [fld, c___api_FormExp, c_api_FormExp, c_api_FormOp, c_int, c_string, List.drop, List.take] at h0 h1 h2 h3
      obtain ⟨o, g0, b0⟩ := trod_int Try.underlying29 h0
      obtain ⟨k, g1, b1⟩ := trod_int Try.underlying3 h1
      obtain ⟨s, g2, b2⟩ := trod_strC h2
      obtain ⟨ks, g3, b3⟩ := trod_aggs FExp.cells FExp.weight Try.underlying30 c_api_FormExp (by omega) (fun m cs y hm hy => ih m (by omega) cs y hy) h3
      refine ⟨.mk o k s ks, ?_, ?_⟩
      · have : (FExp.mk o k s ks).cells = [.int .i64 o] ++ ([.int .i64 k] ++ ([.str s] ++ [.slc 4 (ks.map FExp.av) .fro])) := by
          show [_, _, _, _] = _
          rw [FExp.kav_eq]; rfl
        rw [this]
        exact RelL.append' (vs := [v0]) g0 (RelL.append' (vs := [v1]) g1 (RelL.append' (vs := [v2]) g2 g3))
      · simp only [agg_bulk, List.map_cons, List.map_nil, Rows.uptoBulkAll, FExp.weight, FExp.weights_eq]
        omega

mutual
def FFact.weight : FFact → Nat
  | .mk _ x p c _ ks => x.length + (p.map fun s => s.length + 1).sum + c.length + 7 + FFact.weights ks
def FFact.weights : List FFact → Nat
  | [] => 0
  | k :: r => k.weight + FFact.weights r
end
theorem FFact.weights_eq : ∀ l : List FFact, FFact.weights l = (l.map FFact.weight).sum
  | [] => rfl
  | k :: r => by rw [FFact.weights, FFact.weights_eq r]; rfl

set_option maxRecDepth 10000 in
theorem trod_fact : ∀ (fuel : Nat) (cs : List Value) (y : DataW H × List MemPlace), DataW.trod enc Try.prog w 0 (fun _ => true) true fuel 58 cs = some y → ∃ e : FFact, RelL w (oldP w) cs e.cells ∧ e.weight ≤ Rows.uptoBulk y.1 := by
  intro fuel
  induction fuel using Nat.strongRecOn with
  | _ fuel ih =>
    intro cs y h
    obtain ⟨xs, n, rfl, rfl, hl, hlen, hf⟩ := DataW.trod_struct Try.underlying58 h
    have c___api_FormFact : Try.prog.cellsOf 56 = 1 := by kernel_rfl
    have c___string : Try.prog.cellsOf 22 = 1 := by kernel_rfl
    have c_api_FactOp : Try.prog.cellsOf 55 = 1 := by kernel_rfl
    have c_api_FormFact : Try.prog.cellsOf 58 = 6 := by kernel_rfl
    have c_int : Try.prog.cellsOf 3 = 1 := by kernel_rfl
    have c_string : Try.prog.cellsOf 9 = 1 := by kernel_rfl
    rw [c_api_FormFact] at hl
    match cs, hl, xs, hlen with
    | [v0, v1, v2, v3, v4, v5], _, [y0, y1, y2, y3, y4, y5], _ =>
      have h0 := hf 0 (fld "Op" 55 0 0) rfl
      have h1 := hf 1 (fld "Name" 9 1 8) rfl
      have h2 := hf 2 (fld "Path" 22 2 24) rfl
      have h3 := hf 3 (fld "Class" 9 3 48) rfl
      have h4 := hf 4 (fld "N" 3 4 64) rfl
      have h5 := hf 5 (fld "Kids" 56 5 72) rfl
      simp only [fld, c___api_FormFact, c___string, c_api_FactOp, c_api_FormFact, c_int, c_string, List.drop, List.take] at h0 h1 h2 h3 h4 h5
      obtain ⟨o, g0, b0⟩ := trod_int Try.underlying55 h0
      obtain ⟨a, g1, b1⟩ := trod_strC h1
      obtain ⟨p, g2, b2⟩ := trod_strsC h2
      obtain ⟨c, g3, b3⟩ := trod_strC h3
      obtain ⟨k, g4, b4⟩ := trod_int Try.underlying3 h4
      obtain ⟨ks, g5, b5⟩ := trod_aggs FFact.cells FFact.weight Try.underlying56 c_api_FormFact (by omega) (fun m cs y hm hy => ih m (by omega) cs y hy) h5
      refine ⟨.mk o a p c k ks, ?_, ?_⟩
      · have : (FFact.mk o a p c k ks).cells = [.int .i64 o] ++ ([.str a] ++ ([.slc 1 (strs p) .fro] ++ ([.str c] ++ ([.int .i64 k] ++ [.slc 6 (ks.map FFact.av) .fro])))) := by
          show [_, _, _, _, _, _] = _
          rw [FFact.kav_eq]; rfl
        rw [this]
        exact RelL.append' (vs := [v0]) g0 (RelL.append' (vs := [v1]) g1 (RelL.append' (vs := [v2]) g2 (RelL.append' (vs := [v3]) g3 (RelL.append' (vs := [v4]) g4 g5))))
      · simp only [agg_bulk, List.map_cons, List.map_nil, Rows.uptoBulkAll, FFact.weight, FFact.weights_eq]
        omega

def sumS (l : List Str) : Nat := (l.map fun s => s.length + 1).sum
def FInit.weight (x : FInit) : Nat := x.slot.length + 3
def FClass.weight (c : FClass) : Nat := c.name.length + sumS c.parents + sumS c.slots + (c.inits.map FInit.weight).sum + 5
def FMethod.weight (m : FMethod) : Nat := m.name.length + sumS m.params + m.fact.weight + m.body.weight + 4
def FProg.weight (P : FProg) : Nat := (P.classes.map FClass.weight).sum + (P.methods.map FMethod.weight).sum + P.main.weight + 3

set_option maxRecDepth 10000 in
theorem trod_init (fuel : Nat) (cs : List Value) (y : DataW H × List MemPlace) (h : DataW.trod enc Try.prog w 0 (fun _ => true) true fuel 129 cs = some y) : ∃ e : FInit, RelL w (oldP w) cs e.cells ∧ e.weight ≤ Rows.uptoBulk y.1 := by
  obtain ⟨xs, n, rfl, rfl, hl, hlen, hf⟩ := DataW.trod_struct Try.underlying129 h
  have c_api_FormInit : Try.prog.cellsOf 129 = 2 := by kernel_rfl
  have c_int : Try.prog.cellsOf 3 = 1 := by kernel_rfl
  have c_string : Try.prog.cellsOf 9 = 1 := by kernel_rfl
  rw [c_api_FormInit] at hl
  match cs, hl, xs, hlen with
  | [v0, v1], _, [y0, y1], _ =>
    have h0 := hf 0 (fld "Slot" 9 0 0) rfl
    have h1 := hf 1 (fld "N" 3 1 16) rfl
    simp only [fld, c_api_FormInit, c_int, c_string, List.drop, List.take] at h0 h1
    obtain ⟨s, g0, b0⟩ := trod_strC h0
    obtain ⟨k, g1, b1⟩ := trod_int Try.underlying3 h1
    refine ⟨⟨s, k⟩, ?_, ?_⟩
    · have : (FInit.mk s k).cells = [.str s] ++ [.int .i64 k] := by
        rfl
      rw [this]
      exact RelL.append' (vs := [v0]) g0 g1
    · simp only [agg_bulk, List.map_cons, List.map_nil, Rows.uptoBulkAll, FInit.weight]
      omega

set_option maxRecDepth 10000 in
theorem trod_class (fuel : Nat) (cs : List Value) (y : DataW H × List MemPlace) (h : DataW.trod enc Try.prog w 0 (fun _ => true) true fuel 100 cs = some y) : ∃ e : FClass, RelL w (oldP w) cs e.cells ∧ e.weight ≤ Rows.uptoBulk y.1 := by
  obtain ⟨xs, n, rfl, rfl, hl, hlen, hf⟩ := DataW.trod_struct Try.underlying100 h
  have c___api_FormInit : Try.prog.cellsOf 98 = 1 := by kernel_rfl
  have c___string : Try.prog.cellsOf 22 = 1 := by kernel_rfl
  have c_api_FormClass : Try.prog.cellsOf 100 = 4 := by kernel_rfl
  have c_string : Try.prog.cellsOf 9 = 1 := by kernel_rfl
  rw [c_api_FormClass] at hl
  match cs, hl, xs, hlen with
  | [v0, v1, v2, v3], _, [y0, y1, y2, y3], _ =>
    have h0 := hf 0 (fld "Name" 9 0 0) rfl
    have h1 := hf 1 (fld "Parents" 22 1 16) rfl
    have h2 := hf 2 (fld "Slots" 22 2 40) rfl
    have h3 := hf 3 (fld "Inits" 98 3 64) rfl
    simp only [fld, c___api_FormInit, c___string, c_api_FormClass, c_string, List.drop, List.take] at h0 h1 h2 h3
    obtain ⟨a, g0, b0⟩ := trod_strC h0
    obtain ⟨p, g1, b1⟩ := trod_strsC h1
    obtain ⟨q, g2, b2⟩ := trod_strsC h2
    obtain ⟨l, g3, b3⟩ := trod_aggs (sz := 2) FInit.cells FInit.weight Try.underlying98 (by kernel_rfl) (by omega) (fun m cs y _ hy => trod_init m cs y hy) h3
    refine ⟨⟨a, p, q, l⟩, ?_, ?_⟩
    · have : (FClass.mk a p q l).cells = [.str a] ++ ([.slc 1 (strs p) .fro] ++ ([.slc 1 (strs q) .fro] ++ [.slc 2 (l.map FInit.av) .fro])) := by
        rfl
      rw [this]
      exact RelL.append' (vs := [v0]) g0 (RelL.append' (vs := [v1]) g1 (RelL.append' (vs := [v2]) g2 g3))
    · simp only [agg_bulk, List.map_cons, List.map_nil, Rows.uptoBulkAll, FClass.weight, sumS]
      omega

set_option maxRecDepth 10000 in
theorem trod_method (fuel : Nat) (cs : List Value) (y : DataW H × List MemPlace) (h : DataW.trod enc Try.prog w 0 (fun _ => true) true fuel 70 cs = some y) : ∃ e : FMethod, RelL w (oldP w) cs e.cells ∧ e.weight ≤ Rows.uptoBulk y.1 := by
  obtain ⟨xs, n, rfl, rfl, hl, hlen, hf⟩ := DataW.trod_struct Try.underlying70 h
  have c___string : Try.prog.cellsOf 22 = 1 := by kernel_rfl
  have c_api_FormExp : Try.prog.cellsOf 32 = 4 := by kernel_rfl
  have c_api_FormFact : Try.prog.cellsOf 58 = 6 := by kernel_rfl
  have c_api_FormKind : Try.prog.cellsOf 68 = 1 := by kernel_rfl
  have c_api_FormMethod : Try.prog.cellsOf 70 = 13 := by kernel_rfl
  have c_string : Try.prog.cellsOf 9 = 1 := by kernel_rfl
  rw [c_api_FormMethod] at hl
  match cs, hl, xs, hlen with
  | [v0, v1, v2, v3, v4, v5, v6, v7, v8, v9, v10, v11, v12], _, [y0, y1, y2, y3, y4], _ =>
    have h0 := hf 0 (fld "Kind" 68 0 0) rfl
    have h1 := hf 1 (fld "Name" 9 1 8) rfl
    have h2 := hf 2 (fld "Params" 22 2 24) rfl
    have h3 := hf 3 (fld "Fact" 58 3 48) rfl
    have h4 := hf 4 (fld "Body" 32 9 144) rfl
    simp only [fld, c___string, c_api_FormExp, c_api_FormFact, c_api_FormKind, c_api_FormMethod, c_string, List.drop, List.take] at h0 h1 h2 h3 h4
    obtain ⟨o, g0, b0⟩ := trod_int Try.underlying68 h0
    obtain ⟨a, g1, b1⟩ := trod_strC h1
    obtain ⟨p, g2, b2⟩ := trod_strsC h2
    obtain ⟨f, g3, b3⟩ := trod_fact _ _ _ h3
    obtain ⟨e, g4, b4⟩ := trod_exp _ _ _ h4
    refine ⟨⟨o, a, p, f, e⟩, ?_, ?_⟩
    · have : (FMethod.mk o a p f e).cells = [.int .i64 o] ++ ([.str a] ++ ([.slc 1 (strs p) .fro] ++ (f.cells ++ e.cells))) := by
        simp [FMethod.cells]
      rw [this]
      exact RelL.append' (vs := [v0]) g0 (RelL.append' (vs := [v1]) g1 (RelL.append' (vs := [v2]) g2 (RelL.append' (vs := [v3, v4, v5, v6, v7, v8]) g3 g4)))
    · simp only [agg_bulk, List.map_cons, List.map_nil, Rows.uptoBulkAll, FMethod.weight, sumS]
      omega

set_option maxRecDepth 10000 in
theorem trod_prog (fuel : Nat) (cs : List Value) (y : DataW H × List MemPlace) (h : DataW.trod enc Try.prog w 0 (fun _ => true) true fuel 34 cs = some y) : ∃ e : FProg, RelL w (oldP w) cs e.cells ∧ e.weight ≤ Rows.uptoBulk y.1 := by
  obtain ⟨xs, n, rfl, rfl, hl, hlen, hf⟩ := DataW.trod_struct Try.underlying34 h
  have c___api_FormClass : Try.prog.cellsOf 27 = 1 := by kernel_rfl
  have c___api_FormMethod : Try.prog.cellsOf 28 = 1 := by kernel_rfl
  have c_api_FormExp : Try.prog.cellsOf 32 = 4 := by kernel_rfl
  have c_api_FormProg : Try.prog.cellsOf 34 = 6 := by kernel_rfl
  rw [c_api_FormProg] at hl
  match cs, hl, xs, hlen with
  | [v0, v1, v2, v3, v4, v5], _, [y0, y1, y2], _ =>
    have h0 := hf 0 (fld "Classes" 27 0 0) rfl
    have h1 := hf 1 (fld "Methods" 28 1 24) rfl
    have h2 := hf 2 (fld "Main" 32 2 48) rfl
    simp only [fld, c___api_FormClass, c___api_FormMethod, c_api_FormExp, c_api_FormProg, List.drop, List.take] at h0 h1 h2
    obtain ⟨l, g0, b0⟩ := trod_aggs (sz := 4) FClass.cells FClass.weight Try.underlying27 (by kernel_rfl) (by omega) (fun m cs y _ hy => trod_class m cs y hy) h0
    obtain ⟨q, g1, b1⟩ := trod_aggs (sz := 13) FMethod.cells FMethod.weight Try.underlying28 (by kernel_rfl) (by omega) (fun m cs y _ hy => trod_method m cs y hy) h1
    obtain ⟨e, g2, b2⟩ := trod_exp _ _ _ h2
    refine ⟨⟨l, q, e⟩, ?_, ?_⟩
    · have : (FProg.mk l q e).cells = [.slc 4 (l.map FClass.av) .fro] ++ ([.slc 13 (q.map FMethod.av) .fro] ++ e.cells) := by
        rfl
      rw [this]
      exact RelL.append' (vs := [v0]) g0 (RelL.append' (vs := [v1]) g1 g2)
    · simp only [agg_bulk, List.map_cons, List.map_nil, Rows.uptoBulkAll, FProg.weight]
      omega

end
end Go.Proofs.Ytaafacnoddjhgaa

/- How a contract closes a law: the call returns true, and the arguments read as they did. -/
namespace Go.Proofs.Ytaafacnoddjhgaa
open Go.AE Go.ChangeShapes Go.WideShapes Go.ChangeAt Go.RowKit

theorem trodAll_stays {H : Type} {enc : TypeId × Value → H} {P : Program} {W W' : World} (hl : laidOutB P = true) : ∀ {ts : List TypeId} {vs : List Value} {ds : List (DataW H)} {ps : List MemPlace} {sp : Nat → Bool}, (∀ t ∈ ts, P.readableRec t = true ∧ t < P.types.size) →
    DataW.TrodAll enc P W 0 (fun _ => true) true ts vs ds ps → (∀ p ∈ ps, W.sameAt W' p) → (∀ p ∈ ps, sp p.block = true) → DataW.TrodAll enc P W' 0 sp true ts vs ds ps
  | [], [], [], _, _, _, h, _, _ => h
  | t :: ts, v :: vs, d :: ds, ps, sp, ht, h, hs, hb => by
    obtain ⟨p, q, h1, h2, rfl⟩ := h
    obtain ⟨r1, r2⟩ := ht t List.mem_cons_self
    exact ⟨p, q, WideElems.Trod_stays hl r1 r2 h1 (fun x hx => hs x (List.mem_append_left _ hx)) (fun x hx => hb x (List.mem_append_left _ hx)),
      trodAll_stays hl (fun t ht' => ht t (List.mem_cons_of_mem _ ht')) h2 (fun x hx => hs x (List.mem_append_right _ hx)) (fun x hx => hb x (List.mem_append_right _ hx)), rfl⟩
  | [], [], _ :: _, _, _, _, h, _, _ => h.elim
  | [], _ :: _, _, _, _, _, h, _, _ => h.elim
  | _ :: _, [], _, _, _, _, h, _, _ => h.elim
  | _ :: _, _ :: _, [], _, _, _, h, _, _ => h.elim

theorem close_true {H : Type} {enc : TypeId × Value → H} {f : FuncId} {fn : Func} {spec : ChangeSpec} {W : World} {args : Array Value} {xs : List AV} {ds gs : List (DataW H)} {before : List MemPlace}
    (hl : laidOutB Try.prog = true) (hp : ∀ t ∈ fn.params.toList, Try.prog.readableRec t = true ∧ t < Try.prog.types.size) (hr : fn.resultTypes = #[4]) (hv : spec.vars = [])
    (hsp : gs = [] → spec.fn H (ds ++ gs) = { results := [.lit (.bool true)], args := ds })
    (hW : DataW.Whole enc Try.prog fn.params.toList spec.vars false W args.toList ds gs before) (hrel : RelL W (oldP W) args.toList xs) (hc : ACalls Try.prog f xs (fun _ => none) (fun o s' => o = .ret (.bool true) ∧ s' = fun _ => none)) :
    Calls Try.prog f args W fun e W' => ∃ v, e = .returned v ∧ spec.post enc Try.prog fn false true false false W args v W' := by
  have h := hc.2 W (oldP W) args.toList (wf_old W) hrel
  rw [Array.toArray_toList] at h
  refine Calls.mono h fun e W' ⟨hne, o, s', p', hout, ⟨ho, hs'⟩, hle, hk, hwf⟩ => ?_
  subst ho
  cases e with
  | returned v =>
    have hb : Rel W' p' v (.bool true) := hout
    cases hb
    have hbelow : Below W.heap.size W W' := ⟨hle.os, hle.tape, hle.output, hle.size, fun k hk' => hk.heap k hk' rfl⟩
    have hlt := hW.lt
    have hW' := hW
    obtain ⟨p, q, hA, hV, rfl, hfz, hnd⟩ := hW
    rw [hv] at hV
    obtain ⟨rfl, rfl⟩ := trodVars_none hV
    have hspec := hsp rfl
    refine ⟨_, rfl, ds, [], _, [], p, [], hW', ?_, ?_, ?_, hbelow.frame _, fun h => by cases h⟩
    · rw [hspec, hr]
      exact trodAll_cons_mk (shut_bool Try.underlying4 _) trodAll_mk0
    · rw [hspec]
      exact trodAll_stays hl hp hA (fun x hx => hbelow.same (hlt x (by simpa using hx))) (fun x hx => by simpa using hlt x (by simpa using hx))
    · rw [hspec, hv]; exact rfl
  | panicked ch => exact hout.elim
  | outgrown => exact hout.elim

theorem laidOut : laidOutB Try.prog = true := by kernel_rfl
end Go.Proofs.Ytaafacnoddjhgaa

