import Derived.Test.YtaafacnoddjhgaaMq
import Derived.Test.YtaafacnoddjhgaaMm
/- Contracts of the reference: inits. -/
namespace Go.Proofs.Ytaafacnoddjhgaa
open Go.AE

def slotsAt (cls : List FClass) (j : Nat) : List Str := (cls[j]?.map FClass.slots).getD []
def initsAt (cls : List FClass) (j : Nat) : List FInit := (cls[j]?.map FClass.inits).getD []
def mineUpto (cls : List FClass) (up : List Bool) (k : Nat) : List Str := (List.range k).flatMap fun j => if up.getD j false then slotsAt cls j else []
def initsOkR (mine : List Str) : List Str → List FInit → Bool
  | _, [] => true
  | set, x :: r => ((mine.contains x.slot && !set.contains x.slot) && between x.n) && initsOkR mine (set ++ [x.slot]) r
def initsI (cls : List FClass) (i : Nat) : Bool := initsOkR (mineUpto cls ((aboveB cls i).set i true) cls.length) [] (initsAt cls i)
def initsR (cls : List FClass) : Bool := (List.range cls.length).all (initsI cls)

theorem mineUpto_succ (cls : List FClass) (up : List Bool) (k : Nat) : mineUpto cls up (k + 1) = mineUpto cls up k ++ (if up.getD k false then slotsAt cls k else []) := by
  unfold mineUpto; rw [List.range_succ, List.flatMap_append]; simp
theorem mineUpto_len {cls : List FClass} {up : List Bool} : ∀ {k : Nat}, k ≤ cls.length → (mineUpto cls up k).length ≤ ((cls.take k).flatMap FClass.slots).length
  | 0, _ => by simp [mineUpto]
  | k + 1, hk => by
    obtain ⟨c, hc⟩ : ∃ c, cls[k]? = some c := ⟨_, List.getElem?_eq_getElem (by omega)⟩
    rw [mineUpto_succ, flatMap_take_succ _ hc, List.length_append, List.length_append]
    have h1 := mineUpto_len (cls := cls) (up := up) (k := k) (by omega)
    have h2 : slotsAt cls k = c.slots := by simp [slotsAt, hc]
    rw [h2]
    have h3 : (if up.getD k false then c.slots else []).length ≤ c.slots.length := by split <;> simp
    omega

theorem upGo_len (cls : List FClass) (n : Nat) : ∀ (i : Nat) (out : List Bool), (upGo cls n i out).length = out.length
  | 0, _ => rfl
  | i + 1, out => by
    rw [upGo, upGo_len cls n i]
    split
    · exact upStep_len _ _ _
    · rfl
theorem aboveB_len (cls : List FClass) (n : Nat) : (aboveB cls n).length = cls.length := by unfold aboveB; rw [upGo_len, List.length_replicate]

set_option maxRecDepth 10000 in
set_option maxHeartbeats 4000000 in
theorem refInits_spec (P : FProg) (s : Store) (hP : P.Fair) (hk : Known P.classes) :
    ACalls Try.prog 88 [P.av] s (fun o s' => o = .ret (.bool (initsR P.classes)) ∧ s' = s) := by
  have hb : big = 1099511627776 := rfl
  have hl := hP.clen
  have hsl := hP.slen
  have hml : (P.classes.map FClass.av).length = P.classes.length := List.length_map ..
  have hpar : ∀ c ∈ P.classes, c.parents.length < big := fun c hc => (hP.cls c hc).parents.len
  refine ACalls.of_CW tysOk call88 Try.func88 rfl rfl ?_
  repeat (first | with_reducible refine CW.seq ?_ | with_reducible refine andThen_normal ?_ | with_reducible refine CW.block ?_ | refine CW.reg (RL.run tysOk rfl (RL.nil ?_)))
  refine CW.loop (σ := Nat) (fun i => [(1, .fptr P.cells 0), (3, .int .i64 (i : Int))]) (fun _ => s) (fun i => i ≤ P.classes.length ∧ initsR P.classes = ((List.range P.classes.length).drop i).all (initsI P.classes)) (fun i => P.classes.length - i) 0 ⟨by omega, rfl⟩ (by repeat (first | exact trivial | refine ⟨⟨_, rfl, AVle.refl _⟩, ?_⟩)) (Store.sub_refl _) ?_
  rintro i ⟨hi, hI⟩
  repeat (first | with_reducible refine CW.seq ?_ | with_reducible refine andThen_normal ?_ | refine CW.reg (RL.run tysOk rfl (RL.nil ?_)))
  refine CW.cond rfl (fun h => ?_) (fun h => ?_)
  · have hlt : i < P.classes.length := by rw [hml] at h; simpa using h
    obtain ⟨c, hci⟩ : ∃ c, P.classes[i]? = some c := ⟨_, List.getElem?_eq_getElem hlt⟩
    have hci' : (P.classes.map FClass.av)[i]? = some (.agg c.cells) := by rw [List.getElem?_map, hci]; rfl
    have hcf := hP.cls c (List.mem_of_getElem? hci)
    have hri : (List.range P.classes.length)[i]? = some i := by rw [List.getElem?_range hlt]
    rw [drop_cons hri, List.all_cons] at hI
    have hii : initsI P.classes i = initsOkR (mineUpto P.classes ((aboveB P.classes i).set i true) P.classes.length) [] c.inits := by simp [initsI, initsAt, hci]
    rw [hii] at hI
    have hul : ((aboveB P.classes i).set i true).length = P.classes.length := by rw [List.length_set, aboveB_len]
    have hal := aboveB_len P.classes i
    refine CW.skip (andThen_normal (CW.seq (CW.block ?_)))
    refine CW.seqCutX (σ := Nat) (fun b => [(1, .fptr P.cells 0), (3, .int .i64 (i : Int)), (4, .mslc b P.classes.length)]) (fun b => s.set b (boolBox (aboveB P.classes i))) (fun b => s b = none) ?_ ?_
    · repeat (first | refine CW.reg ?_ | refine RL.step tysOk rfl rfl rfl rfl ?_)
      refine RL.call rfl rfl rfl rfl rfl (refAbove_spec P i s hl hlt hk hpar) ?_ (fun _ _ ⟨_, _, h, _⟩ => by cases h)
      rintro _ _ ⟨b, hbn, ⟨⟩, rfl⟩
      repeat (first | refine RL.nil ?_ | refine RL.step tysOk rfl rfl rfl rfl ?_)
      exact ⟨rfl, b, hbn, (by repeat (first | exact trivial | refine ⟨⟨_, rfl, AVle.refl _⟩, ?_⟩)), Store.sub_refl _⟩
    intro b hbn
    refine CW.seqCut [(1, .fptr P.cells 0), (3, .int .i64 (i : Int)), (4, .mslc b P.classes.length)] (s.set b (boolBox ((aboveB P.classes i).set i true))) ?_ ?_
    · repeat (first | refine CW.reg ?_ | refine RL.step tysOk rfl rfl rfl rfl ?_)
      refine RL.idxM tysOk i rfl rfl rfl rfl rfl rfl rfl rfl rfl rfl rfl hlt ?_
      refine RL.storeP tysOk rfl rfl rfl rfl rfl rfl rfl rfl rfl (Store.set_same _ _ _) (by rw [Nat.ble_eq, bools_length]; show _ + 1 ≤ _; omega) ?_
      rw [Store.set_set]
      repeat (first | refine RL.nil ?_)
      refine ⟨rfl, (by repeat (first | exact trivial | refine ⟨⟨_, rfl, AVle.refl _⟩, ?_⟩)), ?_⟩
      rw [boolBox, ← bools_set]
      exact Store.sub_refl _
    generalize (aboveB P.classes i).set i true = up at hul hI ⊢
    clear hal hii
    refine CW.seqCut [(1, .fptr P.cells 0), (3, .int .i64 (i : Int)), (4, .mslc b P.classes.length), (5, .slc 1 (strs []) .nil), (6, .slc 1 (strs []) .nil)] (s.set b (boolBox up)) ?_ ?_
    · repeat (first | refine CW.reg (RL.run tysOk rfl (RL.nil ?_)))
      exact ⟨rfl, ⟨⟨_, rfl, AVle.refl _⟩, ⟨_, rfl, AVle.refl _⟩, ⟨_, rfl, AVle.refl _⟩, ⟨_, rfl, AVle.nil (by simp)⟩, ⟨_, rfl, AVle.nil (by simp)⟩, trivial⟩, Store.sub_refl _⟩
    refine CW.seqCut [(1, .fptr P.cells 0), (3, .int .i64 (i : Int)), (5, .slc 1 (strs (mineUpto P.classes up P.classes.length)) .fro), (6, .slc 1 (strs []) .nil)] s ?_ ?_
    · repeat (first | with_reducible refine CW.seq ?_ | with_reducible refine andThen_normal ?_ | with_reducible refine CW.block ?_ | refine CW.reg (RL.run tysOk rfl (RL.nil ?_)))
      refine CW.loop (σ := Nat × Own) (fun q => [(1, .fptr P.cells 0), (3, .int .i64 (i : Int)), (4, .mslc b P.classes.length), (5, .slc 1 (strs (mineUpto P.classes up q.1)) q.2), (6, .slc 1 (strs []) .nil), (7, .int .i64 (q.1 : Int))])
        (fun q => rowOf (s.set b (boolBox up)) 9 1 (mineUpto P.classes up q.1).length q.2) (fun q => q.1 ≤ P.classes.length ∧ OwnOk (s.set b (boolBox up)) 0 q.2) (fun q => P.classes.length - q.1) (0, .nil) ⟨by simp, trivial⟩ (by repeat (first | exact trivial | refine ⟨⟨_, rfl, AVle.refl _⟩, ?_⟩)) (Store.sub_refl _) ?_
      rintro ⟨k, ow⟩ ⟨hk1, hok⟩
      simp only at hk1 hok
      have hbx : rowOf (s.set b (boolBox up)) 9 1 (mineUpto P.classes up k).length ow b = some (boolBox up) := rowOf_get (m := 0) hok (Store.set_same _ _ _)
      repeat (first | with_reducible refine CW.seq ?_ | refine CW.reg ?_ | refine RL.step tysOk rfl rfl rfl rfl ?_)
      refine RL.lenM tysOk rfl rfl rfl rfl rfl rfl rfl ?_
      repeat (first | with_reducible refine andThen_normal ?_ | refine RL.nil ?_ | refine RL.step tysOk rfl rfl rfl rfl ?_)
      refine CW.cond rfl (fun h => ?_) (fun h => ?_)
      · have hltk : k < P.classes.length := by simpa using h
        obtain ⟨d, hdk⟩ : ∃ d, P.classes[k]? = some d := ⟨_, List.getElem?_eq_getElem hltk⟩
        have hdk' : (P.classes.map FClass.av)[k]? = some (.agg d.cells) := by rw [List.getElem?_map, hdk]; rfl
        obtain ⟨v, hv⟩ : ∃ v, up[k]? = some v := ⟨_, List.getElem?_eq_getElem (by omega)⟩
        have hsa : slotsAt P.classes k = d.slots := by simp [slotsAt, hdk]
        have hms := mineUpto_succ P.classes up k
        have hgd : up.getD k false = v := by simp [hv]
        rw [hgd, hsa] at hms
        have hmlen := mineUpto_len (cls := P.classes) (up := up) (k := k + 1) (by omega)
        have hfl := flatMap_take_le FClass.slots P.classes (k + 1)
        repeat (first | with_reducible refine CW.seq ?_ | with_reducible refine andThen_normal ?_ | with_reducible refine CW.skip ?_ | with_reducible refine CW.block ?_ | refine CW.reg ?_ | refine RL.step tysOk rfl rfl rfl rfl ?_)
        refine RL.idxM tysOk k rfl rfl rfl rfl rfl rfl rfl rfl rfl rfl rfl hltk ?_
        refine RL.loadP tysOk rfl rfl rfl rfl rfl rfl hbx (loadC_bool rfl (bools_get hv)) ?_
        cases v with
        | true =>
          rw [if_pos rfl] at hms
          rw [hms, List.length_append] at hmlen
          repeat (first | with_reducible refine andThen_normal ?_ | refine CW.reg ?_ | refine RL.nil ?_ | refine CW.condT rfl ?_ | refine RL.step tysOk rfl rfl rfl rfl ?_ | refine RL.idx tysOk _ rfl rfl rfl rfl rfl rfl rfl rfl rfl rfl rfl (by assumption) rfl ?_)
          refine RL.appendR tysOk rfl rfl rfl rfl rfl rfl rfl (by intro k; simp) rfl rfl rfl rfl (.inr rfl) rfl (strs_elem _) (n := (mineUpto P.classes up k).length) ?_ ?_ (strs_length _).symm rfl (OwnOk.sub' hok) ?_
          · simp only [strs_length]; show _ * 16 ≤ _; omega
          · simp only [strs_length]; omega
          rintro own' h1
          repeat (first | with_reducible refine andThen_normal ?_ | with_reducible refine inBlock_normal ?_ | refine CW.reg (RL.run tysOk rfl (RL.nil ?_)) | refine RL.nil ?_ | refine RL.step tysOk rfl rfl rfl rfl ?_)
          refine ⟨(k + 1, own'), ⟨hltk, OwnOk.sub' h1⟩, (by repeat (first | exact trivial | refine ⟨⟨_, rfl, AVle.refl _⟩, ?_⟩ | refine ⟨⟨_, rfl, AVle.of_eq (by (first | (show AV.int .i64 (IntKind.wrap .i64 ((k : Int) + 1)) = .int .i64 ((k + 1 : Nat) : Int); rw [i64_succ (by omega)]) | (simp only [hms]; simp [strs])))⟩, ?_⟩)), ?_, by show P.classes.length - (k + 1) < P.classes.length - k; omega⟩
          show Store.Sub (rowOf _ _ 1 (mineUpto P.classes up (k + 1)).length own') _
          rw [hms, List.length_append, strs_length, strs_length]
          exact Store.sub_refl _
        | false =>
          rw [if_neg (by simp), List.append_nil] at hms
          repeat (first | with_reducible refine andThen_normal ?_ | with_reducible refine inBlock_normal ?_ | with_reducible refine CW.skip ?_ | refine CW.reg (RL.run tysOk rfl (RL.nil ?_)) | refine RL.nil ?_ | refine CW.condF rfl ?_)
          refine ⟨(k + 1, ow), ⟨hltk, hok⟩, (by repeat (first | exact trivial | refine ⟨⟨_, rfl, AVle.refl _⟩, ?_⟩ | refine ⟨⟨_, rfl, AVle.of_eq (by (first | (show AV.int .i64 (IntKind.wrap .i64 ((k : Int) + 1)) = .int .i64 ((k + 1 : Nat) : Int); rw [i64_succ (by omega)]) | (simp only [hms])))⟩, ?_⟩)), ?_, by show P.classes.length - (k + 1) < P.classes.length - k; omega⟩
          show Store.Sub (rowOf _ _ 1 (mineUpto P.classes up (k + 1)).length ow) _
          rw [hms]; exact Store.sub_refl _
      · have hge : k = P.classes.length := by
          have : P.classes.length ≤ k := by simpa using h
          omega
        subst hge
        repeat (first | with_reducible refine andThen_exit ?_ | with_reducible refine inBlock_here ?_ | with_reducible refine CW.exit ?_)
        exact ⟨rfl, ⟨⟨_, rfl, AVle.refl _⟩, ⟨_, rfl, AVle.refl _⟩, ⟨_, rfl, AVle.fro⟩, ⟨_, rfl, AVle.refl _⟩, trivial⟩, (Store.sub_set _ _ _ hbn).trans (rowOf_sub hok)⟩
    have hmfin := mineUpto_len (cls := P.classes) (up := up) (k := P.classes.length) (Nat.le_refl _)
    rw [List.take_length] at hmfin
    generalize mineUpto P.classes up P.classes.length = mine at hI hmfin ⊢
    refine CW.seqCut [(1, .fptr P.cells 0), (3, .int .i64 (i : Int)), (5, .slc 1 (strs mine) .fro), (6, .slc 1 (strs []) .nil), (8, .slc 2 (c.inits.map FInit.av) .fro)] s ?_ ?_
    · repeat (first | refine CW.reg ?_ | refine RL.nil ?_ | refine RL.step tysOk rfl rfl rfl rfl ?_ | refine RL.idx tysOk _ rfl rfl rfl rfl rfl rfl rfl rfl rfl rfl rfl (by assumption) rfl ?_)
      exact ⟨rfl, (by repeat (first | exact trivial | refine ⟨⟨_, rfl, AVle.refl _⟩, ?_⟩)), Store.sub_refl _⟩
    have hil := hcf.ilen
    repeat (first | with_reducible refine CW.seq ?_ | with_reducible refine andThen_normal ?_ | with_reducible refine CW.block ?_ | refine CW.reg (RL.run tysOk rfl (RL.nil ?_)))
    refine CW.loop (σ := Nat × Own) (fun q => [(1, .fptr P.cells 0), (3, .int .i64 (i : Int)), (5, .slc 1 (strs mine) .fro), (6, .slc 1 (strs ((c.inits.take q.1).map FInit.slot)) q.2), (8, .slc 2 (c.inits.map FInit.av) .fro), (9, .int .i64 (q.1 : Int))])
      (fun q => rowOf s 9 1 q.1 q.2) (fun q => q.1 ≤ c.inits.length ∧ OwnOk s 0 q.2 ∧ initsOkR mine [] c.inits = initsOkR mine ((c.inits.take q.1).map FInit.slot) (c.inits.drop q.1)) (fun q => c.inits.length - q.1) (0, .nil) ⟨by simp, trivial, rfl⟩ (by repeat (first | exact trivial | refine ⟨⟨_, rfl, AVle.refl _⟩, ?_⟩)) (Store.sub_refl _) ?_
    rintro ⟨j, ow⟩ ⟨hj, hok, hJ⟩
    simp only at hj hok hJ
    have hln : ((c.inits.take j).map FInit.slot).length = j := by simp; omega
    repeat (first | with_reducible refine CW.seq ?_ | with_reducible refine andThen_normal ?_ | refine CW.reg (RL.run tysOk rfl (RL.nil ?_)))
    refine CW.cond rfl (fun h => ?_) (fun h => ?_)
    · have hltj : j < c.inits.length := by simpa using h
      obtain ⟨x, hxj⟩ : ∃ x, c.inits[j]? = some x := ⟨_, List.getElem?_eq_getElem hltj⟩
      have hxj' : (c.inits.map FInit.av)[j]? = some (.agg x.cells) := by rw [List.getElem?_map, hxj]; rfl
      rw [drop_cons hxj, initsOkR] at hJ
      have hnx : (c.inits.take j).map FInit.slot ++ [x.slot] = (c.inits.take (j + 1)).map FInit.slot := by rw [← take_snoc hxj]; simp
      rw [hnx] at hJ
      have k1 := fun s => refHas_spec mine .fro x.slot s (by omega)
      have k2 := fun s => refHas_spec ((c.inits.take j).map FInit.slot) ow x.slot s (by omega)
      have k3 := fun s => refIn_spec x.n s
      refine CW.skip (andThen_normal (CW.seq (CW.block ?_)))
      refine CW.seq ?_
      refine CW.seqCut [(1, .fptr P.cells 0), (3, .int .i64 (i : Int)), (5, .slc 1 (strs mine) .fro), (6, .slc 1 (strs ((c.inits.take j).map FInit.slot)) ow), (8, .slc 2 (c.inits.map FInit.av) .fro), (9, .int .i64 (j : Int)), (78, .bool (!((mine.contains x.slot && !((c.inits.take j).map FInit.slot).contains x.slot) && between x.n)))] (rowOf s 9 1 j ow) ?_ ?_
      · generalize mine.contains x.slot = m1 at k1
        generalize ((c.inits.take j).map FInit.slot).contains x.slot = m2 at k2
        generalize between x.n = m3 at k3
        repeat' (first | refine CW.reg ?_ | refine RL.nil ?_ | refine RL.step tysOk rfl rfl rfl rfl ?_ | refine RL.skip rfl rfl rfl ?_ | refine RL.gstepF tysOk rfl rfl rfl rfl rfl rfl rfl (fun _ => ?_) (fun _ => ?_) | refine RL.idx tysOk j rfl rfl rfl rfl rfl rfl rfl rfl rfl rfl rfl hxj' rfl ?_ | refine RL.callP rfl rfl rfl rfl rfl (k1 _) ?_ | refine RL.callP rfl rfl rfl rfl rfl (k2 _) ?_ | refine RL.callP rfl rfl rfl rfl rfl (k3 _) ?_)
        all_goals refine ⟨rfl, (by repeat (first | exact trivial | refine ⟨⟨_, rfl, AVle.refl _⟩, ?_⟩ | refine ⟨⟨_, rfl, AVle.of_eq (by (simp_all))⟩, ?_⟩)), Store.sub_refl _⟩
      cases hc1 : (mine.contains x.slot && !((c.inits.take j).map FInit.slot).contains x.slot) && between x.n with
      | false =>
        rw [hc1, Bool.false_and] at hJ
        rw [hI, hJ, Bool.false_and]
        repeat (first | with_reducible refine CW.seq ?_ | with_reducible refine andThen_normal ?_ | with_reducible refine andThen_ret ?_ | with_reducible refine inBlock_ret ?_ | with_reducible refine CW.ret ?_ | refine CW.reg (RL.run tysOk rfl (RL.nil ?_)) | refine CW.condT rfl ?_)
        exact ⟨_, _, s, rfl, AVle.refl _, rowOf_sub hok, rfl, rfl⟩
      | true =>
        rw [hc1, Bool.true_and] at hJ
        refine CW.condF rfl (CW.skip (andThen_normal ?_))
        repeat (first | refine CW.reg ?_ | refine RL.step tysOk rfl rfl rfl rfl ?_ | refine RL.idx tysOk _ rfl rfl rfl rfl rfl rfl rfl rfl rfl rfl rfl (by assumption) rfl ?_)
        refine RL.append1 tysOk rfl rfl rfl rfl rfl rfl rfl (by intro k; simp) rfl rfl rfl rfl rfl rfl rfl (n := j) (by rw [strs_length, hln]) (by show (j + 1) * 16 ≤ _; omega) (by omega) (s := s) rfl (OwnOk.sub' hok) (fun rb hrb => ?_)
        repeat (first | with_reducible refine andThen_normal ?_ | with_reducible refine inBlock_normal ?_ | refine CW.reg (RL.run tysOk rfl (RL.nil ?_)) | refine RL.nil ?_ | refine RL.step tysOk rfl rfl rfl rfl ?_)
        exact ⟨(j + 1, .own rb), ⟨hltj, hrb, hJ⟩, (by repeat (first | exact trivial | refine ⟨⟨_, rfl, AVle.refl _⟩, ?_⟩ | refine ⟨⟨_, rfl, AVle.of_eq (by (first | (show AV.int .i64 (IntKind.wrap .i64 ((j : Int) + 1)) = .int .i64 ((j + 1 : Nat) : Int); rw [i64_succ (by omega)]) | (simp only [← hnx]; simp [strs])))⟩, ?_⟩)), Store.sub_refl _, by show c.inits.length - (j + 1) < c.inits.length - j; omega⟩
    · have hge : c.inits.length ≤ j := by simpa using h
      rw [List.drop_eq_nil_of_le hge, initsOkR] at hJ
      rw [hJ, Bool.true_and] at hI
      repeat (first | with_reducible refine andThen_normal ?_ | with_reducible refine andThen_exit ?_ | with_reducible refine inBlock_normal ?_ | with_reducible refine inBlock_here ?_ | with_reducible refine CW.exit ?_ | refine CW.reg (RL.run tysOk rfl (RL.nil ?_)))
      exact ⟨i + 1, ⟨hlt, hI⟩, (by repeat (first | exact trivial | refine ⟨⟨_, rfl, AVle.refl _⟩, ?_⟩ | refine ⟨⟨_, rfl, AVle.of_eq (by (rw [i64_succ (by omega)]))⟩, ?_⟩)), rowOf_sub hok, by omega⟩
  · have hge : P.classes.length ≤ i := by rw [hml] at h; simpa using h
    rw [List.drop_eq_nil_of_le (by simpa using hge), List.all_nil] at hI
    rw [hI]
    repeat (first | with_reducible refine CW.seq ?_ | with_reducible refine andThen_normal ?_ | with_reducible refine andThen_exit ?_ | with_reducible refine inBlock_here ?_ | with_reducible refine CW.ret ?_ | with_reducible refine CW.exit ?_ | refine CW.reg (RL.run tysOk rfl (RL.nil ?_)))
    exact ⟨_, _, _, rfl, AVle.refl _, Store.sub_refl _, rfl, rfl⟩
end Go.Proofs.Ytaafacnoddjhgaa

/- Contracts of the reference: methods and programs that are formed. -/
namespace Go.Proofs.Ytaafacnoddjhgaa
open Go.AE

section
variable {P : Program} {Γ : Tys} {N : Nat} {env : Env} {s : Store}
/-- What is appended to a row of one's own, of which nothing is known behind it but what stands in it. -/
theorem OW.appendF (hΓ : TysOk P Γ) {o : Oper} {t t' e : TypeId} {x y : Operand} {it it' ie : TI} {sx sy n : Nat} {xs ys : List AV} {own oy : Own} (S : Store) {S' : Store}
    (ho : o.op = .call { callee := .builtin .append, args := #[x, y], argTypes := #[t, t'] }) (ht : Γ.get? t = some it) (htd : it.td = .slc e) (ht' : Γ.get? t' = some it') (htd' : ∀ k, it'.td ≠ .int k)
    (hie : Γ.get? e = some ie) (hx : ev env x = some (.slc sx xs own)) (hy : ev env y = some (.slc sy ys oy)) (hsx : sx = ie.size) (hsy : ys = [] ∨ sy = ie.size)
    (hzs' : Nat.beq ie.zero.cells.size ie.size = true) (hel : ∀ y ∈ ys, elemOk ie.size y = true) (hn : n = xs.length) (hb : (n + ys.length) * ie.bytes ≤ 140737488355328) (h63 : n + ys.length ≤ 9223372036854775807)
    (hs : s = rowOf S' e ie.size n own) (hok : OwnOk S' n own) (hsub : Store.Sub S S') {X : AV → Store → Prop} :
    OW P N o env s (fun r s' => r = .slc ie.size (xs ++ ys) .fro ∧ s' = S) X := by
  subst hs
  subst hn
  have h := OW.appendR (N := N) (own := own) (s := S') hΓ ho ht htd ht' htd' hie hx hy hsx hsy hzs' hel hb h63 rfl hok (X := X)
  refine ⟨h.1, fun ro B a w p hst => ?_⟩
  refine ResDoes.mono (h.2 ro B a w p hst) ?_
  rintro e' w' ⟨s', p', h1, h2, h3, h4⟩
  cases e' with
  | returned v =>
    obtain ⟨r, ⟨own', k1, -, -, rfl, rfl⟩, k3⟩ := h4
    have hs2 : Store.Sub S (rowOf S' e ie.size (xs.length + ys.length) own') := hsub.trans (rowOf_sub (m := xs.length + 1) k1)
    exact ⟨S, p', h1, h2.sub hs2, h3.sub hs2, _, ⟨rfl, rfl⟩, AVle.fro _ _ _ k3⟩
  | panicked ch =>
    obtain ⟨v, x, e1, hX, hr⟩ := h4
    exact ⟨s', p', h1, h2, h3, v, x, e1, hX, hr⟩
  | outgrown => exact h4.elim
end

theorem own_plus {s : Store} {n b : Nat} {own : Own} (h : OwnOk s n own) (hb : ∀ c, own = .own c → c ≠ b) (o : AObj) : OwnOk (s.set b o) n own := by
  cases own with
  | own c => exact (Store.set_ne _ _ (hb c rfl)).trans h
  | nil => trivial
  | clip => trivial
  | fro => exact h

def boxK0 : AObj := .box 168 [.slc 0 [] .nil, .slc 0 [] .nil, .slc 0 [] .nil]
def others3 : List Str := [anyS, intS, noneS]
def headR (m : FMethod) : Bool := ((((decide (m.kind ≥ 1) && decide (m.kind ≤ 4)) && nameS m.name) && decide ((m.params.length : Int) ≥ 1)) && decide ((m.params.length : Int) ≤ 3)) && (m.params.all nameS && decide m.params.Nodup)
def methodR (slots own : List Str) (k : Int) (m : FMethod) : Bool × Int :=
  if !headR m then (false, k)
  else if !((FFact.cnt m.params slots (own ++ others3) 1 k m.fact).1 && goodB m.body) then (false, (FFact.cnt m.params slots (own ++ others3) 1 k m.fact).2)
  else (decide ((FFact.cnt m.params slots (own ++ others3) 1 k m.fact).2 - m.body.size ≥ 0) && saysB m.body m.params slots own (m.kind == 1 || m.kind == 4), (FFact.cnt m.params slots (own ++ others3) 1 k m.fact).2 - m.body.size)
def methodsR (slots own : List Str) : Int → List FMethod → Bool
  | _, [] => true
  | k, m :: r => (methodR slots own k m).1 && methodsR slots own (methodR slots own k m).2 r

set_option maxRecDepth 10000 in
set_option maxHeartbeats 4000000 in
theorem refMethod_spec (lb : Nat) (m : FMethod) (slots own : List Str) (o2 o3 : Own) (k : Int) (s : Store) (hm : m.Fair) (hsl : slots.length < big) (hol : own.length < big) (hk0 : 0 ≤ k) (hk : k ≤ 120) (hs : s lb = some (leftO k)) :
    ACalls Try.prog 90 [m.av, .slc 1 (strs slots) o2, .slc 1 (strs own) o3, .ptr lb 0] s (fun o s' => o = .ret (.bool (methodR slots own k m).1) ∧ s' = s.set lb (leftO (methodR slots own k m).2)) := by
  have hb : big = 1099511627776 := rfl
  have hpl := hm.params.len
  have hbs := hm.body.size
  have hst : s.set lb (leftO k) = s := Store.set_eq _ _ _ hs
  refine ACalls.of_CW tysOk call90 Try.func90 rfl rfl ?_
  refine CW.seqCut [(1, .slc 1 (strs slots) o2), (2, .slc 1 (strs own) o3), (3, .ptr lb 0), (4, .fptr m.cells 0)] s ?_ ?_
  · repeat (first | refine CW.reg (RL.run tysOk rfl (RL.nil ?_)))
    exact ⟨rfl, (by repeat (first | exact trivial | refine ⟨⟨_, rfl, AVle.refl _⟩, ?_⟩)), Store.sub_refl _⟩
  refine CW.seq ?_
  refine CW.seqCut [(1, .slc 1 (strs slots) o2), (2, .slc 1 (strs own) o3), (3, .ptr lb 0), (4, .fptr m.cells 0), (41, .bool (!headR m))] s ?_ ?_
  · have k1 := fun s => refName_spec m.name s hm.name
    have k2 := fun s => refNames_spec m.params .fro s (by omega) (fun x hx => hm.params.sh x hx)
    have hh : headR m = (((((decide (m.kind ≥ 1) && decide (m.kind ≤ 4)) && nameS m.name) && decide ((m.params.length : Int) ≥ 1)) && decide ((m.params.length : Int) ≤ 3)) && (m.params.all nameS && decide m.params.Nodup)) := rfl
    rw [hh]
    generalize nameS m.name = n1 at k1
    generalize (m.params.all nameS && decide m.params.Nodup) = n2 at k2
    repeat' (first | refine CW.reg ?_ | refine RL.nil ?_ | refine RL.step tysOk rfl rfl rfl rfl ?_ | refine RL.skip rfl rfl rfl ?_ | refine RL.gstepF tysOk rfl rfl rfl rfl rfl rfl rfl (fun _ => ?_) (fun _ => ?_) | refine RL.callP rfl rfl rfl rfl rfl (k1 _) ?_ | refine RL.callP rfl rfl rfl rfl rfl (k2 _) ?_)
    all_goals refine ⟨rfl, (by repeat (first | exact trivial | refine ⟨⟨_, rfl, AVle.refl _⟩, ?_⟩ | refine ⟨⟨_, rfl, AVle.of_eq (by (first | (simp_all; done) | (simp_all; rw [Bool.eq_iff_iff]; simp; omega) | (simp_all; omega) | (simp_all; trace_state)))⟩, ?_⟩)), Store.sub_refl _⟩
  have hd : methodR slots own k m = if !headR m then (false, k)
      else if !((FFact.cnt m.params slots (own ++ others3) 1 k m.fact).1 && goodB m.body) then (false, (FFact.cnt m.params slots (own ++ others3) 1 k m.fact).2)
      else (decide ((FFact.cnt m.params slots (own ++ others3) 1 k m.fact).2 - m.body.size ≥ 0) && saysB m.body m.params slots own (m.kind == 1 || m.kind == 4), (FFact.cnt m.params slots (own ++ others3) 1 k m.fact).2 - m.body.size) := rfl
  cases hh : headR m with
  | false =>
    rw [hh, if_pos (by rfl)] at hd
    rw [hd, hst]
    repeat (first | with_reducible refine CW.seq ?_ | with_reducible refine andThen_normal ?_ | with_reducible refine andThen_ret ?_ | with_reducible refine CW.ret ?_ | refine CW.reg (RL.run tysOk rfl (RL.nil ?_)) | refine CW.condT rfl ?_)
    exact ⟨_, _, _, rfl, AVle.refl _, Store.sub_refl _, rfl, rfl⟩
  | true =>
  rw [hh, if_neg (by simp)] at hd
  refine CW.condF rfl (CW.skip (andThen_normal ?_))
  have a1 : (strs own).length = own.length := strs_length _
  refine CW.seqCutX (σ := Nat) (fun b => [(1, .slc 1 (strs slots) o2), (2, .slc 1 (strs own) o3), (3, .ptr lb 0), (4, .fptr m.cells 0), (9, .ptr b 0)]) (fun b => s.set b (.box 168 (knownCells m.params slots (own ++ others3) .fro o2 .fro))) (fun b => s b = none) ?_ ?_
  · have e3 : strs own ++ [.str anyS, .str intS, .str noneS] = strs (own ++ others3) := by simp [strs, others3]
    have a3 : ((strs own).length + [AV.str anyS, .str intS, .str noneS].length) * 16 ≤ 140737488355328 := by simp only [List.length_cons, List.length_nil]; omega
    have a5 : (strs own).length + [AV.str anyS, .str intS, .str noneS].length ≤ 9223372036854775807 := by simp only [List.length_cons, List.length_nil]; omega
    have a7 : (strs own).length * 16 ≤ 140737488355328 := by omega
    have a9 : (strs own).length ≤ 9223372036854775807 := by omega
    have hel3 : ∀ y ∈ [AV.str anyS, .str intS, .str noneS], elemOk 1 y = true := by intro y hy; simp at hy; rcases hy with rfl | rfl | rfl <;> rfl
    repeat (first | refine CW.drw tysOk mixed rfl (RD.run rfl ?_))
    refine RD.many rfl (RDAll.c (RDStep.mk (i := 4) rfl rfl rfl rfl (OW.appendN tysOk rfl rfl rfl rfl (by intro k h; cases h) rfl rfl rfl (.inr rfl) rfl (strs_elem _) a7 a9 (X := fun _ _ => False)) ?_ (fun _ _ h => False.elim h)) (RDAll.c (RDStep.mk (i := 8) rfl rfl rfl rfl (OW.alloc tysOk rfl rfl rfl rfl (X := fun _ _ => False)) ?_ (fun _ _ h => False.elim h)) RDAll.n))
    · rintro _ _ ⟨p1, hp1, rfl, rfl⟩
      refine RD.run rfl ?_
      refine RD.many rfl (RDAll.c (RDStep.mk (i := 6) rfl rfl rfl rfl (OW.appendF tysOk s rfl rfl rfl rfl (by intro k h; cases h) rfl rfl rfl rfl (.inr rfl) rfl hel3 rfl a3 a5 rfl hp1 (Store.sub_refl _) (X := fun _ _ => False)) ?_ (fun _ _ h => False.elim h)) (RDAll.c (RDStep.mk (i := 8) rfl rfl rfl rfl (OW.alloc tysOk rfl rfl rfl rfl (X := fun _ _ => False)) ?_ (fun _ _ h => False.elim h)) RDAll.n))
      · rintro _ _ ⟨rfl, hs2⟩
        rw [hs2]
        clear hs2
        refine RD.run rfl ?_
        refine RD.many rfl (RDAll.c (RDStep.mk (i := 8) rfl rfl rfl rfl (OW.alloc tysOk rfl rfl rfl rfl (X := fun _ _ => False)) ?_ (fun _ _ h => False.elim h)) RDAll.n)
        · rintro _ _ ⟨b9, hf9, rfl, hs2⟩
          rw [hs2]
          clear hs2
          skip
          refine RD.run rfl ?_
          refine RD.oneN (i := 9) rfl rfl rfl rfl (OW.storeP tysOk rfl rfl rfl rfl rfl rfl rfl (Store.set_same _ _ _) rfl (X := fun _ _ => False)) ?_ (fun _ _ h => False.elim h)
          rintro _ _ rfl
          refine RD.run rfl (RD.done rfl ?_)
          rw [Store.set_set]
          refine ⟨rfl, b9, hf9, (by repeat (first | exact trivial | refine ⟨⟨_, rfl, AVle.refl _⟩, ?_⟩)), ?_⟩
          rw [knownCells, ← e3]
          exact Store.sub_refl _
      · rintro _ _ ⟨b9, hf9, rfl, hs2⟩
        rw [hs2]
        clear hs2
        obtain ⟨hpn, hf9⟩ := rowOf_none hf9
        rw [rowOf_set hpn]
        have hp1 := own_plus hp1 hpn boxK0
        refine RD.run rfl ?_
        refine RD.many rfl (RDAll.c (RDStep.mk (i := 6) rfl rfl rfl rfl (OW.appendF tysOk (s.set b9 boxK0) rfl rfl rfl rfl (by intro k h; cases h) rfl rfl rfl rfl (.inr rfl) rfl hel3 rfl a3 a5 rfl hp1 (Store.sub_refl _) (X := fun _ _ => False)) ?_ (fun _ _ h => False.elim h)) RDAll.n)
        · rintro _ _ ⟨rfl, hs2⟩
          rw [hs2]
          clear hs2
          refine RD.run rfl ?_
          refine RD.oneN (i := 9) rfl rfl rfl rfl (OW.storeP tysOk rfl rfl rfl rfl rfl rfl rfl (Store.set_same _ _ _) rfl (X := fun _ _ => False)) ?_ (fun _ _ h => False.elim h)
          rintro _ _ rfl
          refine RD.run rfl (RD.done rfl ?_)
          rw [Store.set_set]
          refine ⟨rfl, b9, hf9, (by repeat (first | exact trivial | refine ⟨⟨_, rfl, AVle.refl _⟩, ?_⟩)), ?_⟩
          rw [knownCells, ← e3]
          exact Store.sub_refl _
    · rintro _ _ ⟨b9, hf9, rfl, hs2⟩
      rw [hs2]
      clear hs2
      skip
      refine RD.run rfl ?_
      refine RD.many rfl (RDAll.c (RDStep.mk (i := 4) rfl rfl rfl rfl (OW.appendN tysOk rfl rfl rfl rfl (by intro k h; cases h) rfl rfl rfl (.inr rfl) rfl (strs_elem _) a7 a9 (X := fun _ _ => False)) ?_ (fun _ _ h => False.elim h)) RDAll.n)
      · rintro _ _ ⟨p1, hp1, rfl, rfl⟩
        refine RD.run rfl ?_
        refine RD.many rfl (RDAll.c (RDStep.mk (i := 6) rfl rfl rfl rfl (OW.appendF tysOk (s.set b9 boxK0) rfl rfl rfl rfl (by intro k h; cases h) rfl rfl rfl rfl (.inr rfl) rfl hel3 rfl a3 a5 rfl hp1 (Store.sub_refl _) (X := fun _ _ => False)) ?_ (fun _ _ h => False.elim h)) RDAll.n)
        · rintro _ _ ⟨rfl, hs2⟩
          rw [hs2]
          clear hs2
          refine RD.run rfl ?_
          refine RD.oneN (i := 9) rfl rfl rfl rfl (OW.storeP tysOk rfl rfl rfl rfl rfl rfl rfl (Store.set_same _ _ _) rfl (X := fun _ _ => False)) ?_ (fun _ _ h => False.elim h)
          rintro _ _ rfl
          refine RD.run rfl (RD.done rfl ?_)
          rw [Store.set_set]
          refine ⟨rfl, b9, hf9, (by repeat (first | exact trivial | refine ⟨⟨_, rfl, AVle.refl _⟩, ?_⟩)), ?_⟩
          rw [knownCells, ← e3]
          exact Store.sub_refl _
  intro b9 hb9
  have hne : lb ≠ b9 := fun e => by subst e; rw [hs] at hb9; cases hb9
  refine CW.freeze 9 b9 rfl (Store.set_same _ _ _) ?_
  rw [Store.del_set _ _ _ hb9]
  have hle := FFact.cnt_le m.params slots (own ++ others3) m.fact 1 k
  have hcall := refKFact_spec lb m.params slots (own ++ others3) .fro o2 .fro (by omega) (by omega) (by rw [List.length_append]; simp [others3]; omega) m.fact.size m.fact 1 1 k s (Nat.le_refl _) (Nat.le_of_lt hm.fact.size) hm.fact.texts hk0 hk (by omega) hs
  generalize FFact.cnt m.params slots (own ++ others3) 1 k m.fact = fc at hle hcall hd
  obtain ⟨f1, k1⟩ := fc
  simp only at hle hd
  have hF := fun s => refFormed_spec m.body s hm.body
  repeat (first | with_reducible refine CW.seq ?_ | refine CW.reg ?_ | refine RL.step tysOk rfl rfl rfl rfl ?_)
  refine RL.call rfl rfl rfl rfl rfl hcall ?_ (fun _ _ ⟨h, _⟩ => by cases h)
  rintro _ _ ⟨⟨⟩, rfl⟩
  cases f1 with
  | false =>
    rw [Bool.false_and, if_pos (by rfl)] at hd
    rw [hd]
    repeat (first | with_reducible refine CW.seq ?_ | with_reducible refine andThen_normal ?_ | with_reducible refine andThen_ret ?_ | with_reducible refine CW.ret ?_ | refine CW.reg (RL.run tysOk rfl (RL.nil ?_)) | refine RL.nil ?_ | refine CW.condT rfl ?_ | refine RL.step tysOk rfl rfl rfl rfl ?_ | refine RL.skip rfl rfl rfl ?_)
    exact ⟨_, _, _, rfl, AVle.refl _, Store.sub_refl _, rfl, rfl⟩
  | true =>
  obtain ⟨h1, h2⟩ := hle rfl
  rw [Bool.true_and] at hd
  repeat (first | refine RL.step tysOk rfl rfl rfl rfl ?_)
  refine RL.callP rfl rfl rfl rfl rfl (hF _) ?_
  cases hg : goodB m.body with
  | false =>
    rw [hg, if_pos (by rfl)] at hd
    rw [hd]
    repeat (first | with_reducible refine CW.seq ?_ | with_reducible refine andThen_normal ?_ | with_reducible refine andThen_ret ?_ | with_reducible refine CW.ret ?_ | refine CW.reg (RL.run tysOk rfl (RL.nil ?_)) | refine RL.nil ?_ | refine CW.condT rfl ?_ | refine RL.step tysOk rfl rfl rfl rfl ?_)
    exact ⟨_, _, _, rfl, AVle.refl _, Store.sub_refl _, rfl, rfl⟩
  | true =>
  rw [hg, if_neg (by simp)] at hd
  have hbz := goodB_size hg
  have hal := allE_length m.body
  repeat (first | with_reducible refine CW.seq ?_ | with_reducible refine andThen_normal ?_ | with_reducible refine CW.skip ?_ | refine RL.nil ?_ | refine CW.condF rfl ?_ | refine RL.step tysOk rfl rfl rfl rfl ?_ | refine CW.drw tysOk mixed rfl (RD.run rfl ?_))
  refine RD.calmP (i := 6) rfl rfl rfl rfl rfl rfl rfl (fun s => refAll_spec _ m.body s (Nat.le_refl _) (Nat.le_of_lt hbs)) ?_
  refine RD.run rfl ?_
  refine RD.one (i := 3) rfl rfl rfl rfl rfl (OW.loadP tysOk rfl rfl rfl (Store.set_same _ _ _) rfl (X := fun _ _ => False)) ?_ (fun _ _ h => False.elim h)
  rintro _ s2 ⟨rfl, hs2⟩
  rw [hs2]
  clear hs2 s2
  refine RD.run rfl ?_
  refine RD.oneN (i := 10) rfl rfl rfl rfl (OW.storeP tysOk rfl rfl rfl rfl rfl rfl rfl (Store.set_same _ _ _) rfl (X := fun _ _ => False)) ?_ (fun _ _ h => False.elim h)
  rintro _ _ rfl
  refine RD.run rfl (RD.done rfl ?_)
  rw [Store.set_set, List.length_map, hal]
  have hkw : IntKind.wrap .i64 (k1 - (m.body.size : Int)) = k1 - (m.body.size : Int) := i64_wrap (by omega) (by omega)
  have hs2 : Store.set s lb (.box 3 (setL (0 + 0) [.int .i64 (IntKind.wrap .i64 (k1 - (m.body.size : Int)))] [.int .i64 k1])) = s.set lb (leftO (k1 - (m.body.size : Int))) := by
    rw [hkw]; rfl
  rw [hd]
  have hS := fun s => refSays_spec m.body m.params slots own .fro o2 o3 (m.kind == 1 || m.kind == 4) s hbs (by omega) (by omega) (by omega)
  refine andThen_normal ?_
  refine CW.drop (s.set lb (leftO (k1 - (m.body.size : Int)))) (by rw [← hs2]; exact Store.sub_refl _) ?_
  clear hs2 hkw hcall hd
  generalize k1 - (m.body.size : Int) = k2
  simp only
  cases hk2 : decide (k2 ≥ 0) with
  | false =>
    repeat (first | with_reducible refine CW.seq ?_ | refine CW.reg ?_ | refine RL.step tysOk rfl rfl rfl rfl ?_ | refine RL.loadP tysOk rfl rfl rfl rfl rfl rfl (Store.set_same _ _ _) rfl ?_)
    refine RL.knowF 76 rfl hk2 ?_
    repeat (first | with_reducible refine andThen_normal ?_ | with_reducible refine CW.ret ?_ | refine RL.nil ?_ | refine RL.step tysOk rfl rfl rfl rfl ?_ | refine RL.skip rfl rfl rfl ?_)
    exact ⟨_, _, _, rfl, AVle.refl _, Store.sub_refl _, rfl, rfl⟩
  | true =>
    cases q1 : m.kind == 1 with
    | true =>
      rw [q1] at hS
      repeat (first | with_reducible refine CW.seq ?_ | refine CW.reg ?_ | refine RL.step tysOk rfl rfl rfl rfl ?_ | refine RL.loadP tysOk rfl rfl rfl rfl rfl rfl (Store.set_same _ _ _) rfl ?_)
      refine RL.knowT 76 rfl hk2 ?_
      repeat (first | refine RL.step tysOk rfl rfl rfl rfl ?_)
      refine RL.knowT 86 rfl q1 ?_
      repeat (first | refine RL.step tysOk rfl rfl rfl rfl ?_ | refine RL.skip rfl rfl rfl ?_)
      refine RL.callP rfl rfl rfl rfl rfl (hS _) ?_
      repeat (first | with_reducible refine andThen_normal ?_ | with_reducible refine CW.ret ?_ | refine RL.nil ?_ | refine RL.step tysOk rfl rfl rfl rfl ?_)
      exact ⟨_, _, _, rfl, AVle.refl _, Store.sub_refl _, rfl, rfl⟩
    | false =>
      rw [q1] at hS
      repeat (first | with_reducible refine CW.seq ?_ | refine CW.reg ?_ | refine RL.step tysOk rfl rfl rfl rfl ?_ | refine RL.loadP tysOk rfl rfl rfl rfl rfl rfl (Store.set_same _ _ _) rfl ?_)
      refine RL.knowT 76 rfl hk2 ?_
      repeat (first | refine RL.step tysOk rfl rfl rfl rfl ?_)
      refine RL.knowF 86 rfl q1 ?_
      repeat (first | refine RL.step tysOk rfl rfl rfl rfl ?_)
      refine RL.callP rfl rfl rfl rfl rfl (hS _) ?_
      repeat (first | with_reducible refine andThen_normal ?_ | with_reducible refine CW.ret ?_ | refine RL.nil ?_ | refine RL.step tysOk rfl rfl rfl rfl ?_)
      exact ⟨_, _, _, rfl, AVle.refl _, Store.sub_refl _, rfl, rfl⟩
end Go.Proofs.Ytaafacnoddjhgaa

/- Contracts of the reference: Prog, Check, Nodes, Gens, Slots, Above. -/
namespace Go.Proofs.Ytaafacnoddjhgaa
open Go.AE

theorem allPreN_known : ∀ {l : List FClass} {pre : List Str}, allPreN pre l = true → ∀ c ∈ l, ∀ p ∈ c.parents, p ∈ pre ++ l.map FClass.name
  | [], _, _, c, hc => by cases hc
  | d :: r, pre, h, c, hc => by
    rw [allPreN, Bool.and_eq_true] at h
    intro p hp
    rcases List.mem_cons.1 hc with rfl | hc
    · have h1 := h.1
      simp only [clsOkR, Bool.and_eq_true, List.all_eq_true] at h1
      exact List.mem_append_left _ (List.contains_iff_mem.1 (h1.2 p hp))
    · have := allPreN_known h.2 c hc p hp
      rw [List.append_assoc] at this
      exact this
theorem known_of {cls : List FClass} (h : classesR cls = true) : Known cls := by
  simp only [classesR, Bool.and_eq_true] at h
  intro c hc p hp
  have := allPreN_known h.2.1 c hc p hp
  rw [List.nil_append] at this
  obtain ⟨d, hd, rfl⟩ := List.mem_map.1 this
  rw [List.findIdx?_isSome, List.any_eq_true]
  exact ⟨d, hd, by simp⟩

def namesOf (P : FProg) : List Str := P.classes.map FClass.name
def slotsOfP (P : FProg) : List Str := P.classes.flatMap FClass.slots
def left0 (P : FProg) : Int := 120 - (P.classes.length : Int) - (P.main.size : Int)
def progR (P : FProg) : Bool :=
  decide (P.methods.length ≤ 16) && (classesR P.classes && (initsR P.classes && (goodB P.main && (decide (left0 P ≥ 0) && (saysB P.main [] (slotsOfP P) (namesOf P) false && (methodsR (slotsOfP P) (namesOf P) (left0 P) P.methods && ((progGens P).2 && decide ((progGens P).1.length ≤ 8))))))))

theorem methodR_le {slots own : List Str} {k : Int} {m : FMethod} (h : (methodR slots own k m).1 = true) : 0 ≤ (methodR slots own k m).2 ∧ (methodR slots own k m).2 ≤ k := by
  unfold methodR at h ⊢
  split at h
  · cases h
  · rename_i h1
    rw [if_neg h1]
    split at h
    · cases h
    · rename_i h2
      rw [if_neg h2]
      simp only [Bool.and_eq_true, decide_eq_true_eq] at h ⊢
      simp only [Bool.not_eq_true', Bool.not_eq_false, Bool.and_eq_true] at h2
      have := FFact.cnt_le m.params slots (own ++ others3) m.fact 1 k h2.1
      omega

set_option maxRecDepth 10000 in
set_option maxHeartbeats 4000000 in
theorem refProg_spec (P : FProg) (s : Store) (hP : P.Fair) : ACalls Try.prog 51 [P.av] s (fun o s' => o = .ret (.bool (progR P)) ∧ s' = s) := by
  have hb : big = 1099511627776 := rfl
  have hl := hP.clen
  have hsl := hP.slen
  have hmm := hP.mlen
  have hml : (P.classes.map FClass.av).length = P.classes.length := List.length_map ..
  have hmm2 : (P.methods.map FMethod.av).length = P.methods.length := List.length_map ..
  have hms := hP.main.size
  have hal := allE_length P.main
  have hpr : progR P = (decide (P.methods.length ≤ 16) && (classesR P.classes && (initsR P.classes && (goodB P.main && (decide (left0 P ≥ 0) && (saysB P.main [] (slotsOfP P) (namesOf P) false && (methodsR (slotsOfP P) (namesOf P) (left0 P) P.methods && ((progGens P).2 && decide ((progGens P).1.length ≤ 8)))))))) ) := rfl
  refine ACalls.of_CW tysOk call51 Try.func51 rfl rfl ?_
  refine CW.seqCut [(1, .fptr P.cells 0)] s ?_ ?_
  · repeat (first | refine CW.reg (RL.run tysOk rfl (RL.nil ?_)))
    exact ⟨rfl, (by repeat (first | exact trivial | refine ⟨⟨_, rfl, AVle.refl _⟩, ?_⟩)), Store.sub_refl _⟩
  by_cases h16 : P.methods.length ≤ 16
  case neg =>
    have : progR P = false := by rw [hpr, decide_eq_false h16]; rfl
    rw [this]
    repeat (first | with_reducible refine CW.seq ?_ | refine CW.reg ?_ | refine RL.step tysOk rfl rfl rfl rfl ?_)
    refine RL.knowT 15 rfl (by rw [hmm2]; simp; omega) ?_
    repeat (first | with_reducible refine CW.seq ?_ | with_reducible refine andThen_normal ?_ | with_reducible refine andThen_ret ?_ | with_reducible refine CW.ret ?_ | refine CW.reg (RL.run tysOk rfl (RL.nil ?_)) | refine RL.nil ?_ | refine CW.condT rfl ?_ | refine RL.step tysOk rfl rfl rfl rfl ?_ | refine RL.skip rfl rfl rfl ?_)
    exact ⟨_, _, _, rfl, AVle.refl _, Store.sub_refl _, rfl, rfl⟩
  rw [decide_eq_true h16, Bool.true_and] at hpr
  have k1 := fun s => refClasses_spec P s hP
  cases hc : classesR P.classes with
  | false =>
    rw [hc] at k1 hpr
    rw [hpr]
    repeat (first | with_reducible refine CW.seq ?_ | refine CW.reg ?_ | refine RL.step tysOk rfl rfl rfl rfl ?_)
    refine RL.knowF 15 rfl (by rw [hmm2]; simp; omega) ?_
    repeat (first | refine RL.step tysOk rfl rfl rfl rfl ?_)
    refine RL.callP rfl rfl rfl rfl rfl (k1 _) ?_
    repeat (first | with_reducible refine CW.seq ?_ | with_reducible refine andThen_normal ?_ | with_reducible refine andThen_ret ?_ | with_reducible refine CW.ret ?_ | refine CW.reg (RL.run tysOk rfl (RL.nil ?_)) | refine RL.nil ?_ | refine CW.condT rfl ?_ | refine RL.step tysOk rfl rfl rfl rfl ?_ | refine RL.skip rfl rfl rfl ?_)
    exact ⟨_, _, _, rfl, AVle.refl _, Store.sub_refl _, rfl, rfl⟩
  | true =>
  have k2 := fun s => refInits_spec P s hP (known_of hc)
  rw [hc, Bool.true_and] at hpr
  rw [hc] at k1
  cases hi : initsR P.classes with
  | false =>
    rw [hi] at k2 hpr
    rw [hpr]
    repeat (first | with_reducible refine CW.seq ?_ | refine CW.reg ?_ | refine RL.step tysOk rfl rfl rfl rfl ?_)
    refine RL.knowF 15 rfl (by rw [hmm2]; simp; omega) ?_
    repeat (first | refine RL.step tysOk rfl rfl rfl rfl ?_)
    refine RL.callP rfl rfl rfl rfl rfl (k1 _) ?_
    repeat (first | refine RL.step tysOk rfl rfl rfl rfl ?_)
    refine RL.callP rfl rfl rfl rfl rfl (k2 _) ?_
    repeat (first | with_reducible refine CW.seq ?_ | with_reducible refine andThen_normal ?_ | with_reducible refine andThen_ret ?_ | with_reducible refine CW.ret ?_ | refine CW.reg (RL.run tysOk rfl (RL.nil ?_)) | refine RL.nil ?_ | refine CW.condT rfl ?_ | refine RL.step tysOk rfl rfl rfl rfl ?_ | refine RL.skip rfl rfl rfl ?_)
    exact ⟨_, _, _, rfl, AVle.refl _, Store.sub_refl _, rfl, rfl⟩
  | true =>
  rw [hi, Bool.true_and] at hpr
  rw [hi] at k2
  have k3 := fun s => refFormed_spec P.main s hP.main
  cases hg : goodB P.main with
  | false =>
    rw [hg] at k3 hpr
    rw [hpr]
    repeat (first | with_reducible refine CW.seq ?_ | refine CW.reg ?_ | refine RL.step tysOk rfl rfl rfl rfl ?_)
    refine RL.knowF 15 rfl (by rw [hmm2]; simp; omega) ?_
    repeat (first | refine RL.step tysOk rfl rfl rfl rfl ?_)
    refine RL.callP rfl rfl rfl rfl rfl (k1 _) ?_
    repeat (first | refine RL.step tysOk rfl rfl rfl rfl ?_)
    refine RL.callP rfl rfl rfl rfl rfl (k2 _) ?_
    repeat (first | refine RL.step tysOk rfl rfl rfl rfl ?_)
    refine RL.callP rfl rfl rfl rfl rfl (k3 _) ?_
    repeat (first | with_reducible refine CW.seq ?_ | with_reducible refine andThen_normal ?_ | with_reducible refine andThen_ret ?_ | with_reducible refine CW.ret ?_ | refine CW.reg (RL.run tysOk rfl (RL.nil ?_)) | refine RL.nil ?_ | refine CW.condT rfl ?_ | refine RL.step tysOk rfl rfl rfl rfl ?_)
    exact ⟨_, _, _, rfl, AVle.refl _, Store.sub_refl _, rfl, rfl⟩
  | true =>
  rw [hg, Bool.true_and] at hpr
  rw [hg] at k3
  have hgs := goodB_size hg
  have h10 : P.classes.length ≤ 10 := by
    simp only [classesR, Bool.and_eq_true, decide_eq_true_eq] at hc
    exact hc.1
  have hl0 : left0 P = 120 - (P.classes.length : Int) - (P.main.size : Int) := rfl
  repeat (first | with_reducible refine CW.seq ?_ | refine CW.reg ?_ | refine RL.step tysOk rfl rfl rfl rfl ?_)
  refine RL.knowF 15 rfl (by rw [hmm2]; simp; omega) ?_
  repeat (first | refine RL.step tysOk rfl rfl rfl rfl ?_)
  refine RL.callP rfl rfl rfl rfl rfl (k1 _) ?_
  repeat (first | refine RL.step tysOk rfl rfl rfl rfl ?_)
  refine RL.callP rfl rfl rfl rfl rfl (k2 _) ?_
  repeat (first | refine RL.step tysOk rfl rfl rfl rfl ?_)
  refine RL.callP rfl rfl rfl rfl rfl (k3 _) ?_
  repeat (first | with_reducible refine CW.seq ?_ | with_reducible refine andThen_normal ?_ | with_reducible refine CW.skip ?_ | refine RL.nil ?_ | refine CW.condF rfl ?_ | refine RL.step tysOk rfl rfl rfl rfl ?_)
  refine CW.drw tysOk mixed rfl (RD.run rfl ?_)
  refine RD.calmP (i := 6) rfl rfl rfl rfl rfl rfl rfl (fun s => refAll_spec _ P.main s (Nat.le_refl _) (Nat.le_of_lt hms)) ?_
  refine RD.run rfl ?_
  refine RD.one (i := 9) rfl rfl rfl rfl rfl (OW.alloc tysOk rfl rfl rfl rfl (X := fun _ _ => False)) ?_ (fun _ _ h => False.elim h)
  rintro _ _ ⟨lb, hlb, rfl, rfl⟩
  refine RD.run rfl ?_
  refine RD.oneN (i := 10) rfl rfl rfl rfl (OW.storeP tysOk rfl rfl rfl rfl rfl rfl rfl (Store.set_same _ _ _) rfl (X := fun _ _ => False)) ?_ (fun _ _ h => False.elim h)
  rintro _ _ rfl
  refine RD.run rfl (RD.done rfl (andThen_normal ?_))
  rw [Store.set_set]
  have hkw : IntKind.wrap .i64 (IntKind.wrap .i64 (120 - ((P.classes.map FClass.av).length : Int)) - ((P.main.allE.map FExp.av).length : Int)) = left0 P := by
    rw [List.length_map, List.length_map, hal, i64_wrap (n := 120 - _) (by omega) (by omega), i64_wrap (by omega) (by omega)]; rfl
  refine CW.sub [(1, .fptr P.cells 0), (3, .ptr lb 0)] (by repeat (first | exact trivial | refine ⟨⟨_, rfl, AVle.refl _⟩, ?_⟩)) ?_
  refine CW.drop (s.set lb (leftO (left0 P))) (by rw [← hkw]; exact Store.sub_refl _) ?_
  have hk120 : left0 P ≤ 120 := by omega
  have hk40 : -1000 ≤ left0 P := by omega
  generalize left0 P = k0 at hpr hk120 hk40 ⊢
  clear hkw hl0
  refine CW.seqCut [(1, .fptr P.cells 0), (3, .ptr lb 0), (4, .slc 1 (strs (slotsOfP P)) .fro)] (s.set lb (leftO k0)) ?_ ?_
  · repeat (first | refine CW.reg ?_ | refine RL.step tysOk rfl rfl rfl rfl ?_)
    refine RL.callP rfl rfl rfl rfl rfl (refSlotsOf_spec P _ hl hsl) ?_
    repeat (first | refine RL.nil ?_ | refine RL.step tysOk rfl rfl rfl rfl ?_)
    exact ⟨rfl, (by repeat (first | exact trivial | refine ⟨⟨_, rfl, AVle.refl _⟩, ?_⟩)), Store.sub_refl _⟩
  have hso : (slotsOfP P).length < big := hsl
  have hno : (namesOf P).length = P.classes.length := by simp [namesOf]
  generalize slotsOfP P = slots at hpr hso ⊢
  refine CW.seqCut [(1, .fptr P.cells 0), (3, .ptr lb 0), (4, .slc 1 (strs slots) .fro), (5, .slc 1 (strs []) .nil)] (s.set lb (leftO k0)) ?_ ?_
  · repeat (first | refine CW.reg (RL.run tysOk rfl (RL.nil ?_)))
    exact ⟨rfl, ⟨⟨_, rfl, AVle.refl _⟩, ⟨_, rfl, AVle.refl _⟩, ⟨_, rfl, AVle.refl _⟩, ⟨_, rfl, AVle.nil (by simp)⟩, trivial⟩, Store.sub_refl _⟩
  refine CW.seqCut [(1, .fptr P.cells 0), (3, .ptr lb 0), (4, .slc 1 (strs slots) .fro), (5, .slc 1 (strs (namesOf P)) .fro)] (s.set lb (leftO k0)) ?_ ?_
  · repeat (first | with_reducible refine CW.seq ?_ | with_reducible refine andThen_normal ?_ | with_reducible refine CW.block ?_ | refine CW.reg (RL.run tysOk rfl (RL.nil ?_)))
    refine CW.loop (σ := Nat × Own) (fun q => [(1, .fptr P.cells 0), (3, .ptr lb 0), (4, .slc 1 (strs slots) .fro), (5, .slc 1 (strs ((P.classes.take q.1).map FClass.name)) q.2), (6, .int .i64 (q.1 : Int))])
      (fun q => rowOf (s.set lb (leftO k0)) 9 1 q.1 q.2) (fun q => q.1 ≤ P.classes.length ∧ OwnOk (s.set lb (leftO k0)) 0 q.2) (fun q => P.classes.length - q.1) (0, .nil) ⟨by simp, trivial⟩ (by repeat (first | exact trivial | refine ⟨⟨_, rfl, AVle.refl _⟩, ?_⟩)) (Store.sub_refl _) ?_
    rintro ⟨i, own⟩ ⟨hi', hown⟩
    simp only at hi' hown
    have hln : ((P.classes.take i).map FClass.name).length = i := by simp; omega
    repeat (first | with_reducible refine CW.seq ?_ | with_reducible refine andThen_normal ?_ | refine CW.reg (RL.run tysOk rfl (RL.nil ?_)))
    refine CW.cond rfl (fun h => ?_) (fun h => ?_)
    · have hlt : i < P.classes.length := by rw [hml] at h; simpa using h
      obtain ⟨c, hci⟩ : ∃ c, P.classes[i]? = some c := ⟨_, List.getElem?_eq_getElem hlt⟩
      have hci' : (P.classes.map FClass.av)[i]? = some (.agg c.cells) := by rw [List.getElem?_map, hci]; rfl
      have hnx : (P.classes.take i).map FClass.name ++ [c.name] = (P.classes.take (i + 1)).map FClass.name := by rw [← take_snoc hci]; simp
      repeat (first | with_reducible refine CW.seq ?_ | with_reducible refine andThen_normal ?_ | with_reducible refine CW.skip ?_ | with_reducible refine CW.block ?_ | refine CW.reg ?_ | refine RL.step tysOk rfl rfl rfl rfl ?_ | refine RL.idx tysOk _ rfl rfl rfl rfl rfl rfl rfl rfl rfl rfl rfl (by assumption) rfl ?_)
      refine RL.append1 tysOk rfl rfl rfl rfl rfl rfl rfl (by intro k; simp) rfl rfl rfl rfl rfl rfl rfl (n := i) (by rw [strs_length, hln]) (by show (i + 1) * 16 ≤ _; omega) (by omega) (s := s.set lb (leftO k0)) rfl (OwnOk.sub' hown) (fun rb hrb => ?_)
      repeat (first | with_reducible refine andThen_normal ?_ | with_reducible refine inBlock_normal ?_ | refine CW.reg (RL.run tysOk rfl (RL.nil ?_)) | refine RL.nil ?_ | refine RL.step tysOk rfl rfl rfl rfl ?_)
      exact ⟨(i + 1, .own rb), ⟨hlt, hrb⟩, (by repeat (first | exact trivial | refine ⟨⟨_, rfl, AVle.refl _⟩, ?_⟩ | refine ⟨⟨_, rfl, AVle.of_eq (by (first | (show AV.int .i64 (IntKind.wrap .i64 ((i : Int) + 1)) = .int .i64 ((i + 1 : Nat) : Int); rw [i64_succ (by omega)]) | (simp only [← hnx]; simp [strs])))⟩, ?_⟩)), Store.sub_refl _, by show P.classes.length - (i + 1) < P.classes.length - i; omega⟩
    · have hge : P.classes.length ≤ i := by rw [hml] at h; simpa using h
      rw [List.take_of_length_le hge]
      repeat (first | with_reducible refine andThen_exit ?_ | with_reducible refine inBlock_here ?_ | with_reducible refine CW.exit ?_)
      exact ⟨rfl, ⟨⟨_, rfl, AVle.refl _⟩, ⟨_, rfl, AVle.refl _⟩, ⟨_, rfl, AVle.refl _⟩, ⟨_, rfl, AVle.fro⟩, trivial⟩, rowOf_sub hown⟩
  generalize namesOf P = own at hpr hno ⊢
  cases hk0 : decide (k0 ≥ 0) with
  | false =>
    rw [hk0] at hpr
    rw [hpr]
    have hk0' : decide (k0 < 0) = true := by simp at hk0 ⊢; omega
    repeat (first | with_reducible refine CW.seq ?_ | refine CW.reg ?_ | refine RL.step tysOk rfl rfl rfl rfl ?_ | refine RL.loadP tysOk rfl rfl rfl rfl rfl rfl (Store.set_same _ _ _) rfl ?_)
    refine RL.knowT 60 rfl hk0' ?_
    repeat (first | with_reducible refine CW.seq ?_ | with_reducible refine andThen_normal ?_ | with_reducible refine andThen_ret ?_ | with_reducible refine CW.ret ?_ | refine CW.reg (RL.run tysOk rfl (RL.nil ?_)) | refine RL.nil ?_ | refine CW.condT rfl ?_ | refine RL.step tysOk rfl rfl rfl rfl ?_ | refine RL.skip rfl rfl rfl ?_)
    exact ⟨_, _, s, rfl, AVle.refl _, Store.sub_set _ _ _ hlb, rfl, rfl⟩
  | true =>
  rw [hk0, Bool.true_and] at hpr
  have hk0' : decide (k0 < 0) = false := by simp at hk0 ⊢; omega
  have k4 := fun s => ACalls.weakArgs (.cons (AVle.refl _) (.cons (AVle.nil (sz := 0) (sz' := 1) (own := .nil) (by simp)) (.cons (AVle.refl _) (.cons (AVle.refl _) (.one (AVle.refl _)))))) (refSays_spec P.main [] slots own .nil .fro .fro false s hms (by simp) (by omega) (by omega))
  cases hsy : saysB P.main [] slots own false with
  | false =>
    rw [hsy] at k4 hpr
    rw [hpr]
    repeat (first | with_reducible refine CW.seq ?_ | refine CW.reg ?_ | refine RL.step tysOk rfl rfl rfl rfl ?_ | refine RL.loadP tysOk rfl rfl rfl rfl rfl rfl (Store.set_same _ _ _) rfl ?_)
    refine RL.knowF 60 rfl hk0' ?_
    repeat (first | refine RL.step tysOk rfl rfl rfl rfl ?_)
    refine RL.callP rfl rfl rfl rfl rfl (k4 _) ?_
    repeat (first | with_reducible refine CW.seq ?_ | with_reducible refine andThen_normal ?_ | with_reducible refine andThen_ret ?_ | with_reducible refine CW.ret ?_ | refine CW.reg (RL.run tysOk rfl (RL.nil ?_)) | refine RL.nil ?_ | refine CW.condT rfl ?_ | refine RL.step tysOk rfl rfl rfl rfl ?_)
    exact ⟨_, _, s, rfl, AVle.refl _, Store.sub_set _ _ _ hlb, rfl, rfl⟩
  | true =>
  rw [hsy] at k4
  rw [hsy, Bool.true_and] at hpr
  have hk00 : 0 ≤ k0 := by simpa using hk0
  repeat (first | with_reducible refine CW.seq ?_ | refine CW.reg ?_ | refine RL.step tysOk rfl rfl rfl rfl ?_ | refine RL.loadP tysOk rfl rfl rfl rfl rfl rfl (Store.set_same _ _ _) rfl ?_)
  refine RL.knowF 60 rfl hk0' ?_
  repeat (first | refine RL.step tysOk rfl rfl rfl rfl ?_)
  refine RL.callP rfl rfl rfl rfl rfl (k4 _) ?_
  repeat (first | with_reducible refine CW.seq ?_ | with_reducible refine andThen_normal ?_ | with_reducible refine CW.skip ?_ | with_reducible refine CW.block ?_ | refine CW.reg (RL.run tysOk rfl (RL.nil ?_)) | refine RL.nil ?_ | refine CW.condF rfl ?_ | refine RL.step tysOk rfl rfl rfl rfl ?_)
  refine CW.loop (σ := Nat × Int) (fun q => [(1, .fptr P.cells 0), (3, .ptr lb 0), (4, .slc 1 (strs slots) .fro), (5, .slc 1 (strs own) .fro), (7, .int .i64 (q.1 : Int))]) (fun q => s.set lb (leftO q.2))
    (fun q => q.1 ≤ P.methods.length ∧ 0 ≤ q.2 ∧ q.2 ≤ 120 ∧ methodsR slots own k0 P.methods = methodsR slots own q.2 (P.methods.drop q.1)) (fun q => P.methods.length - q.1) (0, k0) ⟨by simp, hk00, hk120, rfl⟩ (by repeat (first | exact trivial | refine ⟨⟨_, rfl, AVle.refl _⟩, ?_⟩)) (Store.sub_refl _) ?_
  rintro ⟨j, k⟩ ⟨hj, hq0, hq1, hI⟩
  simp only at hj hq0 hq1 hI
  repeat (first | with_reducible refine CW.seq ?_ | with_reducible refine andThen_normal ?_ | refine CW.reg (RL.run tysOk rfl (RL.nil ?_)))
  refine CW.cond rfl (fun h => ?_) (fun h => ?_)
  · have hlt : j < P.methods.length := by rw [hmm2] at h; simpa using h
    obtain ⟨m, hm⟩ : ∃ m, P.methods[j]? = some m := ⟨_, List.getElem?_eq_getElem hlt⟩
    have hm' : (P.methods.map FMethod.av)[j]? = some (.agg m.cells) := by rw [List.getElem?_map, hm]; rfl
    have hmf := hP.mth m (List.mem_of_getElem? hm)
    rw [drop_cons hm, methodsR] at hI
    have hcall := refMethod_spec lb m slots own .fro .fro k (s.set lb (leftO k)) hmf (by omega) (by omega) hq0 hq1 (Store.set_same _ _ _)
    rw [Store.set_set] at hcall
    have hle := @methodR_le slots own k m
    generalize methodR slots own k m = r at hcall hle hI
    obtain ⟨b, k'⟩ := r
    simp only at hle hI
    repeat (first | with_reducible refine CW.seq ?_ | with_reducible refine andThen_normal ?_ | with_reducible refine CW.skip ?_ | with_reducible refine CW.block ?_ | refine CW.reg ?_ | refine RL.step tysOk rfl rfl rfl rfl ?_ | refine RL.idx tysOk _ rfl rfl rfl rfl rfl rfl rfl rfl rfl rfl rfl (by assumption) rfl ?_)
    refine RL.call rfl rfl rfl rfl rfl hcall ?_ (fun _ _ ⟨h, _⟩ => by cases h)
    rintro _ _ ⟨⟨⟩, rfl⟩
    cases b with
    | true =>
      obtain ⟨g0, g1⟩ := hle rfl
      rw [Bool.true_and] at hI
      repeat (first | with_reducible refine andThen_normal ?_ | with_reducible refine inBlock_normal ?_ | with_reducible refine CW.skip ?_ | refine CW.reg (RL.run tysOk rfl (RL.nil ?_)) | refine RL.nil ?_ | refine CW.condF rfl ?_ | refine RL.step tysOk rfl rfl rfl rfl ?_)
      exact ⟨(j + 1, k'), ⟨hlt, g0, by show k' ≤ 120; omega, hI⟩, (by repeat (first | exact trivial | refine ⟨⟨_, rfl, AVle.refl _⟩, ?_⟩ | refine ⟨⟨_, rfl, AVle.of_eq (by (show AV.int .i64 (IntKind.wrap .i64 ((j : Int) + 1)) = .int .i64 ((j + 1 : Nat) : Int); rw [i64_succ (by omega)]))⟩, ?_⟩)), Store.sub_refl _, by show P.methods.length - (j + 1) < P.methods.length - j; omega⟩
    | false =>
      rw [Bool.false_and] at hI
      rw [hI] at hpr
      rw [hpr]
      repeat (first | with_reducible refine CW.seq ?_ | with_reducible refine andThen_normal ?_ | with_reducible refine andThen_ret ?_ | with_reducible refine inBlock_ret ?_ | with_reducible refine CW.ret ?_ | refine CW.reg (RL.run tysOk rfl (RL.nil ?_)) | refine RL.nil ?_ | refine CW.condT rfl ?_ | refine RL.step tysOk rfl rfl rfl rfl ?_)
      exact ⟨_, _, s, rfl, AVle.refl _, Store.sub_set _ _ _ hlb, rfl, rfl⟩
  · have hge : P.methods.length ≤ j := by rw [hmm2] at h; simpa using h
    rw [List.drop_eq_nil_of_le hge, methodsR] at hI
    rw [hI, Bool.true_and] at hpr
    have k5 := fun s => refFunctions_spec P s hP
    rw [hpr]
    generalize progGens P = pg at k5 ⊢
    obtain ⟨G, is⟩ := pg
    simp only at k5 ⊢
    repeat (first | with_reducible refine CW.seq ?_ | with_reducible refine andThen_normal ?_ | with_reducible refine andThen_exit ?_ | with_reducible refine inBlock_here ?_ | with_reducible refine CW.exit ?_ | refine CW.reg ?_ | refine RL.step tysOk rfl rfl rfl rfl ?_)
    refine RL.callP rfl rfl rfl rfl rfl (k5 _) ?_
    repeat (first | with_reducible refine CW.seq ?_ | with_reducible refine andThen_normal ?_ | refine CW.reg ?_ | refine RL.nil ?_ | refine RL.step tysOk rfl rfl rfl rfl ?_)
    cases is with
    | true =>
      repeat (first | with_reducible refine andThen_normal ?_ | with_reducible refine CW.ret ?_ | refine RL.nil ?_ | refine RL.step tysOk rfl rfl rfl rfl ?_)
      refine ⟨_, _, s, rfl, AVle.of_eq ?_, Store.sub_set _ _ _ hlb, rfl, rfl⟩
      congr 1
      rw [strs_length, List.length_map, Bool.eq_iff_iff]; simp; omega
    | false =>
      repeat (first | with_reducible refine andThen_normal ?_ | with_reducible refine CW.ret ?_ | refine RL.nil ?_ | refine RL.step tysOk rfl rfl rfl rfl ?_ | refine RL.skip rfl rfl rfl ?_)
      exact ⟨_, _, s, rfl, AVle.refl _, Store.sub_set _ _ _ hlb, rfl, rfl⟩

set_option maxRecDepth 10000 in
theorem refCheck_spec (P : FProg) (s : Store) (hP : P.Fair) : ACalls Try.prog 17 [P.av] s (fun o s' => o = .ret (err (progR P)) ∧ s' = s) := by
  refine ACalls.of_CW tysOk call17 Try.func17 rfl rfl ?_
  repeat (first | with_reducible refine CW.seq ?_ | with_reducible refine andThen_normal ?_ | refine CW.reg (RL.run tysOk rfl (RL.nil ?_)) | refine CW.reg ?_ | refine RL.step tysOk rfl rfl rfl rfl ?_)
  refine RL.callP rfl rfl rfl rfl rfl (refProg_spec P s hP) ?_
  cases hg : progR P with
  | false =>
    repeat (first | with_reducible refine CW.seq ?_ | with_reducible refine andThen_normal ?_ | with_reducible refine andThen_ret ?_ | with_reducible refine CW.ret ?_ | refine CW.reg (RL.run tysOk rfl (RL.nil ?_)) | refine RL.nil ?_ | refine CW.condT rfl ?_ | refine RL.step tysOk rfl rfl rfl rfl ?_)
    exact ⟨_, _, _, rfl, AVle.refl _, Store.sub_refl _, rfl, rfl⟩
  | true =>
    repeat (first | with_reducible refine CW.seq ?_ | with_reducible refine andThen_normal ?_ | with_reducible refine CW.ret ?_ | with_reducible refine CW.skip ?_ | refine CW.reg (RL.run tysOk rfl (RL.nil ?_)) | refine RL.nil ?_ | refine CW.condF rfl ?_ | refine RL.step tysOk rfl rfl rfl rfl ?_)
    exact ⟨_, _, _, rfl, AVle.refl _, Store.sub_refl _, rfl, rfl⟩
end Go.Proofs.Ytaafacnoddjhgaa

/- The plain law of FormChecks, part 1: facts, expressions and methods. -/
namespace Go.Proofs.Ytaafacnoddjhgaa
open Go.AE

theorem ok_known {ps ss own : List Str} {g : FFact} (hp : ps.contains [] = false) : okK ps ss (own ++ others3) g = (nodeF g && spokenF own ss ps (.fact g)) := by
  have hn : g.name = [] → ps.contains g.name = false := fun h => by rw [h]; exact hp
  have hb0 : between 0 = true := by decide
  have ho : (own ++ others3).contains g.cls = (((own.contains g.cls || g.cls == anyS) || g.cls == intS) || g.cls == noneS) := by
    rw [Bool.eq_iff_iff]; simp [others3, or_assoc]
  have hkl : g.kav.length = g.kids.length := FFact.kav_length g
  have hpl : (g.path.length = 0) → g.path.all ss.contains = true := fun h => by rw [List.length_eq_zero_iff.1 h]; rfl
  rw [okK, badK1, badK2, badK3, nodeF, nodeF1, nodeF2, spokenF, ho, opF, hkl, strs_length]
  generalize g.path.all ss.contains = pa at hpl
  generalize hnm : ps.contains g.name = nm at hn
  generalize own.contains g.cls = nc
  have hen : (g.name == []) = true → nm = false := fun h => hn (by simpa using h)
  have hea : (g.cls == []) = true → (g.cls == anyS) = false ∧ (g.cls == intS) = false ∧ (g.cls == noneS) = false := fun h => by rw [(by simpa using h : g.cls = [])]; decide
  generalize (g.name == []) = en at hen
  generalize (g.cls == []) = ec at hea
  generalize (g.cls == anyS) = ca at hea
  generalize (g.cls == intS) = ci at hea
  generalize (g.cls == noneS) = cn at hea
  generalize ((g.kids.length : Int) == kidsF g.op) = kk
  have hat : atomF g = ((g.op == 2 || g.op == 3) || g.op == 4) := rfl
  rw [hat]
  have hcc : (((nc || ca) || ci) || cn) = (nc || ((ca || ci) || cn)) := by cases nc <;> cases ca <;> cases ci <;> cases cn <;> rfl
  have hcc2 : ((((nc || ec) || ca) || ci) || cn) = ((nc || ((ca || ci) || cn)) || ec) := by cases nc <;> cases ec <;> cases ca <;> cases ci <;> cases cn <;> rfl
  rw [hcc, hcc2]
  generalize (nc || ((ca || ci) || cn)) = kc
  clear hea
  by_cases hn0 : g.n = 0
  · rw [hn0, hb0]
    rw [Bool.eq_iff_iff]
    simp only [Bool.and_eq_true, Bool.or_eq_true, Bool.not_eq_true', Bool.or_eq_false_iff, Bool.and_eq_false_iff, beq_iff_eq, decide_eq_true_eq, decide_eq_false_iff_not, Bool.not_eq_false']
    cases en <;> cases ec <;> cases kk <;> cases pa <;> cases nm <;> cases kc <;> simp_all <;> first | omega | grind
  · rw [Bool.eq_iff_iff]
    have : (g.n == 0) = false := by simpa using hn0
    rw [this]
    generalize between g.n = bn
    cases en <;> cases ec <;> cases kk <;> cases pa <;> cases nm <;> cases kc <;> cases bn <;> simp_all <;> omega

theorem fact_known {ps ss own : List Str} (hp : ps.contains [] = false) (f : FFact) (cnt : Nat) (k : Int) (hk : k = 120 - (cnt : Int)) (h0 : 0 ≤ k) :
    (FFact.cnt ps ss (own ++ others3) 1 k f).1 = factB own ss cnt f ps := by
  rw [(cntF_nodes _ _ _ f 1 k h0).1, factB, lookB]
  have hsz : ((Part.fact f).nodes 1).length = f.size := Part.nodes_size _ _ _ (Nat.le_refl _)
  rw [hsz]
  by_cases h : cnt + f.size ≤ 120
  · rw [decide_eq_true (by omega : (f.size : Int) ≤ k), decide_eq_true h, decide_eq_true (by omega : f.size ≤ 120), Bool.true_and, Bool.true_and, Bool.and_true]
    rw [Bool.eq_iff_iff, Bool.and_eq_true, List.all_eq_true, List.all_eq_true, List.all_eq_true]
    have key : ∀ x ∈ (Part.fact f).nodes 1, okKP ps ss (own ++ others3) x = (nodeOk x && spokenF own ss ps x.2) := by
      intro x hx
      obtain ⟨g, hg, hxg⟩ := mem_allF f 1 x hx
      obtain ⟨d, p⟩ := x
      simp only at hxg
      subst hxg
      show (decide (d ≤ 12) && okK _ _ _ g) = ((decide (d ≤ 12) && nodeF g) && spokenF own ss ps (.fact g))
      rw [ok_known hp, Bool.and_assoc]
    constructor
    · intro h
      refine ⟨fun x hx => ?_, fun x hx => ?_⟩
      · have := h x hx
        rw [key x hx, Bool.and_eq_true] at this; exact this.1
      · have := h x hx
        rw [key x hx, Bool.and_eq_true] at this; exact this.2
    · rintro ⟨h1, h2⟩ x hx
      rw [key x hx, h1 x hx, h2 x hx]; rfl
  · rw [decide_eq_false (by omega : ¬ (f.size : Int) ≤ k), decide_eq_false h]; simp

theorem says_frees {e : FExp} (h : e.neat = true) (free slots own : List Str) (next : Bool) : saysB e free slots own next = (e.allE.all (spokenE own slots next) && e.frees.all free.contains) := by
  unfold saysB
  congr 1
  rw [Bool.eq_iff_iff, List.all_eq_true, List.all_eq_true]
  have hz : ∀ z, z ∈ sortS (e.looseR []) ↔ z ∈ e.frees := fun z => by rw [mem_sortS, mem_frees, looseR_eq e [] [] h (fun _ => Iff.rfl)]
  exact ⟨fun g x hx => g x ((hz x).2 hx), fun g x hx => g x ((hz x).1 hx)⟩

theorem exp_known (names slots : List Str) (cnt : Nat) (e : FExp) (params : List Str) (next : Bool) (k : Int) (hk : k = 120 - (cnt : Int)) :
    (goodB e && (decide (k - e.size ≥ 0) && saysB e params slots names next)) = knownB names slots cnt e params next := by
  unfold knownB
  show _ = ((goodB e && _) && _)
  cases hg : goodB e with
  | false => rfl
  | true =>
    rw [says_frees (good_neat hg)]
    have : decide (k - e.size ≥ 0) = decide (cnt + e.size ≤ 120) := by rw [Bool.eq_iff_iff]; simp; omega
    rw [this]; rfl

/-! ### Lists whose elements are asked one after the other -/
theorem allPre_iff {α : Type} (f : List α → α → Bool) : ∀ (l pre : List α), allPre f pre l = true ↔ ∀ i x, l[i]? = some x → f (pre ++ l.take i) x = true
  | [], pre => by simp [allPre]
  | y :: r, pre => by
    rw [allPre, Bool.and_eq_true, allPre_iff f r (pre ++ [y])]
    constructor
    · rintro ⟨h1, h2⟩ i x hx
      cases i with
      | zero => simp at hx; subst hx; simpa using h1
      | succ i => have := h2 i x (by simpa using hx); simpa using this
    · intro h
      refine ⟨by simpa using h 0 y rfl, fun i x hx => ?_⟩
      have := h (i + 1) x (by simpa using hx)
      simpa using this

theorem nodup_pre {α : Type} (f : α → List Str) : ∀ (r pre : List α), (pre.flatMap f).Nodup → (((pre ++ r).flatMap f).Nodup ↔ allPre (fun pre x => decide (f x).Nodup && (f x).all fun y => !(pre.flatMap f).contains y) pre r = true)
  | [], pre, h => by simpa [allPre] using h
  | c :: r, pre, h => by
    have e : pre ++ c :: r = (pre ++ [c]) ++ r := by simp
    rw [allPre, Bool.and_eq_true, e]
    have hc : ((pre ++ [c]).flatMap f).Nodup ↔ (decide (f c).Nodup && (f c).all fun y => !(pre.flatMap f).contains y) = true := by
      rw [List.flatMap_append, List.nodup_append, Bool.and_eq_true, decide_eq_true_eq, List.all_eq_true]
      simp only [List.flatMap_cons, List.flatMap_nil, List.append_nil, Bool.not_eq_true', List.contains_eq_mem, decide_eq_false_iff_not]
      constructor
      · rintro ⟨-, h2, h3⟩
        exact ⟨h2, fun x hx hx' => h3 x hx' x hx rfl⟩
      · rintro ⟨h2, h3⟩
        exact ⟨h, h2, fun x hx y hy e => by subst e; exact h3 x hy hx⟩
    by_cases hg : ((pre ++ [c]).flatMap f).Nodup
    · rw [nodup_pre f r (pre ++ [c]) hg]
      exact ⟨fun h => ⟨hc.1 hg, h⟩, fun h => h.2⟩
    · constructor
      · intro h2
        rw [List.flatMap_append] at h2
        exact absurd (List.nodup_append.1 h2).1 hg
      · rintro ⟨h1, -⟩
        exact absurd (hc.2 h1) hg

theorem params_known (l : List Str) : allPre okParam [] l = (l.all nameS && decide l.Nodup) := by
  rw [Bool.eq_iff_iff, Bool.and_eq_true, decide_eq_true_eq, List.all_eq_true]
  have h1 := nodup_pre (fun x : Str => [x]) l [] (by simp)
  simp only [List.nil_append, List.flatMap_singleton'] at h1
  rw [h1, allPre_iff, allPre_iff]
  constructor
  · intro h
    refine ⟨fun x hx => ?_, fun i x hx => ?_⟩
    · obtain ⟨i, hi⟩ := List.getElem?_of_mem hx
      have := h i x hi
      unfold okParam at this
      simp only [Bool.and_eq_true] at this; exact this.1
    · have := h i x hx
      unfold okParam at this
      simp only [Bool.and_eq_true] at this
      simp; simpa using this.2
  · rintro ⟨h2, h3⟩ i x hx
    have := h3 i x hx
    unfold okParam
    rw [Bool.and_eq_true]
    refine ⟨h2 x (List.mem_of_getElem? hx), ?_⟩
    simp at this ⊢; exact this

theorem nameS_nil : nameS [] = false := by decide
theorem method_known (names slots : List Str) (m : FMethod) (cnt : Nat) (k : Int) (hk : k = 120 - (cnt : Int)) (h0 : 0 ≤ k) :
    (methodR slots names k m).1 = methodOk names slots cnt m ∧ ((methodR slots names k m).1 = true → (methodR slots names k m).2 = k - m.fact.size - m.body.size) := by
  unfold methodR methodOk
  have hh : headR m = (mB1 m && allPre okParam [] m.params) := by rw [params_known]; rfl
  rw [hh]
  cases h1 : mB1 m with
  | false => exact ⟨rfl, fun h => by cases h⟩
  | true =>
  cases h2 : allPre okParam [] m.params with
  | false => exact ⟨rfl, fun h => by cases h⟩
  | true =>
  have hp : m.params.contains [] = false := by
    rw [params_known, Bool.and_eq_true, List.all_eq_true] at h2
    rw [Bool.eq_false_iff]
    intro hc
    have := h2.1 [] (List.contains_iff_mem.1 hc)
    rw [nameS_nil] at this; cases this
  have hf := fact_known (ss := slots) (own := names) hp m.fact cnt k hk h0
  have hf2 := (cntF_nodes m.params slots (names ++ others3) m.fact 1 k h0).2
  rw [← hf]
  cases h3 : (FFact.cnt m.params slots (names ++ others3) 1 k m.fact).1 with
  | false => exact ⟨rfl, fun h => by simp at h⟩
  | true =>
  have hk2 := hf2 h3
  have he := exp_known names slots (cnt + m.fact.size) m.body m.params (m.kind == 1 || m.kind == 4) (k - m.fact.size) (by omega)
  simp only [Bool.true_and, Bool.and_self, Bool.not_true, Bool.false_eq_true, if_false, hk2]
  rw [← he]
  cases h4 : goodB m.body with
  | false => exact ⟨rfl, fun h => by simp at h⟩
  | true => exact ⟨rfl, fun _ => rfl⟩

theorem methods_known (names slots : List Str) : ∀ (l : List FMethod) (cnt : Nat) (k : Int), k = 120 - (cnt : Int) → 0 ≤ k → methodsR slots names k l = methodsOk names slots cnt l
  | [], _, _, _, _ => rfl
  | m :: r, cnt, k, hk, h0 => by
    rw [methodsR, methodsOk]
    obtain ⟨g1, g2⟩ := method_known names slots m cnt k hk h0
    rw [← g1]
    cases h : (methodR slots names k m).1 with
    | false => rfl
    | true =>
      have hl := (methodR_le h).1
      rw [g2 h] at hl ⊢
      rw [Bool.true_and, Bool.true_and]
      exact methods_known names slots r _ _ (by omega) (by omega)
end Go.Proofs.Ytaafacnoddjhgaa

/- The plain law of FormChecks, part 2: classes, and what stands above a class. -/
namespace Go.Proofs.Ytaafacnoddjhgaa
open Go.AE

def stateOf (l : List FClass) : CSt := l.foldl CSt.next .zero
theorem stateOf_snoc (l : List FClass) (c : FClass) : stateOf (l ++ [c]) = (stateOf l).next c := by unfold stateOf; rw [List.foldl_append]; rfl
theorem state_list (f : List FClass → Prop) (h0 : f []) (h1 : ∀ l c, f l → f (l ++ [c])) : ∀ n (l : List FClass), l.length = n → f l
  | 0, l, h => by rw [List.length_eq_zero_iff.1 h]; exact h0
  | n + 1, l, h => by
    have hne : l ≠ [] := by rintro rfl; cases h
    rw [← List.dropLast_concat_getLast hne]
    exact h1 _ _ (state_list f h0 h1 n _ (by simp; omega))
theorem stateOf_names (l : List FClass) : (stateOf l).names = l.map FClass.name :=
  state_list (fun l => (stateOf l).names = l.map FClass.name) rfl (fun l c h => by rw [stateOf_snoc, CSt.next, h]; simp) _ l rfl
theorem stateOf_slots (l : List FClass) : (stateOf l).slots = l.flatMap FClass.slots :=
  state_list (fun l => (stateOf l).slots = l.flatMap FClass.slots) rfl (fun l c h => by rw [stateOf_snoc, CSt.next, h]; simp) _ l rfl

theorem clsRest_pre : ∀ (r pre : List FClass), clsRest (stateOf pre) r = if allPre (fun pre c => classOk (stateOf pre) c) pre r then some (stateOf (pre ++ r)) else none
  | [], pre => by simp [clsRest, allPre]
  | c :: r, pre => by
    rw [clsRest, allPre]
    cases h : classOk (stateOf pre) c with
    | false => simp
    | true =>
      rw [← stateOf_snoc, clsRest_pre r (pre ++ [c])]
      simp
theorem clsAll_pre (l : List FClass) : clsAll l = if decide (l.length ≤ 10) && allPre (fun pre c => classOk (stateOf pre) c) [] l then some (stateOf l) else none := by
  unfold clsAll
  by_cases h : l.length ≤ 10
  · rw [if_pos h, decide_eq_true h, Bool.true_and]
    exact clsRest_pre l []
  · rw [if_neg h, decide_eq_false h]; rfl

theorem allPreN_pre : ∀ (r pre : List FClass), allPreN (pre.map FClass.name) r = allPre (fun pre c => clsOkR (pre.map FClass.name) c) pre r
  | [], _ => rfl
  | c :: r, pre => by
    rw [allPreN, allPre, ← allPreN_pre r (pre ++ [c])]
    simp

/-! ### What stands above -/
def parsAt (cls : List FClass) (j : Nat) : List Str := (cls[j]?.map FClass.parents).getD []
inductive Up (cls : List FClass) (i : Nat) : Nat → Prop
  | self : Up cls i i
  | step {m : Nat} {p : Str} : Up cls i m → p ∈ parsAt cls m → Up cls i (at_ cls p)
/-- Parents stand ahead. -/
def Ahead (cls : List FClass) : Prop := ∀ j p, p ∈ parsAt cls j → at_ cls p < j

theorem Up.le {cls : List FClass} {i j : Nat} (ha : Ahead cls) (h : Up cls i j) : j ≤ i := by
  induction h with
  | self => exact Nat.le_refl _
  | step _ hp ih => have := ha _ _ hp; omega
theorem Up.trans {cls : List FClass} {i j k : Nat} (h1 : Up cls i j) (h2 : Up cls j k) : Up cls i k := by
  induction h2 with
  | self => exact h1
  | step _ hp ih => exact ih.step hp
theorem Up.tail {cls : List FClass} {i j : Nat} (h : Up cls i j) : j = i ∨ ∃ m, Up cls i m ∧ ∃ p ∈ parsAt cls m, j = at_ cls p := by
  cases h with
  | self => exact .inl rfl
  | step h hp => exact .inr ⟨_, h, _, hp, rfl⟩
theorem Up.head {cls : List FClass} {i j : Nat} (h : Up cls i j) : j = i ∨ ∃ p ∈ parsAt cls i, Up cls (at_ cls p) j := by
  induction h with
  | self => exact .inl rfl
  | step h hp ih =>
    rcases ih with rfl | ⟨q, hq, hu⟩
    · exact .inr ⟨_, hp, .self⟩
    · exact .inr ⟨q, hq, hu.step hp⟩
theorem up_iff {cls : List FClass} {i j : Nat} : Up cls i j ↔ j = i ∨ ∃ p ∈ parsAt cls i, Up cls (at_ cls p) j := by
  refine ⟨Up.head, ?_⟩
  rintro (rfl | ⟨p, hp, hu⟩)
  · exact .self
  · exact (Up.self.step hp).trans hu

theorem getD_set (out : List Bool) (k j : Nat) (hk : k < out.length) : (out.set k true).getD j false = true ↔ j = k ∨ out.getD j false = true := by
  rw [List.getD_eq_getElem?_getD, List.getD_eq_getElem?_getD, List.getElem?_set]
  by_cases h : k = j
  · subst h; simp [hk]
  · rw [if_neg h]
    constructor
    · exact .inr
    · rintro (h' | h')
      · exact absurd h'.symm h
      · exact h'
theorem upStep_getD (cls : List FClass) (j : Nat) : ∀ (ps : List Str) (out : List Bool), (∀ p ∈ ps, at_ cls p < out.length) → ((upStep cls ps out).getD j false = true ↔ (∃ p ∈ ps, j = at_ cls p) ∨ out.getD j false = true)
  | [], out, _ => by simp [upStep]
  | p :: ps, out, h => by
    show ((upStep cls ps (out.set (at_ cls p) true)).getD j false = true ↔ _)
    rw [upStep_getD cls j ps _ (fun q hq => by rw [List.length_set]; exact h q (List.mem_cons_of_mem _ hq)), getD_set _ _ _ (h p (List.mem_cons_self ..))]
    constructor
    · rintro (⟨q, hq, e⟩ | e | e)
      · exact .inl ⟨q, List.mem_cons_of_mem _ hq, e⟩
      · exact .inl ⟨p, List.mem_cons_self .., e⟩
      · exact .inr e
    · rintro (⟨q, hq, e⟩ | e)
      · rcases List.mem_cons.1 hq with rfl | hq
        · exact .inr (.inl e)
        · exact .inl ⟨q, hq, e⟩
      · exact .inr (.inr e)

theorem upGo_up {cls : List FClass} {n : Nat} (ha : Ahead cls) (hn : n < cls.length) : ∀ (k : Nat) (out : List Bool), k ≤ n + 1 → out.length = cls.length →
    (∀ j, out.getD j false = true ↔ ∃ m, k ≤ m ∧ Up cls n m ∧ ∃ p ∈ parsAt cls m, j = at_ cls p) →
    ∀ j, ((upGo cls n k out).getD j false = true ↔ ∃ m, Up cls n m ∧ ∃ p ∈ parsAt cls m, j = at_ cls p)
  | 0, out, _, _, h, j => by
    rw [upGo, h j]
    exact ⟨fun ⟨m, _, h⟩ => ⟨m, h⟩, fun ⟨m, h⟩ => ⟨m, Nat.zero_le _, h⟩⟩
  | k + 1, out, hk, hl, h, j => by
    have hup : (k == n || out.getD k false) = true ↔ Up cls n k := by
      rw [Bool.or_eq_true, h k, beq_iff_eq]
      constructor
      · rintro (rfl | ⟨m, _, hu, p, hp, rfl⟩)
        · exact .self
        · exact hu.step hp
      · intro hu
        rcases hu.tail with rfl | ⟨m, hu', p, hp, e⟩
        · exact .inl rfl
        · exact .inr ⟨m, by have := ha _ _ hp; omega, hu', p, hp, e⟩
    rw [upGo]
    have hin : ∀ p ∈ parsAt cls k, at_ cls p < out.length := fun p hp => by have := ha _ _ hp; omega
    refine upGo_up ha hn k _ (by omega) ?_ ?_ j
    · split
      · rw [upStep_len]; exact hl
      · exact hl
    · intro j
      have hg : (∃ m, k ≤ m ∧ Up cls n m ∧ ∃ p ∈ parsAt cls m, j = at_ cls p) ↔ (Up cls n k ∧ ∃ p ∈ parsAt cls k, j = at_ cls p) ∨ out.getD j false = true := by
        rw [h j]
        constructor
        · rintro ⟨m, hm, hu, hp⟩
          by_cases e : m = k
          · subst e; exact .inl ⟨hu, hp⟩
          · exact .inr ⟨m, by omega, hu, hp⟩
        · rintro (⟨hu, hp⟩ | ⟨m, hm, hu, hp⟩)
          · exact ⟨k, Nat.le_refl _, hu, hp⟩
          · exact ⟨m, by omega, hu, hp⟩
      rw [hg]
      by_cases hu : Up cls n k
      · rw [if_pos (hup.2 hu)]
        show ((upStep cls (parsAt cls k) out).getD j false = true ↔ _)
        rw [upStep_getD cls j _ _ hin]
        simp [hu]
      · rw [if_neg (fun h' => hu (hup.1 h'))]
        simp [hu]

theorem aboveB_up {cls : List FClass} {n : Nat} (ha : Ahead cls) (hn : n < cls.length) (j : Nat) : (aboveB cls n).getD j false = true ↔ ∃ m, Up cls n m ∧ ∃ p ∈ parsAt cls m, j = at_ cls p := by
  unfold aboveB
  refine upGo_up ha hn (n + 1) _ (Nat.le_refl _) (by simp) (fun j => ?_) j
  constructor
  · intro h
    rw [List.getD_eq_getElem?_getD, List.getElem?_replicate] at h
    split at h <;> simp at h
  · rintro ⟨m, hm, hu, -⟩
    have := hu.le ha
    omega
theorem above_self {cls : List FClass} {n : Nat} (ha : Ahead cls) (hn : n < cls.length) (j : Nat) : ((aboveB cls n).set n true).getD j false = true ↔ Up cls n j := by
  rw [getD_set _ _ _ (by rw [aboveB_len]; exact hn), aboveB_up ha hn]
  constructor
  · rintro (rfl | ⟨m, hu, p, hp, rfl⟩)
    · exact .self
    · exact hu.step hp
  · intro h; exact h.tail

theorem mem_mineUpto {cls : List FClass} {up : List Bool} {k : Nat} {x : Str} : x ∈ mineUpto cls up k ↔ ∃ j, j < k ∧ up.getD j false = true ∧ x ∈ slotsAt cls j := by
  unfold mineUpto
  rw [List.mem_flatMap]
  constructor
  · rintro ⟨j, hj, hx⟩
    split at hx
    · exact ⟨j, List.mem_range.1 hj, by assumption, hx⟩
    · cases hx
  · rintro ⟨j, hj, hu, hx⟩
    exact ⟨j, List.mem_range.2 hj, by rw [if_pos hu]; exact hx⟩

/-! ### The slots of a class, as the layer counts them -/
def mineOf (cls : List FClass) (i : Nat) : List Str := match cls[i]? with
  | some c => (stateOf (cls.take i)).mine c
  | none => []

theorem stateOf_has (cls : List FClass) : ∀ i, i ≤ cls.length → (stateOf (cls.take i)).has = (List.range i).map (mineOf cls)
  | 0, _ => rfl
  | i + 1, h => by
    obtain ⟨c, hc⟩ : ∃ c, cls[i]? = some c := ⟨_, List.getElem?_eq_getElem (by omega)⟩
    have ht : cls.take (i + 1) = cls.take i ++ [c] := by rw [take_snoc hc]
    rw [ht, stateOf_snoc, CSt.next, stateOf_has cls i (by omega), List.range_succ, List.map_append]
    simp [mineOf, hc]

theorem findIdx_take {α : Type} {f : α → Bool} {l : List α} {i j : Nat} (h : l.findIdx? f = some j) (hj : j < i) : (l.take i).findIdx? f = some j := by
  rw [List.findIdx?_eq_some_iff_getElem] at h ⊢
  obtain ⟨h1, h2, h3⟩ := h
  refine ⟨by rw [List.length_take]; omega, by rw [List.getElem_take]; exact h2, fun k hk => by rw [List.getElem_take]; exact h3 k hk⟩

/-- Parents are known and ahead. -/
def Tidy (cls : List FClass) : Prop := ∀ j c, cls[j]? = some c → ∀ p ∈ c.parents, p ∈ (cls.take j).map FClass.name

theorem Tidy.find {cls : List FClass} (h : Tidy cls) {j : Nat} {p : Str} (hp : p ∈ parsAt cls j) : (cls.findIdx? fun c => c.name == p) = some (at_ cls p) ∧ at_ cls p < j ∧ j < cls.length := by
  unfold parsAt at hp
  cases hc : cls[j]? with
  | none => rw [hc] at hp; cases hp
  | some c =>
    rw [hc] at hp
    have hm := h j c hc p hp
    obtain ⟨d, hd, rfl⟩ := List.mem_map.1 hm
    obtain ⟨k, hk⟩ := List.getElem?_of_mem hd
    have hkj : k < j := by
      have := (List.getElem?_eq_some_iff.1 hk).1
      rw [List.length_take] at this; omega
    have hk' : cls[k]? = some d := by rw [List.getElem?_take] at hk; rw [if_pos hkj] at hk; exact hk
    have hjl := (List.getElem?_eq_some_iff.1 hc).1
    have hs : (cls.findIdx? fun c => c.name == d.name).isSome = true := by
      rw [List.findIdx?_isSome, List.any_eq_true]
      exact ⟨d, List.mem_of_getElem? hk', by simp⟩
    obtain ⟨q, hq⟩ := Option.isSome_iff_exists.1 hs
    have : at_ cls d.name = q := by unfold at_; rw [hq]; rfl
    refine ⟨by rw [this]; exact hq, ?_, hjl⟩
    rw [this]
    rw [List.findIdx?_eq_some_iff_getElem] at hq
    obtain ⟨q1, q2, q3⟩ := hq
    refine Nat.lt_of_not_le fun hle => ?_
    have := q3 k (by omega)
    obtain ⟨e1, e2⟩ := List.getElem?_eq_some_iff.1 hk'
    rw [e2] at this
    simp at this
theorem Tidy.ahead {cls : List FClass} (h : Tidy cls) : Ahead cls := fun _ _ hp => (h.find hp).2.1

theorem slotsOf_at {cls : List FClass} (h : Tidy cls) {i : Nat} {p : Str} (hp : p ∈ parsAt cls i) : (stateOf (cls.take i)).slotsOf p = mineOf cls (at_ cls p) := by
  obtain ⟨h1, h2, h3⟩ := h.find hp
  have hf : ((cls.take i).map FClass.name).findIdx? (· == p) = some (at_ cls p) := by
    rw [List.findIdx?_map]
    exact findIdx_take h1 h2
  unfold CSt.slotsOf
  rw [stateOf_names, hf]
  simp only
  rw [stateOf_has cls i (by omega), List.getD_eq_getElem?_getD, List.getElem?_map, List.getElem?_range (by omega)]
  rfl

theorem mem_mineOf {cls : List FClass} (h : Tidy cls) (x : Str) : ∀ (n i : Nat), i < n → (x ∈ mineOf cls i ↔ ∃ j, Up cls i j ∧ x ∈ slotsAt cls j)
  | 0, _, hn => by omega
  | n + 1, i, hn => by
    have key : x ∈ mineOf cls i ↔ x ∈ slotsAt cls i ∨ ∃ p ∈ parsAt cls i, x ∈ mineOf cls (at_ cls p) := by
      cases hc : cls[i]? with
      | none => simp [mineOf, slotsAt, parsAt, hc]
      | some c =>
        have hp : parsAt cls i = c.parents := by simp [parsAt, hc]
        have hs : slotsAt cls i = c.slots := by simp [slotsAt, hc]
        have hm : mineOf cls i = c.parents.flatMap (stateOf (cls.take i)).slotsOf ++ c.slots := by simp [mineOf, hc, CSt.mine]
        rw [hm, hs, List.mem_append, List.mem_flatMap, or_comm]
        refine or_congr Iff.rfl ?_
        constructor
        · rintro ⟨p, hq, hx⟩
          rw [slotsOf_at h (by rw [hp]; exact hq)] at hx
          exact ⟨p, by rw [hp]; exact hq, hx⟩
        · rintro ⟨p, hq, hx⟩
          rw [← slotsOf_at h hq] at hx
          exact ⟨p, by rw [← hp]; exact hq, hx⟩
    rw [key]
    constructor
    · rintro (hx | ⟨p, hp, hx⟩)
      · exact ⟨i, .self, hx⟩
      · obtain ⟨j, hu, hx⟩ := (mem_mineOf h x n _ (by have := h.ahead _ _ hp; omega)).1 hx
        exact ⟨j, up_iff.2 (.inr ⟨p, hp, hu⟩), hx⟩
    · rintro ⟨j, hu, hx⟩
      rcases up_iff.1 hu with rfl | ⟨p, hp, hu⟩
      · exact .inl hx
      · exact .inr ⟨p, hp, (mem_mineOf h x n _ (by have := h.ahead _ _ hp; omega)).2 ⟨j, hu, hx⟩⟩

theorem mine_same {cls : List FClass} (h : Tidy cls) {i : Nat} (hi : i < cls.length) (x : Str) : x ∈ mineOf cls i ↔ x ∈ mineUpto cls ((aboveB cls i).set i true) cls.length := by
  rw [mem_mineOf h x (i + 1) i (Nat.lt_succ_self _), mem_mineUpto]
  constructor
  · rintro ⟨j, hu, hx⟩
    have := hu.le h.ahead
    exact ⟨j, by omega, (above_self h.ahead hi j).2 hu, hx⟩
  · rintro ⟨j, -, hu, hx⟩
    exact ⟨j, (above_self h.ahead hi j).1 hu, hx⟩
end Go.Proofs.Ytaafacnoddjhgaa

/- The plain law of FormChecks, part 3: both looks at a program agree. -/
namespace Go.Proofs.Ytaafacnoddjhgaa
open Go.AE

theorem initsOkR_iff (mine : List Str) : ∀ (l : List FInit) (set : List Str), initsOkR mine set l = true ↔ ∀ i x, l[i]? = some x → mine.contains x.slot = true ∧ between x.n = true ∧ x.slot ∉ set ++ (l.take i).map FInit.slot
  | [], set => by simp [initsOkR]
  | y :: r, set => by
    rw [initsOkR, Bool.and_eq_true, initsOkR_iff mine r]
    constructor
    · rintro ⟨h1, h2⟩ i x hx
      cases i with
      | zero => simp at hx; subst hx; simp at h1 ⊢; exact ⟨h1.1.1, h1.2, h1.1.2⟩
      | succ i => have := h2 i x (by simpa using hx); simpa [or_assoc] using this
    · intro h
      refine ⟨?_, fun i x hx => ?_⟩
      · have := h 0 y rfl; simp at this ⊢; exact ⟨⟨this.1, this.2.2⟩, this.2.1⟩
      · have := h (i + 1) x (by simpa using hx)
        simpa [or_assoc] using this

theorem inits_same {mine mine' : List Str} (hm : ∀ x, x ∈ mine ↔ x ∈ mine') (hn : ∀ x ∈ mine, nameS x = true) (l : List FInit) : allPre (okInit mine) [] l = initsOkR mine' [] l := by
  rw [Bool.eq_iff_iff, allPre_iff, initsOkR_iff]
  refine forall_congr' fun i => forall_congr' fun x => imp_congr Iff.rfl ?_
  unfold okInit
  simp only [Bool.and_eq_true, List.nil_append, Bool.not_eq_true', List.contains_eq_mem, decide_eq_true_eq, decide_eq_false_iff_not]
  rw [hm]
  constructor
  · rintro ⟨⟨h1, h2⟩, h3, h4⟩; exact ⟨h1, h2, h4⟩
  · rintro ⟨h1, h2, h4⟩; exact ⟨⟨h1, h2⟩, hn _ ((hm _).2 h1), h4⟩

theorem parents_iff (names : List Str) (l : List Str) : allPre (okParent names) [] l = true ↔ (∀ x ∈ l, names.contains x = true ∧ nameS x = true) ∧ l.Nodup := by
  have h1 := nodup_pre (fun x : Str => [x]) l [] (by simp)
  simp only [List.nil_append, List.flatMap_singleton'] at h1
  rw [h1, allPre_iff, allPre_iff]
  constructor
  · intro h
    refine ⟨fun x hx => ?_, fun i x hx => ?_⟩
    · obtain ⟨i, hi⟩ := List.getElem?_of_mem hx
      have := h i x hi
      unfold okParent at this
      simp only [Bool.and_eq_true] at this; exact ⟨this.1, this.2.1⟩
    · have := h i x hx
      unfold okParent at this
      simp only [Bool.and_eq_true] at this
      simp; simpa using this.2.2
  · rintro ⟨h2, h3⟩ i x hx
    have := h3 i x hx
    obtain ⟨g1, g2⟩ := h2 x (List.mem_of_getElem? hx)
    unfold okParent
    rw [Bool.and_eq_true, Bool.and_eq_true]
    refine ⟨g1, g2, ?_⟩
    simp at this ⊢; exact this

theorem slots_iff (slots : List Str) (l : List Str) : allPre (okSlot slots) [] l = true ↔ (∀ x ∈ l, nameS x = true ∧ x ∉ slots) ∧ l.Nodup := by
  have h1 := nodup_pre (fun x : Str => [x]) l [] (by simp)
  simp only [List.nil_append, List.flatMap_singleton'] at h1
  rw [h1, allPre_iff, allPre_iff]
  constructor
  · intro h
    refine ⟨fun x hx => ?_, fun i x hx => ?_⟩
    · obtain ⟨i, hi⟩ := List.getElem?_of_mem hx
      have := h i x hi
      unfold okSlot at this
      simp at this
      exact ⟨this.1, this.2.1⟩
    · have := h i x hx
      unfold okSlot at this
      simp at this
      simp; exact this.2.2
  · rintro ⟨h2, h3⟩ i x hx
    have := h3 i x hx
    obtain ⟨g1, g2⟩ := h2 x (List.mem_of_getElem? hx)
    unfold okSlot
    simp at this ⊢; exact ⟨g1, g2, this⟩

theorem classOk_iff (st : CSt) (c : FClass) : classOk st c = true ↔
    (c.parents.length ≤ 3 ∧ c.slots.length ≤ 4) ∧ ((∀ x ∈ c.parents, st.names.contains x = true ∧ nameS x = true) ∧ c.parents.Nodup) ∧ ((∀ x ∈ c.slots, nameS x = true ∧ x ∉ st.slots) ∧ c.slots.Nodup) ∧ allPre (okInit (st.mine c)) [] c.inits = true ∧ nameS c.name = true ∧ c.name ∉ st.names := by
  unfold classOk
  simp only [Bool.and_eq_true, decide_eq_true_eq, parents_iff, slots_iff, Bool.not_eq_true', List.contains_eq_mem, decide_eq_false_iff_not]

theorem clsOkR_iff (pre : List Str) (c : FClass) : clsOkR pre c = true ↔ ((c.parents.length ≤ 3 ∧ c.slots.length ≤ 4) ∧ c.parents.Nodup) ∧ ∀ p ∈ c.parents, p ∈ pre := by
  unfold clsOkR
  simp only [Bool.and_eq_true, decide_eq_true_eq, List.all_eq_true, List.contains_iff_mem]

/-- What is asked of the classes, but for the inits. -/
def Plain (cls : List FClass) : Prop := ∀ i c, cls[i]? = some c → ((c.parents.length ≤ 3 ∧ c.slots.length ≤ 4) ∧ c.parents.Nodup ∧ ∀ p ∈ c.parents, p ∈ (cls.take i).map FClass.name) ∧
  (nameS c.name = true ∧ c.name ∉ (cls.take i).map FClass.name) ∧ (∀ x ∈ c.slots, nameS x = true ∧ x ∉ (cls.take i).flatMap FClass.slots) ∧ c.slots.Nodup

theorem Plain.tidy {cls : List FClass} (h : Plain cls) : Tidy cls := fun j c hc => (h j c hc).1.2.2

theorem classesR_iff (cls : List FClass) : classesR cls = true ↔ cls.length ≤ 10 ∧ Plain cls := by
  have e1 := allPreN_pre cls []
  have e2 := nodup_pre (fun c : FClass => [c.name]) cls [] (by simp)
  have e3 := nodup_pre FClass.slots cls [] (by simp)
  have e4 : ∀ l : List FClass, (l.flatMap fun c => [c.name]) = l.map FClass.name := fun l => by induction l with | nil => rfl | cons c r ih => rw [List.flatMap_cons, ih]; rfl
  simp only [List.nil_append, e4] at e1 e2 e3
  unfold classesR
  rw [show allPreN [] cls = _ from e1]
  simp only [Bool.and_eq_true, decide_eq_true_eq, e2, e3, allPre_iff, List.all_eq_true, clsOkR_iff, List.nil_append]
  refine and_congr Iff.rfl ?_
  constructor
  · rintro ⟨h1, ⟨h2, h3⟩, h4, h5⟩ i c hc
    have a1 := h1 i c hc
    have a3 := h3 i c hc
    have a5 := h5 i c hc
    have hm := List.mem_of_getElem? hc
    refine ⟨⟨a1.1.1, a1.1.2, a1.2⟩, ⟨h2 _ (List.mem_map_of_mem hm), ?_⟩, fun x hx => ⟨h4 x (List.mem_flatMap.2 ⟨c, hm, hx⟩), ?_⟩, a5.1⟩
    · have := a3.2 c.name (List.mem_singleton.2 rfl)
      simpa using this
    · have := a5.2 x hx
      simpa using this
  · intro h
    refine ⟨fun i c hc => ⟨⟨(h i c hc).1.1, (h i c hc).1.2.1⟩, (h i c hc).1.2.2⟩, ⟨fun x hx => ?_, fun i c hc => ⟨by simp, fun x hx => ?_⟩⟩, fun x hx => ?_, fun i c hc => ⟨(h i c hc).2.2.2, fun x hx => ?_⟩⟩
    · obtain ⟨c, hc, rfl⟩ := List.mem_map.1 hx
      obtain ⟨i, hi⟩ := List.getElem?_of_mem hc
      exact (h i c hi).2.1.1
    · rw [List.mem_singleton.1 hx]
      have := (h i c hc).2.1.2
      simpa using this
    · obtain ⟨c, hc, hx⟩ := List.mem_flatMap.1 hx
      obtain ⟨i, hi⟩ := List.getElem?_of_mem hc
      exact ((h i c hi).2.2.1 x hx).1
    · have := ((h i c hc).2.2.1 x hx).2
      simpa using this

theorem initsR_iff (cls : List FClass) : initsR cls = true ↔ ∀ i c, cls[i]? = some c → initsOkR (mineUpto cls ((aboveB cls i).set i true) cls.length) [] c.inits = true := by
  unfold initsR
  rw [List.all_eq_true]
  constructor
  · intro h i c hc
    have := h i (List.mem_range.2 (List.getElem?_eq_some_iff.1 hc).1)
    unfold initsI initsAt at this
    rw [hc] at this
    exact this
  · intro h i hi
    obtain ⟨c, hc⟩ : ∃ c, cls[i]? = some c := ⟨_, List.getElem?_eq_getElem (List.mem_range.1 hi)⟩
    unfold initsI initsAt
    rw [hc]
    exact h i c hc

theorem Plain.mine_name {cls : List FClass} (h : Plain cls) {i : Nat} {x : Str} (hx : x ∈ mineOf cls i) : nameS x = true := by
  obtain ⟨j, -, hx⟩ := (mem_mineOf h.tidy x (i + 1) i (Nat.lt_succ_self _)).1 hx
  unfold slotsAt at hx
  cases hc : cls[j]? with
  | none => rw [hc] at hx; cases hx
  | some c => rw [hc] at hx; exact ((h j c hc).2.2.1 x hx).1

theorem classOk_plain {cls : List FClass} : (∀ i c, cls[i]? = some c → classOk (stateOf (cls.take i)) c = true) ↔ Plain cls ∧ initsR cls = true := by
  have hini : Plain cls → ∀ i c, cls[i]? = some c → allPre (okInit ((stateOf (cls.take i)).mine c)) [] c.inits = initsOkR (mineUpto cls ((aboveB cls i).set i true) cls.length) [] c.inits := by
    intro hp i c hc
    have hm : (stateOf (cls.take i)).mine c = mineOf cls i := by simp [mineOf, hc]
    rw [hm]
    exact inits_same (mine_same hp.tidy (List.getElem?_eq_some_iff.1 hc).1) (fun x hx => hp.mine_name hx) _
  rw [initsR_iff]
  constructor
  · intro h
    have hp : Plain cls := by
      intro i c hc
      have := (classOk_iff _ _).1 (h i c hc)
      rw [stateOf_names, stateOf_slots] at this
      obtain ⟨h1, ⟨h2, h3⟩, ⟨h4, h5⟩, -, h7, h8⟩ := this
      exact ⟨⟨h1, h3, fun p hp => List.contains_iff_mem.1 (h2 p hp).1⟩, ⟨h7, h8⟩, h4, h5⟩
    refine ⟨hp, fun i c hc => ?_⟩
    rw [← hini hp i c hc]
    exact ((classOk_iff _ _).1 (h i c hc)).2.2.2.1
  · rintro ⟨hp, hi⟩ i c hc
    obtain ⟨⟨h1, h3, h2⟩, ⟨h7, h8⟩, h4, h5⟩ := hp i c hc
    rw [classOk_iff, stateOf_names, stateOf_slots, hini hp i c hc]
    refine ⟨h1, ⟨fun p hq => ⟨List.contains_iff_mem.2 (h2 p hq), ?_⟩, h3⟩, ⟨h4, h5⟩, hi i c hc, h7, h8⟩
    obtain ⟨d, hd, rfl⟩ := List.mem_map.1 (h2 p hq)
    obtain ⟨k, hk⟩ := List.getElem?_of_mem (List.mem_of_mem_take hd)
    exact (hp k d hk).2.1.1

theorem classes_known (cls : List FClass) : clsAll cls = if classesR cls && initsR cls then some (stateOf cls) else none := by
  rw [clsAll_pre]
  congr 1
  rw [eq_iff_iff, Bool.and_eq_true, Bool.and_eq_true, decide_eq_true_eq, classesR_iff, allPre_iff]
  simp only [List.nil_append]
  rw [classOk_plain, and_assoc]

theorem prog_known (P : FProg) : progR P = progOk P := by
  unfold progR progOk
  rw [classes_known]
  cases h1 : classesR P.classes with
  | false => simp
  | true =>
  cases h2 : initsR P.classes with
  | false => simp
  | true =>
  simp only [Bool.true_and, Bool.and_self, if_true]
  rw [stateOf_names, stateOf_slots]
  congr 1
  have hl : P.classes.length ≤ 10 := ((classesR_iff _).1 h1).1
  rw [← exp_known (P.classes.map FClass.name) (P.classes.flatMap FClass.slots) P.classes.length P.main [] false (120 - (P.classes.length : Int)) rfl]
  have e : (120 - (P.classes.length : Int)) - P.main.size = left0 P := rfl
  rw [e]
  show (_ && (_ && (saysB P.main [] (P.classes.flatMap FClass.slots) (P.classes.map FClass.name) false && (methodsR (P.classes.flatMap FClass.slots) (P.classes.map FClass.name) (left0 P) P.methods && _)))) = _
  cases h3 : decide (left0 P ≥ 0) with
  | false => simp
  | true =>
  have h3' : 0 ≤ left0 P := by simpa using h3
  rw [methods_known (P.classes.map FClass.name) (P.classes.flatMap FClass.slots) P.methods (P.classes.length + P.main.size) (left0 P) (by unfold left0; omega) h3']
  simp only [Bool.true_and, Bool.and_assoc]
end Go.Proofs.Ytaafacnoddjhgaa

