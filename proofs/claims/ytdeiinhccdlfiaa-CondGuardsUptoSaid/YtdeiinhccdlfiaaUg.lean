import Derived.Test.YtdeiinhccdlfiaaUf
set_option linter.unusedVariables false
set_option linter.unusedSimpArgs false
/- Chapter 19: the law of sequences. -/
namespace Go.Proofs.Ytdeiinhccdlfiaa
open Go.AE Go.Cond

theorem RDAll.n {P : Program} {Γ : Tys} {N : Nat} {l : List Oper} {Q : AEx → Env → Store → Prop} {env : Env} {s : Store} {m : Nat} : RDAll P Γ N l Q m env s [] := trivial
theorem RDAll.c {P : Program} {Γ : Tys} {N : Nat} {l : List Oper} {Q : AEx → Env → Store → Prop} {env : Env} {s : Store} {m : Nat} {i : Nat} {is : List Nat} (h : RDStep P Γ N l Q m env s i) (k : RDAll P Γ N l Q m env s is) : RDAll P Γ N l Q m env s (i :: is) := ⟨h, k⟩
theorem seq_getD (a b c : CExp) (r : List CExp) (n : Nat) : SeqX ((.seq (.seq a b) c :: r : List CExp).getD n default) ((.seq a (.seq b c) :: r : List CExp).getD n default) := by
 cases n with
 | zero => exact .turn a b c
 | succ n => exact .same _
theorem seqs_facts (a b c : CExp) (r : List CExp) (hand : Int) (picks : List Int) :
  let x := driveT ((.seq (.seq a b) c :: r : List CExp).map rawE) hand picks 300
  let y := driveT ((.seq a (.seq b c) :: r : List CExp).map rawE) hand picks 300
  x.2 = 0 → y.2 = 0 → (x.1.evs.length < 1000 ∧ ∀ e ∈ x.1.evs, EvFair e) ∧ (x.1.fin = 4 ∨ (x.1.fin = y.1.fin ∧ x.1.val = y.1.val ∧ x.1.evs = y.1.evs)) := by
 intro x y hx hy
 cases h1 : askedB ((.seq (.seq a b) c :: r : List CExp).map rawE) hand picks 300 with
 | false =>
  have : x = (noRun, 2) := driveT_bad h1
  rw [this] at hx; cases hx
 | true =>
  cases h2 : askedB ((.seq a (.seq b c) :: r : List CExp).map rawE) hand picks 300 with
  | false =>
   have : y = (noRun, 2) := driveT_bad h2
   rw [this] at hy; cases hy
  | true =>
   obtain ⟨P, f, e1, e2, A⟩ := asked_of h1
   obtain ⟨Q, f', e3, e4, B⟩ := asked_of h2
   obtain rfl := raws_inj e1
   obtain rfl := raws_inj e3
   obtain rfl : f = 300 := by omega
   obtain rfl : f' = 300 := by omega
   have hx' : x = _ := A.drive
   have hy' : y = _ := B.drive
   rw [hx', hy']
   exact ⟨A.fair, drive_seq (seq_getD a b c r) hand picks 300⟩
theorem pick_block {P : List CExp} (hl : 1 ≤ P.length) (n : Nat) : ∃ (j : Nat) (x : CExp), (n : Int).tmod ((P.map rawE).map CRaw.av).length = (j : Int) ∧ ((P.map rawE).map CRaw.av)[j]? = some (.agg (rawE x).cells) ∧ x ∈ P := by
 have hlt : n % P.length < P.length := Nat.mod_lt _ (by omega)
 refine ⟨n % P.length, P[n % P.length], ?_, ?_, List.getElem_mem hlt⟩
 ·simp [Int.tmod_eq_emod_of_nonneg]
 ·rw [List.getElem?_map, List.getElem?_map, List.getElem?_eq_getElem hlt, ← CRaw.av_eq]; rfl
set_option maxRecDepth 10000 in
set_option maxHeartbeats 2000000 in
theorem condSeqs_spec (g : Giv) (one two : Nat) (hg : g.weight ≤ 1048576) (h1b : one < 256) (h2b : two < 256) : PCalls Try.prog 9 [.agg g.cells, .int .u8 (one : Int), .int .u8 (two : Int)] (.bool true) := by
 have hb : big = 1099511627776 := rfl
 obtain ⟨p, hand, picks, fuel⟩ := g
 unfold Giv.weight at hg
 simp only at hg
 have h1 := refGood_spec p (by omega)
 cases hgo : goodP p with
 | false =>
  rw [hgo] at h1
  simp only [Giv.cells]
  refine PCalls.of_CW tO call9 Try.func9 rfl rfl fun s hok => ?_
  repeat (first | (with_reducible first | apply CW.seq | apply aN) | refine wR rfl ?_ | refine CW.reg ?_ | refine wS rfl ?_)
  refine RL.callPP rfl rfl rfl rfl rfl h1 ?_
  repeat (first | (with_reducible first | apply CW.seq | apply aN) | refine CW.reg ?_ | refine RL.nil ?_ | refine CW.condT rfl ?_ | refine wS rfl ?_)
  refine RL.callPP rfl rfl rfl rfl rfl known_true ?_
  repeat (first | (with_reducible first | apply aN | apply aR | apply CW.ret) | refine RL.nil ?_ | refine wS rfl ?_)
  exact Fin.retP hok rfl aRfl
 | true =>
  rw [hgo] at h1
  obtain ⟨P, rfl, ft⟩ := good_fit hgo
  have hsz := ft.sizes
  have hsix := ft.six
  have hone := ft.one
  have hcl := clone_spec (P.map rawE) (by rw [List.length_map]; exact ft.one) (by rw [List.length_map]; omega)
  obtain ⟨j1, b, hj1, hel1, hbm⟩ := pick_block ft.one one
  obtain ⟨j2, c, hj2, hel2, hcm⟩ := pick_block ft.one two
  have hw1 : IntKind.wrap .i64 (one : Int) = (one : Int) := i64_wrap (by omega) (by omega)
  have hw2 : IntKind.wrap .i64 (two : Int) = (two : Int) := i64_wrap (by omega) (by omega)
  have hsb := mem_sizesE hbm
  have hsc := mem_sizesE hcm
  obtain ⟨a, r, hPa⟩ : ∃ e r, P = e :: r := by
   have := ft.one
   match P, this with
   | e :: r, _ => exact ⟨e, r, rfl⟩
  have hlen : (P.map rawE).length = r.length + 1 := by rw [hPa]; simp
  have hPl : P.length = r.length + 1 := by rw [hPa]; rfl
  have hel0 : ((P.map rawE).map CRaw.av)[0]? = some (.agg (rawE a).cells) := by rw [hPa, ← CRaw.av_eq]; rfl
  have hsr : sizesE r + a.size ≤ 80 := by rw [hPa, sizesE] at hsz; omega
  have d1 := driveT_spec ((.seq (.seq a b) c :: r : List CExp).map rawE) (by rw [sizes_raw, sizesE]; simp only [CExp.size]; omega) hand picks (by omega) 300
  have d2 := driveT_spec ((.seq a (.seq b c) :: r : List CExp).map rawE) (by rw [sizes_raw, sizesE]; simp only [CExp.size]; omega) hand picks (by omega) 300
  have t1 := driveT_two ((.seq (.seq a b) c :: r : List CExp).map rawE) hand picks 300
  have t2 := driveT_two ((.seq a (.seq b c) :: r : List CExp).map rawE) hand picks 300
  have hfacts := seqs_facts a b c r hand picks
  simp only at hfacts
  generalize driveT ((.seq (.seq a b) c :: r : List CExp).map rawE) hand picks 300 = x at d1 t1 hfacts
  generalize driveT ((.seq a (.seq b c) :: r : List CExp).map rawE) hand picks 300 = y at d2 t2 hfacts
  have ofa := ofC_spec 5 0 [rawE a, rawE b]
  have ofb := ofC_spec 5 0 [.mk 5 0 [rawE a, rawE b], rawE c]
  have ofc := ofC_spec 5 0 [rawE b, rawE c]
  have ofd := ofC_spec 5 0 [rawE a, .mk 5 0 [rawE b, rawE c]]
  simp only [List.map_cons, List.map_nil] at ofa ofb ofc ofd
  rw [CRaw.av_eq (rawE a), CRaw.av_eq (rawE b)] at ofa
  rw [CRaw.av_eq (rawE c)] at ofb
  rw [CRaw.av_eq (rawE b), CRaw.av_eq (rawE c)] at ofc
  rw [CRaw.av_eq (rawE a)] at ofd
  unfold CRaw.cells at ofa ofb ofc ofd hel0 hel1 hel2
  simp only [Giv.cells]
  simp only [intsA, runA, runCells] at d1 d2 ⊢
  refine PCalls.of_CW tO call9 Try.func9 rfl rfl fun s hok => ?_
  repeat (first | (with_reducible first | apply CW.seq | apply aN) | refine wR rfl ?_ | refine CW.reg ?_ | refine wS rfl ?_)
  refine RL.callPP rfl rfl rfl rfl rfl h1 ?_
  repeat (first | (with_reducible first | apply CW.seq | apply aN | apply CW.skip) | refine RL.nil ?_ | refine CW.condF rfl ?_ | refine wS rfl ?_)
  refine CW.atCutL (σ := Nat × Nat × Nat) (fun q => [(3, .fptr [.slc 3 ((P.map rawE).map CRaw.av) .fro, .int .i64 hand, .slc 1 (picks.map intA) .fro, .int .i64 fuel] 0), (7, .ptr q.1 0), (8, .ptr q.2.1 0), (9, .ptr q.2.2 0)])
   (fun q => [(.own q.1, .box 36 [.int .i64 (rawE a).op, .int .i64 (rawE a).n, .slc 3 ((rawE a).kids.map CRaw.av) .fro]), (.own q.2.1, .box 36 [.int .i64 (rawE b).op, .int .i64 (rawE b).n, .slc 3 ((rawE b).kids.map CRaw.av) .fro]), (.own q.2.2, .box 36 [.int .i64 (rawE c).op, .int .i64 (rawE c).n, .slc 3 ((rawE c).kids.map CRaw.av) .fro])]) (fun _ => True) ?_ ?_
  ·refine CW.drw tO mixed rfl (RD.runs (is := [0, 1, 4, 5, 6, 8, 9, 10, 14, 15, 16, 18, 19, 20]) rfl ?_)
   refine RD.pure 7 rfl rfl rfl rfl rfl (.x rfl) ?_
   refine RD.pure 17 rfl rfl rfl rfl rfl (.x rfl) ?_
   rw [hw1, hw2]
   refine RD.idx 2 0 rfl rfl rfl rfl rfl rfl rfl rfl rfl rfl rfl rfl rfl hel0 rfl ?_
   refine RD.calm (i := 11) rfl rfl rfl rfl rfl (fun _ => OW.rem rfl rfl rfl (by rw [List.length_map, List.length_map]; omega) hj1) ?_
   refine RD.calm (i := 21) rfl rfl rfl rfl rfl (fun _ => OW.rem rfl rfl rfl (by rw [List.length_map, List.length_map]; omega) hj2) ?_
   refine RD.idx 12 j1 rfl rfl rfl rfl rfl rfl rfl rfl rfl rfl rfl rfl rfl hel1 rfl ?_
   refine RD.idx 22 j2 rfl rfl rfl rfl rfl rfl rfl rfl rfl rfl rfl rfl rfl hel2 rfl ?_
   refine RD.run rfl ?_
   refine RD.many rfl (RDAll.c (RDStep.mk (i := 24) rfl rfl rfl rfl (OW.allocL tO hok rfl rfl rfl rfl (X := fun _ _ => False)) ?_ (fun _ _ h => False.elim h)) (RDAll.c (RDStep.mk (i := 25) rfl rfl rfl rfl (OW.allocL tO hok rfl rfl rfl rfl (X := fun _ _ => False)) ?_ (fun _ _ h => False.elim h)) (RDAll.c (RDStep.mk (i := 26) rfl rfl rfl rfl (OW.allocL tO hok rfl rfl rfl rfl (X := fun _ _ => False)) ?_ (fun _ _ h => False.elim h)) RDAll.n)))
   ·rintro _ _ ⟨b7, rfl, rfl, hok⟩
    refine RD.run rfl ?_
    refine RD.many rfl (RDAll.c (RDStep.mk (i := 25) rfl rfl rfl rfl (OW.allocL tO hok rfl rfl rfl rfl (X := fun _ _ => False)) ?_ (fun _ _ h => False.elim h)) (RDAll.c (RDStep.mk (i := 26) rfl rfl rfl rfl (OW.allocL tO hok rfl rfl rfl rfl (X := fun _ _ => False)) ?_ (fun _ _ h => False.elim h)) RDAll.n))
    ·rintro _ _ ⟨b8, rfl, rfl, hok⟩
     refine RD.run rfl ?_
     refine RD.many rfl (RDAll.c (RDStep.mk (i := 26) rfl rfl rfl rfl (OW.allocL tO hok rfl rfl rfl rfl (X := fun _ _ => False)) ?_ (fun _ _ h => False.elim h)) RDAll.n)
     ·rintro _ _ ⟨b9, rfl, rfl, hok⟩
      refine RD.run rfl ?_
      refine RD.storeL 27 tO hok rfl rfl rfl rfl rfl rfl rfl rfl rfl rfl rfl (by repeat (first | exact Sel.here | apply Sel.there)) (by exact rfl) (fun hok => ?_); refine RD.run rfl ?_
      refine RD.storeL 28 tO hok rfl rfl rfl rfl rfl rfl rfl rfl rfl rfl rfl (by repeat (first | exact Sel.here | apply Sel.there)) (by exact rfl) (fun hok => ?_); refine RD.run rfl ?_
      refine RD.storeL 29 tO hok rfl rfl rfl rfl rfl rfl rfl rfl rfl rfl rfl (by repeat (first | exact Sel.here | apply Sel.there)) (by exact rfl) (fun hok => ?_); refine RD.run rfl ?_
      refine RD.done rfl ?_
      exact CutL.mk (b7, b8, b9) hok trivial (wE rfl) (by repeat (first | exact Sels.nil | (apply Sels.cons; · repeat (first | exact Sel.here | apply Sel.there))))
    ·rintro _ _ ⟨b9, rfl, rfl, hok⟩
     refine RD.run rfl ?_
     refine RD.many rfl (RDAll.c (RDStep.mk (i := 25) rfl rfl rfl rfl (OW.allocL tO hok rfl rfl rfl rfl (X := fun _ _ => False)) ?_ (fun _ _ h => False.elim h)) RDAll.n)
     ·rintro _ _ ⟨b8, rfl, rfl, hok⟩
      refine RD.run rfl ?_
      refine RD.storeL 27 tO hok rfl rfl rfl rfl rfl rfl rfl rfl rfl rfl rfl (by repeat (first | exact Sel.here | apply Sel.there)) (by exact rfl) (fun hok => ?_); refine RD.run rfl ?_
      refine RD.storeL 28 tO hok rfl rfl rfl rfl rfl rfl rfl rfl rfl rfl rfl (by repeat (first | exact Sel.here | apply Sel.there)) (by exact rfl) (fun hok => ?_); refine RD.run rfl ?_
      refine RD.storeL 29 tO hok rfl rfl rfl rfl rfl rfl rfl rfl rfl rfl rfl (by repeat (first | exact Sel.here | apply Sel.there)) (by exact rfl) (fun hok => ?_); refine RD.run rfl ?_
      refine RD.done rfl ?_
      exact CutL.mk (b7, b8, b9) hok trivial (wE rfl) (by repeat (first | exact Sels.nil | (apply Sels.cons; · repeat (first | exact Sel.here | apply Sel.there))))
   ·rintro _ _ ⟨b8, rfl, rfl, hok⟩
    refine RD.run rfl ?_
    refine RD.many rfl (RDAll.c (RDStep.mk (i := 24) rfl rfl rfl rfl (OW.allocL tO hok rfl rfl rfl rfl (X := fun _ _ => False)) ?_ (fun _ _ h => False.elim h)) (RDAll.c (RDStep.mk (i := 26) rfl rfl rfl rfl (OW.allocL tO hok rfl rfl rfl rfl (X := fun _ _ => False)) ?_ (fun _ _ h => False.elim h)) RDAll.n))
    ·rintro _ _ ⟨b7, rfl, rfl, hok⟩
     refine RD.run rfl ?_
     refine RD.many rfl (RDAll.c (RDStep.mk (i := 26) rfl rfl rfl rfl (OW.allocL tO hok rfl rfl rfl rfl (X := fun _ _ => False)) ?_ (fun _ _ h => False.elim h)) RDAll.n)
     ·rintro _ _ ⟨b9, rfl, rfl, hok⟩
      refine RD.run rfl ?_
      refine RD.storeL 27 tO hok rfl rfl rfl rfl rfl rfl rfl rfl rfl rfl rfl (by repeat (first | exact Sel.here | apply Sel.there)) (by exact rfl) (fun hok => ?_); refine RD.run rfl ?_
      refine RD.storeL 28 tO hok rfl rfl rfl rfl rfl rfl rfl rfl rfl rfl rfl (by repeat (first | exact Sel.here | apply Sel.there)) (by exact rfl) (fun hok => ?_); refine RD.run rfl ?_
      refine RD.storeL 29 tO hok rfl rfl rfl rfl rfl rfl rfl rfl rfl rfl rfl (by repeat (first | exact Sel.here | apply Sel.there)) (by exact rfl) (fun hok => ?_); refine RD.run rfl ?_
      refine RD.done rfl ?_
      exact CutL.mk (b7, b8, b9) hok trivial (wE rfl) (by repeat (first | exact Sels.nil | (apply Sels.cons; · repeat (first | exact Sel.here | apply Sel.there))))
    ·rintro _ _ ⟨b9, rfl, rfl, hok⟩
     refine RD.run rfl ?_
     refine RD.many rfl (RDAll.c (RDStep.mk (i := 24) rfl rfl rfl rfl (OW.allocL tO hok rfl rfl rfl rfl (X := fun _ _ => False)) ?_ (fun _ _ h => False.elim h)) RDAll.n)
     ·rintro _ _ ⟨b7, rfl, rfl, hok⟩
      refine RD.run rfl ?_
      refine RD.storeL 27 tO hok rfl rfl rfl rfl rfl rfl rfl rfl rfl rfl rfl (by repeat (first | exact Sel.here | apply Sel.there)) (by exact rfl) (fun hok => ?_); refine RD.run rfl ?_
      refine RD.storeL 28 tO hok rfl rfl rfl rfl rfl rfl rfl rfl rfl rfl rfl (by repeat (first | exact Sel.here | apply Sel.there)) (by exact rfl) (fun hok => ?_); refine RD.run rfl ?_
      refine RD.storeL 29 tO hok rfl rfl rfl rfl rfl rfl rfl rfl rfl rfl rfl (by repeat (first | exact Sel.here | apply Sel.there)) (by exact rfl) (fun hok => ?_); refine RD.run rfl ?_
      refine RD.done rfl ?_
      exact CutL.mk (b7, b8, b9) hok trivial (wE rfl) (by repeat (first | exact Sels.nil | (apply Sels.cons; · repeat (first | exact Sel.here | apply Sel.there))))
   ·rintro _ _ ⟨b9, rfl, rfl, hok⟩
    refine RD.run rfl ?_
    refine RD.many rfl (RDAll.c (RDStep.mk (i := 24) rfl rfl rfl rfl (OW.allocL tO hok rfl rfl rfl rfl (X := fun _ _ => False)) ?_ (fun _ _ h => False.elim h)) (RDAll.c (RDStep.mk (i := 25) rfl rfl rfl rfl (OW.allocL tO hok rfl rfl rfl rfl (X := fun _ _ => False)) ?_ (fun _ _ h => False.elim h)) RDAll.n))
    ·rintro _ _ ⟨b7, rfl, rfl, hok⟩
     refine RD.run rfl ?_
     refine RD.many rfl (RDAll.c (RDStep.mk (i := 25) rfl rfl rfl rfl (OW.allocL tO hok rfl rfl rfl rfl (X := fun _ _ => False)) ?_ (fun _ _ h => False.elim h)) RDAll.n)
     ·rintro _ _ ⟨b8, rfl, rfl, hok⟩
      refine RD.run rfl ?_
      refine RD.storeL 27 tO hok rfl rfl rfl rfl rfl rfl rfl rfl rfl rfl rfl (by repeat (first | exact Sel.here | apply Sel.there)) (by exact rfl) (fun hok => ?_); refine RD.run rfl ?_
      refine RD.storeL 28 tO hok rfl rfl rfl rfl rfl rfl rfl rfl rfl rfl rfl (by repeat (first | exact Sel.here | apply Sel.there)) (by exact rfl) (fun hok => ?_); refine RD.run rfl ?_
      refine RD.storeL 29 tO hok rfl rfl rfl rfl rfl rfl rfl rfl rfl rfl rfl (by repeat (first | exact Sel.here | apply Sel.there)) (by exact rfl) (fun hok => ?_); refine RD.run rfl ?_
      refine RD.done rfl ?_
      exact CutL.mk (b7, b8, b9) hok trivial (wE rfl) (by repeat (first | exact Sels.nil | (apply Sels.cons; · repeat (first | exact Sel.here | apply Sel.there))))
    ·rintro _ _ ⟨b8, rfl, rfl, hok⟩
     refine RD.run rfl ?_
     refine RD.many rfl (RDAll.c (RDStep.mk (i := 24) rfl rfl rfl rfl (OW.allocL tO hok rfl rfl rfl rfl (X := fun _ _ => False)) ?_ (fun _ _ h => False.elim h)) RDAll.n)
     ·rintro _ _ ⟨b7, rfl, rfl, hok⟩
      refine RD.run rfl ?_
      refine RD.storeL 27 tO hok rfl rfl rfl rfl rfl rfl rfl rfl rfl rfl rfl (by repeat (first | exact Sel.here | apply Sel.there)) (by exact rfl) (fun hok => ?_); refine RD.run rfl ?_
      refine RD.storeL 28 tO hok rfl rfl rfl rfl rfl rfl rfl rfl rfl rfl rfl (by repeat (first | exact Sel.here | apply Sel.there)) (by exact rfl) (fun hok => ?_); refine RD.run rfl ?_
      refine RD.storeL 29 tO hok rfl rfl rfl rfl rfl rfl rfl rfl rfl rfl rfl (by repeat (first | exact Sel.here | apply Sel.there)) (by exact rfl) (fun hok => ?_); refine RD.run rfl ?_
      refine RD.done rfl ?_
      exact CutL.mk (b7, b8, b9) hok trivial (wE rfl) (by repeat (first | exact Sels.nil | (apply Sels.cons; · repeat (first | exact Sel.here | apply Sel.there))))
  rintro ⟨b7, b8, b9⟩ - hok
  simp only at hok ⊢
  refine CW.freezeL hok 7 b7 rfl (by repeat (first | exact Sel.here | apply Sel.there)) fun hok => ?_
  refine CW.freezeL hok 8 b8 rfl (by repeat (first | exact Sel.here | apply Sel.there)) fun hok => ?_
  refine CW.freezeL hok 9 b9 rfl (by repeat (first | exact Sel.here | apply Sel.there)) fun hok => ?_
  repeat (first | with_reducible apply CW.seq)
  refine CW.drw tO mixed rfl (RD.run rfl ?_)
  refine RD.callL 2 rfl rfl rfl rfl rfl rfl rfl hcl hok .nil ?_ (fun _ _ ⟨_, _, _, h, _⟩ _ => by cases h)
  rintro _ _ ⟨b10, cap1, cs1, ⟨⟩, rfl, c2, c3⟩ hok
  refine RD.run rfl ?_
  refine RD.callL 5 rfl rfl rfl rfl rfl rfl rfl hcl hok .nil ?_ (fun _ _ ⟨_, _, _, h, _⟩ _ => by cases h)
  rintro _ _ ⟨b11, cap2, cs2, ⟨⟩, rfl, e2, e3⟩ hok
  refine RD.run rfl (RD.done rfl ?_)
  rw [hlen] at c2 c3 e2 e3
  have hPm : P.map rawE = rawE a :: r.map rawE := by rw [hPa]; rfl
  rw [hPm] at c3 e3
  obtain ⟨tl1, rfl, c4⟩ := copy_head (r := r.map rawE) (by rw [List.length_cons, List.length_map]; exact c3)
  obtain ⟨tl2, rfl, e4⟩ := copy_head (r := r.map rawE) (by rw [List.length_cons, List.length_map]; exact e3)
  have c5 := copy_put (y := rawE (.seq (.seq a b) c)) c4
  have e5 := copy_put (y := rawE (.seq a (.seq b c))) e4
  rw [List.length_map] at c5 e5
  have hpos : 0 < (P.map rawE).length := by rw [hlen]; omega
  repeat (with_reducible first | apply CW.seq | apply aN)
  refine CW.drw tO mixed rfl (RD.run rfl ?_)
  refine RD.calmPP (i := 4) rfl rfl rfl rfl rfl rfl rfl ofa ?_
  refine RD.run rfl ?_
  refine RD.calmPP (i := 7) rfl rfl rfl rfl rfl rfl rfl ofb ?_
  refine RJ.idxC 8 tO trivial (j := 0) rfl rfl rfl rfl rfl rfl rfl rfl rfl rfl rfl rfl hpos ?_
  rw [CRaw.av_eq (.mk 5 0 _)]
  refine RD.storeL 9 tO hok rfl rfl rfl rfl rfl rfl rfl rfl rfl rfl rfl (by repeat (first | exact Sel.here | apply Sel.there)) (by exact rfl) (fun hok => ?_); refine RD.run rfl ?_
  refine RD.done rfl ?_
  repeat (with_reducible first | apply CW.seq | apply aN)
  refine CW.drw tO mixed rfl (RD.run rfl ?_)
  refine RD.calmPP (i := 5) rfl rfl rfl rfl rfl rfl rfl ofc ?_
  refine RD.run rfl ?_
  refine RD.calmPP (i := 7) rfl rfl rfl rfl rfl rfl rfl ofd ?_
  refine RJ.idxC 8 tO trivial (j := 0) rfl rfl rfl rfl rfl rfl rfl rfl rfl rfl rfl rfl hpos ?_
  rw [CRaw.av_eq (.mk 5 0 _)]
  refine RD.storeL 9 tO hok rfl rfl rfl rfl rfl rfl rfl rfl rfl rfl rfl (by repeat (first | exact Sel.here | apply Sel.there)) (by exact rfl) (fun hok => ?_); refine RD.run rfl ?_
  refine RD.done rfl ?_
  refine aN ?_
  refine CW.freezeR hok 10 b10 (sz := 3) (xss := ((.seq (.seq a b) c :: r : List CExp).map rawE).map CRaw.cells) rfl (by repeat (first | exact Sel.here | apply Sel.there)) (by rw [hlen]; exact c5) (by rw [hlen]; simp) (cells_three _) (by rw [hlen]; exact c2) (by rw [hlen]; omega) (fun hok => ?_)
  refine CW.freezeR hok 11 b11 (sz := 3) (xss := ((.seq a (.seq b c) :: r : List CExp).map rawE).map CRaw.cells) rfl (by repeat (first | exact Sel.here | apply Sel.there)) (by rw [hlen]; exact e5) (by rw [hlen]; simp) (cells_three _) (by rw [hlen]; exact e2) (by rw [hlen]; omega) (fun hok => ?_)
  rw [← cells_eq, ← cells_eq]
  repeat (first | with_reducible apply CW.seq | refine CW.reg ?_ | refine wS rfl ?_)
  refine RL.callPP rfl rfl rfl rfl rfl d1 ?_
  repeat (first | refine wS rfl ?_)
  refine RL.newBox tO rfl rfl rfl rfl rfl rfl rfl (fun _ => rfl) rfl rfl (fun _ => rfl) rfl rfl rfl rfl ?_
  repeat (first | (with_reducible first | apply CW.seq | apply aN) | refine CW.reg ?_ | refine RL.nil ?_ | refine wS rfl ?_)
  refine RL.callPP rfl rfl rfl rfl rfl d2 ?_
  repeat (first | refine wS rfl ?_)
  refine RL.newBox tO rfl rfl rfl rfl rfl rfl rfl (fun _ => rfl) rfl rfl (fun _ => rfl) rfl rfl rfl rfl ?_
  rcases t1 with t1 | t1 <;> rcases t2 with t2 | t2
  ·obtain ⟨hfa, hlaw⟩ := hfacts t1 t2
   rw [t1, t2]
   repeat (first | (with_reducible first | apply CW.seq | apply aN) | refine CW.reg ?_ | refine RL.nil ?_ | refine wS rfl ?_)
   by_cases h4 : x.1.fin = 4
   ·refine RL.knowT 98 rfl (by simpa using h4) ?_
    repeat (first | (with_reducible first | apply CW.seq | apply aN) | refine CW.reg ?_ | refine RL.nil ?_ | refine CW.condT rfl ?_ | refine wS rfl ?_ | refine RL.skip rfl rfl rfl ?_)
    refine RL.callPP rfl rfl rfl rfl rfl known_true ?_
    repeat (first | (with_reducible first | apply aN | apply aR | apply CW.ret) | refine RL.nil ?_ | refine wS rfl ?_)
    exact Fin.retP hok rfl aRfl
   ·refine RL.knowF 98 rfl (by simpa using h4) ?_
    repeat (first | with_reducible apply aN | refine RL.nil ?_ | refine wS rfl ?_)
    refine CW.cond rfl (fun hh => ?_) (fun hh => ?_)
    ·repeat (first | with_reducible apply CW.seq | refine CW.reg ?_ | refine wS rfl ?_ | refine RL.skip rfl rfl rfl ?_)
     refine RL.callPP rfl rfl rfl rfl rfl known_true ?_
     repeat (first | (with_reducible first | apply aN | apply aR | apply CW.ret) | refine RL.nil ?_ | refine wS rfl ?_)
     exact Fin.retP hok rfl aRfl
    ·rcases hlaw with h | ⟨g1, g2, g3⟩
     ·exact absurd h h4
     ·have hev := sameEvents_spec x.1.evs x.1.evs (by omega) (by omega) hfa.2 hfa.2
      rw [(evsB_iff _ _).2 rfl] at hev
      rw [← g3]
      repeat (first | (with_reducible first | apply CW.seq | apply aN | apply CW.skip) | refine CW.reg ?_ | refine wS rfl ?_)
      refine RL.knowT 125 rfl (decide_eq_true g1) ?_
      repeat (first | refine wS rfl ?_)
      refine RL.knowT 132 rfl (decide_eq_true g2) ?_
      repeat (first | refine wS rfl ?_)
      refine RL.callPP rfl rfl rfl rfl rfl hev ?_
      repeat (first | refine wS rfl ?_)
      refine RL.callPP rfl rfl rfl rfl rfl known_true ?_
      repeat (first | (with_reducible first | apply aN | apply CW.ret) | refine RL.nil ?_ | refine wS rfl ?_)
      exact Fin.retP hok rfl aRfl
  ·rw [t1, t2]
   repeat (first | (with_reducible first | apply CW.seq | apply aN) | refine wR rfl ?_ | refine CW.reg ?_ | refine RL.nil ?_ | refine CW.condT rfl ?_ | refine wS rfl ?_ | refine RL.skip rfl rfl rfl ?_)
   refine RL.callPP rfl rfl rfl rfl rfl known_true ?_
   repeat (first | (with_reducible first | apply aN | apply aR | apply CW.ret) | refine RL.nil ?_ | refine wS rfl ?_)
   exact Fin.retP hok rfl aRfl
  ·rw [t1, t2]
   repeat (first | (with_reducible first | apply CW.seq | apply aN) | refine wR rfl ?_ | refine CW.reg ?_ | refine RL.nil ?_ | refine CW.condT rfl ?_ | refine wS rfl ?_ | refine RL.skip rfl rfl rfl ?_)
   refine RL.callPP rfl rfl rfl rfl rfl known_true ?_
   repeat (first | (with_reducible first | apply aN | apply aR | apply CW.ret) | refine RL.nil ?_ | refine wS rfl ?_)
   exact Fin.retP hok rfl aRfl
  ·rw [t1, t2]
   repeat (first | (with_reducible first | apply CW.seq | apply aN) | refine wR rfl ?_ | refine CW.reg ?_ | refine RL.nil ?_ | refine CW.condT rfl ?_ | refine wS rfl ?_)
   refine RL.callPP rfl rfl rfl rfl rfl known_true ?_
   repeat (first | (with_reducible first | apply aN | apply aR | apply CW.ret) | refine RL.nil ?_ | refine wS rfl ?_)
   exact Fin.retP hok rfl aRfl
end Go.Proofs.Ytdeiinhccdlfiaa

/- Chapter 19: contracts of the law of guards: programs with marks. -/
namespace Go.Proofs.Ytdeiinhccdlfiaa
open Go.AE Go.Cond

def tagR (m : Int) (y : CRaw) : CRaw := .mk 5 0 [.mk 4 0 [.mk 1 m []], y]
mutual
def markedR : CRaw → Nat → CRaw × Nat
 | .mk o n ks, k => (.mk o n (markedsR (o == 15) k 0 ks (if o == 15 then k + 1 else k)).1, (markedsR (o == 15) k 0 ks (if o == 15 then k + 1 else k)).2)
def markedsR (g : Bool) (k0 i : Nat) : List CRaw → Nat → List CRaw × Nat
 | [], k => ([], k)
 | x :: r, k => ((if g then tagR (Cond.mark + 2 * k0 + i) (markedR x k).1 else (markedR x k).1) :: (markedsR g k0 (i + 1) r (markedR x k).2).1, (markedsR g k0 (i + 1) r (markedR x k).2).2)
end
theorem marked_raw : ∀ (x : CExp) (k : Nat), markedR (rawE x) k = (rawE (marked x k).1, (marked x k).2)
 | .int n, k => by simp [rawE, markedR, markedsR, marked]
 | .hand, k => by simp [rawE, markedR, markedsR, marked]
 | .add a b, k => by simp [rawE, markedR, markedsR, marked, marked_raw a, marked_raw b]
 | .say a, k => by simp [rawE, markedR, markedsR, marked, marked_raw a]
 | .seq a b, k => by simp [rawE, markedR, markedsR, marked, marked_raw a, marked_raw b]
 | .test a b c, k => by simp [rawE, markedR, markedsR, marked, marked_raw a, marked_raw b, marked_raw c]
 | .call n a, k => by simp [rawE, markedR, markedsR, marked, marked_raw a]
 | .handle n a b, k => by simp [rawE, markedR, markedsR, marked, marked_raw a, marked_raw b]
 | .signal n a, k => by simp [rawE, markedR, markedsR, marked, marked_raw a]
 | .fails n a, k => by simp [rawE, markedR, markedsR, marked, marked_raw a]
 | .restart n a b, k => by simp [rawE, markedR, markedsR, marked, marked_raw a, marked_raw b]
 | .again n a, k => by simp [rawE, markedR, markedsR, marked, marked_raw a]
 | .choose n a, k => by simp [rawE, markedR, markedsR, marked, marked_raw a]
 | .find n, k => by simp [rawE, markedR, markedsR, marked]
 | .guard a b, k => by simp [rawE, markedR, markedsR, marked, marked_raw a, marked_raw b, tag, tagR]
mutual
theorem markedR_le : ∀ (x : CRaw) (k : Nat), (markedR x k).2 ≤ k + x.size
  | .mk o n ks, k => by
    rw [markedR, CRaw.size]
    have := markedsR_le (o == 15) k 0 ks (if o == 15 then k + 1 else k)
    simp only
    split at this <;> split <;> first | omega | contradiction
theorem markedsR_le (g : Bool) (k0 i : Nat) : ∀ (l : List CRaw) (k : Nat), (markedsR g k0 i l k).2 ≤ k + CRaw.sizes l
  | [], k => by rw [markedsR, CRaw.sizes]; exact Nat.le_refl _
  | x :: r, k => by
    rw [markedsR, CRaw.sizes]
    have h1 := markedR_le x k
    have h2 := markedsR_le g k0 (i + 1) r (markedR x k).2
    simp only
    omega
end
def nextL (nb k : Nat) : LS := [(.own nb, .box 3 [.int .i64 (k : Int)])]
theorem av_cells3 (x : CRaw) : x.av = .agg [.int .i64 x.op, .int .i64 x.n, .slc 3 (x.kids.map CRaw.av) .fro] := CRaw.av_eq x
set_option maxRecDepth 10000 in
set_option maxHeartbeats 1000000 in
theorem marked_spec (nb : Nat) : ∀ (m : Nat) (x : CRaw) (k : Nat), x.size ≤ m → k + x.size < 1000000 →
  LCalls Try.prog 18 [x.av, .ptr nb 0] (nextL nb k) (fun o K => o = .ret (markedR x k).1.av ∧ K = nextL nb (markedR x k).2) := by
 have hb : big = 1099511627776 := rfl
 intro m
 induction m with
 | zero => intro x k h; have := x.size_eq; omega
 | succ m ih =>
  intro x k hm hk
  obtain ⟨o, n, ks⟩ := x
  rw [CRaw.size] at hm hk
  have hml := CRaw.length_sizes ks
  have hpl : ((ks.map CRaw.av).length : Int) = ks.length := by simp
  have hres : (markedR (.mk o n ks) k).1.av = .agg [.int .i64 o, .int .i64 n, .slc 3 ((markedsR (o == 15) k 0 ks (if o == 15 then k + 1 else k)).1.map CRaw.av) .fro] := by
   rw [markedR, av_cells3]; rfl
  have hres2 : (markedR (.mk o n ks) k).2 = (markedsR (o == 15) k 0 ks (if o == 15 then k + 1 else k)).2 := by rw [markedR]
  rw [hres, hres2]
  obtain ⟨k1, hk1⟩ : ∃ k1, k1 = (if (o == 15) = true then k + 1 else k) := ⟨_, rfl⟩
  have hk1b : k ≤ k1 ∧ k1 ≤ k + 1 := by rw [hk1]; split <;> omega
  rw [← hk1]
  rw [av_cells3]
  simp only [CRaw.op, CRaw.n, CRaw.kids]
  refine LCalls.of_CW tO call18 Try.func18 rfl rfl fun s hok => ?_
  unfold nextL at hok ⊢
  repeat (first | with_reducible apply CW.seq | refine CW.reg ?_ | refine wS rfl ?_)
  refine RL.allocL tO hok rfl rfl rfl rfl rfl rfl rfl (fun b4 hok => ?_)
  repeat (first | (with_reducible first | apply CW.seq | apply aN) | refine CW.reg ?_ | refine RL.nil ?_ | refine wS rfl ?_)
  refine RL.allocL tO hok rfl rfl rfl rfl rfl rfl rfl (fun b5 hok => ?_)
  repeat (first | (with_reducible first | apply CW.seq | apply aN) | refine wR rfl ?_ | refine CW.reg ?_ | refine RL.nil ?_ | refine wS rfl ?_ | refine RL.loadL tO hok rfl rfl rfl rfl rfl rfl (by repeat (first | exact Sel.here | apply Sel.there)) (by exact rfl) ?_ | refine RL.storeL tO hok rfl rfl rfl rfl rfl rfl rfl rfl rfl (by repeat (first | exact Sel.here | apply Sel.there)) (by exact rfl) (fun hok => ?_))
  refine CW.atCutL (σ := Unit) (fun _ => [(1, .ptr nb 0), (2, .fptr [.int .i64 o, .int .i64 n, .slc 3 (ks.map CRaw.av) .fro] 0), (4, .ptr b4 0), (5, .ptr b5 0), (6, .int .i64 (k : Int))]) (fun _ => [(.own b5, .box 36 [.int .i64 o, .int .i64 n, .slc 0 [] .nil]), (.own b4, .box 36 [.int .i64 0, .int .i64 0, .slc 0 [] .nil]), (.own nb, .box 3 [.int .i64 (k1 : Int)])]) (fun _ => True) ?_ ?_
  ·refine CW.cond rfl (fun hh => ?_) (fun hh => ?_)
   ·have hkk : k1 = k + 1 := by rw [hk1]; exact if_pos hh
    subst hkk
    repeat (first | refine CW.reg ?_ | refine RL.nil ?_ | refine wS rfl ?_ | refine RL.loadL tO hok rfl rfl rfl rfl rfl rfl (by repeat (first | exact Sel.here | apply Sel.there)) (by exact rfl) ?_ | refine RL.storeL tO hok rfl rfl rfl rfl rfl rfl rfl rfl rfl (by repeat (first | exact Sel.here | apply Sel.there)) (by exact rfl) (fun hok => ?_))
    rw [i64_succ (by omega)] at hok ⊢
    exact CutL.mk () hok trivial (wE rfl) (by repeat (first | exact Sels.nil | (apply Sels.cons; · repeat (first | exact Sel.here | apply Sel.there))))
   ·have hkk : k1 = k := by rw [hk1]; exact if_neg (by rw [hh]; simp)
    subst hkk
    repeat (first | with_reducible apply CW.skip)
    exact CutL.mk () hok trivial (wE rfl) (by repeat (first | exact Sels.nil | (apply Sels.cons; · repeat (first | exact Sel.here | apply Sel.there))))
  rintro - - hok
  repeat (first | (with_reducible first | apply CW.seq | apply aN | apply CW.block) | refine wR rfl ?_)
  refine CW.boxWeakL hok b5 [.int .i64 o, .int .i64 n, .slc 3 [] .nil] (by repeat (first | exact Sel.here | apply Sel.there)) (.cons aRfl (.cons aRfl (.one (AVle.nil (by intro b h; cases h))))) fun hok => ?_
  refine CW.phantom hok 36 3 0 fun hok => ?_
  refine CW.loopL hok (σ := List CRaw × Nat × Own) (fun q => [(1, .ptr nb 0), (2, .fptr [.int .i64 o, .int .i64 n, .slc 3 (ks.map CRaw.av) .fro] 0), (4, .ptr b4 0), (5, .ptr b5 0), (6, .int .i64 (k : Int)), (27, .slc 3 (ks.map CRaw.av) .fro), (28, .int .i64 ks.length), (29, .int .i64 (q.1.length : Int))])
   (fun q => [(.own b5, .box 36 [.int .i64 o, .int .i64 n, .slc 3 (q.1.map CRaw.av) q.2.2]), (q.2.2, .row 36 3 q.1.length), (.own b4, .box 36 [.int .i64 0, .int .i64 0, .slc 0 [] .nil]), (.own nb, .box 3 [.int .i64 (q.2.1 : Int)])])
   (fun q => q.1.length ≤ ks.length ∧ q.2.1 + CRaw.sizes (ks.drop q.1.length) ≤ k + 1 + CRaw.sizes ks ∧ markedsR (o == 15) k 0 ks k1 = (q.1 ++ (markedsR (o == 15) k q.1.length (ks.drop q.1.length) q.2.1).1, (markedsR (o == 15) k q.1.length (ks.drop q.1.length) q.2.1).2))
   (fun q => ks.length - q.1.length) ([], k1, .nil) ⟨Nat.zero_le _, by show k1 + CRaw.sizes ks ≤ _; omega, rfl⟩ (by repeat (first | exact trivial | refine ⟨⟨_, rfl, aRfl⟩, ?_⟩ | refine ⟨⟨_, rfl, AVle.of_eq (by rw [hpl])⟩, ?_⟩)) (by repeat (first | exact Sels.nil | (apply Sels.cons; · repeat (first | exact Sel.here | apply Sel.there)))) ?_
  rintro ⟨pre, kk, own⟩ ⟨hj, hkb, hI⟩ hok
  simp only at hj hkb hI hok ⊢
  obtain ⟨j, hjp⟩ : ∃ j, j = pre.length := ⟨_, rfl⟩
  rw [← hjp] at hj hkb hI hok ⊢
  repeat (first | (with_reducible first | apply CW.seq | apply aN) | refine wR rfl ?_)
  refine CW.cond rfl (fun hh => ?_) (fun hh => ?_)
  ·have hlt : j < ks.length := by simpa using hh
   obtain ⟨y, hy, hy'⟩ := elem_at (f := CRaw.av) hlt
   have hys := CRaw.mem_sizes (List.mem_of_getElem? hy)
   rw [sizes_drop hy] at hkb
   rw [drop_cons hy, markedsR] at hI
   simp only at hI
   have hcall := ih y kk (by omega) (by omega)
   have hmk := markedR_le y kk
   rw [av_cells3 y] at hy' hcall
   rw [av_cells3 (markedR y kk).1] at hcall
   obtain ⟨z, hz⟩ : ∃ z, z = (if (o == 15) = true then tagR (Cond.mark + 2 * k + j) (markedR y kk).1 else (markedR y kk).1) := ⟨_, rfl⟩
   rw [← hz] at hI
   generalize hq : markedR y kk = q at hcall hI hmk hz
   obtain ⟨y', k2⟩ := q
   try simp only at hcall hI hmk hz
   unfold nextL at hcall
   repeat (first | (with_reducible first | apply CW.seq | apply aN | apply CW.skip | apply CW.block) | refine CW.reg ?_ | refine wS rfl ?_ | refine RL.idx tO _ rfl rfl rfl rfl rfl rfl rfl rfl rfl rfl rfl (by assumption) rfl ?_)
   refine RL.allocL tO hok rfl rfl rfl rfl rfl rfl rfl (fun b8 hok => ?_)
   refine wS rfl ?_
   refine RL.storeL tO hok rfl rfl rfl rfl rfl rfl rfl rfl rfl (by repeat (first | exact Sel.here | apply Sel.there)) (by exact rfl) (fun hok => ?_)
   refine RL.freezeL hok 8 b8 rfl (by repeat (first | exact Sel.here | apply Sel.there)) fun hok => ?_
   repeat (first | (with_reducible first | apply CW.seq | apply aN) | refine CW.reg ?_ | refine RL.nil ?_ | refine wS rfl ?_)
   refine RL.callL rfl rfl rfl rfl rfl hcall hok (by repeat (first | exact Sels.nil | (apply Sels.cons; · repeat (first | exact Sel.here | apply Sel.there)))) ?_ (fun _ _ ⟨h, _⟩ _ => by cases h)
   rintro _ _ ⟨⟨⟩, rfl⟩ hok
   skip
   refine RL.allocL tO hok rfl rfl rfl rfl rfl rfl rfl (fun b9 hok => ?_)
   repeat (first | (with_reducible first | apply CW.seq | apply aN) | refine wR rfl ?_ | refine RL.nil ?_ | refine RL.storeL tO hok rfl rfl rfl rfl rfl rfl rfl rfl rfl (by repeat (first | exact Sel.here | apply Sel.there)) (by exact rfl) (fun hok => ?_))
   refine CW.atCutL (σ := Unit) (fun _ => [(1, .ptr nb 0), (2, .fptr [.int .i64 o, .int .i64 n, .slc 3 (ks.map CRaw.av) .fro] 0), (4, .ptr b4 0), (5, .ptr b5 0), (6, .int .i64 (k : Int)), (27, .slc 3 (ks.map CRaw.av) .fro), (28, .int .i64 ks.length), (29, .int .i64 (j : Int)), (9, .ptr b9 0)])
    (fun _ => [(.own b9, .box 36 [.int .i64 z.op, .int .i64 z.n, .slc 3 (z.kids.map CRaw.av) .fro]), (.own b5, .box 36 [.int .i64 o, .int .i64 n, .slc 3 (pre.map CRaw.av) own]), (own, .row 36 3 j), (.own b4, .box 36 [.int .i64 0, .int .i64 0, .slc 0 [] .nil]), (.own nb, .box 3 [.int .i64 (k2 : Int)])]) (fun _ => True) ?_ ?_
   ·refine CW.cond rfl (fun hg => ?_) (fun hg => ?_)
    ·rw [if_pos hg] at hz
     subst hz
     have hw1 : IntKind.wrap .i64 (2 * (k : Int)) = 2 * (k : Int) := i64_wrap (by omega) (by omega)
     have hw2 : IntKind.wrap .i64 (900000000 + 2 * (k : Int)) = Cond.mark + 2 * (k : Int) := by rw [i64_wrap (by omega) (by omega)]; rfl
     have hw3 : IntKind.wrap .i64 (Cond.mark + 2 * (k : Int) + (j : Int)) = Cond.mark + 2 * (k : Int) + (j : Int) := i64_wrap (by unfold Cond.mark; omega) (by unfold Cond.mark; omega)
     have hn := num_spec (Cond.mark + 2 * (k : Int) + (j : Int))
     have o1 := ofC_spec 4 0 [.mk 1 (Cond.mark + 2 * (k : Int) + (j : Int)) []]
     have o2 := ofC_spec 5 0 [.mk 4 0 [.mk 1 (Cond.mark + 2 * (k : Int) + (j : Int)) []], y']
     rw [List.map_cons, List.map_cons, av_cells3 y', av_cells3 (.mk 5 0 _)] at o2
     skip
     have hJ : JS [(b9, .box 36 [.int .i64 y'.op, .int .i64 y'.n, .slc 3 (y'.kids.map CRaw.av) .fro])] (sto s _) := JS.one (Sel.get (by repeat (first | exact Sel.here | apply Sel.there)) hok)
     refine CW.drwJ _ tO mixed rfl (RJ.run hJ rfl ?_)
     rw [hw1, hw2, hw3]
     refine RJ.calmPP (i := 5) hJ rfl rfl rfl rfl rfl rfl rfl hn ?_
     refine RJ.run hJ rfl ?_
     refine RJ.calmPP (i := 7) hJ rfl rfl rfl rfl rfl rfl rfl o1 ?_
     refine RJ.loadA 8 tO hJ rfl rfl rfl rfl rfl rfl rfl rfl (fun s h => h.1) (v := .agg [.int .i64 y'.op, .int .i64 y'.n, .slc 3 (y'.kids.map CRaw.av) .fro]) rfl ?_
     refine RJ.run hJ rfl ?_
     refine RJ.calmPP (i := 10) hJ rfl rfl rfl rfl rfl rfl rfl o2 ?_
     refine RJ.storeL 11 tO hok rfl rfl rfl rfl rfl rfl rfl rfl rfl rfl rfl (by repeat (first | exact Sel.here | apply Sel.there)) rfl (fun _ => .inr rfl) (fun hok => ?_)
     refine RD.done rfl ?_
     exact CutL.mk () hok trivial (wE rfl) (by repeat (first | exact Sels.nil | (apply Sels.cons; · repeat (first | exact Sel.here | apply Sel.there))))
    ·rw [if_neg (by rw [hg]; simp)] at hz
     subst hz
     repeat (first | with_reducible apply CW.skip)
     exact CutL.mk () hok trivial (wE rfl) (by repeat (first | exact Sels.nil | (apply Sels.cons; · repeat (first | exact Sel.here | apply Sel.there))))
   rintro - - hok
   repeat (first | refine CW.reg ?_ | refine wS rfl ?_ | refine RL.loadL tO hok rfl rfl rfl rfl rfl rfl (by repeat (first | exact Sel.here | apply Sel.there)) (by exact rfl) ?_)
   refine RL.append1L tO hok rfl rfl rfl rfl rfl rfl rfl (by intro k; simp) rfl rfl rfl rfl rfl rfl rfl rfl (by repeat (first | exact Sel.here | apply Sel.there)) (by simp <;> omega) (by show (_ + 1) * 40 ≤ _; omega) (by omega) (fun o2 hok => ?_)
   repeat (first | (with_reducible first | apply aN | apply iN) | refine wR rfl ?_ | refine RL.nil ?_ | refine wS rfl ?_ | refine RL.storeL tO hok rfl rfl rfl rfl rfl rfl rfl rfl rfl (by repeat (first | exact Sel.here | apply Sel.there)) (by exact rfl) (fun hok => ?_))
   have hm : pre.map CRaw.av ++ [.agg [.int .i64 z.op, .int .i64 z.n, .slc 3 (z.kids.map CRaw.av) .fro]] = (pre ++ [z]).map CRaw.av := by rw [List.map_append, ← av_cells3]; rfl
   have hl2 : (pre ++ [z]).length = j + 1 := by rw [List.length_append, ← hjp]; rfl
   exact NextL.mk (pre ++ [z], k2, .own o2) hok ⟨by rw [hl2]; exact hlt, by rw [hl2]; show k2 + _ ≤ _; omega, by rw [hl2, hI]; simp⟩ (by repeat (first | exact trivial | refine ⟨⟨_, rfl, aRfl⟩, ?_⟩ | refine ⟨⟨_, rfl, AVle.of_eq (by (first | (rw [hl2, i64_succ (by omega)]) | rw [hl2]))⟩, ?_⟩)) (by simp only [hl2, ← hm]; exact .cons .here (.cons .here (.cons (.there .here) (.cons (.there .here) .nil)))) (by show ks.length - (pre ++ [z]).length < ks.length - j; rw [hl2]; omega)
  ·have hge : j = ks.length := by
    have : ks.length ≤ j := by simpa using hh
    omega
   have hI' : markedsR (o == 15) k 0 ks k1 = (pre, kk) := by rw [hI, hge, List.drop_length, markedsR]; simp
   rw [hI']
   repeat (first | (with_reducible first | apply CW.seq | apply aN | apply aX | apply iH | apply CW.ret | apply CW.exit) | refine CW.reg ?_ | refine RL.nil ?_ | refine RL.loadL tO hok rfl rfl rfl rfl rfl rfl (by repeat (first | exact Sel.here | apply Sel.there)) (by exact rfl) ?_ | refine RL.storeL tO hok rfl rfl rfl rfl rfl rfl rfl rfl rfl (by repeat (first | exact Sel.here | apply Sel.there)) (by exact rfl) (fun hok => ?_))
   exact Fin.retL hok (resA_cell rfl rfl (Sel.get Sel.here hok) rfl) (AVle.agg (.cons aRfl (.cons aRfl (.one AVle.fro)))) (by repeat (first | exact Sels.nil | (apply Sels.cons; · repeat (first | exact Sel.here | apply Sel.there)))) ⟨rfl, rfl⟩
end Go.Proofs.Ytdeiinhccdlfiaa

/- Chapter 19: the law of guards. -/
namespace Go.Proofs.Ytdeiinhccdlfiaa
open Go.AE Go.Cond

theorem dropC_get {v : AV} {cells : List AV} : ∀ {off : Nat}, cells[off]? = some v → ∃ r, dropC off cells = some (v :: r) := by
 induction cells with
 | nil => intro off h; simp at h
 | cons c r ih =>
  intro off h
  cases off with
  | zero => cases h; exact ⟨r, rfl⟩
  | succ off =>
   rw [List.getElem?_cons_succ] at h
   exact ih h
theorem loadC_int {i : TI} {kk : IntKind} {cells : List AV} {off : Nat} {v : AV} (hi : i.td = .int kk) (h : cells[off]? = some v) : loadC i cells off = some v := by
 obtain ⟨r, hr⟩ := dropC_get h
 unfold loadC
 rw [hr]
 simp [hi]
def markedLR : List CRaw → Nat → List CRaw × Nat
 | [], k => ([], k)
 | x :: r, k => ((markedR x k).1 :: (markedLR r (markedR x k).2).1, (markedLR r (markedR x k).2).2)
theorem markedL_raw : ∀ (P : List CExp) (k : Nat), markedLR (P.map rawE) k = ((markedL P k).1.map rawE, (markedL P k).2)
 | [], k => rfl
 | x :: r, k => by rw [List.map_cons, markedLR, marked_raw, markedL_raw r]; rfl
theorem markedL_bound : ∀ (P : List CExp) (k : Nat), (markedL P k).2 ≤ k + sizesE P
  | [], k => Nat.le_refl _
  | x :: r, k => by
    have h1 := markedR_le (rawE x) k
    rw [marked_raw, size_raw] at h1
    have h2 := markedL_bound r (marked x k).2
    show (markedL r (marked x k).2).2 ≤ k + sizesE (x :: r)
    rw [sizesE]
    simp only at h1
    omega
theorem look_none (N : Nat) : ∀ l : List Ev, l.foldl (Cond.look N) none = none
 | [] => rfl
 | e :: r => by rw [List.foldl_cons]; exact look_none N r
theorem looks_next {N : Nat} {l : List Ev} {σf : List Nat} (h : Cond.looks N l = some σf) {j : Nat} {x : Ev} (hx : l[j]? = some x) {σ : List Nat} (hj : Cond.looks N (l.take j) = some σ) : ∃ σ', Cond.look N (some σ) x = some σ' ∧ Cond.looks N (l.take (j + 1)) = some σ' := by
 have h1 : Cond.looks N (l.take (j + 1)) = Cond.look N (some σ) x := by
  unfold Cond.looks at hj ⊢
  rw [List.take_add_one, hx, List.foldl_append, hj]; rfl
 cases h2 : Cond.look N (some σ) x with
 | some σ' => exact ⟨σ', rfl, h1.trans h2⟩
 | none =>
  rw [h2] at h1
  have : Cond.looks N l = none := by
   unfold Cond.looks at h1 ⊢
   rw [← List.take_append_drop (j + 1) l, List.foldl_append, h1, look_none]
  rw [this] at h; cases h
def stI (σ : List Nat) : List Int := σ.reverse.map fun (n : Nat) => (n : Int)
theorem stI_len (σ : List Nat) : (stI σ).length = σ.length := by simp [stI]
theorem stI_cons (k : Nat) (σ : List Nat) : stI (k :: σ) = stI σ ++ [(k : Int)] := by simp [stI]
set_option maxRecDepth 10000 in
theorem guards1_spec (x : Ev) : PCallV Try.prog (.func 21 [] []) [evA x] (.bool (decide (x.val ≥ Cond.mark))) := by
 refine PCallV.of_calls (first := []) (cap := []) ?_
 rw [evA_eq]
 refine PCalls.of_CW tO call21 Try.func21 rfl rfl fun s hok => ?_
 repeat (first | (with_reducible first | apply CW.seq | apply aN | apply CW.ret) | refine wR rfl ?_)
 exact Fin.retP hok rfl aRfl
theorem RowC.len {σ : List Nat} {b cap : Nat} {cs : List AV} (h : RowC (stI σ) (some (b, cap, cs))) : cs.length = cap ∧ σ.length ≤ cap ∧ cs.take σ.length = (stI σ).map intA := by
 obtain ⟨h1, h2, h3⟩ := h
 rw [stI_len] at h2 h3
 exact ⟨h1, h2, h3⟩
theorem marked_size : ∀ (x : CExp) (k : Nat), (marked x k).1.size ≤ 7 * x.size
 | .int n, k => by simp [marked, CExp.size]
 | .hand, k => by simp [marked, CExp.size]
 | .add a b, k => by have := marked_size a k; have := marked_size b (marked a k).2; simp only [marked, CExp.size]; omega
 | .say a, k => by have := marked_size a k; simp only [marked, CExp.size]; omega
 | .seq a b, k => by have := marked_size a k; have := marked_size b (marked a k).2; simp only [marked, CExp.size]; omega
 | .test a b c, k => by have := marked_size a k; have := marked_size b (marked a k).2; have := marked_size c (marked b (marked a k).2).2; simp only [marked, CExp.size]; omega
 | .call n a, k => by have := marked_size a k; simp only [marked, CExp.size]; omega
 | .handle n a b, k => by have := marked_size a k; have := marked_size b (marked a k).2; simp only [marked, CExp.size]; omega
 | .signal n a, k => by have := marked_size a k; simp only [marked, CExp.size]; omega
 | .fails n a, k => by have := marked_size a k; simp only [marked, CExp.size]; omega
 | .restart n a b, k => by have := marked_size a k; have := marked_size b (marked a k).2; simp only [marked, CExp.size]; omega
 | .again n a, k => by have := marked_size a k; simp only [marked, CExp.size]; omega
 | .choose n a, k => by have := marked_size a k; simp only [marked, CExp.size]; omega
 | .find n, k => by simp [marked, CExp.size]
 | .guard a b, k => by have := marked_size a (k + 1); have := marked_size b (marked a (k + 1)).2; simp only [marked, tag, CExp.size]; omega
theorem markedL_size : ∀ (P : List CExp) (k : Nat), sizesE (markedL P k).1 ≤ 7 * sizesE P
  | [], k => Nat.le_refl _
  | x :: r, k => by
    have h1 := marked_size x k
    have h2 := markedL_size r (marked x k).2
    show sizesE ((marked x k).1 :: (markedL r (marked x k).2).1) ≤ _
    rw [sizesE, sizesE]
    omega
theorem askedB_of {p q : List CRaw} {hand : Int} {picks : List Int} {fuel : Int} (h : askedB p hand picks fuel = true) (hq : goodP q = true) : askedB q hand picks fuel = true := by
 unfold askedB at h ⊢
 simp only [Bool.and_eq_true] at h ⊢
 exact ⟨⟨⟨⟨hq, h.1.1.1.2⟩, h.1.1.2⟩, h.1.2⟩, h.2⟩
theorem Asked.hand {P : List CExp} {hand : Int} {picks : List Int} {f : Nat} (h : Asked P hand picks f) : InR hand := by
 have := h.yes
 unfold askedB inB at this
 simp only [Bool.and_eq_true, decide_eq_true_eq] at this
 have := this.1.1.1.2
 exact ⟨by omega, by omega⟩
set_option maxRecDepth 10000 in
set_option maxHeartbeats 2000000 in
theorem condGuards_spec (g : Giv) (hg : g.weight ≤ 1048576) : PCalls Try.prog 4 [.agg g.cells] (.bool true) := by
 have hb : big = 1099511627776 := rfl
 obtain ⟨p, hand, picks, fuel⟩ := g
 unfold Giv.weight at hg
 simp only at hg
 have h1 := refGood_spec p (by omega)
 cases hgo : goodP p with
 | false =>
  rw [hgo] at h1
  simp only [Giv.cells]
  refine PCalls.of_CW tO call4 Try.func4 rfl rfl fun s hok => ?_
  repeat (first | (with_reducible first | apply CW.seq | apply aN) | refine wR rfl ?_ | refine CW.reg ?_ | refine wS rfl ?_)
  refine RL.callPP rfl rfl rfl rfl rfl h1 ?_
  repeat (first | (with_reducible first | apply CW.seq | apply aN) | refine CW.reg ?_ | refine RL.nil ?_ | refine CW.condT rfl ?_ | refine wS rfl ?_)
  refine RL.callPP rfl rfl rfl rfl rfl known_true ?_
  repeat (first | (with_reducible first | apply aN | apply aR | apply CW.ret) | refine RL.nil ?_ | refine wS rfl ?_)
  exact Fin.retP hok rfl aRfl
 | true =>
  rw [hgo] at h1
  obtain ⟨P, rfl, ft⟩ := good_fit hgo
  have hsz := ft.sizes
  have hsix := ft.six
  obtain ⟨Q, hQ⟩ : ∃ Q, Q = (markedL P 0).1 := ⟨_, rfl⟩
  obtain ⟨N, hN⟩ : ∃ N, N = (markedL P 0).2 := ⟨_, rfl⟩
  have hmr := markedL_raw P 0
  rw [← hQ, ← hN] at hmr
  have hmb := markedL_bound P 0
  rw [← hN] at hmb
  have hQs := markedL_size P 0
  rw [← hQ] at hQs
  have hd1 := driveT_spec (Q.map rawE) (by rw [sizes_raw]; omega) hand picks (by omega) fuel
  have hd2 := driveT_spec (P.map rawE) (by omega) hand picks (by omega) fuel
  have hpl : (((P.map rawE).map CRaw.av).length : Int) = (P.map rawE).length := by simp
  have hraw := sizes_raw P
  simp only [Giv.cells]
  simp only [intsA, runA, runCells] at hd1 hd2 ⊢
  refine PCalls.of_CW tO call4 Try.func4 rfl rfl fun s hok => ?_
  repeat (first | (with_reducible first | apply CW.seq | apply aN) | refine wR rfl ?_ | refine CW.reg ?_ | refine wS rfl ?_)
  refine RL.callPP rfl rfl rfl rfl rfl h1 ?_
  repeat (first | (with_reducible first | apply CW.seq | apply aN | apply CW.skip) | refine CW.reg ?_ | refine RL.nil ?_ | refine CW.condF rfl ?_ | refine wS rfl ?_)
  refine RL.allocL tO hok rfl rfl rfl rfl rfl rfl rfl (fun b3 hok => ?_)
  repeat (first | (with_reducible first | apply CW.seq | apply aN | apply CW.block) | refine wR rfl ?_ | refine RL.nil ?_ | refine RL.storeL tO hok rfl rfl rfl rfl rfl rfl rfl rfl rfl (by repeat (first | exact Sel.here | apply Sel.there)) (by exact rfl) (fun hok => ?_))
  obtain ⟨p, hp⟩ : ∃ p, p = P.map rawE := ⟨_, rfl⟩
  rw [← hp] at hpl hraw hmr hd2 ⊢
  have hplen := CRaw.length_sizes p
  refine CW.phantom hok 36 3 0 fun hok => ?_
  refine CW.loopL hok (σ := List CRaw × Nat × Own) (fun q => [(1, .fptr [.slc 3 (p.map CRaw.av) .fro, .int .i64 hand, .slc 1 (picks.map intA) .fro, .int .i64 fuel] 0), (3, .ptr b3 0), (4, .slc 3 (q.1.map CRaw.av) q.2.2), (21, .slc 3 (p.map CRaw.av) .fro), (22, .int .i64 p.length), (23, .int .i64 (q.1.length : Int))])
   (fun q => [(q.2.2, .row 36 3 q.1.length), (.own b3, .box 3 [.int .i64 (q.2.1 : Int)])])
   (fun q => q.1.length ≤ p.length ∧ q.2.1 + CRaw.sizes (p.drop q.1.length) ≤ CRaw.sizes p ∧ markedLR p 0 = (q.1 ++ (markedLR (p.drop q.1.length) q.2.1).1, (markedLR (p.drop q.1.length) q.2.1).2))
   (fun q => p.length - q.1.length) ([], 0, .nil) ⟨Nat.zero_le _, by show 0 + CRaw.sizes p ≤ _; omega, rfl⟩ ⟨⟨_, rfl, aRfl⟩, ⟨_, rfl, aRfl⟩, ⟨_, rfl, AVle.nil (by intro b h; cases h)⟩, ⟨_, rfl, aRfl⟩, ⟨_, rfl, by rw [hpl]; exact aRfl⟩, ⟨_, rfl, aRfl⟩, trivial⟩ (by repeat (first | exact Sels.nil | (apply Sels.cons; · repeat (first | exact Sel.here | apply Sel.there)))) ?_
  rintro ⟨pre, kk, own⟩ ⟨hj, hkb, hI⟩ hok
  simp only at hj hkb hI hok ⊢
  obtain ⟨j, hjp⟩ : ∃ j, j = pre.length := ⟨_, rfl⟩
  rw [← hjp] at hj hkb hI hok ⊢
  repeat (first | (with_reducible first | apply CW.seq | apply aN) | refine wR rfl ?_)
  refine CW.cond rfl (fun hh => ?_) (fun hh => ?_)
  ·have hlt : j < p.length := by simpa using hh
   obtain ⟨y, hy, hy'⟩ := elem_at (f := CRaw.av) hlt
   have hys := CRaw.mem_sizes (List.mem_of_getElem? hy)
   rw [sizes_drop hy] at hkb
   rw [drop_cons hy, markedLR] at hI
   simp only at hI
   have hcall := marked_spec b3 _ y kk (Nat.le_refl _) (by omega)
   have hmk := markedR_le y kk
   rw [av_cells3 y] at hy' hcall
   rw [av_cells3 (markedR y kk).1] at hcall
   generalize hq : markedR y kk = q at hcall hI hmk
   obtain ⟨y', k2⟩ := q
   simp only at hcall hI hmk
   unfold nextL at hcall
   repeat (first | (with_reducible first | apply CW.seq | apply aN | apply CW.skip | apply CW.block) | refine CW.reg ?_ | refine wS rfl ?_ | refine RL.idx tO _ rfl rfl rfl rfl rfl rfl rfl rfl rfl rfl rfl (by assumption) rfl ?_)
   refine RL.newBox tO rfl rfl rfl rfl rfl rfl rfl (fun _ => rfl) rfl rfl (fun _ => rfl) rfl rfl rfl rfl ?_
   repeat (first | with_reducible apply aN | refine CW.reg ?_ | refine RL.nil ?_ | refine wS rfl ?_)
   refine RL.callL rfl rfl rfl rfl rfl hcall hok (by repeat (first | exact Sels.nil | (apply Sels.cons; · repeat (first | exact Sel.here | apply Sel.there)))) ?_ (fun _ _ ⟨h, _⟩ _ => by cases h)
   rintro _ _ ⟨⟨⟩, rfl⟩ hok
   repeat (first | refine wS rfl ?_)
   refine RL.append1L tO hok rfl rfl rfl rfl rfl rfl rfl (by intro k; simp) rfl rfl rfl rfl rfl rfl rfl rfl (by repeat (first | exact Sel.here | apply Sel.there)) (by simp <;> omega) (by show (_ + 1) * 40 ≤ _; omega) (by omega) (fun o2 hok => ?_)
   repeat (first | (with_reducible first | apply aN | apply iN) | refine wR rfl ?_ | refine RL.nil ?_ | refine wS rfl ?_)
   have hm : pre.map CRaw.av ++ [.agg [.int .i64 y'.op, .int .i64 y'.n, .slc 3 (y'.kids.map CRaw.av) .fro]] = (pre ++ [y']).map CRaw.av := by rw [List.map_append, ← av_cells3]; rfl
   have hl2 : (pre ++ [y']).length = j + 1 := by rw [List.length_append, ← hjp]; rfl
   exact NextL.mk (pre ++ [y'], k2, .own o2) hok ⟨by rw [hl2]; exact hlt, by rw [hl2]; show k2 + _ ≤ _; omega, by rw [hl2, hI]; simp⟩ (by repeat (first | exact trivial | refine ⟨⟨_, rfl, aRfl⟩, ?_⟩ | refine ⟨⟨_, rfl, AVle.of_eq (by (first | (rw [hl2, i64_succ (by omega)]) | rw [hl2] | exact congrArg (fun l => AV.slc 3 l (Own.own o2)) hm | exact congrArg (fun l => AV.slc 3 l (Own.own o2)) hm.symm))⟩, ?_⟩)) (by simp only [hl2]; exact .cons .here (.cons .here .nil)) (by show p.length - (pre ++ [y']).length < p.length - j; rw [hl2]; omega)
  have hge : j = p.length := by
   have : p.length ≤ j := by simpa using hh
   omega
  have hI' : markedLR p 0 = (pre, kk) := by rw [hI, hge, List.drop_length, markedLR]; simp
  rw [hmr] at hI'
  obtain ⟨e1, e2⟩ := Prod.mk.inj hI'
  subst e1
  subst e2
  have hd1' := PCalls.args (.cons (AVle.fro (own := own)) (.cons aRfl (.cons aRfl (.one aRfl)))) hd1
  repeat (first | (with_reducible first | apply CW.seq | apply aN | apply aX | apply iH | apply CW.exit) | refine CW.reg ?_ | refine wS rfl ?_)
  refine RL.callPP rfl rfl rfl rfl rfl hd1' ?_
  repeat (first | refine wS rfl ?_)
  refine RL.newBox tO rfl rfl rfl rfl rfl rfl rfl (fun _ => rfl) rfl rfl (fun _ => rfl) rfl rfl rfl rfl ?_
  cases ha : askedB (Q.map rawE) hand picks fuel with
  | false =>
   rw [driveT_bad ha]
   repeat (first | (with_reducible first | apply CW.seq | apply aN) | refine wR rfl ?_ | refine CW.reg ?_ | refine RL.nil ?_ | refine CW.condT rfl ?_ | refine wS rfl ?_)
   refine RL.callPP rfl rfl rfl rfl rfl known_true ?_
   repeat (first | (with_reducible first | apply aN | apply aR | apply CW.ret) | refine RL.nil ?_ | refine wS rfl ?_)
   exact Fin.retP hok rfl aRfl
  | true =>
   obtain ⟨Q', f, q1, rfl, A⟩ := asked_of ha
   obtain rfl := raws_inj q1
   obtain ⟨P', f', q2, q3, B⟩ := asked_of (askedB_of ha hgo)
   obtain rfl := raws_inj q2
   obtain rfl : f = f' := by omega
   rw [A.drive]
   rw [hp, B.drive] at hd2
   have hlaw := drive_guards P hand picks f
   rw [← hQ, ← hN] at hlaw
   have hfa := A.fair
   have hfb := B.fair
   have hva := drive_vals A.fit.ok A.fit.one hand A.hand picks f
   have hany := hasEv_spec (drive P hand picks f).evs (by omega) (.func 21 [] []) (fun x => decide (x.val ≥ Cond.mark)) fun x _ => guards1_spec x
   generalize drive Q hand picks f = a at hlaw hfa hva ⊢
   generalize drive P hand picks f = b at hd2 hlaw hfb hany
   rw [← hp] at hd2
   repeat (first | (with_reducible first | apply CW.seq | apply aN | apply CW.skip) | refine wR rfl ?_ | refine CW.reg ?_ | refine RL.nil ?_ | refine CW.condF rfl ?_ | refine wS rfl ?_)
   refine RL.callPP rfl rfl rfl rfl rfl hd2 ?_
   repeat (first | refine wS rfl ?_)
   refine RL.newBox tO rfl rfl rfl rfl rfl rfl rfl (fun _ => rfl) rfl rfl (fun _ => rfl) rfl rfl rfl rfl ?_
   repeat (first | (with_reducible first | apply CW.seq | apply aN) | refine CW.reg ?_ | refine RL.nil ?_ | refine wS rfl ?_)
   refine RL.callPP rfl rfl rfl rfl rfl hany ?_
   cases hm : b.evs.any (fun x => decide (x.val ≥ Cond.mark)) with
   | true =>
    repeat (first | (with_reducible first | apply CW.seq | apply aN) | refine CW.reg ?_ | refine RL.nil ?_ | refine CW.condT rfl ?_ | refine wS rfl ?_)
    refine RL.callPP rfl rfl rfl rfl rfl known_true ?_
    repeat (first | (with_reducible first | apply aN | apply aR | apply CW.ret) | refine RL.nil ?_ | refine wS rfl ?_)
    exact Fin.retP hok rfl aRfl
   | false =>
    obtain ⟨σf, hlook, hfin⟩ := hlaw fun e he => by
     rw [List.any_eq_false] at hm
     have := hm e he
     simp only [decide_eq_true_eq] at this
     omega
    have hpe : ((a.evs.map evA).length : Int) = a.evs.length := by simp
    repeat (first | (with_reducible first | apply CW.seq | apply aN | apply CW.skip | apply CW.block) | refine wR rfl ?_ | refine RL.nil ?_ | refine CW.condF rfl ?_ | refine wS rfl ?_)
    refine CW.loopL hok (σ := Nat × List Nat × Row) (fun q => [(3, .ptr b3 0), (7, .fptr [.int .i64 a.fin, .int .i64 a.val, .slc 5 (a.evs.map evA) .fro, .int .i64 (a.fuel : Int)] 0), (10, rowAV q.2.1.length q.2.2), (76, .slc 5 (a.evs.map evA) .fro), (77, .int .i64 a.evs.length), (78, .int .i64 (q.1 : Int))])
     (fun q => (.own b3, .box 3 [.int .i64 (N : Int)]) :: rowLS q.2.2) (fun q => q.1 ≤ a.evs.length ∧ Cond.looks N (a.evs.take q.1) = some q.2.1 ∧ RowC (stI q.2.1) q.2.2 ∧ q.2.1.length ≤ q.1) (fun q => a.evs.length - q.1) (0, [], none) ⟨Nat.zero_le _, rfl, rfl, Nat.le_refl _⟩ (by repeat (first | exact trivial | refine ⟨⟨_, rfl, aRfl⟩, ?_⟩ | refine ⟨⟨_, rfl, AVle.of_eq (by rw [hpe])⟩, ?_⟩)) (by repeat (first | exact Sels.nil | (apply Sels.cons; · repeat (first | exact Sel.here | apply Sel.there)))) ?_
    rintro ⟨j, σ, row⟩ ⟨hj, hlk, hrow, hsl⟩ hok
    simp only at hj hlk hrow hsl hok ⊢
    repeat (first | (with_reducible first | apply CW.seq | apply aN) | refine wR rfl ?_)
    refine CW.cond rfl (fun hlt => ?_) (fun hge => ?_)
    ·have hlt : j < a.evs.length := by simpa using hlt
     obtain ⟨x, hx, hx'⟩ := elem_at (f := evA) hlt
     obtain ⟨v1, v2⟩ := hva x (List.mem_of_getElem? hx)
     obtain ⟨σ', hstep, hlk'⟩ := looks_next hlook hx hlk
     unfold Cond.look at hstep
     simp only at hstep
     obtain ⟨n, hn⟩ : ∃ n, n = x.val - Cond.mark := ⟨_, rfl⟩
     rw [← hn] at hstep
     have hmk : Cond.mark = 900000000 := rfl
     have hwn : IntKind.wrap .i64 (x.val - 900000000) = n := by rw [i64_wrap (by omega) (by omega)]; omega
     have hw2 : IntKind.wrap .i64 (2 * (N : Int)) = 2 * (N : Int) := i64_wrap (by omega) (by omega)
     rw [evA_eq] at hx'
     unfold evCells at hx'
     simp only [intsA] at hx'
     repeat (first | (with_reducible first | apply CW.seq | apply aN | apply CW.skip | apply CW.block) | refine CW.reg ?_ | refine wS rfl ?_ | refine RL.idx tO _ rfl rfl rfl rfl rfl rfl rfl rfl rfl rfl rfl (by assumption) rfl ?_)
     refine RL.newBox tO rfl rfl rfl rfl rfl rfl rfl (fun _ => rfl) rfl rfl (fun _ => rfl) rfl rfl rfl rfl ?_
     repeat (first | (with_reducible first | apply CW.seq | apply aN) | refine wR rfl ?_ | refine CW.reg ?_ | refine RL.nil ?_ | refine wS rfl ?_)
     rw [hwn]
     by_cases d1 : x.deed = 1
     rotate_left
     ·rw [if_pos (.inl d1)] at hstep
      cases hstep
      refine RL.knowT 88 rfl (by simpa using d1) ?_
      repeat (first | (with_reducible first | apply aN | apply aX | apply iH | apply CW.exit) | refine wR rfl ?_ | refine RL.nil ?_ | refine CW.condT rfl ?_ | refine wS rfl ?_ | refine RL.skip rfl rfl rfl ?_)
      exact NextL.mk (j + 1, σ, row) hok ⟨hlt, hlk', hrow, by simp only; omega⟩ (by repeat (first | exact trivial | refine ⟨⟨_, rfl, aRfl⟩, ?_⟩ | refine ⟨⟨_, rfl, AVle.of_eq (by (rw [i64_succ (by omega)]))⟩, ?_⟩)) (Sels.all _) (by show a.evs.length - (j + 1) < a.evs.length - j; omega)
     refine RL.knowF 88 rfl (by simpa using d1) ?_
     repeat (first | refine wS rfl ?_)
     by_cases d2 : n < 0
     ·rw [if_pos (.inr (.inl d2))] at hstep
      cases hstep
      refine RL.knowT 92 rfl (by simpa using d2) ?_
      repeat (first | (with_reducible first | apply aN | apply aX | apply iH | apply CW.exit) | refine wR rfl ?_ | refine RL.nil ?_ | refine CW.condT rfl ?_ | refine wS rfl ?_ | refine RL.skip rfl rfl rfl ?_)
      exact NextL.mk (j + 1, σ, row) hok ⟨hlt, hlk', hrow, by simp only; omega⟩ (by repeat (first | exact trivial | refine ⟨⟨_, rfl, aRfl⟩, ?_⟩ | refine ⟨⟨_, rfl, AVle.of_eq (by (rw [i64_succ (by omega)]))⟩, ?_⟩)) (Sels.all _) (by show a.evs.length - (j + 1) < a.evs.length - j; omega)
     refine RL.knowF 92 rfl (by simpa using d2) ?_
     repeat (first | with_reducible apply aN | refine RL.nil ?_ | refine wS rfl ?_ | refine RL.loadL tO hok rfl rfl rfl rfl rfl rfl (by repeat (first | exact Sel.here | apply Sel.there)) (by exact rfl) ?_)
     refine CW.cond rfl (fun hh => ?_) (fun hh => ?_)
     ·rw [hw2] at hh
      rw [if_pos (.inr (.inr (of_decide_eq_true hh)))] at hstep
      cases hstep
      repeat (first | (with_reducible first | apply aN | apply aX | apply iH | apply CW.exit) | refine wR rfl ?_)
      exact NextL.mk (j + 1, σ, row) hok ⟨hlt, hlk', hrow, by simp only; omega⟩ (by repeat (first | exact trivial | refine ⟨⟨_, rfl, aRfl⟩, ?_⟩ | refine ⟨⟨_, rfl, AVle.of_eq (by (rw [i64_succ (by omega)]))⟩, ?_⟩)) (Sels.all _) (by show a.evs.length - (j + 1) < a.evs.length - j; omega)
     rw [hw2] at hh
     have d3 : ¬ n ≥ 2 * (N : Int) := of_decide_eq_false hh
     rw [if_neg (by omega)] at hstep
     have hrem : n.tmod (Int.ofNat (1 + 1)) = n % 2 := by
      show n.tmod 2 = n % 2
      rw [Int.tmod_eq_emod_of_nonneg (by omega)]
     have hquo : IntKind.wrap .i64 (n.tdiv (Int.ofNat (1 + 1))) = (((n / 2).toNat : Nat) : Int) := by
      have : n.tdiv (Int.ofNat (1 + 1)) = n / 2 := by
       show n.tdiv 2 = n / 2
       rw [Int.tdiv_eq_ediv_of_nonneg (by omega)]
      rw [this, i64_wrap (by omega) (by omega)]; omega
     repeat (first | (with_reducible first | apply CW.seq | apply aN | apply CW.skip) | refine CW.reg ?_ | refine RL.nil ?_ | refine wS rfl ?_ | refine RL.stepX tO rfl rfl rfl rfl ?_)
     refine CW.cond rfl (fun hr => ?_) (fun hr => ?_)
     ·have hr0 : n % 2 = 0 := by rw [hrem] at hr; simpa using hr
      rw [if_pos hr0] at hstep
      cases hstep
      cases row with
      | none =>
       have hσ : σ = [] := by
        have : stI σ = [] := hrow
        have := congrArg List.length this
        rw [stI_len] at this
        exact List.length_eq_zero_iff.1 this
       subst hσ
       simp only [rowAV, rowLS, List.length_nil] at hok ⊢
       repeat (first | with_reducible apply CW.seq | refine CW.reg ?_ | refine wS rfl ?_ | refine RL.stepX tO rfl rfl rfl rfl ?_)
       rw [hquo]
       refine RL.append0C tO hok rfl rfl rfl rfl rfl rfl rfl (by intro k; simp) rfl rfl rfl rfl rfl rfl rfl (by decide) (fun b' cap' cs' c1 c2 c3 hok => ?_)
       repeat (first | (with_reducible first | apply aN | apply aX | apply iH | apply CW.exit) | refine wR rfl ?_ | refine RL.nil ?_ | refine wS rfl ?_)
       exact NextL.mk (j + 1, [(n / 2).toNat], some (b', cap', cs')) hok ⟨hlt, hlk', ⟨c1, c2, c3⟩, by simp only [List.length_cons, List.length_nil]; omega⟩ (by repeat (first | exact trivial | refine ⟨⟨_, rfl, aRfl⟩, ?_⟩ | refine ⟨⟨_, rfl, AVle.of_eq (by (rw [i64_succ (by omega)]))⟩, ?_⟩)) (.cons (.there .here) (.cons .here .nil)) (by show a.evs.length - (j + 1) < a.evs.length - j; omega)
      | some q =>
       obtain ⟨rb, cap, cs⟩ := q
       obtain ⟨k1, k2, k3⟩ := RowC.len hrow
       simp only [rowAV, rowLS] at hok ⊢
       repeat (first | with_reducible apply CW.seq | refine CW.reg ?_ | refine wS rfl ?_ | refine RL.stepX tO rfl rfl rfl rfl ?_)
       rw [hquo]
       refine RL.appendC tO hok rfl rfl rfl rfl rfl rfl rfl (by intro k; simp) rfl rfl rfl rfl (by repeat (first | exact Sel.here | apply Sel.there)) k1 k2 (by rw [k3]; exact ints_one _) rfl rfl rfl (by show (_ + 1) * 8 ≤ _; omega) (by omega) (fun b' cap' cs' c1 c2 c3 hok => ?_)
       repeat (first | (with_reducible first | apply aN | apply aX | apply iH | apply CW.exit) | refine wR rfl ?_ | refine RL.nil ?_ | refine wS rfl ?_)
       exact NextL.mk (j + 1, (n / 2).toNat :: σ, some (b', cap', cs')) hok ⟨hlt, hlk', ⟨c1, by rw [stI_len]; exact c2, by rw [stI_len, stI_cons, List.map_append, ← k3]; exact c3⟩, by simp only [List.length_cons]; omega⟩ (by repeat (first | exact trivial | refine ⟨⟨_, rfl, aRfl⟩, ?_⟩ | refine ⟨⟨_, rfl, AVle.of_eq (by (rw [i64_succ (by omega)]))⟩, ?_⟩)) (.cons (.there .here) (.cons .here .nil)) (by show a.evs.length - (j + 1) < a.evs.length - j; omega)
     ·have hr0 : ¬ n % 2 = 0 := by rw [hrem] at hr; simpa using hr
      rw [if_neg hr0] at hstep
      cases σ with
      | nil => cases hstep
      | cons k σ2 =>
       simp only at hstep
       by_cases hkn : (k : Int) = n / 2
       rotate_left
       ·rw [if_neg hkn] at hstep; cases hstep
       rw [if_pos hkn] at hstep
       obtain rfl := Option.some.inj hstep
       rw [List.length_cons] at hsl
       cases row with
       | none =>
        have : stI (k :: σ2) = [] := hrow
        have := congrArg List.length this
        rw [stI_len] at this
        simp at this
       | some q =>
        obtain ⟨rb, cap, cs⟩ := q
        obtain ⟨k1, k2, k3⟩ := RowC.len hrow
        rw [List.length_cons] at k2 k3
        rw [stI_cons, List.map_append] at k3
        have e5 : ((stI σ2).map intA).length = σ2.length := by rw [List.length_map, stI_len]
        have k4 : cs.take σ2.length = (stI σ2).map intA := by
         have h := congrArg (List.take σ2.length) k3
         rw [List.take_take, Nat.min_eq_left (by omega)] at h
         rw [h, ← e5, List.take_left]
        have k5 : cs[σ2.length]? = some (.int .i64 (k : Int)) := by
         have h := congrArg (fun l => l[σ2.length]?) k3
         have h : (cs.take (σ2.length + 1))[σ2.length]? = ((stI σ2).map intA ++ [intA (k : Int)])[σ2.length]? := h
         rw [List.getElem?_take_of_lt (by omega), List.getElem?_append_right (by rw [e5]; exact Nat.le_refl _), e5, Nat.sub_self] at h
         exact h
        have hw3 : IntKind.wrap .i64 (((σ2.length + 1 : Nat) : Int) - 1) = (σ2.length : Int) := by rw [i64_wrap (by omega) (by omega)]; omega
        simp only [rowAV, rowLS, List.length_cons] at hok ⊢
        repeat (first | (with_reducible first | apply CW.seq | apply aN | apply CW.skip) | refine CW.reg ?_ | refine wS rfl ?_)
        refine RL.lenC tO rfl rfl rfl rfl rfl rfl rfl ?_
        repeat (first | (with_reducible first | apply CW.seq | apply aN) | refine CW.reg ?_ | refine RL.nil ?_ | refine wS rfl ?_)
        rw [hw3]
        refine RL.knowF 111 rfl (decide_eq_false (by omega)) ?_
        repeat (first | refine wS rfl ?_)
        refine RL.idxC tO σ2.length rfl rfl rfl rfl rfl rfl rfl rfl rfl rfl (Nat.lt_succ_self _) ?_
        refine RL.loadL tO hok rfl rfl rfl rfl rfl rfl (by repeat (first | exact Sel.here | apply Sel.there)) (v := .int .i64 (k : Int)) (by show loadC _ cs (σ2.length * 1) = _; rw [Nat.mul_one]; exact loadC_int rfl k5) ?_
        repeat (first | with_reducible apply aN | refine RL.nil ?_ | refine wS rfl ?_ | refine RL.stepX tO rfl rfl rfl rfl ?_)
        refine CW.cond rfl (fun hq => ?_) (fun hq => ?_)
        ·exfalso
         rw [hquo] at hq
         have : (k : Int) ≠ (((n / 2).toNat : Nat) : Int) := by simpa using hq
         omega
        ·repeat (first | (with_reducible first | apply aN | apply CW.skip) | refine CW.reg ?_ | refine wS rfl ?_)
         refine RL.sliceC tO σ2.length rfl rfl rfl rfl rfl rfl rfl rfl rfl (by omega) ?_
         repeat (first | (with_reducible first | apply aN | apply iN) | refine wR rfl ?_ | refine RL.nil ?_ | refine wS rfl ?_)
         exact NextL.mk (j + 1, σ2, some (rb, cap, cs)) hok ⟨hlt, hlk', ⟨k1, by rw [stI_len]; show σ2.length ≤ cap; omega, by rw [stI_len]; exact k4⟩, by simp only; omega⟩ (by repeat (first | exact trivial | refine ⟨⟨_, rfl, aRfl⟩, ?_⟩ | refine ⟨⟨_, rfl, AVle.of_eq (by (rw [i64_succ (by omega)]))⟩, ?_⟩)) (Sels.all _) (by show a.evs.length - (j + 1) < a.evs.length - j; omega)
    ·have hge : j = a.evs.length := by
      have : a.evs.length ≤ j := by simpa using hge
      omega
     subst hge
     rw [List.take_length, hlook] at hlk
     cases hlk
     cases row with
     | none =>
      simp only [rowAV, rowLS] at hok ⊢
      repeat (first | (with_reducible first | apply CW.seq | apply aN | apply aX | apply iH | apply CW.exit) | refine CW.reg ?_ | refine wS rfl ?_ | refine RL.skip rfl rfl rfl ?_)
      refine RL.callPP rfl rfl rfl rfl rfl known_true ?_
      repeat (first | (with_reducible first | apply aN | apply CW.ret) | refine RL.nil ?_ | refine wS rfl ?_)
      exact Fin.retP (s := s) hok rfl aRfl
     | some q =>
      obtain ⟨rb, cap, cs⟩ := q
      simp only [rowAV, rowLS] at hok ⊢
      repeat (first | (with_reducible first | apply CW.seq | apply aN | apply aX | apply iH | apply CW.exit) | refine CW.reg ?_ | refine wS rfl ?_)
      refine RL.lenC tO rfl rfl rfl rfl rfl rfl rfl ?_
      repeat (first | refine wS rfl ?_)
      rcases hfin with h0 | h0
      ·subst h0
       refine RL.knowT 127 rfl rfl ?_
       repeat (first | refine wS rfl ?_ | refine RL.skip rfl rfl rfl ?_)
       refine RL.callPP rfl rfl rfl rfl rfl known_true ?_
       repeat (first | (with_reducible first | apply aN | apply CW.ret) | refine RL.nil ?_ | refine wS rfl ?_)
       exact Fin.retP hok rfl aRfl
      ·by_cases hs0 : σf = []
       ·subst hs0
        refine RL.knowT 127 rfl rfl ?_
        repeat (first | refine wS rfl ?_ | refine RL.skip rfl rfl rfl ?_)
        refine RL.callPP rfl rfl rfl rfl rfl known_true ?_
        repeat (first | (with_reducible first | apply aN | apply CW.ret) | refine RL.nil ?_ | refine wS rfl ?_)
        exact Fin.retP hok rfl aRfl
       ·have hp0 := List.length_pos_iff.2 hs0
        refine RL.knowF 127 rfl (by simp [hs0]) ?_
        repeat (first | refine wS rfl ?_)
        refine RL.knowT 132 rfl (by simpa using h0) ?_
        skip
        refine RL.callPP rfl rfl rfl rfl rfl known_true ?_
        repeat (first | (with_reducible first | apply aN | apply CW.ret) | refine RL.nil ?_ | refine wS rfl ?_)
        exact Fin.retP hok rfl aRfl
end Go.Proofs.Ytdeiinhccdlfiaa

