import Derived.Test.YtdeiinhccdlfiaaGreatVf
set_option linter.unusedVariables false
set_option linter.unusedSimpArgs false
/- Chapter 19, seat .Z: contracts of the reference's run: values where a restart is offered. -/
namespace Go.Proofs.YtdeiinhccdlfiaaGreat
open Go.AE Go.Cond

theorem PreR.offer {P : List CExp} {x y : CExp} {s : Sc} {c : List (Int × Nat)} {q : RS} (h : PreR P x s c q) (n : Int) (hy : OkE P.length y) (hl : c.length + 1 + q.st.fuel ≤ 1000) (hc : q.ids + 1 + 2 * q.st.fuel ≤ 5000) :
    PreR P y (s.offer n) ((n, q.ids + 1) :: c) { q with ids := q.ids + 1 } :=
  ⟨hy, ⟨h.sc.hand, h.sc.hs⟩, by rw [List.map_cons, h.rs]; rfl, h.go, fun r hr => by
    rcases List.mem_cons.1 hr with rfl | hr
    · exact ⟨Nat.succ_pos _, Nat.le_refl _⟩
    · have := h.ids r hr
      exact ⟨this.1, Nat.le_succ_of_le this.2⟩, h.hs, by show c.length + 1 + _ ≤ _; exact hl, h.phi, h.picks, h.pl, hc⟩
theorem OutR.taken {c : List (Int × Nat)} {n : Int} {id : Nat} {q : RS} {u : Int} {o : Out} (h : OutR ((n, id) :: c) q u o) (hid : 0 < id) (hc : ∀ r ∈ c, r.2 < id) (hd : ∀ d v, o = .leave d v → d < c.length + 1) :
  (∃ v, o = .leave c.length v ∧ q.ended = false ∧ q.fin = 0 ∧ q.to = id ∧ q.val = v) ∨ ((q.ended = true ∨ (q.to : Int) ≠ (id : Int)) ∧ OutR c q u o ∧ ∀ d v, o = .leave d v → d ≠ c.length) := by
 cases o with
 | val v =>
  obtain ⟨h1, h2, h3, h4⟩ := h
  exact .inr ⟨.inr (by omega), ⟨h1, h2, h3, h4⟩, fun d v h => by cases h⟩
 | stop e => exact .inr ⟨.inl h.1, h, fun d v h => by cases h⟩
 | leave d v =>
  obtain ⟨h1, h2, h3, m, h4⟩ := h
  have hd := hd d v rfl
  rw [List.length_cons, show c.length + 1 - 1 - d = c.length - d by omega] at h4
  by_cases hdc : d = c.length
  ·subst hdc
   rw [Nat.sub_self] at h4
   cases h4
   exact .inl ⟨v, rfl, h1, h2, rfl, h3⟩
  ·rw [show c.length - d = (c.length - 1 - d) + 1 by omega, List.getElem?_cons_succ] at h4
   have := hc _ (List.mem_of_getElem? h4)
   simp only at this
   exact .inr ⟨.inr (by omega), ⟨h1, h2, h3, m, h4⟩, fun d' v' h => by cases h; exact hdc⟩
theorem onLeave_not {o : Out} {st : Cond.St} {d : Nat} {g : Int → Cond.St → Res} (h : ∀ e v, o = .leave e v → e ≠ d) : onLeave (o, st) d g = (o, st) := by
 cases o with
 | val v => rfl
 | stop e => rfl
 | leave e v => rw [onLeave, if_neg (h e v rfl)]
theorem PreR.back {P : List CExp} {x y : CExp} {s s' : Sc} {c : List (Int × Nat)} {q q1 : RS} {n : Int} {id : Nat} (h : PreR P x s c q) (hs : s'.hs = s.hs) (k : PreR P y s' ((n, id) :: c) q1) : PreR P x s c q1 :=
 ⟨h.x, h.sc, h.rs, k.go, fun r hr => k.ids r (List.mem_cons_of_mem _ hr), by have := k.hs; rw [hs] at this; exact this, by have := k.rl; rw [List.length_cons] at this; omega, k.phi, k.picks, k.pl, k.cap⟩
section
variable {rb : Nat} {P : List CExp} {f : Nat}
set_option maxRecDepth 10000 in
set_option maxHeartbeats 2000000 in
theorem rRestart (hP : ∀ e ∈ P, OkE P.length e) (ih : BelowR rb P f) {n : Int} {a b : CExp} {s : Sc} {c : List (Int × Nat)} {q : RS} (h : PreR P (.restart n a b) s c q) (h0 : q.st.fuel ≠ 0) (hf : q.st.fuel ≤ f) :
  StepR rb P (.restart n a b) s c q (onLeave (run P a (s.offer n) q.st.burn) s.rs.length fun v st => run P b (s.with v) st) := by
 obtain ⟨hx1, hx2, hx3, hx4⟩ := h.x
 have hlen : s.rs.length = c.length := by rw [← h.rs, List.length_map]
 intro own
 have hcap := h.cap
 have hw : IntKind.wrap .i64 ((q.st.fuel : Int) - 1) = ((q.st.burn.fuel : Nat) : Int) := by
  rw [i64_wrap (by omega) (by omega)]; show _ = ((q.st.fuel - 1 : Nat) : Int); omega
 have hne : ((q.st.fuel : Nat) : Int) ≠ 0 := by omega
 obtain ⟨hb, hphb, hhb, hcb, hfb, hib⟩ := h.burn h0
 unfold rawE scR hdsA rssA
 rw [av_mk]
 refine LCalls.of_CW tO call39 Tryz.func39 rfl rfl fun s₀ hok => ?_
 unfold qK rCells at hok ⊢
 repeat (first | (with_reducible first | apply CW.seq | apply aN) | refine wR rfl ?_ | refine CW.reg ?_ | refine RL.nil ?_ | refine wS rfl ?_ | refine RL.loadL tO hok rfl rfl rfl rfl rfl rfl (by repeat (first | exact Sel.here | apply Sel.there)) (by exact rfl) ?_)
 refine CW.cond rfl (fun hh => absurd hh (by simpa using hne)) (fun hh => ?_)
 repeat (first | (with_reducible first | apply CW.seq | apply aN | apply CW.skip | apply CW.block) | refine wR rfl ?_ | refine CW.reg ?_ | refine RL.nil ?_ | refine CW.condT rfl ?_ | refine CW.condF rfl ?_ | refine wS rfl ?_ | refine RL.loadL tO hok rfl rfl rfl rfl rfl rfl (by repeat (first | exact Sel.here | apply Sel.there)) (by exact rfl) ?_ | refine RL.storeL tO hok rfl rfl rfl rfl rfl rfl rfl rfl rfl (by repeat (first | exact Sel.here | apply Sel.there)) (by exact rfl) (fun hok => ?_))
 rw [hw] at hok ⊢
 have hoff := rOffer_spec rb P own (burnt q) s c n (by omega) (by show q.ids < _; omega)
 have hpre := hb.offer n (y := a) hx3 hcb (by omega)
 have hcall := fun own => ih.get hpre (by show (burnt q).st.fuel < f; omega) own
 have hrok := run_ok hP rfl ((burnt q).st.fuel + 1) a (s.offer n) q.st.burn hx3 hpre.sc (Nat.lt_succ_self _)
 rcases hr : run P a (s.offer n) q.st.burn with ⟨o1, st1⟩
 rw [hr] at hrok
 have hcall : ∀ own, _ := hcall
 simp only [burnt, hr] at hcall
 unfold scR hdsA rssA at hoff
 refine RL.callL rfl rfl rfl rfl rfl hoff hok (Sels.all _) ?_ (fun _ _ ⟨h, _⟩ _ => by cases h)
 rintro _ _ ⟨⟨⟩, rfl⟩ hok
 rw [List.append_nil] at hok ⊢
 skip
 refine RL.allocL tO hok rfl rfl rfl rfl rfl rfl rfl (fun b10 hok => ?_)
 repeat (first | (with_reducible first | apply CW.seq | apply aN) | refine CW.reg ?_ | refine RL.nil ?_ | refine wS rfl ?_ | refine RL.loadL tO hok rfl rfl rfl rfl rfl rfl (by repeat (first | exact Sel.here | apply Sel.there)) (by exact rfl) ?_ | refine RL.storeL tO hok rfl rfl rfl rfl rfl rfl rfl rfl rfl (by repeat (first | exact Sel.here | apply Sel.there)) (by exact rfl) (fun hok => ?_))
 refine CW.freezeL hok 10 b10 rfl (by repeat (first | exact Sel.here | apply Sel.there)) fun hok => ?_
 refine CW.drw tO mixed rfl (RD.run rfl ?_)
 refine RD.idx 3 0 rfl rfl rfl rfl rfl rfl rfl rfl rfl rfl rfl rfl rfl (congrArg some (CRaw.av_eq _)) rfl ?_; refine RD.run rfl ?_
 refine RD.callL 6 rfl rfl rfl rfl rfl rfl rfl (hcall own) hok (Sels.all _) ?_ (fun _ _ ⟨_, _, _, h, _⟩ _ => by cases h)
 rintro _ _ ⟨own1, q1, u1, ⟨⟩, rfl, g1, g2, g3, g4⟩ hok
 simp only at g1 g2 g3 g4
 rw [List.append_nil] at hok ⊢
 refine RD.run rfl (RD.done rfl ?_)
 have hids : (burnt q).ids = q.ids := rfl
 have hbf : (burnt q).st.fuel = q.st.burn.fuel := rfl
 have htk := g2.taken (Nat.succ_pos _) (fun r hr => by have := (h.ids r hr).2; omega) (fun d v e => by subst e; have := hrok.1; simpa [Sc.offer, hlen] using this)
 have htaken := rTaken_spec rb P own1 q1 ((q.ids + 1 : Nat) : Int)
 repeat (first | (with_reducible first | apply CW.seq | apply aN) | refine CW.reg ?_ | refine wS rfl ?_)
 refine RL.callL rfl rfl rfl rfl rfl htaken hok (Sels.all _) ?_ (fun _ _ h _ => by rcases h with ⟨_, h, _⟩ | ⟨_, _, h, _⟩ <;> cases h)
 rintro _ _ (⟨t1, ⟨⟩, rfl⟩ | ⟨t1, t2, ⟨⟩, rfl⟩) hok
 ·rw [List.append_nil] at hok ⊢
  rcases htk with ⟨v, rfl, e1, e2, e3, e4⟩ | ⟨-, hO, hd⟩
  ·rcases t1 with t1 | t1
   ·rw [e1] at t1; cases t1
   ·exact absurd (by rw [e3]) t1
  rw [onLeave_not (fun e v he => by rw [hlen]; exact hd e v he)]
  repeat (first | (with_reducible first | apply CW.seq | apply aN | apply aR | apply iR | apply CW.ret | apply CW.skip) | refine wR rfl ?_ | refine RL.nil ?_ | refine CW.condF rfl ?_)
  exact Fin.retL hok rfl aRfl (Sels.all _) ⟨own1, q1, u1, rfl, rfl, g1, hO, by omega, fun hne => by have := g4 hne; omega⟩
 ·rw [List.append_nil] at hok ⊢
  rcases htk with ⟨v, rfl, e1, e2, e3, rfl⟩ | ⟨t3, -, -⟩
  rotate_left
  ·rcases t3 with t3 | t3
   ·rw [t1] at t3; cases t3
   ·exact absurd t2 t3
  have hv : InR q1.val := hrok.2
  subst g1
  obtain ⟨k1, k2⟩ := hpre.next (q' := { q1 with to := 0 }) (y := b) (o := .leave c.length q1.val) hr (by simp) g3 (g4 (by simp)) ⟨e1, rfl, e2⟩ hx4
  have k2 : q1.st.fuel < (burnt q).st.fuel := k2
  have hp1 : PreR P b (s.with q1.val) c { q1 with to := 0 } := (h.back (s' := s.offer n) rfl k1).with hx4 hv
  have hcall2 := ih.get hp1 (by show q1.st.fuel < f; omega) own1
  simp only [Sc.with] at hcall2
  have hwith := rWith_spec s.hand q1.val (hdsA s.hs) (rssA c) (.inr trivial) ⟨_, rfl⟩ ⟨_, rfl⟩
  unfold hdsA rssA at hwith
  have g4 := g4 (by simp)
  rw [onLeave, if_pos hlen.symm]
  repeat (first | (with_reducible first | apply CW.seq | apply aN) | refine RL.nil ?_ | refine CW.condT rfl ?_)
  refine CW.drw tO mixed rfl (RD.run rfl ?_)
  refine RD.idx 3 1 rfl rfl rfl rfl rfl rfl rfl rfl rfl rfl rfl rfl rfl (congrArg some (CRaw.av_eq _)) rfl ?_; refine RD.run rfl ?_
  refine RD.loadL 9 tO hok rfl rfl rfl rfl rfl rfl rfl rfl (by repeat (first | exact Sel.here | apply Sel.there)) (by exact rfl) ?_; refine RD.run rfl ?_
  refine RD.calmPP (i := 10) rfl rfl rfl rfl rfl rfl rfl hwith ?_; refine RD.run rfl ?_
  refine RD.callL 11 rfl rfl rfl rfl rfl rfl rfl hcall2 hok (Sels.all _) ?_ (fun _ _ ⟨_, _, _, h, _⟩ _ => by cases h)
  rintro _ _ ⟨own2, q2, u2, ⟨⟩, rfl, l1, l2, l3, l4⟩ hok
  rw [List.append_nil] at hok ⊢
  refine RD.run rfl (RD.done rfl ?_)
  repeat (with_reducible first | apply aN | apply aR | apply iR | apply CW.ret)
  exact Fin.retL hok rfl aRfl (Sels.all _) (RPost.mono ⟨own2, q2, u2, rfl, rfl, l1, l2, l3, l4⟩ (by show q.ids ≤ q1.ids; omega) (by show q1.ids + 2 * q1.st.fuel - 1 ≤ _; omega))
structure AgainI (P : List CExp) (n : Int) (a : CExp) (s : Sc) (c : List (Int × Nat)) (q : RS) (id : Nat) (q1 : RS) (u : Int) : Prop where
 go : ∃ o, OutR ((n, id) :: c) q1 u o ∧ agains P n a s s.hand q.st.burn = onLeave (o, q1.st) s.rs.length (fun v st => agains P n a s v st) ∧ (∀ d v, o = .leave d v → d < c.length + 1 ∧ InR v) ∧ ((∀ e, o ≠ .stop e) → q1.ids + 2 * q1.st.fuel ≤ q.ids + 2 * q.st.fuel - 2) ∧ (∀ v, o = .leave c.length v → PreR P (.again n a) s c { q1 with to := 0 } ∧ q1.st.fuel < q.st.burn.fuel)
 id0 : 0 < id
 ids : ∀ r ∈ c, r.2 < id
 le : id ≤ q1.ids
 low : q.ids ≤ q1.ids
set_option maxRecDepth 10000 in
set_option maxHeartbeats 2000000 in
theorem rAgain (hP : ∀ e ∈ P, OkE P.length e) (ih : BelowR rb P f) {n : Int} {a : CExp} {s : Sc} {c : List (Int × Nat)} {q : RS} (h : PreR P (.again n a) s c q) (h0 : q.st.fuel ≠ 0) (hf : q.st.fuel ≤ f) :
  StepR rb P (.again n a) s c q (again (run P) n a s q.st.fuel s.hand q.st.burn) := by
 obtain ⟨hx1, hx2, hx3⟩ := h.x
 have hlen : s.rs.length = c.length := by rw [← h.rs, List.length_map]
 have hag : again (run P) n a s q.st.fuel s.hand q.st.burn = agains P n a s s.hand q.st.burn := again_run P n a s s.hand q.st.burn (by show q.st.fuel - 1 < _; omega) (Nat.lt_succ_self _)
 rw [hag]
 intro own
 have hcap := h.cap
 have hw : IntKind.wrap .i64 ((q.st.fuel : Int) - 1) = ((q.st.burn.fuel : Nat) : Int) := by
  rw [i64_wrap (by omega) (by omega)]; show _ = ((q.st.fuel - 1 : Nat) : Int); omega
 have hne : ((q.st.fuel : Nat) : Int) ≠ 0 := by omega
 obtain ⟨hb, hphb, hhb, hcb, hfb, hib⟩ := h.burn h0
 unfold rawE scR hdsA rssA
 rw [av_mk]
 refine LCalls.of_CW tO call39 Tryz.func39 rfl rfl fun s₀ hok => ?_
 unfold qK rCells at hok ⊢
 repeat (first | (with_reducible first | apply CW.seq | apply aN) | refine wR rfl ?_ | refine CW.reg ?_ | refine RL.nil ?_ | refine wS rfl ?_ | refine RL.loadL tO hok rfl rfl rfl rfl rfl rfl (by repeat (first | exact Sel.here | apply Sel.there)) (by exact rfl) ?_)
 refine CW.cond rfl (fun hh => absurd hh (by simpa using hne)) (fun hh => ?_)
 repeat (first | (with_reducible first | apply CW.seq | apply aN | apply CW.skip | apply CW.block) | refine wR rfl ?_ | refine CW.reg ?_ | refine RL.nil ?_ | refine CW.condT rfl ?_ | refine CW.condF rfl ?_ | refine wS rfl ?_ | refine RL.loadL tO hok rfl rfl rfl rfl rfl rfl (by repeat (first | exact Sel.here | apply Sel.there)) (by exact rfl) ?_ | refine RL.storeL tO hok rfl rfl rfl rfl rfl rfl rfl rfl rfl (by repeat (first | exact Sel.here | apply Sel.there)) (by exact rfl) (fun hok => ?_))
 rw [hw] at hok ⊢
 have hoff := rOffer_spec rb P own (burnt q) s c n (by omega) (by show q.ids < _; omega)
 have hpre := hb.offer n (y := a) hx3 hcb (by omega)
 have hcall := fun own => ih.get hpre (by show (burnt q).st.fuel < f; omega) own
 have hrok := run_ok hP rfl ((burnt q).st.fuel + 1) a (s.offer n) q.st.burn hx3 hpre.sc (Nat.lt_succ_self _)
 have hw0 : s.with s.hand = s := rfl
 have heq := agains_eq P n a s s.hand q.st.burn
 rw [hw0] at heq
 rcases hr : run P a (s.offer n) q.st.burn with ⟨o1, st1⟩
 rw [hr] at hrok heq
 simp only [burnt, hr] at hcall
 unfold scR hdsA rssA at hoff
 refine RL.callL rfl rfl rfl rfl rfl hoff hok (Sels.all _) ?_ (fun _ _ ⟨h, _⟩ _ => by cases h)
 rintro _ _ ⟨⟨⟩, rfl⟩ hok
 rw [List.append_nil] at hok ⊢
 skip
 refine RL.allocL tO hok rfl rfl rfl rfl rfl rfl rfl (fun b13 hok => ?_)
 repeat (first | (with_reducible first | apply CW.seq | apply aN) | refine CW.reg ?_ | refine RL.nil ?_ | refine wS rfl ?_ | refine RL.loadL tO hok rfl rfl rfl rfl rfl rfl (by repeat (first | exact Sel.here | apply Sel.there)) (by exact rfl) ?_ | refine RL.storeL tO hok rfl rfl rfl rfl rfl rfl rfl rfl rfl (by repeat (first | exact Sel.here | apply Sel.there)) (by exact rfl) (fun hok => ?_))
 refine CW.drw tO mixed rfl (RD.run rfl ?_)
 refine RD.idx 3 0 rfl rfl rfl rfl rfl rfl rfl rfl rfl rfl rfl rfl rfl (congrArg some (CRaw.av_eq _)) rfl ?_; refine RD.run rfl ?_
 refine RD.loadL 5 tO hok rfl rfl rfl rfl rfl rfl rfl rfl (by repeat (first | exact Sel.here | apply Sel.there)) (by exact rfl) ?_; refine RD.run rfl ?_
 refine RD.callL 6 rfl rfl rfl rfl rfl rfl rfl (hcall own) hok (Sels.all _).there ?_ (fun _ _ ⟨_, _, _, h, _⟩ _ => by cases h)
 rintro _ _ ⟨own1, q1, u1, ⟨⟩, rfl, g1, g2, g3, g4⟩ hok
 simp only at g1 g2 g3 g4
 refine RD.run rfl (RD.done rfl ?_)
 subst g1
 have hids : (burnt q).ids = q.ids := rfl
 have hbf : (burnt q).st.fuel = q.st.burn.fuel := rfl
 have hI : AgainI P n a s c q (q.ids + 1) q1 u1 := by
  refine ⟨⟨o1, g2, heq, fun d v e => ?_, fun hne => ?_, fun v e => ?_⟩, Nat.succ_pos _, fun r hr => by have := (h.ids r hr).2; omega, g3, by omega⟩
  ·subst e
   exact ⟨by have := hrok.1; simpa [Sc.offer, hlen] using this, hrok.2⟩
  ·have := g4 hne
   omega
  ·subst e
   obtain ⟨e1, e2, -, m, e3⟩ := g2
   obtain ⟨k1, k2⟩ := hpre.next (q' := { q1 with to := 0 }) (y := a) (o := .leave c.length v) hr (by simp) g3 (g4 (by simp)) ⟨e1, rfl, e2⟩ hx3
   exact ⟨h.back (s' := s.offer n) rfl k1, k2⟩
 refine aN ?_
 refine CW.seq ?_
 refine CW.block ?_
 refine CW.loopL hok (σ := Own × RS × Int × Nat × Int) (fun z => [(0, .ptr rb 0), (4, .fptr [.int .i64 12, .int .i64 n, .slc 3 (List.map CRaw.av [rawE a]) .fro] 0), (5, .fptr [.int .i64 s.hand, .slc 4 (s.hs.reverse.map fun h => .agg (hdC h)) .fro, .slc 2 (c.reverse.map fun r => .agg (rsC r)) .fro] 0), (13, .ptr b13 0), (14, .int .i64 (z.2.2.2.1 : Int)), (15, .int .i64 z.2.2.1)])
  (fun z => (.own b13, .box 82 [.int .i64 z.2.2.2.2, .slc 4 (s.hs.reverse.map fun h => .agg (hdC h)) .fro, .slc 2 (((n, z.2.2.2.1) :: c).reverse.map fun r => .agg (rsC r)) .fro]) :: qK rb P z.1 z.2.1)
  (fun z => AgainI P n a s c q z.2.2.2.1 z.2.1 z.2.2.1) (fun z => 2 * z.2.1.st.fuel + (if z.2.1.ended then 0 else 1)) (own1, q1, u1, q.ids + 1, s.hand) hI (wE rfl) (by simp only [qK, rCells, List.cons_append, List.nil_append]; repeat (first | exact Sels.nil | (apply Sels.cons; · repeat (first | exact Sel.here | apply Sel.there)))) ?_
 rintro ⟨own1, q1, u1, id, w⟩ ⟨⟨o, g2, heq, hd, hbud, hpr⟩, hid0, hidc, hidl, hlow⟩ hok
 simp only at g2 heq hd hbud hpr hid0 hidc hidl hlow hok ⊢
 have htk := g2.taken hid0 hidc (fun d v e => (hd d v e).1)
 have htaken := rTaken_spec rb P own1 q1 (id : Int)
 repeat (first | with_reducible apply CW.seq | refine CW.reg ?_ | refine wS rfl ?_)
 refine RL.callL rfl rfl rfl rfl rfl htaken hok (Sels.all _).there ?_ (fun _ _ h _ => by rcases h with ⟨_, h, _⟩ | ⟨_, _, h, _⟩ <;> cases h)
 rintro _ _ (⟨t1, ⟨⟩, rfl⟩ | ⟨t1, t2, ⟨⟩, rfl⟩) hok
 ·rcases htk with ⟨v, rfl, e1, e2, e3, e4⟩ | ⟨-, hO, hd⟩
  ·rcases t1 with t1 | t1
   ·rw [e1] at t1; cases t1
   ·exact absurd (by rw [e3]) t1
  rw [heq, onLeave_not (fun e v he => by rw [hlen]; exact hd e v he)]
  repeat (first | (with_reducible first | apply CW.seq | apply aN | apply aX | apply aR | apply iR | apply iH | apply CW.ret | apply CW.exit) | refine wR rfl ?_ | refine RL.nil ?_ | refine CW.condF rfl ?_)
  exact Fin.retL hok rfl aRfl (Sels.all _).appR ⟨own1, q1, u1, rfl, rfl, rfl, hO, hlow, fun hne => by have := hbud hne; omega⟩
 ·rcases htk with ⟨v, rfl, e1, e2, e3, rfl⟩ | ⟨t3, -, -⟩
  rotate_left
  ·rcases t3 with t3 | t3
   ·rw [t1] at t3; cases t3
   ·exact absurd t2 t3
  obtain ⟨hp0, hfu⟩ := hpr _ rfl
  have hv : InR q1.val := (hd _ _ rfl).2
  have hbud := hbud (by simp)
  have hburn : q.st.burn.fuel = q.st.fuel - 1 := rfl
  have hp1 := hp0.with (y := .again n a) hp0.x hv
  have hrl := h.rl
  have hpre2 := hp1.offer n (y := a) hx3 (by show c.length + 1 + q1.st.fuel ≤ _; omega) (by show q1.ids + 1 + 2 * q1.st.fuel ≤ _; omega)
  have hoff2 := rOffer_spec rb P own1 { q1 with to := 0 } (s.with q1.val) c n (by omega) (by show q1.ids < _; omega)
  have hcall2 := fun own => ih.get hpre2 (by show q1.st.fuel < f; omega) own
  have hrok2 := run_ok hP rfl (q1.st.fuel + 1) a ((s.with q1.val).offer n) q1.st hx3 hpre2.sc (Nat.lt_succ_self _)
  have hwith := rWith_spec s.hand q1.val (hdsA s.hs) (rssA c) (.inr trivial) ⟨_, rfl⟩ ⟨_, rfl⟩
  have heq2 := agains_eq P n a s q1.val q1.st
  rcases hr2 : run P a ((s.with q1.val).offer n) q1.st with ⟨o2, st2⟩
  rw [hr2] at hrok2 heq2
  simp only [hr2] at hcall2
  rw [onLeave, if_pos hlen.symm, heq2] at heq
  unfold scR hdsA rssA at hoff2
  unfold hdsA rssA at hwith
  simp only [Sc.with] at hoff2
  simp only [Sc.with, Sc.offer] at hcall2
  repeat (first | (with_reducible first | apply CW.seq | apply aN | apply CW.skip | apply CW.block) | refine RL.nil ?_ | refine CW.condT rfl ?_)
  refine CW.dropL hok ((.own b13, .box 82 [.int .i64 w, .slc 4 (s.hs.reverse.map fun h => .agg (hdC h)) .fro, .slc 2 (((n, id) :: c).reverse.map fun r => .agg (rsC r)) .fro]) :: qK rb P own1 { q1 with to := 0 }) (by simp only [qK, rCells, List.cons_append, List.nil_append]; repeat (first | exact Sels.nil | (apply Sels.cons; · repeat (first | exact Sel.here | apply Sel.there)))) fun hok => ?_
  refine CW.drw tO mixed rfl (RD.run rfl ?_)
  refine RD.loadL 5 tO hok rfl rfl rfl rfl rfl rfl rfl rfl (by repeat (first | exact Sel.here | apply Sel.there)) (by exact rfl) ?_; refine RD.run rfl ?_
  refine RD.calmPP (i := 6) rfl rfl rfl rfl rfl rfl rfl hwith ?_; refine RD.run rfl ?_
  refine RD.callL 9 rfl rfl rfl rfl rfl rfl rfl hoff2 hok (Sels.all _).there ?_ (fun _ _ ⟨h, _⟩ _ => by cases h)
  rintro _ _ ⟨⟨⟩, rfl⟩ hok
  refine RD.run rfl ?_
  refine RD.storeL 10 tO hok rfl rfl rfl rfl rfl rfl rfl rfl rfl rfl rfl (Sel.app _ .here) rfl (fun hok => ?_)
  refine RD.run rfl (RD.done rfl ?_)
  repeat (first | (with_reducible first | apply CW.seq | apply aN) | refine CW.reg ?_ | refine RL.nil ?_ | refine wS rfl ?_ | refine RL.loadL tO hok rfl rfl rfl rfl rfl rfl (by repeat (first | exact Sel.here | apply Sel.there)) (by exact rfl) ?_)
  rw [List.append_nil] at hok ⊢
  refine CW.drw tO mixed rfl (RD.run rfl ?_)
  refine RD.idx 3 0 rfl rfl rfl rfl rfl rfl rfl rfl rfl rfl rfl rfl rfl (congrArg some (CRaw.av_eq _)) rfl ?_; refine RD.run rfl ?_
  refine RD.loadL 5 tO hok rfl rfl rfl rfl rfl rfl rfl rfl (by repeat (first | exact Sel.here | apply Sel.there)) (by exact rfl) ?_; refine RD.run rfl ?_
  refine RD.callL 6 rfl rfl rfl rfl rfl rfl rfl (hcall2 own1) hok (Sels.all _).there ?_ (fun _ _ ⟨_, _, _, h, _⟩ _ => by cases h)
  rintro _ _ ⟨own2, q2, u2, ⟨⟩, rfl, g1, k2, g3, g4⟩ hok
  simp only at g1 k2 g3 g4
  refine RD.run rfl (RD.done rfl ?_)
  subst g1
  repeat (with_reducible first | apply aN | apply iN)
  refine NextL.mk (own2, q2, u2, q1.ids + 1, q1.val) hok ?_ (wE rfl) (by simp only [qK, rCells, List.cons_append, List.nil_append]; repeat (first | exact Sels.nil | (apply Sels.cons; · repeat (first | exact Sel.here | apply Sel.there)))) ?_
  ·refine ⟨⟨o2, k2, heq, fun d v e => ?_, fun hne => ?_, fun v e => ?_⟩, Nat.succ_pos _, fun r hr => by have := hidc r hr; show r.2 < q1.ids + 1; omega, g3, by show q.ids ≤ q2.ids; omega⟩
   ·subst e
    exact ⟨by have := hrok2.1; simpa [Sc.offer, Sc.with, hlen] using this, hrok2.2⟩
   ·have := g4 hne
    show q2.ids + 2 * q2.st.fuel ≤ _
    omega
   ·subst e
    obtain ⟨e4, e5, -, m, e6⟩ := k2
    obtain ⟨m1, m2⟩ := hpre2.next (q' := { q2 with to := 0 }) (y := a) (o := .leave c.length v) hr2 (by simp) g3 (g4 (by simp)) ⟨e4, rfl, e5⟩ hx3
    have m2 : q2.st.fuel < q1.st.fuel := m2
    exact ⟨h.back (s' := (s.with q1.val).offer n) rfl m1, by show q2.st.fuel < _; omega⟩
  ·show 2 * q2.st.fuel + (if q2.ended then 0 else 1) < 2 * q1.st.fuel + (if q1.ended then 0 else 1)
   rw [t1]
   have hfl := run_fuel P a ((s.with q1.val).offer n) q1.st
   rw [hr2] at hfl
   have hfl : q2.st.fuel ≤ q1.st.fuel := hfl
   cases o2 with
   | stop e =>
    rw [k2.1]
    simp only [if_true, Bool.false_eq_true, if_false]
    omega
   | val v =>
    have := run_burns P _ _ _ hr2 (by simp)
    split <;> simp only [Bool.false_eq_true, if_false] <;> omega
   | leave d v =>
    have := run_burns P _ _ _ hr2 (by simp)
    split <;> simp only [Bool.false_eq_true, if_false] <;> omega
end
end Go.Proofs.YtdeiinhccdlfiaaGreat

/- Chapter 19, seat .Z: contracts of the reference's run: the value of an expression. -/
namespace Go.Proofs.YtdeiinhccdlfiaaGreat
open Go.AE Go.Cond

section
variable {rb : Nat} {P : List CExp} {f : Nat}
set_option maxRecDepth 10000 in
set_option maxHeartbeats 1000000 in
theorem rGuards (ih : BelowR rb P f) {a b : CExp} {s : Sc} {c : List (Int × Nat)} {q : RS} (h : PreR P (.guard a b) s c q) (hf : q.st.fuel < f) :
  RestR rb P (.guard a b) s c q (behind (run P a s q.st) (s.ev 5 0 0) fun st => run P b s st) := by
 intro own
 have hcall := fun own => ih.get (h.at (y := a) h.x.1) hf own
 rcases hr : run P a s q.st with ⟨o1, st1⟩
 simp only [hr] at hcall
 unfold rawE scR hdsA rssA
 rw [av_mk]
 refine LCalls.of_CW tO call75 Tryz.func75 rfl rfl fun s₀ hok => ?_
 repeat (first | (with_reducible first | apply CW.seq | apply aN) | refine wR rfl ?_)
 refine CW.drw tO mixed rfl (RD.run rfl ?_)
 refine RD.idx 3 0 rfl rfl rfl rfl rfl rfl rfl rfl rfl rfl rfl rfl rfl (congrArg some (CRaw.av_eq _)) rfl ?_; refine RD.run rfl ?_
 refine RD.callL 6 rfl rfl rfl rfl rfl rfl rfl (hcall own) hok (Sels.all _) ?_ (fun _ _ ⟨_, _, _, h, _⟩ _ => by cases h)
 rintro _ _ ⟨own1, q1, u1, ⟨⟩, rfl, g1, g2, g3, g4⟩ hok
 simp only at g1 g2 g3 g4
 rw [List.append_nil] at hok ⊢
 refine RD.run rfl (RD.done rfl ?_)
 subst g1
 have hguard := rGuard_spec rb P ih own1 h hf hr g2 g3 g4
 unfold rawE scR hdsA rssA at hguard
 rw [av_mk] at hguard
 repeat (first | (with_reducible first | apply CW.seq | apply aN) | refine wR rfl ?_ | refine CW.reg ?_ | refine CW.condT rfl ?_ | refine wS rfl ?_)
 refine RL.callL rfl rfl rfl rfl rfl hguard hok (Sels.all _) ?_ (fun _ _ ⟨_, _, _, h, _⟩ _ => by cases h)
 rintro _ _ ⟨own3, q3, u3, ⟨⟩, rfl, l1, l2, l3, l4⟩ hok
 rw [List.append_nil] at hok ⊢
 repeat (first | (with_reducible first | apply aN | apply aR | apply CW.ret) | refine RL.nil ?_ | refine wS rfl ?_)
 exact Fin.retL hok rfl aRfl (Sels.all _) ⟨own3, q3, u3, rfl, rfl, l1, l2, l3, l4⟩
set_option maxRecDepth 10000 in
set_option maxHeartbeats 1000000 in
theorem toAdd {a b : CExp} {s : Sc} {c : List (Int × Nat)} {q : RS} {r : Res} (h : PreR P (.add a b) s c q) (h0 : q.st.fuel ≠ 0) (hrest : RestR rb P (.add a b) s c (burnt q) r) : StepR rb P (.add a b) s c q r := by
 intro own
 have hcap := h.cap
 have hw : IntKind.wrap .i64 ((q.st.fuel : Int) - 1) = ((q.st.burn.fuel : Nat) : Int) := by
  rw [i64_wrap (by omega) (by omega)]; show _ = ((q.st.fuel - 1 : Nat) : Int); omega
 have hne : ((q.st.fuel : Nat) : Int) ≠ 0 := by omega
 obtain ⟨hb, hphb, hhb, hcb, hfb, hib⟩ := h.burn h0
 unfold rawE scR hdsA rssA
 rw [av_mk]
 refine LCalls.of_CW tO call39 Tryz.func39 rfl rfl fun s₀ hok => ?_
 unfold qK rCells at hok ⊢
 repeat (first | (with_reducible first | apply CW.seq | apply aN) | refine wR rfl ?_ | refine CW.reg ?_ | refine RL.nil ?_ | refine wS rfl ?_ | refine RL.loadL tO hok rfl rfl rfl rfl rfl rfl (by repeat (first | exact Sel.here | apply Sel.there)) (by exact rfl) ?_)
 refine CW.cond rfl (fun hh => absurd hh (by simpa using hne)) (fun hh => ?_)
 repeat (first | (with_reducible first | apply CW.seq | apply aN | apply iN | apply CW.skip | apply CW.block) | refine wR rfl ?_ | refine CW.reg ?_ | refine RL.nil ?_ | refine CW.condF rfl ?_ | refine wS rfl ?_ | refine RL.loadL tO hok rfl rfl rfl rfl rfl rfl (by repeat (first | exact Sel.here | apply Sel.there)) (by exact rfl) ?_ | refine RL.storeL tO hok rfl rfl rfl rfl rfl rfl rfl rfl rfl (by repeat (first | exact Sel.here | apply Sel.there)) (by exact rfl) (fun hok => ?_))
 rw [hw] at hok ⊢
 have hrest := hrest own
 unfold rawE scR hdsA rssA at hrest
 rw [av_mk] at hrest
 refine RL.callL rfl rfl rfl rfl rfl hrest hok (Sels.all _) ?_ (fun _ _ ⟨_, _, _, h, _⟩ _ => by cases h)
 rintro _ _ ⟨own3, q3, u3, ⟨⟩, rfl, l1, l2, l3, l4⟩ hok
 rw [List.append_nil] at hok ⊢
 repeat (first | (with_reducible first | apply aN | apply CW.ret) | refine RL.nil ?_ | refine wS rfl ?_)
 exact Fin.retL hok rfl aRfl (Sels.all _) (RPost.mono ⟨own3, q3, u3, rfl, rfl, l1, l2, l3, l4⟩ (Nat.le_refl _) (by omega))
set_option maxRecDepth 10000 in
set_option maxHeartbeats 1000000 in
theorem toSay {a : CExp} {s : Sc} {c : List (Int × Nat)} {q : RS} {r : Res} (h : PreR P (.say a) s c q) (h0 : q.st.fuel ≠ 0) (hrest : RestR rb P (.say a) s c (burnt q) r) : StepR rb P (.say a) s c q r := by
 intro own
 have hcap := h.cap
 have hw : IntKind.wrap .i64 ((q.st.fuel : Int) - 1) = ((q.st.burn.fuel : Nat) : Int) := by
  rw [i64_wrap (by omega) (by omega)]; show _ = ((q.st.fuel - 1 : Nat) : Int); omega
 have hne : ((q.st.fuel : Nat) : Int) ≠ 0 := by omega
 obtain ⟨hb, hphb, hhb, hcb, hfb, hib⟩ := h.burn h0
 unfold rawE scR hdsA rssA
 rw [av_mk]
 refine LCalls.of_CW tO call39 Tryz.func39 rfl rfl fun s₀ hok => ?_
 unfold qK rCells at hok ⊢
 repeat (first | (with_reducible first | apply CW.seq | apply aN) | refine wR rfl ?_ | refine CW.reg ?_ | refine RL.nil ?_ | refine wS rfl ?_ | refine RL.loadL tO hok rfl rfl rfl rfl rfl rfl (by repeat (first | exact Sel.here | apply Sel.there)) (by exact rfl) ?_)
 refine CW.cond rfl (fun hh => absurd hh (by simpa using hne)) (fun hh => ?_)
 repeat (first | (with_reducible first | apply CW.seq | apply aN | apply iN | apply CW.skip | apply CW.block) | refine wR rfl ?_ | refine CW.reg ?_ | refine RL.nil ?_ | refine CW.condF rfl ?_ | refine wS rfl ?_ | refine RL.loadL tO hok rfl rfl rfl rfl rfl rfl (by repeat (first | exact Sel.here | apply Sel.there)) (by exact rfl) ?_ | refine RL.storeL tO hok rfl rfl rfl rfl rfl rfl rfl rfl rfl (by repeat (first | exact Sel.here | apply Sel.there)) (by exact rfl) (fun hok => ?_))
 rw [hw] at hok ⊢
 have hrest := hrest own
 unfold rawE scR hdsA rssA at hrest
 rw [av_mk] at hrest
 refine RL.callL rfl rfl rfl rfl rfl hrest hok (Sels.all _) ?_ (fun _ _ ⟨_, _, _, h, _⟩ _ => by cases h)
 rintro _ _ ⟨own3, q3, u3, ⟨⟩, rfl, l1, l2, l3, l4⟩ hok
 rw [List.append_nil] at hok ⊢
 repeat (first | (with_reducible first | apply aN | apply CW.ret) | refine RL.nil ?_ | refine wS rfl ?_)
 exact Fin.retL hok rfl aRfl (Sels.all _) (RPost.mono ⟨own3, q3, u3, rfl, rfl, l1, l2, l3, l4⟩ (Nat.le_refl _) (by omega))
set_option maxRecDepth 10000 in
set_option maxHeartbeats 1000000 in
theorem toSeq {a b : CExp} {s : Sc} {c : List (Int × Nat)} {q : RS} {r : Res} (h : PreR P (.seq a b) s c q) (h0 : q.st.fuel ≠ 0) (hrest : RestR rb P (.seq a b) s c (burnt q) r) : StepR rb P (.seq a b) s c q r := by
 intro own
 have hcap := h.cap
 have hw : IntKind.wrap .i64 ((q.st.fuel : Int) - 1) = ((q.st.burn.fuel : Nat) : Int) := by
  rw [i64_wrap (by omega) (by omega)]; show _ = ((q.st.fuel - 1 : Nat) : Int); omega
 have hne : ((q.st.fuel : Nat) : Int) ≠ 0 := by omega
 obtain ⟨hb, hphb, hhb, hcb, hfb, hib⟩ := h.burn h0
 unfold rawE scR hdsA rssA
 rw [av_mk]
 refine LCalls.of_CW tO call39 Tryz.func39 rfl rfl fun s₀ hok => ?_
 unfold qK rCells at hok ⊢
 repeat (first | (with_reducible first | apply CW.seq | apply aN) | refine wR rfl ?_ | refine CW.reg ?_ | refine RL.nil ?_ | refine wS rfl ?_ | refine RL.loadL tO hok rfl rfl rfl rfl rfl rfl (by repeat (first | exact Sel.here | apply Sel.there)) (by exact rfl) ?_)
 refine CW.cond rfl (fun hh => absurd hh (by simpa using hne)) (fun hh => ?_)
 repeat (first | (with_reducible first | apply CW.seq | apply aN | apply iN | apply CW.skip | apply CW.block) | refine wR rfl ?_ | refine CW.reg ?_ | refine RL.nil ?_ | refine CW.condF rfl ?_ | refine wS rfl ?_ | refine RL.loadL tO hok rfl rfl rfl rfl rfl rfl (by repeat (first | exact Sel.here | apply Sel.there)) (by exact rfl) ?_ | refine RL.storeL tO hok rfl rfl rfl rfl rfl rfl rfl rfl rfl (by repeat (first | exact Sel.here | apply Sel.there)) (by exact rfl) (fun hok => ?_))
 rw [hw] at hok ⊢
 have hrest := hrest own
 unfold rawE scR hdsA rssA at hrest
 rw [av_mk] at hrest
 refine RL.callL rfl rfl rfl rfl rfl hrest hok (Sels.all _) ?_ (fun _ _ ⟨_, _, _, h, _⟩ _ => by cases h)
 rintro _ _ ⟨own3, q3, u3, ⟨⟩, rfl, l1, l2, l3, l4⟩ hok
 rw [List.append_nil] at hok ⊢
 repeat (first | (with_reducible first | apply aN | apply CW.ret) | refine RL.nil ?_ | refine wS rfl ?_)
 exact Fin.retL hok rfl aRfl (Sels.all _) (RPost.mono ⟨own3, q3, u3, rfl, rfl, l1, l2, l3, l4⟩ (Nat.le_refl _) (by omega))
set_option maxRecDepth 10000 in
set_option maxHeartbeats 1000000 in
theorem toTest {a b d : CExp} {s : Sc} {c : List (Int × Nat)} {q : RS} {r : Res} (h : PreR P (.test a b d) s c q) (h0 : q.st.fuel ≠ 0) (hrest : RestR rb P (.test a b d) s c (burnt q) r) : StepR rb P (.test a b d) s c q r := by
 intro own
 have hcap := h.cap
 have hw : IntKind.wrap .i64 ((q.st.fuel : Int) - 1) = ((q.st.burn.fuel : Nat) : Int) := by
  rw [i64_wrap (by omega) (by omega)]; show _ = ((q.st.fuel - 1 : Nat) : Int); omega
 have hne : ((q.st.fuel : Nat) : Int) ≠ 0 := by omega
 obtain ⟨hb, hphb, hhb, hcb, hfb, hib⟩ := h.burn h0
 unfold rawE scR hdsA rssA
 rw [av_mk]
 refine LCalls.of_CW tO call39 Tryz.func39 rfl rfl fun s₀ hok => ?_
 unfold qK rCells at hok ⊢
 repeat (first | (with_reducible first | apply CW.seq | apply aN) | refine wR rfl ?_ | refine CW.reg ?_ | refine RL.nil ?_ | refine wS rfl ?_ | refine RL.loadL tO hok rfl rfl rfl rfl rfl rfl (by repeat (first | exact Sel.here | apply Sel.there)) (by exact rfl) ?_)
 refine CW.cond rfl (fun hh => absurd hh (by simpa using hne)) (fun hh => ?_)
 repeat (first | (with_reducible first | apply CW.seq | apply aN | apply iN | apply CW.skip | apply CW.block) | refine wR rfl ?_ | refine CW.reg ?_ | refine RL.nil ?_ | refine CW.condF rfl ?_ | refine wS rfl ?_ | refine RL.loadL tO hok rfl rfl rfl rfl rfl rfl (by repeat (first | exact Sel.here | apply Sel.there)) (by exact rfl) ?_ | refine RL.storeL tO hok rfl rfl rfl rfl rfl rfl rfl rfl rfl (by repeat (first | exact Sel.here | apply Sel.there)) (by exact rfl) (fun hok => ?_))
 rw [hw] at hok ⊢
 have hrest := hrest own
 unfold rawE scR hdsA rssA at hrest
 rw [av_mk] at hrest
 refine RL.callL rfl rfl rfl rfl rfl hrest hok (Sels.all _) ?_ (fun _ _ ⟨_, _, _, h, _⟩ _ => by cases h)
 rintro _ _ ⟨own3, q3, u3, ⟨⟩, rfl, l1, l2, l3, l4⟩ hok
 rw [List.append_nil] at hok ⊢
 repeat (first | (with_reducible first | apply aN | apply CW.ret) | refine RL.nil ?_ | refine wS rfl ?_)
 exact Fin.retL hok rfl aRfl (Sels.all _) (RPost.mono ⟨own3, q3, u3, rfl, rfl, l1, l2, l3, l4⟩ (Nat.le_refl _) (by omega))
set_option maxRecDepth 10000 in
set_option maxHeartbeats 1000000 in
theorem toCall {n : Nat} {a : CExp} {s : Sc} {c : List (Int × Nat)} {q : RS} {r : Res} (h : PreR P (.call n a) s c q) (h0 : q.st.fuel ≠ 0) (hrest : RestR rb P (.call n a) s c (burnt q) r) : StepR rb P (.call n a) s c q r := by
 intro own
 have hcap := h.cap
 have hw : IntKind.wrap .i64 ((q.st.fuel : Int) - 1) = ((q.st.burn.fuel : Nat) : Int) := by
  rw [i64_wrap (by omega) (by omega)]; show _ = ((q.st.fuel - 1 : Nat) : Int); omega
 have hne : ((q.st.fuel : Nat) : Int) ≠ 0 := by omega
 obtain ⟨hb, hphb, hhb, hcb, hfb, hib⟩ := h.burn h0
 unfold rawE scR hdsA rssA
 rw [av_mk]
 refine LCalls.of_CW tO call39 Tryz.func39 rfl rfl fun s₀ hok => ?_
 unfold qK rCells at hok ⊢
 repeat (first | (with_reducible first | apply CW.seq | apply aN) | refine wR rfl ?_ | refine CW.reg ?_ | refine RL.nil ?_ | refine wS rfl ?_ | refine RL.loadL tO hok rfl rfl rfl rfl rfl rfl (by repeat (first | exact Sel.here | apply Sel.there)) (by exact rfl) ?_)
 refine CW.cond rfl (fun hh => absurd hh (by simpa using hne)) (fun hh => ?_)
 repeat (first | (with_reducible first | apply CW.seq | apply aN | apply iN | apply CW.skip | apply CW.block) | refine wR rfl ?_ | refine CW.reg ?_ | refine RL.nil ?_ | refine CW.condF rfl ?_ | refine wS rfl ?_ | refine RL.loadL tO hok rfl rfl rfl rfl rfl rfl (by repeat (first | exact Sel.here | apply Sel.there)) (by exact rfl) ?_ | refine RL.storeL tO hok rfl rfl rfl rfl rfl rfl rfl rfl rfl (by repeat (first | exact Sel.here | apply Sel.there)) (by exact rfl) (fun hok => ?_))
 rw [hw] at hok ⊢
 have hrest := hrest own
 unfold rawE scR hdsA rssA at hrest
 rw [av_mk] at hrest
 refine RL.callL rfl rfl rfl rfl rfl hrest hok (Sels.all _) ?_ (fun _ _ ⟨_, _, _, h, _⟩ _ => by cases h)
 rintro _ _ ⟨own3, q3, u3, ⟨⟩, rfl, l1, l2, l3, l4⟩ hok
 rw [List.append_nil] at hok ⊢
 repeat (first | (with_reducible first | apply aN | apply CW.ret) | refine RL.nil ?_ | refine wS rfl ?_)
 exact Fin.retL hok rfl aRfl (Sels.all _) (RPost.mono ⟨own3, q3, u3, rfl, rfl, l1, l2, l3, l4⟩ (Nat.le_refl _) (by omega))
set_option maxRecDepth 10000 in
set_option maxHeartbeats 1000000 in
theorem toSignal {n : Int} {a : CExp} {s : Sc} {c : List (Int × Nat)} {q : RS} {r : Res} (h : PreR P (.signal n a) s c q) (h0 : q.st.fuel ≠ 0) (hrest : RestR rb P (.signal n a) s c (burnt q) r) : StepR rb P (.signal n a) s c q r := by
 intro own
 have hcap := h.cap
 have hw : IntKind.wrap .i64 ((q.st.fuel : Int) - 1) = ((q.st.burn.fuel : Nat) : Int) := by
  rw [i64_wrap (by omega) (by omega)]; show _ = ((q.st.fuel - 1 : Nat) : Int); omega
 have hne : ((q.st.fuel : Nat) : Int) ≠ 0 := by omega
 obtain ⟨hb, hphb, hhb, hcb, hfb, hib⟩ := h.burn h0
 unfold rawE scR hdsA rssA
 rw [av_mk]
 refine LCalls.of_CW tO call39 Tryz.func39 rfl rfl fun s₀ hok => ?_
 unfold qK rCells at hok ⊢
 repeat (first | (with_reducible first | apply CW.seq | apply aN) | refine wR rfl ?_ | refine CW.reg ?_ | refine RL.nil ?_ | refine wS rfl ?_ | refine RL.loadL tO hok rfl rfl rfl rfl rfl rfl (by repeat (first | exact Sel.here | apply Sel.there)) (by exact rfl) ?_)
 refine CW.cond rfl (fun hh => absurd hh (by simpa using hne)) (fun hh => ?_)
 repeat (first | (with_reducible first | apply CW.seq | apply aN | apply iN | apply CW.skip | apply CW.block) | refine wR rfl ?_ | refine CW.reg ?_ | refine RL.nil ?_ | refine CW.condF rfl ?_ | refine wS rfl ?_ | refine RL.loadL tO hok rfl rfl rfl rfl rfl rfl (by repeat (first | exact Sel.here | apply Sel.there)) (by exact rfl) ?_ | refine RL.storeL tO hok rfl rfl rfl rfl rfl rfl rfl rfl rfl (by repeat (first | exact Sel.here | apply Sel.there)) (by exact rfl) (fun hok => ?_))
 rw [hw] at hok ⊢
 have hrest := hrest own
 unfold rawE scR hdsA rssA at hrest
 rw [av_mk] at hrest
 refine RL.callL rfl rfl rfl rfl rfl hrest hok (Sels.all _) ?_ (fun _ _ ⟨_, _, _, h, _⟩ _ => by cases h)
 rintro _ _ ⟨own3, q3, u3, ⟨⟩, rfl, l1, l2, l3, l4⟩ hok
 rw [List.append_nil] at hok ⊢
 repeat (first | (with_reducible first | apply aN | apply CW.ret) | refine RL.nil ?_ | refine wS rfl ?_)
 exact Fin.retL hok rfl aRfl (Sels.all _) (RPost.mono ⟨own3, q3, u3, rfl, rfl, l1, l2, l3, l4⟩ (Nat.le_refl _) (by omega))
set_option maxRecDepth 10000 in
set_option maxHeartbeats 1000000 in
theorem toFails {n : Int} {a : CExp} {s : Sc} {c : List (Int × Nat)} {q : RS} {r : Res} (h : PreR P (.fails n a) s c q) (h0 : q.st.fuel ≠ 0) (hrest : RestR rb P (.fails n a) s c (burnt q) r) : StepR rb P (.fails n a) s c q r := by
 intro own
 have hcap := h.cap
 have hw : IntKind.wrap .i64 ((q.st.fuel : Int) - 1) = ((q.st.burn.fuel : Nat) : Int) := by
  rw [i64_wrap (by omega) (by omega)]; show _ = ((q.st.fuel - 1 : Nat) : Int); omega
 have hne : ((q.st.fuel : Nat) : Int) ≠ 0 := by omega
 obtain ⟨hb, hphb, hhb, hcb, hfb, hib⟩ := h.burn h0
 unfold rawE scR hdsA rssA
 rw [av_mk]
 refine LCalls.of_CW tO call39 Tryz.func39 rfl rfl fun s₀ hok => ?_
 unfold qK rCells at hok ⊢
 repeat (first | (with_reducible first | apply CW.seq | apply aN) | refine wR rfl ?_ | refine CW.reg ?_ | refine RL.nil ?_ | refine wS rfl ?_ | refine RL.loadL tO hok rfl rfl rfl rfl rfl rfl (by repeat (first | exact Sel.here | apply Sel.there)) (by exact rfl) ?_)
 refine CW.cond rfl (fun hh => absurd hh (by simpa using hne)) (fun hh => ?_)
 repeat (first | (with_reducible first | apply CW.seq | apply aN | apply iN | apply CW.skip | apply CW.block) | refine wR rfl ?_ | refine CW.reg ?_ | refine RL.nil ?_ | refine CW.condF rfl ?_ | refine wS rfl ?_ | refine RL.loadL tO hok rfl rfl rfl rfl rfl rfl (by repeat (first | exact Sel.here | apply Sel.there)) (by exact rfl) ?_ | refine RL.storeL tO hok rfl rfl rfl rfl rfl rfl rfl rfl rfl (by repeat (first | exact Sel.here | apply Sel.there)) (by exact rfl) (fun hok => ?_))
 rw [hw] at hok ⊢
 have hrest := hrest own
 unfold rawE scR hdsA rssA at hrest
 rw [av_mk] at hrest
 refine RL.callL rfl rfl rfl rfl rfl hrest hok (Sels.all _) ?_ (fun _ _ ⟨_, _, _, h, _⟩ _ => by cases h)
 rintro _ _ ⟨own3, q3, u3, ⟨⟩, rfl, l1, l2, l3, l4⟩ hok
 rw [List.append_nil] at hok ⊢
 repeat (first | (with_reducible first | apply aN | apply CW.ret) | refine RL.nil ?_ | refine wS rfl ?_)
 exact Fin.retL hok rfl aRfl (Sels.all _) (RPost.mono ⟨own3, q3, u3, rfl, rfl, l1, l2, l3, l4⟩ (Nat.le_refl _) (by omega))
set_option maxRecDepth 10000 in
set_option maxHeartbeats 1000000 in
theorem toChoose {n : Int} {a : CExp} {s : Sc} {c : List (Int × Nat)} {q : RS} {r : Res} (h : PreR P (.choose n a) s c q) (h0 : q.st.fuel ≠ 0) (hrest : RestR rb P (.choose n a) s c (burnt q) r) : StepR rb P (.choose n a) s c q r := by
 intro own
 have hcap := h.cap
 have hw : IntKind.wrap .i64 ((q.st.fuel : Int) - 1) = ((q.st.burn.fuel : Nat) : Int) := by
  rw [i64_wrap (by omega) (by omega)]; show _ = ((q.st.fuel - 1 : Nat) : Int); omega
 have hne : ((q.st.fuel : Nat) : Int) ≠ 0 := by omega
 obtain ⟨hb, hphb, hhb, hcb, hfb, hib⟩ := h.burn h0
 unfold rawE scR hdsA rssA
 rw [av_mk]
 refine LCalls.of_CW tO call39 Tryz.func39 rfl rfl fun s₀ hok => ?_
 unfold qK rCells at hok ⊢
 repeat (first | (with_reducible first | apply CW.seq | apply aN) | refine wR rfl ?_ | refine CW.reg ?_ | refine RL.nil ?_ | refine wS rfl ?_ | refine RL.loadL tO hok rfl rfl rfl rfl rfl rfl (by repeat (first | exact Sel.here | apply Sel.there)) (by exact rfl) ?_)
 refine CW.cond rfl (fun hh => absurd hh (by simpa using hne)) (fun hh => ?_)
 repeat (first | (with_reducible first | apply CW.seq | apply aN | apply iN | apply CW.skip | apply CW.block) | refine wR rfl ?_ | refine CW.reg ?_ | refine RL.nil ?_ | refine CW.condF rfl ?_ | refine wS rfl ?_ | refine RL.loadL tO hok rfl rfl rfl rfl rfl rfl (by repeat (first | exact Sel.here | apply Sel.there)) (by exact rfl) ?_ | refine RL.storeL tO hok rfl rfl rfl rfl rfl rfl rfl rfl rfl (by repeat (first | exact Sel.here | apply Sel.there)) (by exact rfl) (fun hok => ?_))
 rw [hw] at hok ⊢
 have hrest := hrest own
 unfold rawE scR hdsA rssA at hrest
 rw [av_mk] at hrest
 refine RL.callL rfl rfl rfl rfl rfl hrest hok (Sels.all _) ?_ (fun _ _ ⟨_, _, _, h, _⟩ _ => by cases h)
 rintro _ _ ⟨own3, q3, u3, ⟨⟩, rfl, l1, l2, l3, l4⟩ hok
 rw [List.append_nil] at hok ⊢
 repeat (first | (with_reducible first | apply aN | apply CW.ret) | refine RL.nil ?_ | refine wS rfl ?_)
 exact Fin.retL hok rfl aRfl (Sels.all _) (RPost.mono ⟨own3, q3, u3, rfl, rfl, l1, l2, l3, l4⟩ (Nat.le_refl _) (by omega))
set_option maxRecDepth 10000 in
set_option maxHeartbeats 1000000 in
theorem toGuard {a b : CExp} {s : Sc} {c : List (Int × Nat)} {q : RS} {r : Res} (h : PreR P (.guard a b) s c q) (h0 : q.st.fuel ≠ 0) (hrest : RestR rb P (.guard a b) s c (burnt q) r) : StepR rb P (.guard a b) s c q r := by
 intro own
 have hcap := h.cap
 have hw : IntKind.wrap .i64 ((q.st.fuel : Int) - 1) = ((q.st.burn.fuel : Nat) : Int) := by
  rw [i64_wrap (by omega) (by omega)]; show _ = ((q.st.fuel - 1 : Nat) : Int); omega
 have hne : ((q.st.fuel : Nat) : Int) ≠ 0 := by omega
 obtain ⟨hb, hphb, hhb, hcb, hfb, hib⟩ := h.burn h0
 unfold rawE scR hdsA rssA
 rw [av_mk]
 refine LCalls.of_CW tO call39 Tryz.func39 rfl rfl fun s₀ hok => ?_
 unfold qK rCells at hok ⊢
 repeat (first | (with_reducible first | apply CW.seq | apply aN) | refine wR rfl ?_ | refine CW.reg ?_ | refine RL.nil ?_ | refine wS rfl ?_ | refine RL.loadL tO hok rfl rfl rfl rfl rfl rfl (by repeat (first | exact Sel.here | apply Sel.there)) (by exact rfl) ?_)
 refine CW.cond rfl (fun hh => absurd hh (by simpa using hne)) (fun hh => ?_)
 repeat (first | (with_reducible first | apply CW.seq | apply aN | apply iN | apply CW.skip | apply CW.block) | refine wR rfl ?_ | refine CW.reg ?_ | refine RL.nil ?_ | refine CW.condF rfl ?_ | refine wS rfl ?_ | refine RL.loadL tO hok rfl rfl rfl rfl rfl rfl (by repeat (first | exact Sel.here | apply Sel.there)) (by exact rfl) ?_ | refine RL.storeL tO hok rfl rfl rfl rfl rfl rfl rfl rfl rfl (by repeat (first | exact Sel.here | apply Sel.there)) (by exact rfl) (fun hok => ?_))
 rw [hw] at hok ⊢
 have hrest := hrest own
 unfold rawE scR hdsA rssA at hrest
 rw [av_mk] at hrest
 refine RL.callL rfl rfl rfl rfl rfl hrest hok (Sels.all _) ?_ (fun _ _ ⟨_, _, _, h, _⟩ _ => by cases h)
 rintro _ _ ⟨own3, q3, u3, ⟨⟩, rfl, l1, l2, l3, l4⟩ hok
 rw [List.append_nil] at hok ⊢
 repeat (first | (with_reducible first | apply aN | apply CW.ret) | refine RL.nil ?_ | refine wS rfl ?_)
 exact Fin.retL hok rfl aRfl (Sels.all _) (RPost.mono ⟨own3, q3, u3, rfl, rfl, l1, l2, l3, l4⟩ (Nat.le_refl _) (by omega))
end
theorem rEval_spec (rb : Nat) (P : List CExp) (hP : ∀ e ∈ P, OkE P.length e) : ∀ f, BelowR rb P f
  | 0 => fun _ _ _ _ _ h => absurd h (Nat.not_lt_zero _)
  | f + 1 => fun x s c q h hf => by
    have ih := rEval_spec rb P hP f
    by_cases h0 : q.st.fuel = 0
    · unfold EvalR
      rw [run_spent P x s q.st h0]
      exact rSpent x s c q h0
    · unfold EvalR
      rw [run_step P x s q.st h0]
      obtain ⟨hb, hph, -, -, hfb, -⟩ := h.burn h0
      have hfb' : (burnt q).st.fuel < f := by omega
      cases x with
      | int n => exact rInt h h0
      | hand => exact rHand h h0
      | find n => exact rFind h h0
      | handle n a b => exact rHandle ih h h0 (by omega)
      | restart n a b => exact rRestart hP ih h h0 (by omega)
      | again n a => exact rAgain hP ih h h0 (by omega)
      | add a b => exact toAdd h h0 (rAdd hP ih hb hfb')
      | say a => exact toSay h h0 (rSay ih hb hfb')
      | seq a b => exact toSeq h h0 (rSeq ih hb hfb')
      | test a b d => exact toTest h h0 (rTest ih hb hfb')
      | call n a => exact toCall h h0 (rCall hP ih hb hfb')
      | signal n a => exact toSignal h h0 (rSig hP ih hb hph hfb')
      | fails n a => exact toFails h h0 (rFails hP ih hb hph hfb')
      | choose n a => exact toChoose h h0 (rChooses ih hb hfb')
      | guard a b => exact toGuard h h0 (rGuards ih hb hfb')
end Go.Proofs.YtdeiinhccdlfiaaGreat

/- Chapter 19, seat .Z: contracts of the reference's run: DriveOf, Asked, Drive. -/
namespace Go.Proofs.YtdeiinhccdlfiaaGreat
open Go.AE Go.Cond

set_option maxRecDepth 10000 in
set_option maxHeartbeats 2000000 in
theorem rDriveOf_spec (P : List CExp) (hP : ∀ e ∈ P, OkE P.length e) (hl : 1 ≤ P.length) (hand : Int) (hh : InR hand) (picks : List Int) (hpk : ∀ n ∈ picks, 0 ≤ n) (hpl : picks.length ≤ 40) (fuel : Nat) (hfu : fuel ≤ 300) :
  PCalls Tryz.prog 16 [progA P, .int .i64 hand, intsA picks, .int .i64 (fuel : Int)] (runA (drive P hand picks fuel)) := by
 have hdr : drive P hand picks fuel = Run.of (run P (P.getD 0 default) ⟨hand, [], []⟩ ⟨[], fuel, picks⟩) := drive_run P hand picks fuel
 have h1 : 0 < P.length := by omega
 have hel : ((P.map rawE).map CRaw.av)[0]? = some (.agg (rawE (P.getD 0 default)).cells) := by
  rw [← CRaw.av_eq, List.getElem?_map, List.getElem?_map, List.getD_eq_getElem?_getD, List.getElem?_eq_getElem h1]; rfl
 have hOk : OkE P.length (P.getD 0 default) := by
  rw [List.getD_eq_getElem?_getD, List.getElem?_eq_getElem h1]
  exact hP _ (List.getElem_mem h1)
 rw [hdr]
 generalize P.getD 0 default = x at hel hOk ⊢
 have hpre : PreR P x ⟨hand, [], []⟩ [] ⟨⟨[], fuel, picks⟩, 0, 0, false, 0, 0⟩ := ⟨hOk, ⟨hh, fun h hh => (by cases hh)⟩, rfl, ⟨rfl, rfl, rfl⟩, fun r hr => (by cases hr), by simp only [List.length_nil]; omega, by simp only [List.length_nil]; omega, by unfold Cond.phi; simp only [List.length_nil]; omega, hpk, by show picks.length ≤ _; omega, by simp only; omega⟩
 have hcall := fun rb => (rEval_spec rb P hP (fuel + 1)).get hpre (Nat.lt_succ_self _) .nil
 have hcall := fun rb => LCalls.args (.cons aRfl (.cons aRfl (.one (AVle.agg (.cons aRfl (.cons (AVle.nil (sz := 0) (by intro b h; cases h)) (.one (AVle.nil (sz := 0) (by intro b h; cases h))))))))) (hcall rb)
 have hrok := run_ok hP rfl (fuel + 1) x ⟨hand, [], []⟩ ⟨[], fuel, picks⟩ hOk ⟨hh, fun h hh => (by cases hh)⟩ (Nat.lt_succ_self _)
 rcases hr : run P x ⟨hand, [], []⟩ ⟨[], fuel, picks⟩ with ⟨o, st⟩
 simp only [hr] at hcall hrok
 refine PCalls.of_CW tO call16 Tryz.func16 rfl rfl fun s hok => ?_
 unfold progA intsA
 repeat (first | with_reducible apply CW.seq | refine CW.reg ?_)
 refine RL.allocL tO hok rfl rfl rfl rfl rfl rfl rfl (fun b8 hok => ?_)
 refine RL.nil ?_
 refine aN ?_
 refine CW.seq (CW.reg ?_)
 refine wS rfl ?_
 refine wS rfl ?_
 refine wS rfl ?_
 refine wS rfl ?_
 refine wS rfl ?_
 refine RL.boxL hok rfl rfl rfl rfl rfl rfl (fun rb hok => ?_)
 repeat (first | (with_reducible first | apply CW.seq | apply aN) | refine CW.reg ?_ | refine RL.nil ?_ | refine wS rfl ?_ | refine RL.idx tO _ rfl rfl rfl rfl rfl rfl rfl rfl rfl rfl rfl (by assumption) rfl ?_)
 refine RL.boxWeakL hok rb (rCells P .nil ⟨⟨[], fuel, picks⟩, 0, 0, false, 0, 0⟩) (by repeat (first | exact Sel.here | apply Sel.there)) (.cons aRfl (.cons aRfl (.cons aRfl (.cons (AVle.nil (by intro b h; cases h)) (.cons aRfl (.cons aRfl (.cons aRfl (.cons aRfl (.cons aRfl (.one aRfl)))))))))) fun hok => ?_
 refine RL.phantom hok 48 5 0 fun hok => ?_
 refine RL.callL rfl rfl rfl rfl rfl (hcall rb) hok (by simp only [qK, rCells]; repeat (first | exact Sels.nil | (apply Sels.cons; · repeat (first | exact Sel.here | apply Sel.there)))) ?_ (fun _ _ ⟨_, _, _, h, _⟩ _ => by cases h)
 rintro _ _ ⟨own1, q1, u1, ⟨⟩, rfl, g1, g2, g3, g4⟩ hok
 simp only at g1 g2
 subst g1
 obtain ⟨st1, ids1, fin1, ended1, to1, val1⟩ := q1
 unfold qK rCells at hok ⊢
 simp only at hok g2 ⊢
 cases o with
 | val v =>
  obtain ⟨rfl, rfl, rfl, rfl⟩ := g2
  repeat (first | (with_reducible first | apply CW.seq | apply aN | apply CW.ret) | refine CW.reg ?_ | refine RL.nil ?_ | refine CW.condT rfl ?_ | refine wS rfl ?_ | refine RL.loadL tO hok rfl rfl rfl rfl rfl rfl (by repeat (first | exact Sel.here | apply Sel.there)) (by exact rfl) ?_ | refine RL.storeL tO hok rfl rfl rfl rfl rfl rfl rfl rfl rfl (by repeat (first | exact Sel.here | apply Sel.there)) (by exact rfl) (fun hok => ?_))
  exact Fin.retP hok (resA_cell rfl rfl (Sel.get (by repeat (first | exact Sel.here | apply Sel.there)) hok) rfl) (AVle.agg (.cons aRfl (.cons aRfl (.cons AVle.fro (.one aRfl)))))
 | leave d v => exact absurd hrok.1 (Nat.not_lt_zero _)
 | stop e =>
  obtain ⟨rfl, rfl⟩ := g2
  repeat (first | (with_reducible first | apply CW.seq | apply aN | apply CW.ret | apply CW.skip) | refine CW.reg ?_ | refine RL.nil ?_ | refine CW.condF rfl ?_ | refine wS rfl ?_ | refine RL.loadL tO hok rfl rfl rfl rfl rfl rfl (by repeat (first | exact Sel.here | apply Sel.there)) (by exact rfl) ?_ | refine RL.storeL tO hok rfl rfl rfl rfl rfl rfl rfl rfl rfl (by repeat (first | exact Sel.here | apply Sel.there)) (by exact rfl) (fun hok => ?_))
  exact Fin.retP hok (resA_cell rfl rfl (Sel.get (by repeat (first | exact Sel.here | apply Sel.there)) hok) rfl) (AVle.agg (.cons aRfl (.cons aRfl (.cons AVle.fro (.one aRfl)))))
set_option maxRecDepth 10000 in
set_option maxHeartbeats 1000000 in
theorem rAsked_spec (p : List CRaw) (hp : CRaw.sizes p + 1 < big) (hand : Int) (picks : List Int) (hpl : picks.length < big) (fuel : Int) :
  PCalls Tryz.prog 15 [.slc 3 (p.map CRaw.av) .fro, .int .i64 hand, intsA picks, .int .i64 fuel] (.bool (askedB p hand picks fuel)) := by
 have hb : big = 1099511627776 := rfl
 have hlm : ((picks.map intA).length : Int) = picks.length := by simp
 have hg := refGood_spec p hp
 have hi := refIn_spec hand
 refine PCalls.of_CW tO call15 Tryz.func15 rfl rfl fun s hok => ?_
 unfold intsA
 repeat (first | (with_reducible first | apply CW.seq | apply aN | apply CW.block) | refine wR rfl ?_)
 refine CW.loopL hok (σ := Nat) (fun j => [(0, .slc 3 (p.map CRaw.av) .fro), (1, .int .i64 hand), (2, .slc 1 (picks.map intA) .fro), (3, .int .i64 fuel), (11, .slc 1 (picks.map intA) .fro), (12, .int .i64 picks.length), (13, .int .i64 (j : Int))]) (fun _ => []) (fun j => j ≤ picks.length ∧ ∀ i y, i < j → picks[i]? = some y → 0 ≤ y) (fun j => picks.length - j) 0 ⟨by omega, fun i y hi => by omega⟩ (by repeat (first | exact trivial | refine ⟨⟨_, rfl, aRfl⟩, ?_⟩ | refine ⟨⟨_, rfl, AVle.of_eq (by simp)⟩, ?_⟩)) (by repeat (first | exact Sels.nil | (apply Sels.cons; · repeat (first | exact Sel.here | apply Sel.there)))) ?_
 rintro j ⟨hj, hI⟩ hok
 repeat (first | (with_reducible first | apply CW.seq | apply aN) | refine wR rfl ?_)
 refine CW.cond rfl (fun h => ?_) (fun h => ?_)
 ·have hlt : j < picks.length := by simpa using h
  obtain ⟨y, hy, hy'⟩ := elem_at (f := intA) hlt
  unfold intA at hy'
  repeat (first | (with_reducible first | apply CW.seq | apply aN | apply CW.skip | apply CW.block) | refine wR rfl ?_ | refine CW.reg ?_ | refine RL.nil ?_ | refine wS rfl ?_ | refine RL.idx tO _ rfl rfl rfl rfl rfl rfl rfl rfl rfl rfl rfl (by assumption) rfl ?_)
  refine CW.cond rfl (fun hn => ?_) (fun hn => ?_)
  ·have hn : y < 0 := of_decide_eq_true hn
   have hx : askedB p hand picks fuel = false := by
    have : picks.any (fun n => decide (n < 0)) = true := List.any_eq_true.2 ⟨y, List.mem_of_getElem? hy, by simpa using hn⟩
    unfold askedB; rw [this]; simp
   rw [hx]
   repeat (first | (with_reducible first | apply CW.seq | apply aN | apply aR | apply iR | apply CW.ret) | refine wR rfl ?_)
   exact Fin.retP hok rfl aRfl
  ·have hn : ¬ y < 0 := of_decide_eq_false hn
   repeat (first | (with_reducible first | apply aN | apply iN | apply CW.skip) | refine wR rfl ?_)
   refine NextL.mk (j + 1) hok ⟨hlt, fun i z hi hz => ?_⟩ (by repeat (first | exact trivial | refine ⟨⟨_, rfl, aRfl⟩, ?_⟩ | refine ⟨⟨_, rfl, AVle.of_eq (by (rw [i64_succ (by omega)]))⟩, ?_⟩)) (by repeat (first | exact Sels.nil | (apply Sels.cons; · repeat (first | exact Sel.here | apply Sel.there)))) (by show picks.length - (j + 1) < picks.length - j; omega)
   rcases Nat.lt_succ_iff_lt_or_eq.1 hi with hi | rfl
   ·exact hI i z hi hz
   ·rw [hy] at hz; cases hz; omega
 ·have hge : picks.length ≤ j := by simpa using h
  have hany : picks.any (fun n => decide (n < 0)) = false := by
   rw [List.any_eq_false]
   intro y hy
   obtain ⟨i, hi⟩ := List.getElem?_of_mem hy
   have := hI i y (by have := (List.getElem?_eq_some_iff.1 hi).1; omega) hi
   simp; omega
  have hres : askedB p hand picks fuel = (goodP p && inB hand (-1000000000) 1000000000 && inB fuel 0 300 && decide ((picks.length : Int) ≤ 40)) := by unfold askedB; rw [hany]; simp
  rw [hres]
  repeat (first | (with_reducible first | apply CW.seq | apply aN | apply aX | apply iH | apply CW.exit) | refine CW.reg ?_ | refine wS rfl ?_)
  refine RL.callPP rfl rfl rfl rfl rfl hg ?_
  cases h1 : goodP p with
  | false =>
   repeat (first | (with_reducible first | apply aN | apply CW.ret) | refine RL.nil ?_ | refine wS rfl ?_ | refine RL.skip rfl rfl rfl ?_)
   exact Fin.retP hok rfl aRfl
  | true =>
   repeat (first | refine wS rfl ?_)
   refine RL.callPP rfl rfl rfl rfl rfl hi ?_
   cases h2 : inB hand (-1000000000) 1000000000 with
   | false =>
    repeat (first | (with_reducible first | apply aN | apply CW.ret) | refine RL.nil ?_ | refine wS rfl ?_ | refine RL.skip rfl rfl rfl ?_)
    exact Fin.retP hok rfl aRfl
   | true =>
    repeat (first | refine wS rfl ?_)
    by_cases h3 : (picks.length : Int) ≤ 40
    ·refine RL.knowT 31 rfl (by rw [hlm]; exact decide_eq_true h3) ?_
     repeat (first | refine wS rfl ?_)
     by_cases h4 : fuel ≥ 0
     ·refine RL.knowT 35 rfl (decide_eq_true h4) ?_
      repeat (first | (with_reducible first | apply aN | apply CW.ret) | refine RL.nil ?_ | refine wS rfl ?_)
      exact Fin.retP hok rfl (AVle.of_eq (by congr 1; unfold inB; simp [h3, h4]))
     ·refine RL.knowF 35 rfl (decide_eq_false h4) ?_
      repeat (first | (with_reducible first | apply aN | apply CW.ret) | refine RL.nil ?_ | refine wS rfl ?_ | refine RL.skip rfl rfl rfl ?_)
      exact Fin.retP hok rfl (AVle.of_eq (by congr 1; unfold inB; simp [h4]))
    ·refine RL.knowF 31 rfl (by rw [hlm]; exact decide_eq_false h3) ?_
     repeat (first | (with_reducible first | apply aN | apply CW.ret) | refine RL.nil ?_ | refine wS rfl ?_ | refine RL.skip rfl rfl rfl ?_)
     exact Fin.retP hok rfl (AVle.of_eq (by congr 1; simp [h3]))
end Go.Proofs.YtdeiinhccdlfiaaGreat

/- Chapter 19, seat .Z: the laws CondRuns and CondDrives: both sides give the same run. -/
namespace Go.Proofs.YtdeiinhccdlfiaaGreat
open Go.AE Go.Cond

theorem intsB_iff (a b : List Int) : intsB a b = true ↔ a = b := listB_iff (by intro x y; simp [intEq])
theorem evB_iff (a b : Ev) : evB a b = true ↔ a = b := by
 obtain ⟨d, n, v, hs, rs⟩ := a
 obtain ⟨d', n', v', hs', rs'⟩ := b
 simp [evB, intsB_iff]
theorem evsB_iff (a b : List Ev) : listB evB a b = true ↔ a = b := listB_iff evB_iff
structure Asked (P : List CExp) (hand : Int) (picks : List Int) (fuel : Nat) : Prop where
 fit : Fit P
 yes : askedB (P.map rawE) hand picks fuel = true
 few : fuel ≤ 300
theorem asked_of {p : List CRaw} {hand : Int} {picks : List Int} {fuel : Int} (h : askedB p hand picks fuel = true) : ∃ (P : List CExp) (f : Nat), p = P.map rawE ∧ fuel = f ∧ Asked P hand picks f := by
 have h' := h
 unfold askedB inB at h'
 simp only [Bool.and_eq_true, decide_eq_true_eq] at h'
 obtain ⟨⟨⟨⟨h1, h2⟩, h3⟩, h4⟩, h5⟩ := h'
 obtain ⟨P, rfl, f⟩ := good_fit h1
 refine ⟨P, fuel.toNat, rfl, (Int.toNat_of_nonneg h3.1).symm, f, ?_, by omega⟩
 rw [Int.toNat_of_nonneg h3.1]; exact h
noncomputable def driveT (p : List CRaw) (hand : Int) (picks : List Int) (fuel : Int) : Cond.Run × Int :=
 if h : askedB p hand picks fuel = true then (drive (asked_of h).choose hand picks fuel.toNat, 0) else (noRun, 2)
theorem driveT_spec (p : List CRaw) (hp : CRaw.sizes p + 1 < big) (hand : Int) (picks : List Int) (hpl : picks.length < big) (fuel : Int) :
  PCalls Tryz.prog 10 [.slc 3 (p.map CRaw.av) .fro, .int .i64 hand, intsA picks, .int .i64 fuel] (.tup [runA (driveT p hand picks fuel).1, .int .i64 (driveT p hand picks fuel).2]) := by
 unfold driveT
 split
 ·rename_i h
  obtain ⟨f, h1, h2, h3⟩ := (asked_of h).choose_spec
  generalize (asked_of h).choose = P at h1 h3
  subst h1 h2
  exact h3.fit.drive hand picks f h3.yes
 ·rename_i h
  exact driveBad_spec p hp hand picks hpl fuel (by simpa using h)
section
variable {P : List CExp} {hand : Int} {picks : List Int} {fuel : Nat} (h : Asked P hand picks fuel)
include h
theorem Asked.drive : driveT (P.map rawE) hand picks fuel = (Cond.drive P hand picks fuel, 0) := by
 unfold driveT
 rw [dif_pos h.yes]
 obtain ⟨f, h1, h2, -⟩ := (asked_of h.yes).choose_spec
 rw [← raws_inj h1]
 have : (fuel : Int).toNat = fuel := rfl
 rw [this]
theorem Asked.fair : (Cond.drive P hand picks fuel).evs.length < 1000 ∧ ∀ e ∈ (Cond.drive P hand picks fuel).evs, EvFair e := drive_fair P hand picks fuel h.few
end
theorem driveT_bad {p : List CRaw} {hand : Int} {picks : List Int} {fuel : Int} (h : askedB p hand picks fuel = false) : driveT p hand picks fuel = (noRun, 2) := by
 unfold driveT
 rw [dif_neg (by simp [h])]
theorem runT_spec (p : List CRaw) (hp : CRaw.sizes p + 1 < big) (hand fuel : Int) :
  PCalls Tryz.prog 6 [.slc 3 (p.map CRaw.av) .fro, .int .i64 hand, .int .i64 fuel] (.tup [runA (driveT p hand [] fuel).1, .int .i64 (driveT p hand [] fuel).2]) := by
 unfold driveT
 split
 ·rename_i h
  obtain ⟨f, h1, h2, h3⟩ := (asked_of h).choose_spec
  generalize (asked_of h).choose = P at h1 h3
  subst h1 h2
  exact h3.fit.run hand f h3.yes
 ·rename_i h
  exact runBad_spec p hp hand fuel (by simpa using h)
theorem driveT_fair (p : List CRaw) (hand : Int) (picks : List Int) (fuel : Int) : (driveT p hand picks fuel).1.evs.length < 1000 ∧ ∀ e ∈ (driveT p hand picks fuel).1.evs, EvFair e := by
 cases ha : askedB p hand picks fuel with
 | false => rw [driveT_bad ha]; exact ⟨by decide, fun e he => by cases he⟩
 | true =>
  obtain ⟨P, f, rfl, rfl, A⟩ := asked_of ha
  rw [A.drive]
  exact A.fair
theorem runB_refl (a : Cond.Run) : runB a a = true := by
 unfold runB
 simp [evsB_iff]
set_option maxRecDepth 10000 in
set_option maxHeartbeats 1000000 in
theorem rDrive_spec (p : List CRaw) (hp : CRaw.sizes p + 1 < big) (hand : Int) (picks : List Int) (hpl : picks.length < big) (fuel : Int) :
  PCalls Tryz.prog 7 [.slc 3 (p.map CRaw.av) .fro, .int .i64 hand, intsA picks, .int .i64 fuel] (.tup [runA (driveT p hand picks fuel).1, .int .i64 (driveT p hand picks fuel).2]) := by
 have hask := rAsked_spec p hp hand picks hpl fuel
 cases ha : askedB p hand picks fuel with
 | false =>
  rw [ha] at hask
  rw [driveT_bad ha]
  unfold intsA at hask ⊢
  refine PCalls.of_CW tO call7 Tryz.func7 rfl rfl fun s hok => ?_
  repeat (first | with_reducible apply CW.seq | refine CW.reg ?_)
  refine RL.allocL tO hok rfl rfl rfl rfl rfl rfl rfl (fun b8 hok => ?_)
  repeat (first | (with_reducible first | apply CW.seq | apply aN) | refine CW.reg ?_ | refine RL.nil ?_ | refine wS rfl ?_)
  refine RL.callPP rfl rfl rfl rfl rfl hask ?_
  repeat (first | (with_reducible first | apply CW.seq | apply aN | apply aR | apply CW.ret) | refine CW.reg ?_ | refine RL.nil ?_ | refine CW.condT rfl ?_ | refine wS rfl ?_ | refine RL.storeL tO hok rfl rfl rfl rfl rfl rfl rfl rfl rfl (by repeat (first | exact Sel.here | apply Sel.there)) (by exact rfl) (fun hok => ?_))
  exact Fin.retP hok (resA_cellT rfl rfl (Sel.get Sel.here hok) rfl rfl) (AVle.tup (.cons noRun_le (.one aRfl)))
 | true =>
  rw [ha] at hask
  obtain ⟨P, f, rfl, rfl, A⟩ := asked_of ha
  rw [A.drive]
  have h := ha
  unfold askedB at h
  simp only [Bool.and_eq_true, Bool.not_eq_true', decide_eq_true_eq] at h
  obtain ⟨⟨⟨⟨h1, h2⟩, h3⟩, h4⟩, h5⟩ := h
  have hh : InR hand := by unfold inB at h2; simp at h2; exact ⟨h2.1, h2.2⟩
  have hpk : ∀ n ∈ picks, 0 ≤ n := fun n hn => by have := (List.any_eq_false.1 h5) n hn; simpa using this
  have hof := rDriveOf_spec P A.fit.ok A.fit.one hand hh picks hpk (by omega) f A.few
  unfold progA at hof
  unfold intsA at hask hof ⊢
  unfold runA runCells at hof ⊢
  refine PCalls.of_CW tO call7 Tryz.func7 rfl rfl fun s hok => ?_
  repeat (first | with_reducible apply CW.seq | refine CW.reg ?_)
  refine RL.allocL tO hok rfl rfl rfl rfl rfl rfl rfl (fun b8 hok => ?_)
  repeat (first | (with_reducible first | apply CW.seq | apply aN) | refine CW.reg ?_ | refine RL.nil ?_ | refine wS rfl ?_)
  refine RL.callPP rfl rfl rfl rfl rfl hask ?_
  repeat (first | (with_reducible first | apply CW.seq | apply aN | apply CW.skip) | refine CW.reg ?_ | refine RL.nil ?_ | refine CW.condF rfl ?_ | refine wS rfl ?_)
  refine RL.callPP rfl rfl rfl rfl rfl hof ?_
  repeat (first | (with_reducible first | apply aN | apply CW.ret) | refine RL.nil ?_ | refine wS rfl ?_ | refine RL.storeL tO hok rfl rfl rfl rfl rfl rfl rfl rfl rfl (by repeat (first | exact Sel.here | apply Sel.there)) (by exact rfl) (fun hok => ?_))
  exact Fin.retP hok (resA_cellT rfl rfl (Sel.get Sel.here hok) rfl rfl) aRfl
set_option maxRecDepth 10000 in
set_option maxHeartbeats 1000000 in
theorem condRuns_spec (g : Giv) (hg : g.weight ≤ 1048576) : PCalls Tryz.prog 3 [.agg g.cells] (.bool true) := by
 have hb : big = 1099511627776 := rfl
 obtain ⟨p, hand, picks, fuel⟩ := g
 unfold Giv.weight at hg
 simp only at hg
 have h1 := runT_spec p (by omega) hand fuel; have h2 := PCalls.args (.cons aRfl (.cons aRfl (.cons (AVle.nil (sz := 0) (by intro b h; cases h)) (.one aRfl)))) (rDrive_spec p (by omega) hand [] (by simp; omega) fuel)
 have hfair := driveT_fair p hand [] fuel
 generalize driveT p hand [] fuel = a at h1 h2 hfair
 obtain ⟨a, e⟩ := a
 simp only at h1 h2 hfair
 have hsame := same_spec a a (by omega) (by omega) hfair.2 hfair.2
 rw [runB_refl] at hsame
 simp only [intsA, runA, runCells] at h1 h2 hsame
 simp only [Giv.cells, intsA]
 refine PCalls.of_CW tO call3 Tryz.func3 rfl rfl fun s hok => ?_
 repeat (first | (with_reducible first | apply CW.seq | apply aN) | refine wR rfl ?_ | refine CW.reg ?_ | refine wS rfl ?_)
 refine RL.callPP rfl rfl rfl rfl rfl h1 ?_
 repeat (first | refine wS rfl ?_)
 refine RL.newBox tO rfl rfl rfl rfl rfl rfl rfl (fun _ => rfl) rfl rfl (fun _ => rfl) rfl rfl rfl rfl ?_
 repeat (first | (with_reducible first | apply CW.seq | apply aN) | refine CW.reg ?_ | refine RL.nil ?_ | refine wS rfl ?_)
 refine RL.callPP rfl rfl rfl rfl rfl h2 ?_
 repeat (first | refine wS rfl ?_)
 refine RL.newBox tO rfl rfl rfl rfl rfl rfl rfl (fun _ => rfl) rfl rfl (fun _ => rfl) rfl rfl rfl rfl ?_
 repeat (first | (with_reducible first | apply CW.seq | apply aN) | refine CW.reg ?_ | refine RL.nil ?_ | refine wS rfl ?_)
 refine RL.knowT 30 rfl (decide_eq_true rfl) ?_
 repeat (first | refine wS rfl ?_)
 refine RL.callPP rfl rfl rfl rfl rfl hsame ?_
 repeat (first | refine wS rfl ?_)
 refine RL.callPP rfl rfl rfl rfl rfl known_true ?_
 repeat (first | (with_reducible first | apply aN | apply CW.ret) | refine RL.nil ?_ | refine wS rfl ?_)
 exact Fin.retP hok rfl aRfl
set_option maxRecDepth 10000 in
set_option maxHeartbeats 1000000 in
theorem condDrives_spec (g : Giv) (hg : g.weight ≤ 1048576) : PCalls Tryz.prog 4 [.agg g.cells] (.bool true) := by
 have hb : big = 1099511627776 := rfl
 obtain ⟨p, hand, picks, fuel⟩ := g
 unfold Giv.weight at hg
 simp only at hg
 have h1 := driveT_spec p (by omega) hand picks (by omega) fuel; have h2 := rDrive_spec p (by omega) hand picks (by omega) fuel
 have hfair := driveT_fair p hand picks fuel
 generalize driveT p hand picks fuel = a at h1 h2 hfair
 obtain ⟨a, e⟩ := a
 simp only at h1 h2 hfair
 have hsame := same_spec a a (by omega) (by omega) hfair.2 hfair.2
 rw [runB_refl] at hsame
 simp only [intsA, runA, runCells] at h1 h2 hsame
 simp only [Giv.cells, intsA]
 refine PCalls.of_CW tO call4 Tryz.func4 rfl rfl fun s hok => ?_
 repeat (first | (with_reducible first | apply CW.seq | apply aN) | refine wR rfl ?_ | refine CW.reg ?_ | refine wS rfl ?_)
 refine RL.callPP rfl rfl rfl rfl rfl h1 ?_
 repeat (first | refine wS rfl ?_)
 refine RL.newBox tO rfl rfl rfl rfl rfl rfl rfl (fun _ => rfl) rfl rfl (fun _ => rfl) rfl rfl rfl rfl ?_
 repeat (first | (with_reducible first | apply CW.seq | apply aN) | refine CW.reg ?_ | refine RL.nil ?_ | refine wS rfl ?_)
 refine RL.callPP rfl rfl rfl rfl rfl h2 ?_
 repeat (first | refine wS rfl ?_)
 refine RL.newBox tO rfl rfl rfl rfl rfl rfl rfl (fun _ => rfl) rfl rfl (fun _ => rfl) rfl rfl rfl rfl ?_
 repeat (first | (with_reducible first | apply CW.seq | apply aN) | refine CW.reg ?_ | refine RL.nil ?_ | refine wS rfl ?_)
 refine RL.knowT 34 rfl (decide_eq_true rfl) ?_
 repeat (first | refine wS rfl ?_)
 refine RL.callPP rfl rfl rfl rfl rfl hsame ?_
 repeat (first | refine wS rfl ?_)
 refine RL.callPP rfl rfl rfl rfl rfl known_true ?_
 repeat (first | (with_reducible first | apply aN | apply CW.ret) | refine RL.nil ?_ | refine wS rfl ?_)
 exact Fin.retP hok rfl aRfl
end Go.Proofs.YtdeiinhccdlfiaaGreat

