import Derived.Test.YtdeiinhccdlfiaaGreatVe
import Derived.Shelf.Sort.Plain
import Derived.Shelf.Slices.CompactI
import Derived.KernelRfl
import Derived.Test.YtdeiinhccdlfiaaGreatRows
import Derived.ProofKit
import Derived.OpenShut
import Derived.WalkKit
import Derived.JoinedCond
set_option linter.unusedVariables false
set_option linter.unusedSimpArgs false
/- Chapter 19: slices.Sort and slices.Compact over numbers: their contracts, laid at this program (printed by laysof.py). -/
namespace Go.Proofs.YtdeiinhccdlfiaaGreat
open Go.Shelf Go.Sort Go.Proofs

def sortIRen : Go.Shelf.Ren := ⟨fun | 189 => 42 | 125 => 79 | 257 => 78 | 128 => 108 | 129 => 109 | 294 => 99 | 295 => 100 | 296 => 101 | 297 => 102 | 298 => 103 | 299 => 104 | 216 => 105 | 300 => 106 | 301 => 107 | 328 => 116 | 329 => 117 | 330 => 118 | 331 => 119 | 332 => 120 | 215 => 121 | 343 => 124 | n => n, fun | 28 => 23 | 3 => 3 | 46 => 118 | 0 => 0 | 51 => 158 | 53 => 160 | 4 => 4 | 183 => 150 | 182 => 149 | 131 => 155 | 5 => 5 | 9 => 9 | 218 => 167 | 222 => 72 | 228 => 174 | 229 => 175 | n => n, fun n => n⟩
theorem sortILays : Lays.n189 Tryz.prog sortIRen where
 mixed := by kernel_rfl
 f125 := Tryz.func79.trans (congrArg some (by kernel_rfl))
 f128 := Tryz.func108.trans (congrArg some (by kernel_rfl))
 f129 := Tryz.func109.trans (congrArg some (by kernel_rfl))
 f189 := Tryz.func42.trans (congrArg some (by kernel_rfl))
 f215 := Tryz.func121.trans (congrArg some (by kernel_rfl))
 f216 := Tryz.func105.trans (congrArg some (by kernel_rfl))
 f257 := Tryz.func78.trans (congrArg some (by kernel_rfl))
 f294 := Tryz.func99.trans (congrArg some (by kernel_rfl))
 f295 := Tryz.func100.trans (congrArg some (by kernel_rfl))
 f296 := Tryz.func101.trans (congrArg some (by kernel_rfl))
 f297 := Tryz.func102.trans (congrArg some (by kernel_rfl))
 f298 := Tryz.func103.trans (congrArg some (by kernel_rfl))
 f299 := Tryz.func104.trans (congrArg some (by kernel_rfl))
 f300 := Tryz.func106.trans (congrArg some (by kernel_rfl))
 f301 := Tryz.func107.trans (congrArg some (by kernel_rfl))
 f328 := Tryz.func116.trans (congrArg some (by kernel_rfl))
 f329 := Tryz.func117.trans (congrArg some (by kernel_rfl))
 f330 := Tryz.func118.trans (congrArg some (by kernel_rfl))
 f331 := Tryz.func119.trans (congrArg some (by kernel_rfl))
 f332 := Tryz.func120.trans (congrArg some (by kernel_rfl))
 f343 := Tryz.func124.trans (congrArg some (by kernel_rfl))
 t0 := Tryz.underlying0
 a0 := Tryz.isAgg0
 z0 := Tryz.sizeOf0
 v0 := Tryz.zeroValue0
 t3 := Tryz.underlying3
 a3 := Tryz.isAgg3
 z3 := Tryz.sizeOf3
 v3 := Tryz.zeroValue3
 t4 := Tryz.underlying4
 a4 := Tryz.isAgg4
 z4 := Tryz.sizeOf4
 v4 := Tryz.zeroValue4
 t5 := Tryz.underlying5
 a5 := Tryz.isAgg5
 z5 := Tryz.sizeOf5
 v5 := Tryz.zeroValue5
 t9 := Tryz.underlying9
 a9 := Tryz.isAgg9
 z9 := Tryz.sizeOf9
 v9 := Tryz.zeroValue9
 t28 := Tryz.underlying23
 a28 := Tryz.isAgg23
 z28 := Tryz.sizeOf23
 v28 := Tryz.zeroValue23
 t46 := Tryz.underlying118
 a46 := Tryz.isAgg118
 z46 := Tryz.sizeOf118
 v46 := Tryz.zeroValue118
 t51 := Tryz.underlying158
 a51 := Tryz.isAgg158
 z51 := Tryz.sizeOf158
 v51 := Tryz.zeroValue158
 t53 := Tryz.underlying160
 a53 := Tryz.isAgg160
 z53 := Tryz.sizeOf160
 v53 := Tryz.zeroValue160
 t131 := Tryz.underlying155
 a131 := Tryz.isAgg155
 z131 := Tryz.sizeOf155
 v131 := Tryz.zeroValue155
 t182 := Tryz.underlying149
 a182 := Tryz.isAgg149
 z182 := Tryz.sizeOf149
 v182 := Tryz.zeroValue149
 t183 := Tryz.underlying150
 a183 := Tryz.isAgg150
 z183 := Tryz.sizeOf150
 v183 := Tryz.zeroValue150
 t218 := Tryz.underlying167
 a218 := Tryz.isAgg167
 z218 := Tryz.sizeOf167
 v218 := Tryz.zeroValue167
 t222 := Tryz.underlying72
 a222 := Tryz.isAgg72
 z222 := Tryz.sizeOf72
 v222 := Tryz.zeroValue72
 t228 := Tryz.underlying174
 a228 := Tryz.isAgg174
 z228 := Tryz.sizeOf174
 v228 := Tryz.zeroValue174
 t229 := Tryz.underlying175
 a229 := Tryz.isAgg175
 z229 := Tryz.sizeOf175
 v229 := Tryz.zeroValue175
def compIRen : Go.Shelf.Ren := ⟨fun | 20 => 43 | n => n, fun | 22 => 23 | 3 => 3 | 4 => 4 | 0 => 0 | n => n, fun n => n⟩
theorem compILays : Lays2.n20 Tryz.prog compIRen where
 mixed := by kernel_rfl
 f20 := Tryz.func43.trans (congrArg some (by kernel_rfl))
 t0 := Tryz.underlying0
 a0 := Tryz.isAgg0
 z0 := Tryz.sizeOf0
 v0 := Tryz.zeroValue0
 t3 := Tryz.underlying3
 a3 := Tryz.isAgg3
 z3 := Tryz.sizeOf3
 v3 := Tryz.zeroValue3
 t4 := Tryz.underlying4
 a4 := Tryz.isAgg4
 z4 := Tryz.sizeOf4
 v4 := Tryz.zeroValue4
 t22 := Tryz.underlying23
 a22 := Tryz.isAgg23
 z22 := Tryz.sizeOf23
 v22 := Tryz.zeroValue23
 i3 := by kernel_rfl
theorem sortI_calls (blk off cap : Nat) (zs : List Int) (w : World) (hH : Holds (Value.int .i64) w blk off zs.toArray) (hblk : blk < w.heap.size) (hsz : zs.length < 4611686018427387904) :
  Calls Tryz.prog 42 #[.slice (some ⟨blk, off, none⟩) zs.length cap] w fun e w' =>
   e = .returned (.tuple #[]) ∧ ∃ n os, w' = grow (putRow (Value.int .i64) (Sort.ahead w n) blk off (zs.mergeSort fun x y => decide (x ≤ y)).toArray) os :=
 Any.slices_Sort_int sortILays blk off cap zs w hH hblk hsz
theorem compI_calls (blk off cap : Nat) (zs : List Int) (w : World) (hH : Holds (Value.int .i64) w blk off zs.toArray) (hsz : zs.length ≤ 9223372036854775807) (hcap : zs.length ≤ cap) :
  Calls Tryz.prog 43 #[.slice (some ⟨blk, off, none⟩) zs.length cap] w fun e w' => e = .returned (.slice (some ⟨blk, off, none⟩) (Lib.compact zs).length cap) ∧
   ∃ q, w' = putRow (Value.int .i64) (Sort.ahead w q) blk off (Lib.compact zs ++ List.replicate (zs.length - (Lib.compact zs).length) 0).toArray :=
 Any.slices_Compact_int compILays blk off cap zs w hH hsz hcap
end Go.Proofs.YtdeiinhccdlfiaaGreat

/- Chapter 19: contracts of cond: all that an expression reaches, one after the other (every). -/
namespace Go.Proofs.YtdeiinhccdlfiaaGreat
open Go.AE Go.Cond

def metA (m : List Nat) : List AV := (List.range 6).map fun n => .bool (m.contains n)
theorem metA_at {m : List Nat} {n : Nat} (h : n < 6) : (metA m)[n]? = some (.bool (m.contains n)) := by
 unfold metA
 rw [List.getElem?_map, List.getElem?_range h]; rfl
theorem dropC_some : ∀ {n : Nat} {l : List AV}, n ≤ l.length → dropC n l = some (l.drop n)
 | 0, _, _ => by simp [dropC]
 | n + 1, [], h => absurd h (by simp)
 | n + 1, x :: r, h => by rw [dropC, List.drop_succ_cons]; exact dropC_some (by simpa using h)
theorem loadC_bool {cs : List AV} {n : Nat} {v : AV} (h : cs[n]? = some v) : loadC ⟨.bool, 1, 1, .bool false⟩ cs n = some v := by
 unfold loadC
 have hl := (List.getElem?_eq_some_iff.1 h).1
 have hv := (List.getElem?_eq_some_iff.1 h).2
 have : dropC n cs = some (cs.drop n) := dropC_some (by omega)
 rw [this]
 simp only
 rw [List.drop_eq_getElem_cons hl, hv]
theorem metA_put {m : List Nat} {n : Nat} (h : n < 6) : setL n [.bool true] (metA m) = metA (n :: m) := by
 rw [setL_eq _ _ _ (by simp [metA]; omega)]
 refine List.ext_getElem? fun i => ?_
 by_cases hi : i < 6
 ·rw [metA_at hi]
  by_cases e : i = n
  ·subst e
   rw [List.append_assoc, List.getElem?_append_right (by simp [metA] <;> omega)]
   simp [metA, show min i 6 = i by omega]
  ·by_cases hl : i < n
   ·rw [List.append_assoc, List.getElem?_append_left (by simp [metA] <;> omega), List.getElem?_take_of_lt hl, metA_at hi]
    simp [e]
   ·rw [List.getElem?_append_right (by simp [metA]; omega)]
    simp only [List.length_append, List.length_take, List.length_cons, List.length_nil, List.getElem?_drop, metA, List.length_map, List.length_range]
    rw [show n + (0 + 1) + (i - (min n 6 + (0 + 1))) = i by omega, List.getElem?_map, List.getElem?_range hi]
    simp [e]
 ·rw [List.getElem?_eq_none (by simp [metA]; omega), List.getElem?_eq_none (by simp [metA]; omega)]
theorem Sels.skip {K : LS} : ∀ A : LS, Sels (A ++ K) K A
 | [] => Sels.allZ K
 | _ :: A => (Sels.skip A).there
theorem Sels.comm (A B : LS) : Sels (A ++ B) (B ++ A) [] := (Sels.skip A).app (Sels.allZ A)
def evF (b4 b5 lp : Nat) (P : List CExp) : AV := .func 77 [] [.fptr [yieldV lp] 0, .ptr b5 0, .ptr b4 0, .fptr [progA P] 0]
def evK (b4 b5 lp : Nat) (P : List CExp) (m : List Nat) : LS := [(.own b5, .box 97 [evF b4 b5 lp P]), (.own b4, .box 115 (metA m))]
def avE (x : CExp) : AV := (rawE x).av
theorem kids_raw (x : CExp) : (rawE x).kids = x.kids.map rawE := by cases x <;> rfl
def EvPost (b4 b5 lp : Nat) (P : List CExp) (Go : List CExp → LS → Prop) (Done : LS → Prop) (Pan : AV → LS → Prop) (rest : List CExp) (m : List Nat) (o : AOut) (K : LS) : Prop :=
 (o = .ret (.bool true) ∧ ∃ K', K = evK b4 b5 lp P m ++ K' ∧ Go rest K') ∨ (o = .ret (.bool false) ∧ ∃ K' m', K = evK b4 b5 lp P m' ++ K' ∧ Done K') ∨ ∃ v K' m', o = .panic v ∧ K = evK b4 b5 lp P m' ++ K' ∧ Pan v K'
section
variable {P : List CExp} {lp b4 b5 : Nat} {Go : List CExp → LS → Prop} {Done : LS → Prop} {Pan : AV → LS → Prop}
set_option maxRecDepth 10000 in
set_option maxHeartbeats 2000000 in
theorem evWalk_spec (hP6 : P.length ≤ 6) (hY : YieldsL Tryz.prog avE lp Go Done Pan) : ∀ (k : Nat) (x : CExp) (m : List Nat) (rest : List CExp) (K : LS), x.size < big → OkC P x → (∀ n, (P.getD n default).size < big) → Go ((evW P k x m).1 ++ rest) K →
    (∀ S, (∀ n, (P.getD n default).size ≤ S) → unmet m P.length * S + x.size ≤ k →
    LCalls Tryz.prog 77 [avE x, .fptr [yieldV lp] 0, .ptr b5 0, .ptr b4 0, .fptr [progA P] 0] (evK b4 b5 lp P m ++ K) (EvPost b4 b5 lp P Go Done Pan rest (evW P k x m).2))
  | 0, x, m, rest, K, _, _, _, _, S, _, hk => by have := size_kids x; omega
  | k + 1, x, m, rest, K, hxb, hxc, hPb, hgo, S, hS, hk => by
    have hb : big = 1099511627776 := rfl
    have hsk := size_kids x
    refine LCalls.of_CW tO call77 Tryz.func77 rfl rfl fun s hok => ?_
    have hP1 : (evW P (k + 1) x m).1 = x :: ((evL (evW P k) x.kids m).1 ++ match x.target with
        | none => []
        | some n => if (evL (evW P k) x.kids m).2.contains n then [] else (evW P k (P.getD n default) (n :: (evL (evW P k) x.kids m).2)).1) := by
      rw [evW]
      cases x.target with
      | none => simp
      | some n => simp only; split <;> simp
    have hP2 : (evW P (k + 1) x m).2 = match x.target with
        | none => (evL (evW P k) x.kids m).2
        | some n => if (evL (evW P k) x.kids m).2.contains n then (evL (evW P k) x.kids m).2 else (evW P k (P.getD n default) (n :: (evL (evW P k) x.kids m).2)).2 := by
      rw [evW]
      cases x.target with
      | none => rfl
      | some n => simp only; split <;> rfl
    rw [hP1] at hgo
    rw [hP2]
    have hwh := evL_whole (evW_whole hS k) x.kids m (fun y hy => hxc.kid hy) (by omega)
    generalize hA : evL (evW P k) x.kids m = A at hgo hwh ⊢
    generalize hT : (match x.target with
        | none => []
        | some n => if A.2.contains n then [] else (evW P k (P.getD n default) (n :: A.2)).1 : List CExp) = T at hgo
    have hkl : ((x.kids.map rawE).map CRaw.av).length = x.kids.length := by simp
    have hklb : x.kids.length < big := by
      have : ∀ l : List CExp, l.length ≤ sizesE l := by
        intro l; induction l with
        | nil => simp [sizesE]
        | cons y r ih => rw [sizesE, List.length_cons]; have := size_kids y; omega
      have := this x.kids
      omega
    have hv := hY x (A.1 ++ T ++ rest) K (by simpa using hgo)
    clear hgo
    unfold avE at hv ⊢
    rw [CRaw.av_eq] at hv ⊢
    unfold CRaw.cells at hv ⊢
    rw [kids_raw] at hv ⊢
    unfold evK at hok ⊢
    repeat (first | (with_reducible first | apply CW.seq | apply aN) | refine wR rfl ?_ | refine CW.reg ?_ | refine wS rfl ?_)
    refine RL.callVL rfl rfl rfl rfl rfl rfl hv hok (Sels.skip _) ?_ ?_
    rotate_left
    · rintro x' K' (⟨h, -⟩ | ⟨h, -⟩ | ⟨v, ⟨⟩, hp⟩) hok
      · cases h
      · cases h
      · refine Fin.panicL hok aRfl (Sels.comm _ _) (.inr (.inr ⟨_, K', m, rfl, rfl, hp⟩))
    rintro x' K' (⟨⟨⟩, hgo⟩ | ⟨⟨⟩, hd⟩ | ⟨v, h, -⟩) hok
    rotate_left
    · repeat (first | (with_reducible first | apply CW.seq | apply aN | apply aR | apply CW.ret) | refine wR rfl ?_ | refine RL.nil ?_ | refine CW.condT rfl ?_ | refine wS rfl ?_)
      refine Fin.retL hok rfl aRfl (Sels.comm _ _) (.inr (.inl ⟨rfl, K', m, rfl, hd⟩))
    · cases h
    refine RL.dropL hok (evK b4 b5 lp P m ++ K') (Sels.comm _ _) fun hok => ?_
    repeat (first | (with_reducible first | apply CW.seq | apply aN | apply CW.skip | apply CW.block) | refine wR rfl ?_ | refine RL.nil ?_ | refine CW.condF rfl ?_ | refine wS rfl ?_)
    refine CW.loopL hok (σ := Nat × List Nat × LS) (fun q => [(1, .fptr [yieldV lp] 0), (2, .ptr b5 0), (3, .ptr b4 0), (4, .fptr [progA P] 0), (5, .fptr [.int .i64 (rawE x).op, .int .i64 (rawE x).n, .slc 3 ((x.kids.map rawE).map CRaw.av) .fro] 0), (14, .slc 3 ((x.kids.map rawE).map CRaw.av) .fro), (15, .int .i64 x.kids.length), (16, .int .i64 (q.1 : Int))]) (fun q => evK b4 b5 lp P q.2.1 ++ q.2.2)
      (fun q => q.1 ≤ x.kids.length ∧ (∀ n ∈ m, n ∈ q.2.1) ∧ (evL (evW P k) (x.kids.drop q.1) q.2.1).2 = A.2 ∧ Go ((evL (evW P k) (x.kids.drop q.1) q.2.1).1 ++ (T ++ rest)) q.2.2) (fun q => x.kids.length - q.1) (0, m, K') ⟨by simp, fun _ h => h, by simp [hA], by simpa [hA] using hgo⟩ (by repeat (first | exact trivial | refine ⟨⟨_, rfl, aRfl⟩, ?_⟩ | refine ⟨⟨_, rfl, AVle.of_eq (by simp)⟩, ?_⟩)) (Sels.allZ _) ?_
    rintro ⟨j, mj, K₀⟩ ⟨hj, hms, hm2, hgo⟩ hok
    simp only at hj hms hm2 hgo hok ⊢
    repeat (first | (with_reducible first | apply CW.seq | apply aN) | refine wR rfl ?_)
    refine CW.cond rfl (fun hh => ?_) (fun hh => ?_)
    · have hlt : j < x.kids.length := by simpa using hh
      have hy : x.kids[j]? = some x.kids[j] := List.getElem?_eq_getElem hlt
      generalize x.kids[j] = y at hy
      have hy' : ((x.kids.map rawE).map CRaw.av)[j]? = some (.agg [.int .i64 (rawE y).op, .int .i64 (rawE y).n, .slc 3 ((rawE y).kids.map CRaw.av) .fro]) := by
        rw [List.getElem?_map, List.getElem?_map, hy]
        exact congrArg some (CRaw.av_eq _)
      have hmem := List.mem_of_getElem? hy
      have hys := mem_sizesE hmem
      have hdr : x.kids.drop j = y :: x.kids.drop (j + 1) := drop_cons hy
      rw [hdr, evL] at hm2 hgo
      simp only at hm2 hgo
      have hu := Nat.mul_le_mul_right S (unmet_mono hms P.length)
      have hw1 := evW_whole hS k y mj (hxc.kid hmem) (by omega)
      have hcall := evWalk_spec hP6 hY k y mj ((evL (evW P k) (x.kids.drop (j + 1)) (evW P k y mj).2).1 ++ (T ++ rest)) K₀ (by omega) (hxc.kid hmem) hPb (by rw [← List.append_assoc]; exact hgo) S hS (by omega)
      have hcv : LCallV Tryz.prog (evF b4 b5 lp P) [avE y] (evK b4 b5 lp P mj ++ K₀) _ := LCallV.of_calls (first := []) (cap := [.fptr [yieldV lp] 0, .ptr b5 0, .ptr b4 0, .fptr [progA P] 0]) hcall
      unfold avE at hcv
      rw [CRaw.av_eq] at hcv
      unfold evK at hok hcv ⊢
      repeat (first | (with_reducible first | apply CW.seq | apply aN | apply CW.skip | apply CW.block) | refine CW.reg ?_ | refine wS rfl ?_ | refine RL.idx tO _ rfl rfl rfl rfl rfl rfl rfl rfl rfl rfl rfl (by assumption) rfl ?_)
      refine RL.newBox tO rfl rfl rfl rfl rfl rfl rfl (fun _ => rfl) rfl rfl (fun _ => rfl) rfl rfl rfl rfl ?_
      repeat (first | (with_reducible first | apply CW.seq | apply aN) | refine CW.reg ?_ | refine RL.nil ?_ | refine wS rfl ?_ | refine RL.loadL tO hok rfl rfl rfl rfl rfl rfl (by repeat (first | exact Sel.here | apply Sel.there)) (by exact rfl) ?_)
      refine RL.callVL rfl rfl rfl rfl rfl rfl hcv hok (Sels.allZ _) ?_ ?_
      rotate_left
      · rintro x' _ (⟨h, -⟩ | ⟨h, -⟩ | ⟨v, K₁, m₁, ⟨⟩, rfl, hp⟩) hok
        · cases h
        · cases h
        · rw [List.append_nil] at hok ⊢
          repeat (with_reducible first | apply aP | apply iP)
          exact Fin.panicL hok aRfl (Sels.allZ _) (.inr (.inr ⟨_, K₁, m₁, rfl, rfl, hp⟩))
      rintro x' _ (⟨⟨⟩, K₁, rfl, hgo₁⟩ | ⟨⟨⟩, K₁, m₁, rfl, hd⟩ | ⟨v, _, _, h, -⟩) hok
      rotate_left
      · rw [List.append_nil] at hok ⊢
        repeat (first | (with_reducible first | apply CW.seq | apply aN | apply aR | apply iR | apply CW.ret) | refine wR rfl ?_ | refine RL.nil ?_ | refine CW.condT rfl ?_ | refine wS rfl ?_)
        exact Fin.retL hok rfl aRfl (Sels.allZ _) (.inr (.inl ⟨rfl, K₁, m₁, rfl, hd⟩))
      · cases h
      rw [List.append_nil] at hok ⊢
      repeat (first | (with_reducible first | apply aN | apply iN | apply CW.skip) | refine wR rfl ?_ | refine RL.nil ?_ | refine CW.condF rfl ?_ | refine wS rfl ?_)
      exact NextL.mk (j + 1, (evW P k y mj).2, K₁) hok ⟨hlt, fun n hn => hw1.sub n (hms n hn), hm2, hgo₁⟩ (by repeat (first | exact trivial | refine ⟨⟨_, rfl, aRfl⟩, ?_⟩ | refine ⟨⟨_, rfl, AVle.of_eq (by (rw [i64_succ (by omega)]))⟩, ?_⟩)) (Sels.allZ _) (by show x.kids.length - (j + 1) < x.kids.length - j; omega)
    · have hge : j = x.kids.length := by
        have : x.kids.length ≤ j := by simpa using hh
        omega
      subst hge
      rw [List.drop_length, evL] at hm2 hgo
      simp only [List.nil_append] at hm2 hgo
      subst hm2
      unfold evK at hok ⊢
      repeat (first | (with_reducible first | apply CW.seq | apply aN | apply aX | apply iH | apply CW.exit) | refine CW.reg ?_ | refine wS rfl ?_)
      cases hx7 : (rawE x).op == 7 with
      | false =>
        have htg : x.target = none := by cases x <;> first | rfl | (simp [rawE, CRaw.op] at hx7)
        rw [htg] at hT ⊢
        subst hT
        repeat (first | (with_reducible first | apply CW.seq | apply aN | apply CW.ret | apply CW.skip) | refine wR rfl ?_ | refine RL.nil ?_ | refine CW.condF rfl ?_ | refine wS rfl ?_ | refine RL.skip rfl rfl rfl ?_)
        exact Fin.retL hok rfl aRfl (Sels.allZ _) (.inl ⟨rfl, K₀, rfl, by simpa using hgo⟩)
      | true =>
        have : ∃ n a, x = .call n a := by cases x <;> first | exact ⟨_, _, rfl⟩ | (simp [rawE, CRaw.op] at hx7)
        obtain ⟨n, a, rfl⟩ := this
        have hn := hxc n a (.refl _)
        have hn6 : n < 6 := by omega
        obtain ⟨bi, -, hbi, -, -, hbs, -⟩ := tO.parts (t := 4) (i := ⟨.bool, 1, 1, .bool false⟩) rfl
        have hmn := metA_at (m := A.2) hn6
        have hel : ((P.map rawE).map CRaw.av)[n]? = some (.agg (rawE (P.getD n default)).cells) := by
          rw [← CRaw.av_eq, List.getElem?_map, List.getElem?_map, List.getD_eq_getElem?_getD, List.getElem?_eq_getElem hn]; rfl
        simp only [CExp.target] at hT ⊢
        repeat (first | refine wS rfl ?_)
        refine RL.idxArr n rfl rfl rfl Tryz.underlying115 hbi hbs rfl rfl rfl rfl hn6 ?_
        refine RL.loadL tO hok rfl rfl rfl rfl rfl rfl (.there .here) (loadC_bool (by rw [Nat.mul_one]; exact hmn)) ?_
        cases hc : A.2.contains n with
        | true =>
          rw [hc] at hT
          subst hT
          repeat (first | (with_reducible first | apply CW.seq | apply aN | apply CW.ret | apply CW.skip) | refine wR rfl ?_ | refine RL.nil ?_ | refine CW.condF rfl ?_ | refine wS rfl ?_)
          exact Fin.retL hok rfl aRfl (Sels.allZ _) (.inl ⟨rfl, K₀, rfl, by simpa using hgo⟩)
        | false =>
          rw [hc] at hT
          simp only [Bool.false_eq_true, if_false] at hT ⊢
          have hnm : n ∉ A.2 := by simpa using hc
          have hu1 := Nat.mul_le_mul_right S (unmet_mono hwh.sub P.length)
          have hu := Nat.mul_le_mul_right S (unmet_cons hnm hn)
          rw [Nat.add_mul, Nat.one_mul] at hu
          have hsn := hS n
          have hcall := evWalk_spec hP6 hY k (P.getD n default) (n :: A.2) rest K₀ (hPb n) hxc.call hPb (by rw [hT]; exact hgo) S hS (by omega)
          have hcv : LCallV Tryz.prog (evF b4 b5 lp P) [avE (P.getD n default)] (evK b4 b5 lp P (n :: A.2) ++ K₀) _ := LCallV.of_calls (first := []) (cap := [.fptr [yieldV lp] 0, .ptr b5 0, .ptr b4 0, .fptr [progA P] 0]) hcall
          unfold avE at hcv
          rw [CRaw.av_eq] at hcv
          generalize P.getD n default = q at hel hcv ⊢
          repeat (first | (with_reducible first | apply CW.seq | apply aN) | refine CW.reg ?_ | refine RL.nil ?_ | refine CW.condT rfl ?_ | refine wS rfl ?_)
          refine RL.idxArr n rfl rfl rfl Tryz.underlying115 hbi hbs rfl rfl rfl rfl hn6 ?_
          refine RL.storeL tO hok rfl rfl rfl rfl rfl rfl rfl rfl rfl (.there .here) (Nat.ble_eq_true_of_le (by simp [metA]; omega)) (fun hok => ?_)
          rw [Nat.mul_one, metA_put hn6] at hok ⊢
          refine RL.dropL hok (evK b4 b5 lp P (n :: A.2) ++ K₀) (.cons (.there .here) (.cons .here (Sels.allZ _))) fun hok => ?_
          unfold evK at hok hcv ⊢
          repeat (first | (with_reducible first | apply CW.seq | apply aN) | refine RL.nil ?_)
          refine CW.drw tO mixed rfl (RD.run rfl ?_)
          refine RD.idx 4 n rfl rfl rfl rfl rfl rfl rfl rfl rfl rfl rfl rfl rfl hel rfl ?_
          refine RD.run rfl ?_
          refine RD.loadL 0 tO hok rfl rfl rfl rfl rfl rfl rfl rfl (by repeat (first | exact Sel.here | apply Sel.there)) (by exact rfl) ?_; refine RD.run rfl ?_
          refine RD.callVL 6 rfl rfl rfl rfl rfl rfl rfl rfl hcv hok (Sels.allZ _) ?_ ?_
          rotate_left
          · rintro x' _ (⟨h, -⟩ | ⟨h, -⟩ | ⟨v, K₁, m₁, ⟨⟩, rfl, hp⟩) hok
            · cases h
            · cases h
            · rw [List.append_nil] at hok ⊢
              repeat (first | with_reducible apply aP)
              exact Fin.panicL hok aRfl (Sels.allZ _) (.inr (.inr ⟨_, K₁, m₁, rfl, rfl, hp⟩))
          rintro x' _ (⟨⟨⟩, K₁, rfl, hgo₁⟩ | ⟨⟨⟩, K₁, m₁, rfl, hd⟩ | ⟨v, _, _, h, -⟩) hok
          · rw [List.append_nil] at hok ⊢
            refine RD.run rfl (RD.done rfl ?_)
            repeat (with_reducible first | apply aN | apply aR | apply CW.ret)
            exact Fin.retL hok rfl aRfl (Sels.allZ _) (.inl ⟨rfl, K₁, rfl, hgo₁⟩)
          · rw [List.append_nil] at hok ⊢
            refine RD.run rfl (RD.done rfl ?_)
            repeat (with_reducible first | apply aN | apply aR | apply CW.ret)
            exact Fin.retL hok rfl aRfl (Sels.allZ _) (.inr (.inl ⟨rfl, K₁, m₁, rfl, hd⟩))
          · cases h
end
end Go.Proofs.YtdeiinhccdlfiaaGreat

/- Chapter 19, plain: what is left when increasing runs are cut down to one each. -/
namespace Go.Proofs.YtdeiinhccdlfiaaGreat
open Go.AE Go.Cond

theorem upTo_inc {l : List Int} (h : l.Pairwise (· ≤ ·)) : ∀ m, m ≤ l.length → Inc (Lib.compactUpTo l.toArray m) ∧ (∀ z, z ∈ Lib.compactUpTo l.toArray m ↔ ∃ i, i < m ∧ l[i]? = some z)
  | 0, _ => ⟨by simp [Lib.compactUpTo, Inc], fun z => by simp [Lib.compactUpTo]⟩
  | m + 1, hm => by
    obtain ⟨h1, h2⟩ := upTo_inc h m (by omega)
    have hl : m < l.length := hm
    have hgm : l.toArray[m]! = l[m] := by simp [hl]
    have hle : ∀ i j (hi : i < l.length) (hj : j < l.length), i ≤ j → l[i] ≤ l[j] := by
      intro i j hi hj hij
      rcases Nat.lt_or_eq_of_le hij with hij | rfl
      · exact List.pairwise_iff_getElem.1 h i j hi hj hij
      · exact Int.le_refl _
    rw [Lib.compactUpTo_succ]
    by_cases hk : Lib.keeps l.toArray m = true
    · rw [if_pos hk, hgm]
      refine ⟨?_, fun z => ?_⟩
      · unfold Inc at h1 ⊢
        rw [List.pairwise_append]
        refine ⟨h1, by simp, fun a ha b hb => ?_⟩
        obtain rfl : b = l[m] := by simpa using hb
        obtain ⟨i, hi, hia⟩ := (h2 a).1 ha
        obtain ⟨hil, rfl⟩ := List.getElem?_eq_some_iff.1 hia
        have hm0 : m ≠ 0 := by omega
        have hne : l[m] ≠ l[m - 1]'(by omega) := by
          unfold Lib.keeps at hk
          have hg2 : l.toArray[m - 1]! = l[m - 1]'(by omega) := by simp [show m - 1 < l.length by omega]
          rw [hgm, hg2] at hk
          simpa [hm0] using hk
        have q1 := hle i (m - 1) hil (by omega) (by omega)
        have q2 := hle (m - 1) m (by omega) hl (by omega)
        omega
      · rw [List.mem_append, h2]
        constructor
        · rintro (⟨i, hi, hz⟩ | hz)
          · exact ⟨i, by omega, hz⟩
          · obtain rfl : z = l[m] := by simpa using hz
            exact ⟨m, by omega, List.getElem?_eq_getElem hl⟩
        · rintro ⟨i, hi, hz⟩
          rcases Nat.lt_succ_iff_lt_or_eq.1 hi with hi | rfl
          · exact .inl ⟨i, hi, hz⟩
          · right
            rw [List.getElem?_eq_getElem hl] at hz
            cases hz; simp
    · rw [if_neg hk, List.append_nil]
      refine ⟨h1, fun z => ?_⟩
      rw [h2]
      have hm0 : m ≠ 0 := by
        intro e; subst e
        exact hk (by unfold Lib.keeps; simp)
      have heq : l[m] = l[m - 1]'(by omega) := by
        unfold Lib.keeps at hk
        have hg2 : l.toArray[m - 1]! = l[m - 1]'(by omega) := by simp [show m - 1 < l.length by omega]
        rw [hgm, hg2] at hk
        simpa [hm0] using hk
      constructor
      · rintro ⟨i, hi, hz⟩; exact ⟨i, by omega, hz⟩
      · rintro ⟨i, hi, hz⟩
        rcases Nat.lt_succ_iff_lt_or_eq.1 hi with hi | rfl
        · exact ⟨i, hi, hz⟩
        · refine ⟨i - 1, by omega, ?_⟩
          rw [List.getElem?_eq_getElem hl] at hz
          rw [List.getElem?_eq_getElem (by omega), ← heq]; exact hz
def sortedI (l : List Int) : List Int := Lib.compact (l.mergeSort fun x y => decide (x ≤ y))
theorem sortedI_inc (l : List Int) : Inc (sortedI l) ∧ ∀ z, z ∈ sortedI l ↔ z ∈ l := by
 have hs : (l.mergeSort fun x y => decide (x ≤ y)).Pairwise (· ≤ ·) := by
  have := List.pairwise_mergeSort (le := fun (x y : Int) => decide (x ≤ y)) (fun a b c h1 h2 => by simp at *; omega) (fun a b => by simp; omega) l
  exact this.imp fun h => by simpa using h
 have hp := List.mergeSort_perm l fun x y => decide (x ≤ y)
 unfold sortedI Lib.compact
 obtain ⟨h1, h2⟩ := upTo_inc hs _ (Nat.le_refl _)
 refine ⟨h1, fun z => ?_⟩
 rw [h2, ← hp.mem_iff]
 constructor
 ·rintro ⟨i, hi, hz⟩; exact List.mem_of_getElem? hz
 ·intro hz
  obtain ⟨i, hi⟩ := List.getElem?_of_mem hz
  exact ⟨i, (List.getElem?_eq_some_iff.1 hi).1, hi⟩
end Go.Proofs.YtdeiinhccdlfiaaGreat

/- Chapter 19: contracts of cond: every; does an expression signal (raises). -/
namespace Go.Proofs.YtdeiinhccdlfiaaGreat
open Go.AE Go.Cond

def evs (P : List CExp) (x : CExp) : List CExp := (evW P (P.length * (sizesE P + 1) + x.size) x []).1
theorem evs_sizes (P : List CExp) (n : Nat) : (P.getD n default).size ≤ sizesE P + 1 := by
 rw [List.getD_eq_getElem?_getD]
 cases h : P[n]? with
 | none => show CExp.size default ≤ _; have : CExp.size default = 1 := rfl; omega
 | some y => have := mem_sizesE (List.mem_of_getElem? h); show y.size ≤ _; omega
theorem evs_whole {P : List CExp} {x : CExp} (hx : OkC P x) : Whole P (sizesE P + 1) [x] [] x.size (evW P (P.length * (sizesE P + 1) + x.size) x []) :=
 evW_whole (evs_sizes P) _ x [] hx (by rw [unmet_nil]; exact Nat.le_refl _)
theorem evs_reach {P : List CExp} {x : CExp} (hx : OkC P x) (z : CExp) : z ∈ evs P x ↔ Cond.Reach P x z := whole_reach (evs_whole hx) z
theorem evs_length {P : List CExp} {x : CExp} (hx : OkC P x) : (evs P x).length ≤ P.length * (sizesE P + 1) + x.size := by
 have := (evs_whole hx).few
 rw [unmet_nil] at this
 unfold evs; omega
set_option maxRecDepth 10000 in
theorem evIter (P : List CExp) (x : CExp) (hP6 : P.length ≤ 6) (hx : OkC P x) (hxb : x.size < big) (hPb : sizesE P + 1 < big) :
  IterL Tryz.prog 76 [] [.fptr [progA P] 0, .fptr [.int .i64 (rawE x).op, .int .i64 (rawE x).n, .slc 3 ((rawE x).kids.map CRaw.av) .fro] 0] [] avE (evs P x) := by
 intro lp Go Done Pan hY K hgo
 refine LCalls.of_CW tO call76 Tryz.func76 rfl rfl fun s hok => ?_
 have hw := fun b4 b5 => evWalk_spec (b4 := b4) (b5 := b5) hP6 hY (P.length * (sizesE P + 1) + x.size) x [] [] K hxb hx (fun n => by have := evs_sizes P n; omega) (by rw [List.append_nil]; exact hgo) (sizesE P + 1) (evs_sizes P) (by rw [unmet_nil]; exact Nat.le_refl _)
 have hcv : ∀ b4 b5, LCallV Tryz.prog (evF b4 b5 lp P) [avE x] (evK b4 b5 lp P [] ++ K) _ := fun b4 b5 => LCallV.of_calls (first := []) (cap := [.fptr [yieldV lp] 0, .ptr b5 0, .ptr b4 0, .fptr [progA P] 0]) (hw b4 b5)
 unfold avE at hcv
 rw [CRaw.av_eq] at hcv
 repeat (first | (with_reducible first | apply CW.seq | apply aN) | refine wR rfl ?_ | refine CW.reg ?_)
 refine RL.allocZ hok rfl rfl rfl rfl (info := Tryz.t115) (zv := .agg #[.bool false, .bool false, .bool false, .bool false, .bool false, .bool false]) (cs := metA []) (by kernel_rfl) (by kernel_rfl) rfl rfl (fun b4 hok => ?_)
 repeat (first | (with_reducible first | apply CW.seq | apply aN) | refine CW.reg ?_ | refine RL.nil ?_)
 refine RL.allocL tO hok rfl rfl rfl rfl rfl rfl rfl (fun b5 hok => ?_)
 repeat (first | (with_reducible first | apply CW.seq | apply aN) | refine CW.reg ?_ | refine RL.nil ?_ | refine wS rfl ?_ | refine RL.loadL tO hok rfl rfl rfl rfl rfl rfl (by repeat (first | exact Sel.here | apply Sel.there)) (by exact rfl) ?_ | refine RL.storeL tO hok rfl rfl rfl rfl rfl rfl rfl rfl rfl (by repeat (first | exact Sel.here | apply Sel.there)) (by exact rfl) (fun hok => ?_))
 have hcv := hcv b4 b5
 refine RL.callVL rfl rfl rfl rfl rfl rfl hcv hok (Sels.allZ _) ?_ ?_
 rotate_left
 ·rintro x' _ (⟨h, -⟩ | ⟨h, -⟩ | ⟨v, K₁, m₁, ⟨⟩, rfl, hp⟩) hok
  ·cases h
  ·cases h
  ·rw [List.append_nil] at hok ⊢
   skip
   exact Fin.panicL hok aRfl (Sels.skip _) (.inr ⟨_, rfl, hp⟩)
 rintro x' _ (⟨⟨⟩, K₁, rfl, hgo₁⟩ | ⟨⟨⟩, K₁, m₁, rfl, hd⟩ | ⟨v, _, _, h, -⟩) hok
 ·rw [List.append_nil] at hok ⊢
  repeat (first | refine RL.nil ?_)
  exact Fin.retL hok rfl aRfl (Sels.skip _) (.inl ⟨rfl, .inl hgo₁⟩)
 ·rw [List.append_nil] at hok ⊢
  repeat (first | refine RL.nil ?_)
  exact Fin.retL hok rfl aRfl (Sels.skip _) (.inl ⟨rfl, .inr hd⟩)
 ·cases h
set_option maxRecDepth 10000 in
theorem every_spec (P : List CExp) (x : CExp) : PCalls Tryz.prog 41 [progA P, .agg [.int .i64 (rawE x).op, .int .i64 (rawE x).n, .slc 3 ((rawE x).kids.map CRaw.av) .fro]] (.func 76 [] [.fptr [progA P] 0, .fptr [.int .i64 (rawE x).op, .int .i64 (rawE x).n, .slc 3 ((rawE x).kids.map CRaw.av) .fro] 0]) := by
 refine PCalls.of_CW tO call41 Tryz.func41 rfl rfl fun s hok => ?_
 unfold progA
 repeat (first | (with_reducible first | apply CW.seq | apply aN | apply CW.ret) | refine wR rfl ?_)
 exact Fin.retP hok rfl aRfl
end Go.Proofs.YtdeiinhccdlfiaaGreat

/- Chapter 19: contracts of cond: does an expression signal (raises). -/
namespace Go.Proofs.YtdeiinhccdlfiaaGreat
open Go.AE Go.Cond

def raisesB (P : List CExp) (x : CExp) (n : Int) : Bool := (evs P x).any fun y => hits y n
theorem hits_raw (y : CExp) (n : Int) : hits y n = (((rawE y).op == 9 || (rawE y).op == 10) && (decide (n < 0) || (rawE y).n == n)) := by
 cases y <;> simp [hits, rawE, CRaw.op, CRaw.n]
set_option maxRecDepth 10000 in
set_option maxHeartbeats 1000000 in
theorem raises_spec (P : List CExp) (x : CExp) (n : Int) (hP6 : P.length ≤ 6) (hx : OkC P x) (hxb : x.size < big) (hPb : sizesE P + 1 < big) :
  PCalls Tryz.prog 34 [progA P, .agg [.int .i64 (rawE x).op, .int .i64 (rawE x).n, .slc 3 ((rawE x).kids.map CRaw.av) .fro], .int .i64 n] (.bool (raisesB P x n)) := by
 refine PCalls.of_CW tO call34 Tryz.func34 rfl rfl fun s hok => ?_
 repeat (first | with_reducible apply CW.seq | refine CW.reg ?_ | refine wS rfl ?_)
 refine RL.allocL tO hok rfl rfl rfl rfl rfl rfl rfl (fun b6 hok => ?_)
 repeat (first | (with_reducible first | apply CW.seq | apply aN) | refine CW.reg ?_ | refine RL.nil ?_ | refine wS rfl ?_)
 refine RL.callPP rfl rfl rfl rfl rfl (every_spec P x) ?_
 repeat (first | (with_reducible first | apply aN | apply CW.block) | refine RL.nil ?_)
 refine CW.rangeFL hok rfl (by decide) (evIter P x hP6 hx hxb hPb) .nil (fun rem K => raisesB P x n = (rem.any fun y => hits y n) ∧ K = [(.own b6, .box 4 [.bool false])]) (fun j K => j = .ret ∧ raisesB P x n = true ∧ K = [(.own b6, .box 4 [.bool true])]) (fun _ _ => False) ⟨rfl, rfl⟩ ?_ ?_ ?_ (fun _ _ h => h.elim)
 ·rintro s₁ y rem K ⟨hr, rfl⟩ hok
  have hq := hits_raw y n
  unfold avE
  rw [CRaw.av_eq]
  rw [List.any_cons] at hr
  repeat (first | refine CW.reg ?_)
  refine RL.newBox tO rfl rfl rfl rfl rfl rfl rfl (fun _ => rfl) rfl rfl (fun _ => rfl) rfl rfl rfl rfl ?_
  repeat (first | (with_reducible first | apply CW.seq | apply aN | apply CW.block) | refine CW.reg ?_ | refine RL.nil ?_ | refine wS rfl ?_)
  cases h9 : (rawE y).op == 9 with
  | true =>
   rw [h9] at hq
   repeat (first | refine wS rfl ?_ | refine RL.skip rfl rfl rfl ?_)
   cases hn : decide (n < 0) with
   | true =>
    rw [hn] at hq
    repeat (first | (with_reducible first | apply CW.seq | apply aN | apply iR | apply CW.ret) | refine CW.reg ?_ | refine RL.nil ?_ | refine CW.condT rfl ?_ | refine wS rfl ?_ | refine RL.skip rfl rfl rfl ?_ | refine RL.storeL tO hok rfl rfl rfl rfl rfl rfl rfl rfl rfl (by repeat (first | exact Sel.here | apply Sel.there)) (by exact rfl) (fun hok => ?_))
    exact At.mk _ hok (Sels.allZ _) ⟨rfl, by rw [hr, hq]; rfl, rfl⟩
   | false =>
    rw [hn] at hq
    repeat (first | with_reducible apply aN | refine RL.nil ?_ | refine wS rfl ?_)
    cases hm : (rawE y).n == n with
    | true =>
     rw [hm] at hq
     repeat (first | (with_reducible first | apply CW.seq | apply aN | apply iR | apply CW.ret) | refine CW.reg ?_ | refine RL.nil ?_ | refine CW.condT rfl ?_ | refine RL.storeL tO hok rfl rfl rfl rfl rfl rfl rfl rfl rfl (by repeat (first | exact Sel.here | apply Sel.there)) (by exact rfl) (fun hok => ?_))
     exact At.mk _ hok (Sels.allZ _) ⟨rfl, by rw [hr, hq]; rfl, rfl⟩
    | false =>
     rw [hm] at hq
     repeat (first | (with_reducible first | apply iN | apply CW.skip) | refine CW.condF rfl ?_)
     exact At.mk _ hok (Sels.allZ _) ⟨by rw [hr, hq]; rfl, rfl⟩
  | false =>
   rw [h9] at hq
   repeat (first | refine wS rfl ?_)
   cases h10 : (rawE y).op == 10 with
   | false =>
    rw [h10] at hq
    repeat (first | (with_reducible first | apply aN | apply iN | apply CW.skip) | refine RL.nil ?_ | refine CW.condF rfl ?_ | refine wS rfl ?_ | refine RL.skip rfl rfl rfl ?_)
    exact At.mk _ hok (Sels.allZ _) ⟨by rw [hr, hq]; rfl, rfl⟩
   | true =>
    rw [h10] at hq
    repeat (first | refine wS rfl ?_)
    cases hn : decide (n < 0) with
    | true =>
     rw [hn] at hq
     repeat (first | (with_reducible first | apply CW.seq | apply aN | apply iR | apply CW.ret) | refine CW.reg ?_ | refine RL.nil ?_ | refine CW.condT rfl ?_ | refine wS rfl ?_ | refine RL.skip rfl rfl rfl ?_ | refine RL.storeL tO hok rfl rfl rfl rfl rfl rfl rfl rfl rfl (by repeat (first | exact Sel.here | apply Sel.there)) (by exact rfl) (fun hok => ?_))
     exact At.mk _ hok (Sels.allZ _) ⟨rfl, by rw [hr, hq]; rfl, rfl⟩
    | false =>
     rw [hn] at hq
     repeat (first | with_reducible apply aN | refine RL.nil ?_ | refine wS rfl ?_)
     cases hm : (rawE y).n == n with
     | true =>
      rw [hm] at hq
      repeat (first | (with_reducible first | apply CW.seq | apply aN | apply iR | apply CW.ret) | refine CW.reg ?_ | refine RL.nil ?_ | refine CW.condT rfl ?_ | refine RL.storeL tO hok rfl rfl rfl rfl rfl rfl rfl rfl rfl (by repeat (first | exact Sel.here | apply Sel.there)) (by exact rfl) (fun hok => ?_))
      exact At.mk _ hok (Sels.allZ _) ⟨rfl, by rw [hr, hq]; rfl, rfl⟩
     | false =>
      rw [hm] at hq
      repeat (first | (with_reducible first | apply iN | apply CW.skip) | refine CW.condF rfl ?_)
      exact At.mk _ hok (Sels.allZ _) ⟨by rw [hr, hq]; rfl, rfl⟩
 ·rintro K ⟨hr, rfl⟩ hok
  rw [hr]
  repeat (first | (with_reducible first | apply CW.seq | apply aN | apply iN | apply CW.ret) | refine CW.reg ?_ | refine RL.nil ?_ | refine RL.storeL tO hok rfl rfl rfl rfl rfl rfl rfl rfl rfl (by repeat (first | exact Sel.here | apply Sel.there)) (by exact rfl) (fun hok => ?_))
  exact Fin.retP hok (resA_cell rfl rfl (Sel.get Sel.here hok) rfl) aRfl
 ·rintro _ K ⟨rfl, hr, rfl⟩ hok
  rw [hr]
  repeat (with_reducible first | apply aR | apply iR | apply CW.ret)
  exact Fin.retP hok (resA_cell rfl rfl (Sel.get Sel.here hok) rfl) aRfl
end Go.Proofs.YtdeiinhccdlfiaaGreat

/- Chapter 19: contracts of cond: the errors of blocks (Errors). -/
namespace Go.Proofs.YtdeiinhccdlfiaaGreat
open Go.AE Go.Cond

/-! ### slices.Sort, slices.Compact -/
theorem int_enc (w : World) (p : Prot) (v : Value) (a : Int) (h : Rel w p v (.int .i64 a)) : v = .int .i64 a := by cases h; rfl
theorem sortC (b cap : Nat) (l : List Int) (rest : List AV) (hl : l.length < 4611686018427387904) :
  LCalls Tryz.prog 42 [cslc b l.length cap] [(.own b, .box 3 (l.map intA ++ rest))] (fun o K => o = .ret (.tup []) ∧ K = [(.own b, .box 3 ((l.mergeSort fun x y => decide (x ≤ y)).map intA ++ rest))]) :=
 LCalls.sort (α := Int) (enc := Value.int .i64) (encA := intA) (le := fun x y => decide (x ≤ y)) call42 int_enc (fun w p a => .int _ _) sortI_calls b cap l rest hl
theorem compact_length (l : List Int) : (Lib.compact l).length ≤ l.length := by
 unfold Lib.compact Lib.compactUpTo
 rw [List.length_map]
 exact Nat.le_trans (List.length_filter_le _ _) (by simp)
theorem compC (b cap : Nat) (l : List Int) (rest : List AV) (hl : l.length < 4611686018427387904) (hc : l.length ≤ cap) :
  LCalls Tryz.prog 43 [cslc b l.length cap] [(.own b, .box 3 (l.map intA ++ rest))] (fun o K => o = .ret (cslc b (Lib.compact l).length cap) ∧ K = [(.own b, .box 3 ((Lib.compact l ++ List.replicate (l.length - (Lib.compact l).length) 0).map intA ++ rest))]) := by
 have hcl := compact_length l
 refine LCalls.rewrite (α := Int) (enc := Value.int .i64) (encA := intA) (out := fun b cap => .slice (some ⟨b, 0, none⟩) (Lib.compact l).length cap) (outA := fun b cap => cslc b (Lib.compact l).length cap) call43 int_enc (fun w p a => .int _ _) b cap l (Lib.compact l ++ List.replicate (l.length - (Lib.compact l).length) 0) rest (by simp; omega) (fun w p => .conc _) fun w hH hb => ?_
 refine Calls.mono (compI_calls b 0 cap l w hH (by omega) hc) ?_
 rintro e w' ⟨rfl, q, rfl⟩
 exact ⟨rfl, q, #[], by unfold Sort.grow; rw [Array.append_empty]⟩
set_option maxRecDepth 10000 in
theorem sortNil_insert : PCalls Tryz.prog 99 [.slc 0 [] .nil, .int .i64 0, .int .i64 0] (.tup []) := by
 refine PCalls.of_CW tO call99 Tryz.func99 rfl rfl fun s hok => ?_
 repeat (first | (with_reducible first | apply CW.seq | apply aN | apply CW.block) | refine wR rfl ?_)
 refine CW.loopL hok (σ := Unit) (fun _ => [(2, .int .i64 0), (6, .int .i64 1)]) (fun _ => []) (fun _ => True) (fun _ => 0) () trivial (wE rfl) (by repeat (first | exact Sels.nil | (apply Sels.cons; · repeat (first | exact Sel.here | apply Sel.there)))) ?_
 rintro _ _ hok
 repeat (first | (with_reducible first | apply CW.seq | apply aN | apply aX | apply iH | apply CW.exit) | refine wR rfl ?_ | refine CW.condF rfl ?_)
 exact Fin.retP hok rfl aRfl
set_option maxRecDepth 10000 in
theorem sortNil_pdq (k : Int) : PCalls Tryz.prog 78 [.slc 0 [] .nil, .int .i64 0, .int .i64 0, .int .i64 k] (.tup []) := by
 refine PCalls.of_CW tO call78 Tryz.func78 rfl rfl fun s hok => ?_
 repeat (first | (with_reducible first | apply CW.seq | apply aN | apply CW.block) | refine wR rfl ?_)
 refine CW.loopL hok (σ := Unit) (fun _ => [(0, .slc 0 [] .nil), (1, .int .i64 0), (2, .int .i64 0)]) (fun _ => []) (fun _ => True) (fun _ => 0) () trivial (wE rfl) (by repeat (first | exact Sels.nil | (apply Sels.cons; · repeat (first | exact Sel.here | apply Sel.there)))) ?_
 rintro _ _ hok
 repeat (first | (with_reducible first | apply CW.seq | apply aN | apply CW.block) | refine wR rfl ?_ | refine CW.reg ?_ | refine CW.condT rfl ?_ | refine wS rfl ?_)
 refine RL.callPP rfl rfl rfl rfl rfl sortNil_insert ?_
 repeat (first | (with_reducible first | apply aN | apply aR | apply iR | apply CW.ret) | refine RL.nil ?_)
 exact Fin.retP hok rfl aRfl
set_option maxRecDepth 10000 in
theorem len64_0 : PCalls Tryz.prog 109 [.int .u64 0] (.int .i64 0) := by
 refine PCalls.of_CW tO call109 Tryz.func109 rfl rfl fun s hok => ?_
 repeat (first | (with_reducible first | apply CW.seq | apply aN | apply CW.skip) | refine wR rfl ?_ | refine CW.reg ?_ | refine CW.condF rfl ?_ | refine wS rfl ?_ | refine RL.stepX tO rfl rfl rfl rfl ?_)
 refine RL.sidx tO 0 rfl rfl rfl rfl rfl rfl rfl rfl rfl rfl ?_
 repeat (first | (with_reducible first | apply aN | apply CW.ret) | refine RL.nil ?_ | refine wS rfl ?_ | refine RL.stepX tO rfl rfl rfl rfl ?_)
 exact Fin.retP hok rfl aRfl
set_option maxRecDepth 10000 in
theorem len_0 : PCalls Tryz.prog 79 [.int .u64 0] (.int .i64 0) := by
 refine PCalls.of_CW tO call79 Tryz.func79 rfl rfl fun s hok => ?_
 repeat (first | (with_reducible first | apply CW.seq | apply aN | apply CW.skip) | refine wR rfl ?_ | refine CW.reg ?_ | refine CW.condF rfl ?_ | refine wS rfl ?_)
 refine RL.callPP rfl rfl rfl rfl rfl len64_0 ?_
 repeat (first | (with_reducible first | apply aN | apply CW.ret) | refine RL.nil ?_ | refine wS rfl ?_)
 exact Fin.retP hok rfl aRfl
set_option maxRecDepth 10000 in
theorem sortNil : PCalls Tryz.prog 42 [.slc 0 [] .nil] (.tup []) := by
 refine PCalls.of_CW tO call42 Tryz.func42 rfl rfl fun s hok => ?_
 repeat (first | (with_reducible first | apply CW.seq | apply aN) | refine wR rfl ?_ | refine CW.reg ?_ | refine wS rfl ?_ | refine RL.stepX tO rfl rfl rfl rfl ?_)
 refine RL.callPP rfl rfl rfl rfl rfl len_0 ?_
 skip
 refine RL.callPP rfl rfl rfl rfl rfl (sortNil_pdq 0) ?_
 repeat (first | refine RL.nil ?_)
 exact Fin.retP hok rfl aRfl
set_option maxRecDepth 10000 in
theorem compNil : PCalls Tryz.prog 43 [.slc 0 [] .nil] (intsA []) := by
 refine PCalls.of_CW tO call43 Tryz.func43 rfl rfl fun s hok => ?_
 repeat (first | (with_reducible first | apply CW.seq | apply aN | apply aR | apply CW.ret) | refine wR rfl ?_ | refine CW.condT rfl ?_)
 exact Fin.retP hok rfl (AVle.nil (by intro b h; cases h))

/-! ### A row that grows -/
abbrev Row := Option (Nat × Nat × List AV)
def rowAV (n : Nat) : Row → AV
 | none => .slc 0 [] .nil
 | some (b, cap, _) => cslc b n cap
def rowLS : Row → LS
 | none => []
 | some (b, _, cs) => [(.own b, .box 3 cs)]
def RowC (acc : List Int) : Row → Prop
 | none => acc = []
 | some (_, cap, cs) => cs.length = cap ∧ acc.length ≤ cap ∧ cs.take acc.length = acc.map intA
theorem ints_one (l : List Int) : (l.map intA).all oneC = true := List.all_eq_true.2 fun x hx => by obtain ⟨a, -, rfl⟩ := List.mem_map.1 hx; rfl
def failN : CExp → Option Int
 | .fails n _ => some n
 | _ => none
def errs (P : List CExp) (x : CExp) : List Int := sortedI ((evs P x).filterMap failN)
theorem failN_raw (y : CExp) : failN y = if (rawE y).op == 10 then some (rawE y).n else none := by cases y <;> rfl
set_option maxRecDepth 10000 in
set_option maxHeartbeats 2000000 in
theorem errorsOk_spec (P : List CExp) (hP : ∀ e ∈ P, OkC P e) (hP6 : P.length ≤ 6) (hp : CRaw.sizes (P.map rawE) + 1 < big) (hPb : 8 * (sizesE P + 1) < big) (h : goodP (P.map rawE) = true) :
  PCalls Tryz.prog 24 [progA P] (.tup [.slc 1 ((P.map (errs P)).map intsA) .fro, .int .i64 0]) := by
 have hb : big = 1099511627776 := rfl
 have hfi := fine_spec (P.map rawE) hp
 rw [h] at hfi
 have hlm : ((P.map rawE).map CRaw.av).length = P.length := by simp
 refine PCalls.of_CW tO call24 Tryz.func24 rfl rfl fun s hok => ?_
 unfold progA
 repeat (first | (with_reducible first | apply CW.seq | apply aN) | refine wR rfl ?_ | refine CW.reg ?_ | refine wS rfl ?_)
 refine RL.callPP rfl rfl rfl rfl rfl hfi ?_
 repeat (first | (with_reducible first | apply CW.seq | apply aN | apply CW.skip | apply CW.block) | refine wR rfl ?_ | refine RL.nil ?_ | refine CW.condF rfl ?_ | refine wS rfl ?_)
 refine CW.phantom hok 23 1 0 fun hok => ?_
 refine CW.loopL hok (σ := Nat × Own) (fun q => [(0, progA P), (4, .slc 1 (((P.take q.1).map (errs P)).map intsA) q.2), (12, progA P), (13, .int .i64 P.length), (14, .int .i64 (q.1 : Int))]) (fun q => [(q.2, .row 23 1 q.1)]) (fun q => q.1 ≤ P.length) (fun q => P.length - q.1) (0, .nil) (Nat.zero_le _) ⟨⟨_, rfl, aRfl⟩, ⟨_, rfl, AVle.nil (by intro b h; cases h)⟩, ⟨_, rfl, aRfl⟩, ⟨_, rfl, AVle.of_eq (by rw [hlm])⟩, ⟨_, rfl, aRfl⟩, trivial⟩ (by repeat (first | exact Sels.nil | (apply Sels.cons; · repeat (first | exact Sel.here | apply Sel.there)))) ?_
 rintro ⟨j, own⟩ hj hok
 simp only at hj hok ⊢
 unfold progA
 repeat (first | (with_reducible first | apply CW.seq | apply aN) | refine wR rfl ?_)
 refine CW.cond rfl (fun hlt => ?_) (fun hge => ?_)
 rotate_left
 ·have hge : j = P.length := by
   have : P.length ≤ j := by simpa using hge
   omega
  subst hge
  rw [List.take_length]
  repeat (first | (with_reducible first | apply CW.seq | apply aN | apply aX | apply iH | apply CW.ret | apply CW.exit) | refine wR rfl ?_)
  exact Fin.retP hok rfl (AVle.tup (.cons AVle.fro (.one aRfl)))
 have hlt : j < P.length := by simpa using hlt
 have hy : P[j]? = some P[j] := List.getElem?_eq_getElem hlt
 generalize P[j] = x at hy
 have hxm := List.mem_of_getElem? hy
 have hy' : ((P.map rawE).map CRaw.av)[j]? = some (.agg [.int .i64 (rawE x).op, .int .i64 (rawE x).n, .slc 3 ((rawE x).kids.map CRaw.av) .fro]) := by
  rw [List.getElem?_map, List.getElem?_map, hy]
  exact congrArg some (CRaw.av_eq _)
 have hxs := mem_sizesE hxm
 have hxc := hP x hxm
 have hel := evs_length hxc
 have hmul : P.length * (sizesE P + 1) ≤ 6 * (sizesE P + 1) := Nat.mul_le_mul_right _ hP6
 have htk : ((P.take j).map (errs P)).map intsA ++ [intsA (errs P x)] = ((P.take (j + 1)).map (errs P)).map intsA := by
  rw [List.map_map, List.map_map]; exact take_succ_map (fun x => intsA (errs P x)) hy
 have hev := every_spec P x
 unfold progA at hev
 repeat (first | (with_reducible first | apply CW.seq | apply aN | apply CW.skip | apply CW.block) | refine CW.reg ?_ | refine wS rfl ?_ | refine RL.idx tO _ rfl rfl rfl rfl rfl rfl rfl rfl rfl rfl rfl (by assumption) rfl ?_)
 refine RL.newBox tO rfl rfl rfl rfl rfl rfl rfl (fun _ => rfl) rfl rfl (fun _ => rfl) rfl rfl rfl rfl ?_
 repeat (first | (with_reducible first | apply CW.seq | apply aN) | refine CW.reg ?_ | refine RL.nil ?_)
 refine RL.allocL tO hok rfl rfl rfl rfl rfl rfl rfl (fun b7 hok => ?_)
 repeat (first | (with_reducible first | apply CW.seq | apply aN) | refine CW.reg ?_ | refine RL.nil ?_ | refine wS rfl ?_)
 refine RL.callPP rfl rfl rfl rfl rfl hev ?_
 repeat (first | (with_reducible first | apply aN | apply CW.block) | refine RL.nil ?_)
 refine CW.rangeFL hok rfl (by decide) (evIter P x hP6 hxc (by omega) (by omega)) .nil (fun rem K => ∃ pre row, evs P x = pre ++ rem ∧ RowC (pre.filterMap failN) row ∧ K = (.own b7, .box 23 [rowAV (pre.filterMap failN).length row]) :: (rowLS row ++ [(own, .row 23 1 j)])) (fun _ _ => False) (fun _ _ => False) ⟨[], none, rfl, rfl, rfl⟩ ?_ ?_ (fun _ _ h => h.elim) (fun _ _ h => h.elim)
 ·rintro s₁ y rem K ⟨pre, row, hpre, hrow, rfl⟩ hok
  have hpl : (pre.filterMap failN).length ≤ (evs P x).length := Nat.le_trans (List.length_filterMap_le _ _) (by rw [hpre]; simp)
  have hfl := failN_raw y
  have hfm : (pre ++ [y]).filterMap failN = pre.filterMap failN ++ (failN y).toList := by
   rw [List.filterMap_append]
   cases hfy : failN y <;> simp [List.filterMap_cons, hfy]
  unfold avE
  rw [CRaw.av_eq]
  repeat (first | refine CW.reg ?_)
  refine RL.newBox tO rfl rfl rfl rfl rfl rfl rfl (fun _ => rfl) rfl rfl (fun _ => rfl) rfl rfl rfl rfl ?_
  repeat (first | (with_reducible first | apply CW.seq | apply aN | apply CW.block) | refine wR rfl ?_ | refine RL.nil ?_)
  cases h10 : (rawE y).op == 10 with
  | false =>
   rw [if_neg (by simpa using h10)] at hfl
   rw [hfl] at hfm
   repeat (first | (with_reducible first | apply iN | apply CW.skip) | refine CW.condF rfl ?_)
   exact At.mk _ hok (Sels.allZ _) ⟨pre ++ [y], row, by rw [hpre]; simp, by rw [hfm]; simpa using hrow, by rw [hfm]; simp⟩
  | true =>
   rw [if_pos (by simpa using h10)] at hfl
   rw [hfl] at hfm
   generalize pre.filterMap failN = acc at hpl hfm hrow hok ⊢
   cases row with
   | none =>
    have hacc : acc = [] := hrow
    subst hacc
    simp only [rowAV, rowLS, List.nil_append, List.cons_append, List.length_nil] at hok ⊢
    repeat (first | refine CW.reg ?_ | refine CW.condT rfl ?_ | refine wS rfl ?_ | refine RL.loadL tO hok rfl rfl rfl rfl rfl rfl (by repeat (first | exact Sel.here | apply Sel.there)) (by exact rfl) ?_)
    refine RL.append0C tO hok rfl rfl rfl rfl rfl rfl rfl (by intro k; simp) rfl rfl rfl rfl rfl rfl rfl (by decide) (fun b' cap' cs' c1 c2 c3 hok => ?_)
    repeat (first | with_reducible apply iN | refine RL.nil ?_ | refine RL.storeL tO hok rfl rfl rfl rfl rfl rfl rfl rfl rfl (by repeat (first | exact Sel.here | apply Sel.there)) (by exact rfl) (fun hok => ?_))
    exact At.mk ((.own b7, .box 23 [rowAV ((pre ++ [y]).filterMap failN).length (some (b', cap', cs'))]) :: (rowLS (some (b', cap', cs')) ++ [(own, .row 23 1 j)])) hok (by rw [hfm]; exact .cons .here (.cons .here (.cons .here .nil))) ⟨pre ++ [y], some (b', cap', cs'), by rw [hpre]; simp, by rw [hfm]; exact ⟨c1, c2, c3⟩, rfl⟩
   | some q =>
    obtain ⟨rb, cap, cs⟩ := q
    obtain ⟨k1, k2, k3⟩ := hrow
    simp only [rowAV, rowLS, List.nil_append, List.cons_append, List.length_nil] at hok ⊢
    repeat (first | refine CW.reg ?_ | refine CW.condT rfl ?_ | refine wS rfl ?_ | refine RL.loadL tO hok rfl rfl rfl rfl rfl rfl (by repeat (first | exact Sel.here | apply Sel.there)) (by exact rfl) ?_)
    refine RL.appendC tO hok rfl rfl rfl rfl rfl rfl rfl (by intro k; simp) rfl rfl rfl rfl (by repeat (first | exact Sel.here | apply Sel.there)) k1 k2 (by rw [k3]; exact ints_one _) rfl rfl rfl (by show (_ + 1) * 8 ≤ _; omega) (by omega) (fun b' cap' cs' c1 c2 c3 hok => ?_)
    repeat (first | with_reducible apply iN | refine RL.nil ?_ | refine RL.storeL tO hok rfl rfl rfl rfl rfl rfl rfl rfl rfl (by repeat (first | exact Sel.here | apply Sel.there)) (by exact rfl) (fun hok => ?_))
    have hc3 : cs'.take (acc ++ (some (rawE y).n).toList).length = (acc ++ (some (rawE y).n).toList).map intA := by
     rw [List.length_append]
     show cs'.take (acc.length + 1) = _
     rw [c3, k3, List.map_append]; rfl
    exact At.mk ((.own b7, .box 23 [rowAV ((pre ++ [y]).filterMap failN).length (some (b', cap', cs'))]) :: (rowLS (some (b', cap', cs')) ++ [(own, .row 23 1 j)])) hok (by rw [hfm]; simp only [List.length_append, Option.toList, List.length_cons, List.length_nil]; exact .cons .here (.cons .here (.cons .here .nil))) ⟨pre ++ [y], some (b', cap', cs'), by rw [hpre]; simp, by rw [hfm]; exact ⟨c1, by simpa using c2, hc3⟩, rfl⟩
 ·rintro K ⟨pre, row, hpre, hrow, rfl⟩ hok
  rw [List.append_nil] at hpre
  subst hpre
  have hpl : ((evs P x).filterMap failN).length ≤ (evs P x).length := List.length_filterMap_le _ _
  have herr : errs P x = sortedI ((evs P x).filterMap failN) := rfl
  generalize (evs P x).filterMap failN = acc at hpl hrow hok herr ⊢
  cases row with
  | none =>
   have hacc : acc = [] := hrow
   subst hacc
   have herr : errs P x = [] := by rw [herr]; simp [sortedI, Lib.compact, Lib.compactUpTo]
   rw [herr] at htk
   simp only [rowAV, rowLS, List.nil_append, List.cons_append, List.length_nil] at hok ⊢
   repeat (first | (with_reducible first | apply CW.seq | apply aN | apply iN) | refine CW.reg ?_ | refine RL.loadL tO hok rfl rfl rfl rfl rfl rfl (by repeat (first | exact Sel.here | apply Sel.there)) (by exact rfl) ?_)
   refine RL.callPP rfl rfl rfl rfl rfl sortNil ?_
   repeat (first | with_reducible apply aN | refine CW.reg ?_ | refine RL.nil ?_ | refine wS rfl ?_ | refine RL.loadL tO hok rfl rfl rfl rfl rfl rfl (by repeat (first | exact Sel.here | apply Sel.there)) (by exact rfl) ?_)
   refine RL.callPP rfl rfl rfl rfl rfl compNil ?_
   repeat (first | refine wS rfl ?_)
   refine RL.append1L tO hok rfl rfl rfl rfl rfl rfl rfl (by intro k; simp) rfl rfl rfl rfl rfl rfl rfl rfl (by repeat (first | exact Sel.here | apply Sel.there)) (by simp <;> omega) (by show (_ + 1) * 24 ≤ _; omega) (by omega) (fun o2 hok => ?_)
   repeat (first | (with_reducible first | apply aN | apply iN) | refine wR rfl ?_ | refine RL.nil ?_ | refine wS rfl ?_)
   exact NextL.mk (j + 1, .own o2) hok hlt (by repeat (first | exact trivial | refine ⟨⟨_, rfl, aRfl⟩, ?_⟩ | refine ⟨⟨_, rfl, AVle.of_eq (by (first | rw [i64_succ (by omega)] | rw [← htk]))⟩, ?_⟩)) (by repeat (first | exact Sels.nil | (apply Sels.cons; · repeat (first | exact Sel.here | apply Sel.there)))) (by show P.length - (j + 1) < P.length - j; omega)
  | some q =>
   obtain ⟨rb, cap, cs⟩ := q
   obtain ⟨k1, k2, k3⟩ := hrow
   have hcs : cs = acc.map intA ++ cs.drop acc.length := by rw [← k3, List.take_append_drop]
   generalize cs.drop acc.length = rest at hcs
   subst hcs
   have hms := List.length_mergeSort (le := fun x y : Int => decide (x ≤ y)) acc
   have hso := sortC rb cap acc rest (by omega)
   have herr2 : errs P x = Lib.compact (acc.mergeSort fun x y => decide (x ≤ y)) := herr
   rw [← hms] at k2
   have hcm := compC rb cap (acc.mergeSort fun x y => decide (x ≤ y)) rest (by omega) k2
   have hcl := compact_length (acc.mergeSort fun x y => decide (x ≤ y))
   simp only [rowAV, rowLS, List.nil_append, List.cons_append, List.length_nil] at hok ⊢
   repeat (first | (with_reducible first | apply CW.seq | apply aN | apply iN) | refine CW.reg ?_ | refine RL.loadL tO hok rfl rfl rfl rfl rfl rfl (by repeat (first | exact Sel.here | apply Sel.there)) (by exact rfl) ?_)
   refine RL.callR rfl rfl rfl rfl rfl hso hok (by repeat (first | exact Sels.nil | (apply Sels.cons; · repeat (first | exact Sel.here | apply Sel.there)))) (fun hok => ?_)
   rw [← hms] at hok ⊢
   generalize (acc.mergeSort fun x y => decide (x ≤ y)) = so at hcm hcl herr2 hok k2 hms ⊢
   rw [herr2] at htk
   repeat (first | with_reducible apply aN | refine CW.reg ?_ | refine RL.nil ?_ | refine wS rfl ?_ | refine RL.loadL tO hok rfl rfl rfl rfl rfl rfl (by repeat (first | exact Sel.here | apply Sel.there)) (by exact rfl) ?_)
   refine RL.callR rfl rfl rfl rfl rfl hcm hok (by repeat (first | exact Sels.nil | (apply Sels.cons; · repeat (first | exact Sel.here | apply Sel.there)))) (fun hok => ?_)
   have htc : ((Lib.compact so ++ List.replicate (so.length - (Lib.compact so).length) 0).map intA ++ rest).take (Lib.compact so).length = (Lib.compact so).map intA := by
    rw [List.map_append, List.append_assoc, List.take_append_of_le_length (by simp), List.take_of_length_le (by simp)]
   refine RL.freezeC hok 34 rb rfl Sel.here (by rw [← k1]; simp; omega) (by omega) (by omega) (by rw [htc]; exact ints_one _) (fun hok => ?_)
   rw [htc]
   repeat (first | refine wS rfl ?_)
   refine RL.append1L tO hok rfl rfl rfl rfl rfl rfl rfl (by intro k; simp) rfl rfl rfl rfl rfl rfl rfl rfl (by repeat (first | exact Sel.here | apply Sel.there)) (by simp <;> omega) (by show (_ + 1) * 24 ≤ _; omega) (by omega) (fun o2 hok => ?_)
   repeat (first | (with_reducible first | apply aN | apply iN) | refine wR rfl ?_ | refine RL.nil ?_ | refine wS rfl ?_)
   exact NextL.mk (j + 1, .own o2) hok hlt (by repeat (first | exact trivial | refine ⟨⟨_, rfl, aRfl⟩, ?_⟩ | refine ⟨⟨_, rfl, AVle.of_eq (by (first | rw [i64_succ (by omega)] | (rw [← htk]; rfl)))⟩, ?_⟩)) (by repeat (first | exact Sels.nil | (apply Sels.cons; · repeat (first | exact Sel.here | apply Sel.there)))) (by show P.length - (j + 1) < P.length - j; omega)
end Go.Proofs.YtdeiinhccdlfiaaGreat

/- Chapter 19, plain: what blocks may call, which errors they may signal: by walks, and by the reference's lists. -/
namespace Go.Proofs.YtdeiinhccdlfiaaGreat
open Go.AE Go.Cond

inductive SubE : CExp → CExp → Prop
 | refl (x) : SubE x x
 | kid {x y z} : y ∈ x.kids → SubE y z → SubE x z
theorem part_sub {a r : CRaw} (h : Part a r) : ∀ x, a = rawE x → ∃ y, SubE x y ∧ r = rawE y := by
 induction h with
 | refl a => exact fun x e => ⟨x, .refl x, e⟩
 | @kid o n ks y z hy _ ih =>
  intro x e
  have hk : ks = x.kids.map rawE := by rw [← kids_raw, ← e]; rfl
  rw [hk] at hy
  obtain ⟨y', hy', rfl⟩ := List.mem_map.1 hy
  obtain ⟨w, h1, h2⟩ := ih y' rfl
  exact ⟨w, .kid hy' h1, h2⟩
theorem sub_part {x y : CExp} (h : SubE x y) : Part (rawE x) (rawE y) := by
 induction h with
 | refl x => exact .refl _
 | @kid x y z hy _ ih =>
  have : rawE x = .mk (rawE x).op (rawE x).n (x.kids.map rawE) := by rw [← kids_raw]; cases rawE x; rfl
  rw [this]
  exact .kid (List.mem_map.2 ⟨y, hy, rfl⟩) ih
theorem part_call {x : CExp} {z : Int} : (∃ ks, Part (rawE x) (.mk 7 z ks)) ↔ ∃ n a, SubE x (.call n a) ∧ z = (n : Int) := by
 constructor
 ·rintro ⟨ks, h⟩
  obtain ⟨y, h1, h2⟩ := part_sub h x rfl
  cases y <;> simp [rawE] at h2
  exact ⟨_, _, h1, h2.1⟩
 ·rintro ⟨n, a, h, rfl⟩
  exact ⟨_, sub_part h⟩
theorem SubE.reach {P : List CExp} {x y : CExp} (h : SubE x y) : Cond.Reach P x y := by
 induction h with
 | refl x => exact .refl x
 | kid hy _ ih => exact .kid hy ih
def callN : CExp → Option Int
 | .call n _ => some n
 | _ => none
def mayL (P : List CExp) (x : CExp) : List Int := sortedI ((evs P x).filterMap callN)
theorem mem_mayL {P : List CExp} {x : CExp} (hx : OkC P x) (z : Int) : z ∈ mayL P x ↔ ∃ n a, Cond.Reach P x (.call n a) ∧ z = (n : Int) := by
 unfold mayL
 rw [(sortedI_inc _).2, List.mem_filterMap]
 constructor
 ·rintro ⟨y, hy, h⟩
  rw [evs_reach hx] at hy
  cases y <;> simp [callN] at h
  exact ⟨_, _, hy, h.symm⟩
 ·rintro ⟨n, a, h, rfl⟩
  exact ⟨_, (evs_reach hx _).2 h, rfl⟩
def blockR (P : List CExp) (b : Int) : CRaw := rawE (P.getD b.toNat default)
def roundM (k : Int) (P : List CExp) (l : List Int) (out : List Int) : List Int := l.foldl (fun out b => foldT k (blockR P b) out) out
theorem roundM_inc {k : Int} {P : List CExp} : ∀ {l out : List Int}, Inc out → Inc (roundM k P l out)
 | [], _, h => h
 | b :: r, out, h => roundM_inc (l := r) (foldT_inc k _ _ h)
theorem mem_roundM {k z : Int} {P : List CExp} : ∀ {l out : List Int}, z ∈ roundM k P l out ↔ z ∈ out ∨ ∃ b ∈ l, ∃ ks, Part (blockR P b) (.mk k z ks)
  | [], out => by simp [roundM]
  | b :: r, out => by
    show z ∈ roundM k P r (foldT k (blockR P b) out) ↔ _
    rw [mem_roundM (l := r), mem_foldT]
    constructor
    · rintro ((h | h) | ⟨b', hb, h⟩)
      · exact .inl h
      · exact .inr ⟨b, List.mem_cons_self, h⟩
      · exact .inr ⟨b', List.mem_cons_of_mem _ hb, h⟩
    · rintro (h | ⟨b', hb, h⟩)
      · exact .inl (.inl h)
      · rcases List.mem_cons.1 hb with rfl | hb
        · exact .inl (.inr h)
        · exact .inr ⟨b', hb, h⟩
theorem nodup_len : ∀ (xs l : List Int), xs.Nodup → (∀ x ∈ xs, x ∈ l) → xs.length ≤ l.length := by
 intro xs
 induction xs with
 | nil => intro l _ _; simp
 | cons x xs ih =>
  intro l hn hs
  obtain ⟨h1, h2⟩ := List.nodup_cons.1 hn
  have hx := hs x (List.mem_cons_self ..)
  have := ih (l.erase x) h2 (fun y hy => (List.mem_erase_of_ne (fun e => h1 (by rw [← e]; exact hy))).2 (hs y (List.mem_cons_of_mem _ hy)))
  rw [List.length_erase_of_mem hx] at this
  have : 0 < l.length := List.length_pos_of_mem hx
  simp; omega
theorem inc_nodup {l : List Int} (h : Inc l) : l.Nodup := List.Pairwise.imp (fun h => by omega) h
theorem inc_sub {a b : List Int} (ha : Inc a) (hs : ∀ z ∈ a, z ∈ b) (hl : b.length ≤ a.length) : ∀ z ∈ b, z ∈ a := by
 intro z hz
 refine Classical.byContradiction fun hn => ?_
 have := nodup_len (z :: a) b (List.nodup_cons.2 ⟨hn, inc_nodup ha⟩) (fun y hy => by
  rcases List.mem_cons.1 hy with rfl | hy
  ·exact hz
  ·exact hs y hy)
 simp at this; omega
structure MayI (P : List CExp) (x : CExp) (out : List Int) : Prop where
 inc : Inc out
 some : ∀ z ∈ out, ∃ n a, Cond.Reach P x (.call n a) ∧ z = (n : Int)
 own : ∀ n a, SubE x (.call n a) → (n : Int) ∈ out
theorem MayI.round {P : List CExp} {x : CExp} {out l : List Int} (h : MayI P x out) (hl : ∀ z ∈ l, ∃ n a, Cond.Reach P x (.call n a) ∧ z = (n : Int)) : MayI P x (roundM 7 P l out) := by
 refine ⟨roundM_inc h.inc, fun z hz => ?_, fun n a hs => mem_roundM.2 (.inl (h.own n a hs))⟩
 rcases mem_roundM.1 hz with hz | ⟨b, hb, hz⟩
 ·exact h.some z hz
 ·obtain ⟨n, a, h1, rfl⟩ := hl b hb
  obtain ⟨n', a', h2, h3⟩ := part_call.1 (show ∃ ks, Part (rawE (P.getD n default)) (.mk 7 z ks) by simpa [blockR] using hz)
  exact ⟨n', a', h1.trans (.call h2.reach), h3⟩
theorem MayI.done {P : List CExp} {x : CExp} (hx : OkC P x) {out : List Int} (h : MayI P x out) (hd : (roundM 7 P out out).length ≤ out.length) : out = mayL P x := by
 have hcl := inc_sub h.inc (fun z hz => mem_roundM.2 (.inl hz)) hd
 refine inc_eq h.inc (sortedI_inc _).1 fun z => ?_
 rw [mem_mayL hx]
 refine ⟨h.some z, ?_⟩
 rintro ⟨n, a, hr, rfl⟩
 -- all that is reached is of the expression itself, or of a block that was found
 have : ∀ y w, Cond.Reach P y w → (∀ n a, SubE y (.call n a) → (n : Int) ∈ out) → ∀ n a, w = .call n a → (n : Int) ∈ out := by
  intro y w hyw
  induction hyw with
  | refl y => exact fun hy n a e => hy n a (by rw [e]; exact .refl _)
  | kid hk _ ih => exact fun hy => ih fun n a hs => hy n a (.kid hk hs)
  | @call m b z _ ih =>
   intro hy
   refine ih fun n a hs => hcl _ (mem_roundM.2 (.inr ⟨m, hy m b (.refl _), ?_⟩))
   have := part_call.2 ⟨n, a, hs, rfl⟩
   simpa [blockR] using this
 exact this x _ hr h.own n a rfl
end Go.Proofs.YtdeiinhccdlfiaaGreat

/- Chapter 19: contracts of cond: programs without handlers of what is never signalled (Plain). -/
namespace Go.Proofs.YtdeiinhccdlfiaaGreat
open Go.AE Go.Cond

abbrev plainP (P : List CExp) : CExp → CExp := Cond.plain (raisesB P)
def plF (b4 : Nat) (P : List CExp) : AV := .func 33 [] [.fptr [progA P] 0, .ptr b4 0]
def plK (b4 : Nat) (P : List CExp) : LS := [(.own b4, .box 69 [plF b4 P])]
def dropB (P : List CExp) : CExp → Bool
 | .handle n a _ => !raisesB P a n
 | _ => false
theorem plain_raw {P : List CExp} {x : CExp} (h : ((rawE x).op == 8) = false ∨ ∃ n a b, x = .handle n a b ∧ raisesB P a n = true) : rawE (plainP P x) = .mk (rawE x).op (rawE x).n (x.kids.map fun y => rawE (plainP P y)) := by
 cases x with
 | handle n a b =>
  rcases h with h | ⟨n', a', b', e, h⟩
  ·simp [rawE, CRaw.op] at h
  ·cases e
   show rawE (if raisesB P a n then _ else _) = _
   rw [if_pos h]; rfl
 | _ => rfl
set_option maxRecDepth 10000 in
set_option maxHeartbeats 2000000 in
theorem plain1_spec (P : List CExp) (hP6 : P.length ≤ 6) (hPb : sizesE P + 1 < big) (b4 : Nat) : ∀ (k : Nat) (x : CExp), x.size ≤ k → OkC P x → x.size < big →
    LCalls Tryz.prog 33 [avE x, .fptr [progA P] 0, .ptr b4 0] (plK b4 P) (fun o K => o = .ret (avE (plainP P x)) ∧ K = plK b4 P)
  | 0, x, hk, _, _ => by have := size_kids x; omega
  | k + 1, x, hk, hxc, hxb => by
    have hb : big = 1099511627776 := rfl
    have hsk := size_kids x
    have hkl : ((x.kids.map rawE).map CRaw.av).length = x.kids.length := by simp
    have hklb : x.kids.length < big := by
      have : ∀ l : List CExp, l.length ≤ sizesE l := by
        intro l; induction l with
        | nil => simp [sizesE]
        | cons y r ih => rw [sizesE, List.length_cons]; have := size_kids y; omega
      have := this x.kids
      omega
    refine LCalls.of_CW tO call33 Tryz.func33 rfl rfl fun s hok => ?_
    unfold avE
    rw [CRaw.av_eq (rawE x)]
    unfold CRaw.cells
    rw [kids_raw]
    unfold plK at hok ⊢
    repeat (first | with_reducible apply CW.seq | refine CW.reg ?_ | refine wS rfl ?_)
    refine RL.allocL tO hok rfl rfl rfl rfl rfl rfl rfl (fun br hok => ?_)
    repeat (first | (with_reducible first | apply CW.seq | apply aN) | refine RL.nil ?_)
    refine CW.atCutL (σ := Unit) (fun _ => [(1, .fptr [progA P] 0), (2, .ptr b4 0), (3, .fptr [.int .i64 (rawE x).op, .int .i64 (rawE x).n, .slc 3 ((x.kids.map rawE).map CRaw.av) .fro] 0), (4, .ptr br 0), (21, .bool (dropB P x))]) (fun _ => (.own br, .box 52 [.int .i64 0, .int .i64 0, .slc 0 [] .nil]) :: plK b4 P) (fun _ => True) ?_ ?_
    · refine CW.drw tO mixed rfl (RD.runs (is := [0, 1, 2, 3]) rfl ?_)
      cases h8 : (rawE x).op == 8 with
      | false =>
        have hm : dropB P x = false := by cases x <;> first | rfl | (simp [rawE, CRaw.op] at h8)
        refine RD.run rfl (RD.done rfl ?_)
        exact CutL.mk () hok trivial (by repeat (first | exact trivial | refine ⟨⟨_, rfl, aRfl⟩, ?_⟩ | refine ⟨⟨_, rfl, AVle.of_eq (by rw [hm])⟩, ?_⟩)) (by simp only [plK]; repeat (first | exact Sels.nil | (apply Sels.cons; · repeat (first | exact Sel.here | apply Sel.there))))
      | true =>
        have : ∃ n a b, x = .handle n a b := by cases x <;> first | exact ⟨_, _, _, rfl⟩ | (simp [rawE, CRaw.op] at h8)
        obtain ⟨n, a, b, rfl⟩ := this
        have hsa : a.size ≤ sizesE (CExp.handle n a b).kids := mem_sizesE (by simp [CExp.kids])
        have hra := raises_spec P a n hP6 (hxc.kid (by simp [CExp.kids])) (by omega) hPb
        refine RD.run rfl ?_
        refine RD.idx 7 0 rfl rfl rfl rfl rfl rfl rfl rfl rfl rfl rfl rfl rfl (congrArg some (CRaw.av_eq _)) rfl ?_; refine RD.run rfl ?_
        refine RD.calmPP (i := 11) rfl rfl rfl rfl rfl rfl rfl hra ?_; refine RD.run rfl ?_
        refine RD.done rfl ?_
        exact CutL.mk () hok trivial (wE rfl) (by simp only [plK]; repeat (first | exact Sels.nil | (apply Sels.cons; · repeat (first | exact Sel.here | apply Sel.there))))
    rintro - - hok
    cases hm : dropB P x with
    | true =>
      have : ∃ n a b, x = .handle n a b ∧ raisesB P a n = false := by
        cases x <;> first | (cases hm; done) | exact ⟨_, _, _, rfl, by simpa [dropB] using hm⟩
      obtain ⟨n, a, b, rfl, hra⟩ := this
      have hsa : a.size ≤ sizesE (CExp.handle n a b).kids := mem_sizesE (by simp [CExp.kids])
      have hpl : plainP P (.handle n a b) = plainP P a := by show (if raisesB P a n then _ else _) = _; rw [hra]; rfl
      have hcall := plain1_spec P hP6 hPb b4 k a (by omega) (hxc.kid (by simp [CExp.kids])) (by omega)
      have hcv : LCallV Tryz.prog (plF b4 P) [avE a] (plK b4 P) _ := LCallV.of_calls (first := []) (cap := [.fptr [progA P] 0, .ptr b4 0]) hcall
      unfold avE at hcv
      rw [CRaw.av_eq, CRaw.av_eq] at hcv
      rw [hpl]
      generalize plainP P a = q at hcv ⊢
      unfold plK at hok hcv ⊢
      repeat (first | with_reducible apply CW.seq | refine CW.condT rfl ?_)
      refine CW.drw tO mixed rfl (RD.run rfl ?_)
      refine RD.idx 3 0 rfl rfl rfl rfl rfl rfl rfl rfl rfl rfl rfl rfl rfl (congrArg some (CRaw.av_eq _)) rfl ?_; refine RD.run rfl ?_
      refine RD.loadL 0 tO hok rfl rfl rfl rfl rfl rfl rfl rfl (by repeat (first | exact Sel.here | apply Sel.there)) (by exact rfl) ?_; refine RD.run rfl ?_
      refine RD.callVL 5 rfl rfl rfl rfl rfl rfl rfl rfl hcv hok (by repeat (first | exact Sels.nil | (apply Sels.cons; · repeat (first | exact Sel.here | apply Sel.there)))) ?_ (fun _ _ ⟨h, _⟩ _ => by cases h)
      rintro _ _ ⟨⟨⟩, rfl⟩ hok
      refine RD.run rfl ?_
      refine RD.storeL 6 tO hok rfl rfl rfl rfl rfl rfl rfl rfl rfl rfl rfl (by repeat (first | exact Sel.here | apply Sel.there)) (by exact rfl) (fun hok => ?_); refine RD.run rfl ?_
      refine RD.run rfl (RD.done rfl ?_)
      repeat (with_reducible first | apply aN | apply aR | apply CW.ret)
      exact Fin.retL (K := plK b4 P) hok (resA_cell rfl rfl (Sel.get Sel.here hok) rfl) aRfl (by simp only [plK]; repeat (first | exact Sels.nil | (apply Sels.cons; · repeat (first | exact Sel.here | apply Sel.there)))) ⟨congrArg AOut.ret (CRaw.av_eq _).symm, rfl⟩
    | false =>
      have hst : ((rawE x).op == 8) = false ∨ ∃ n a b, x = .handle n a b ∧ raisesB P a n = true := by
        cases x <;> first | exact .inl rfl | exact .inr ⟨_, _, _, rfl, by simpa [dropB] using hm⟩
      have hpr := plain_raw hst
      have hpa : (rawE (plainP P x)).av = .agg [.int .i64 (rawE x).op, .int .i64 (rawE x).n, .slc 3 (x.kids.map fun y => (rawE (plainP P y)).av) .fro] := by
        rw [hpr, av_mk, List.map_map]; rfl
      rw [hpa]
      unfold plK at hok ⊢
      repeat (first | (with_reducible first | apply CW.seq | apply aN | apply CW.skip) | refine CW.reg ?_ | refine CW.condF rfl ?_ | refine wS rfl ?_)
      refine RL.allocL tO hok rfl rfl rfl rfl rfl rfl rfl (fun b5 hok => ?_)
      repeat (first | (with_reducible first | apply CW.seq | apply aN | apply CW.block) | refine wR rfl ?_ | refine RL.nil ?_ | refine RL.storeL tO hok rfl rfl rfl rfl rfl rfl rfl rfl rfl (by repeat (first | exact Sel.here | apply Sel.there)) (by exact rfl) (fun hok => ?_))
      refine CW.boxWeakL hok b5 [.int .i64 (rawE x).op, .int .i64 (rawE x).n, .slc 3 [] .nil] (by repeat (first | exact Sel.here | apply Sel.there)) (.cons aRfl (.cons aRfl (.one (AVle.nil (by intro b h; cases h))))) fun hok => ?_
      refine CW.phantom hok 52 3 0 fun hok => ?_
      refine CW.loopL hok (σ := Nat × Own) (fun q => [(2, .ptr b4 0), (4, .ptr br 0), (5, .ptr b5 0), (34, .slc 3 ((x.kids.map rawE).map CRaw.av) .fro), (35, .int .i64 x.kids.length), (36, .int .i64 (q.1 : Int))])
        (fun q => [(.own b5, .box 52 [.int .i64 (rawE x).op, .int .i64 (rawE x).n, .slc 3 ((x.kids.take q.1).map fun y => (rawE (plainP P y)).av) q.2]), (q.2, .row 52 3 q.1), (.own br, .box 52 [.int .i64 0, .int .i64 0, .slc 0 [] .nil]), (.own b4, .box 69 [plF b4 P])])
        (fun q => q.1 ≤ x.kids.length) (fun q => x.kids.length - q.1) (0, .nil) (Nat.zero_le _) (by repeat (first | exact trivial | refine ⟨⟨_, rfl, aRfl⟩, ?_⟩ | refine ⟨⟨_, rfl, AVle.of_eq (by simp)⟩, ?_⟩)) (by repeat (first | exact Sels.nil | (apply Sels.cons; · repeat (first | exact Sel.here | apply Sel.there)))) ?_
      rintro ⟨j, own⟩ hj hok
      simp only at hj hok ⊢
      repeat (first | (with_reducible first | apply CW.seq | apply aN) | refine wR rfl ?_)
      refine CW.cond rfl (fun hh => ?_) (fun hh => ?_)
      · have hlt : j < x.kids.length := by simpa using hh
        have hy : x.kids[j]? = some x.kids[j] := List.getElem?_eq_getElem hlt
        generalize x.kids[j] = y at hy
        have hmem := List.mem_of_getElem? hy
        have hys := mem_sizesE hmem
        have hy' : ((x.kids.map rawE).map CRaw.av)[j]? = some (.agg [.int .i64 (rawE y).op, .int .i64 (rawE y).n, .slc 3 ((rawE y).kids.map CRaw.av) .fro]) := by
          rw [List.getElem?_map, List.getElem?_map, hy]
          exact congrArg some (CRaw.av_eq _)
        have htk : ((x.kids.take j).map fun y => (rawE (plainP P y)).av) ++ [(rawE (plainP P y)).av] = (x.kids.take (j + 1)).map fun y => (rawE (plainP P y)).av := take_succ_map _ hy
        have hcall := plain1_spec P hP6 hPb b4 k y (by omega) (hxc.kid hmem) (by omega)
        have hcv : LCallV Tryz.prog (plF b4 P) [avE y] (plK b4 P) _ := LCallV.of_calls (first := []) (cap := [.fptr [progA P] 0, .ptr b4 0]) hcall
        unfold avE at hcv
        rw [CRaw.av_eq (rawE y), CRaw.av_eq (rawE (plainP P y))] at hcv
        rw [CRaw.av_eq (rawE (plainP P y))] at htk
        generalize plainP P y = q at hcv htk
        repeat (first | (with_reducible first | apply CW.seq | apply aN | apply CW.skip | apply CW.block) | refine CW.reg ?_ | refine wS rfl ?_ | refine RL.idx tO _ rfl rfl rfl rfl rfl rfl rfl rfl rfl rfl rfl (by assumption) rfl ?_)
        refine RL.newBox tO rfl rfl rfl rfl rfl rfl rfl (fun _ => rfl) rfl rfl (fun _ => rfl) rfl rfl rfl rfl ?_
        repeat (first | with_reducible apply aN | refine RL.nil ?_)
        generalize hO5 : AObj.box 52 [.int .i64 (rawE x).op, .int .i64 (rawE x).n, .slc 3 ((x.kids.take j).map fun y => (rawE (plainP P y)).av) own] = O5 at hok ⊢
        have hJ0 : JS [(b5, O5), (b4, .box 69 [plF b4 P])] (sto s [(.own b5, O5), (own, .row 52 3 j), (.own br, .box 52 [.int .i64 0, .int .i64 0, .slc 0 [] .nil]), (.own b4, .box 69 [plF b4 P])]) := JS.two (Sel.get (by repeat (first | exact Sel.here | apply Sel.there)) hok) (Sel.get (by repeat (first | exact Sel.here | apply Sel.there)) hok)
        refine CW.drwJ (JS [(b5, O5), (b4, .box 69 [plF b4 P])]) tO mixed rfl (RJ.run hJ0 rfl ?_)
        refine RJ.loadA 1 tO hJ0 rfl rfl rfl rfl rfl rfl rfl rfl (fun s h => by rw [← hO5] at h; exact h.1) (v := .slc 3 ((x.kids.take j).map fun y => (rawE (plainP P y)).av) own) rfl ?_
        refine RJ.run hJ0 rfl ?_
        refine RJ.loadA 2 tO hJ0 rfl rfl rfl rfl rfl rfl rfl rfl (fun s h => h.2.1) (v := plF b4 P) rfl ?_
        refine RJ.run hJ0 rfl ?_
        have hJ1 : ∀ {own' : Own} {m : Nat}, Ok s ([(.own b4, .box 69 [plF b4 P])] ++ [(.own b5, O5), (own', .row 52 3 m), (.own br, .box 52 [.int .i64 0, .int .i64 0, .slc 0 [] .nil])]) → JS [(b5, O5), (b4, .box 69 [plF b4 P])] (sto s ([(.own b4, .box 69 [plF b4 P])] ++ [(.own b5, O5), (own', .row 52 3 m), (.own br, .box 52 [.int .i64 0, .int .i64 0, .slc 0 [] .nil])])) := fun hok => JS.two (Sel.get (.there .here) hok) (Sel.get .here hok)
        refine RJ.callVL (i := 4) rfl rfl rfl rfl rfl rfl rfl rfl hcv hok (.cons (.there (.there (.there .here))) .nil) ?_ ?_ (fun _ _ ⟨h, _⟩ _ => by cases h)
        · rintro _ _ ⟨⟨⟩, rfl⟩ hok
          exact .inl (hJ1 hok)
        rintro _ _ ⟨⟨⟩, rfl⟩ hok
        refine RJ.run (hJ1 hok) rfl ?_
        refine RJ.append1L 6 tO hok rfl rfl rfl rfl rfl rfl rfl rfl rfl (by intro k; simp) rfl rfl rfl rfl rfl rfl rfl rfl (.there (.there .here)) (by simp <;> omega) (by show (_ + 1) * 40 ≤ _; omega) (by omega) (fun own' hok => .inl (JS.two (Sel.get (.there (.there .here)) hok) (Sel.get (.there .here) hok))) (fun own' hok => ?_)
        refine RJ.run (JS.two (Sel.get (.there (.there .here)) hok) (Sel.get (.there .here) hok)) rfl ?_
        subst hO5
        refine RJ.storeL 8 tO hok rfl rfl rfl rfl rfl rfl rfl rfl rfl rfl rfl (.there (.there .here)) rfl (fun _ => .inr rfl) (fun hok => ?_)
        refine RD.done rfl ?_
        repeat (first | (with_reducible first | apply aN | apply iN) | refine wR rfl ?_)
        exact NextL.mk (j + 1, own') hok hlt (by repeat (first | exact trivial | refine ⟨⟨_, rfl, aRfl⟩, ?_⟩ | refine ⟨⟨_, rfl, AVle.of_eq (by (rw [i64_succ (by omega)]))⟩, ?_⟩)) (by simp only [List.cons_append, List.nil_append, ← htk]; exact .cons .here (.cons .here (.cons (.there .here) (.cons .here .nil)))) (by show x.kids.length - (j + 1) < x.kids.length - j; omega)
      · have hge : j = x.kids.length := by
          have : x.kids.length ≤ j := by simpa using hh
          omega
        subst hge
        rw [List.take_length] at hok ⊢
        repeat (first | (with_reducible first | apply CW.seq | apply aN | apply aX | apply iH | apply CW.ret | apply CW.exit) | refine CW.reg ?_ | refine RL.nil ?_ | refine RL.loadL tO hok rfl rfl rfl rfl rfl rfl (by repeat (first | exact Sel.here | apply Sel.there)) (by exact rfl) ?_ | refine RL.storeL tO hok rfl rfl rfl rfl rfl rfl rfl rfl rfl (by repeat (first | exact Sel.here | apply Sel.there)) (by exact rfl) (fun hok => ?_))
        exact Fin.retL hok (resA_cell rfl rfl (Sel.get Sel.here hok) rfl) (AVle.agg (.cons aRfl (.cons aRfl (.one AVle.fro)))) (by repeat (first | exact Sels.nil | (apply Sels.cons; · repeat (first | exact Sel.here | apply Sel.there)))) ⟨rfl, rfl⟩
set_option maxRecDepth 10000 in
set_option maxHeartbeats 1000000 in
theorem plainOk_spec (P : List CExp) (hP : ∀ e ∈ P, OkC P e) (hP6 : P.length ≤ 6) (hp : CRaw.sizes (P.map rawE) + 1 < big) (hPb : sizesE P + 1 < big) (h : goodP (P.map rawE) = true) :
  PCalls Tryz.prog 11 [progA P] (.tup [progA (P.map (plainP P)), .int .i64 0]) := by
 have hb : big = 1099511627776 := rfl
 have hfi := fine_spec (P.map rawE) hp
 rw [h] at hfi
 have hlm : ((P.map rawE).map CRaw.av).length = P.length := by simp
 have hout : ((P.map (plainP P)).map rawE).map CRaw.av = P.map fun x => (rawE (plainP P x)).av := by rw [List.map_map, List.map_map]; rfl
 have hspec := fun b4 k x => plain1_spec P hP6 hPb b4 k x
 refine PCalls.of_CW tO call11 Tryz.func11 rfl rfl fun s hok => ?_
 unfold progA
 rw [hout]
 repeat (first | (with_reducible first | apply CW.seq | apply aN) | refine wR rfl ?_ | refine CW.reg ?_ | refine wS rfl ?_)
 refine RL.callPP rfl rfl rfl rfl rfl hfi ?_
 repeat (first | (with_reducible first | apply CW.seq | apply aN | apply CW.skip) | refine CW.reg ?_ | refine RL.nil ?_ | refine CW.condF rfl ?_ | refine wS rfl ?_)
 refine RL.allocL tO hok rfl rfl rfl rfl rfl rfl rfl (fun b4 hok => ?_)
 repeat (first | (with_reducible first | apply CW.seq | apply aN | apply CW.block) | refine wR rfl ?_ | refine CW.reg ?_ | refine RL.nil ?_ | refine wS rfl ?_ | refine RL.storeL tO hok rfl rfl rfl rfl rfl rfl rfl rfl rfl (by repeat (first | exact Sel.here | apply Sel.there)) (by exact rfl) (fun hok => ?_))
 refine CW.phantom hok 52 3 0 fun hok => ?_
 refine CW.loopL hok (σ := Nat × Own) (fun q => [(4, .ptr b4 0), (5, .slc 3 ((P.take q.1).map fun x => (rawE (plainP P x)).av) q.2), (12, progA P), (13, .int .i64 P.length), (14, .int .i64 (q.1 : Int))]) (fun q => [(q.2, .row 52 3 q.1), (.own b4, .box 69 [plF b4 P])]) (fun q => q.1 ≤ P.length) (fun q => P.length - q.1) (0, .nil) (Nat.zero_le _) ⟨⟨_, rfl, aRfl⟩, ⟨_, rfl, AVle.nil (by intro b h; cases h)⟩, ⟨_, rfl, aRfl⟩, ⟨_, rfl, AVle.of_eq (by rw [hlm])⟩, ⟨_, rfl, aRfl⟩, trivial⟩ (by repeat (first | exact Sels.nil | (apply Sels.cons; · repeat (first | exact Sel.here | apply Sel.there)))) ?_
 rintro ⟨j, own⟩ hj hok
 simp only at hj hok ⊢
 unfold progA
 repeat (first | (with_reducible first | apply CW.seq | apply aN) | refine wR rfl ?_)
 refine CW.cond rfl (fun hlt => ?_) (fun hge => ?_)
 rotate_left
 ·have hge : j = P.length := by
   have : P.length ≤ j := by simpa using hge
   omega
  subst hge
  rw [List.take_length]
  repeat (first | (with_reducible first | apply CW.seq | apply aN | apply aX | apply iH | apply CW.ret | apply CW.exit) | refine wR rfl ?_)
  exact Fin.retP hok rfl (AVle.tup (.cons AVle.fro (.one aRfl)))
 have hlt : j < P.length := by simpa using hlt
 have hy : P[j]? = some P[j] := List.getElem?_eq_getElem hlt
 generalize P[j] = x at hy
 have hxm := List.mem_of_getElem? hy
 have hy' : ((P.map rawE).map CRaw.av)[j]? = some (.agg [.int .i64 (rawE x).op, .int .i64 (rawE x).n, .slc 3 ((rawE x).kids.map CRaw.av) .fro]) := by
  rw [List.getElem?_map, List.getElem?_map, hy]
  exact congrArg some (CRaw.av_eq _)
 have hxs := mem_sizesE hxm
 have htk : ((P.take j).map fun y => (rawE (plainP P y)).av) ++ [(rawE (plainP P x)).av] = (P.take (j + 1)).map fun y => (rawE (plainP P y)).av := take_succ_map _ hy
 have hcv : LCallV Tryz.prog (plF b4 P) [avE x] (plK b4 P) _ := LCallV.of_calls (first := []) (cap := [.fptr [progA P] 0, .ptr b4 0]) (hspec b4 x.size x (Nat.le_refl _) (hP x hxm) (by omega))
 unfold avE at hcv
 rw [CRaw.av_eq (rawE x), CRaw.av_eq (rawE (plainP P x))] at hcv
 rw [CRaw.av_eq (rawE (plainP P x))] at htk
 generalize plainP P x = q at hcv htk
 repeat (first | (with_reducible first | apply CW.seq | apply aN | apply CW.skip | apply CW.block) | refine CW.reg ?_ | refine wS rfl ?_ | refine RL.idx tO _ rfl rfl rfl rfl rfl rfl rfl rfl rfl rfl rfl (by assumption) rfl ?_)
 refine RL.newBox tO rfl rfl rfl rfl rfl rfl rfl (fun _ => rfl) rfl rfl (fun _ => rfl) rfl rfl rfl rfl ?_
 repeat (first | with_reducible apply aN | refine CW.reg ?_ | refine RL.nil ?_ | refine wS rfl ?_ | refine RL.loadL tO hok rfl rfl rfl rfl rfl rfl (by repeat (first | exact Sel.here | apply Sel.there)) (by exact rfl) ?_)
 refine RL.callVL rfl rfl rfl rfl rfl rfl hcv hok (by simp only [plK]; repeat (first | exact Sels.nil | (apply Sels.cons; · repeat (first | exact Sel.here | apply Sel.there)))) ?_ (fun _ _ ⟨h, _⟩ _ => by cases h)
 rintro _ _ ⟨⟨⟩, rfl⟩ hok
 unfold plK at hok ⊢
 repeat (first | refine wS rfl ?_)
 refine RL.append1L tO hok rfl rfl rfl rfl rfl rfl rfl (by intro k; simp) rfl rfl rfl rfl rfl rfl rfl rfl (by repeat (first | exact Sel.here | apply Sel.there)) (by simp <;> omega) (by show (_ + 1) * 40 ≤ _; omega) (by omega) (fun o2 hok => ?_)
 repeat (first | (with_reducible first | apply aN | apply iN) | refine wR rfl ?_ | refine RL.nil ?_ | refine wS rfl ?_)
 exact NextL.mk (j + 1, .own o2) hok hlt (by repeat (first | exact trivial | refine ⟨⟨_, rfl, aRfl⟩, ?_⟩ | refine ⟨⟨_, rfl, AVle.of_eq (by (first | rw [i64_succ (by omega)] | exact congrArg (fun l => AV.slc 3 l (Own.own o2)) htk | exact congrArg (fun l => AV.slc 3 l (Own.own o2)) htk.symm))⟩, ?_⟩)) (by repeat (first | exact Sels.nil | (apply Sels.cons; · repeat (first | exact Sel.here | apply Sel.there)))) (by show P.length - (j + 1) < P.length - j; omega)
end Go.Proofs.YtdeiinhccdlfiaaGreat

/- Chapter 19: contracts of the reference: the blocks that may be called, the errors of blocks (may, ErrorsOf). -/
namespace Go.Proofs.YtdeiinhccdlfiaaGreat
open Go.AE Go.Cond

theorem sizes_raw : ∀ l : List CExp, CRaw.sizes (l.map rawE) = sizesE l := by
 have hx : ∀ m (x : CExp), x.size ≤ m → (rawE x).size = x.size := by
  intro m
  induction m with
  | zero => intro x h; have := size_kids x; omega
  | succ m ih =>
   intro x h
   have hs := size_kids x
   have hl : ∀ l : List CExp, sizesE l ≤ m → CRaw.sizes (l.map rawE) = sizesE l := by
    intro l
    induction l with
    | nil => intro _; rfl
    | cons y r ihr =>
     intro hl
     rw [sizesE] at hl ⊢
     rw [List.map_cons, CRaw.sizes, ih y (by omega), ihr (by omega)]
   have : rawE x = .mk (rawE x).op (rawE x).n (x.kids.map rawE) := by rw [← kids_raw]; cases rawE x; rfl
   rw [this, CRaw.size, hl _ (by omega), hs]
 intro l
 induction l with
 | nil => rfl
 | cons y r ih => rw [List.map_cons, CRaw.sizes, sizesE, hx _ y (Nat.le_refl _), ih]
end Go.Proofs.YtdeiinhccdlfiaaGreat

/- Chapter 19, plain: what is known of a program that is formed. -/
namespace Go.Proofs.YtdeiinhccdlfiaaGreat
open Go.AE Go.Cond

theorem OkE.kid {b : Int} {x y : CExp} (h : OkE b x) (hy : y ∈ x.kids) : OkE b y := by
 cases x <;> simp only [CExp.kids, List.mem_cons, List.not_mem_nil, or_false] at hy <;> simp only [OkE] at h
 all_goals first
  | (rcases hy with rfl | rfl | rfl <;> simp [h])
  | (rcases hy with rfl | rfl <;> simp [h])
  | (subst hy; simp [h])
theorem OkE.reach {P : List CExp} (hP : ∀ e ∈ P, OkE P.length e) {x z : CExp} (h : Cond.Reach P x z) : OkE P.length x → OkE P.length z := by
 induction h with
 | refl _ => exact id
 | kid hy _ ih => exact fun h => ih (h.kid hy)
 | @call n a z _ ih =>
  intro h
  have hn : n < P.length := by have := h.1; omega
  refine ih (hP _ ?_)
  rw [List.getD_eq_getElem?_getD, List.getElem?_eq_getElem hn]
  exact List.getElem_mem hn
theorem OkE.okC {P : List CExp} (hP : ∀ e ∈ P, OkE P.length e) {x : CExp} (h : OkE P.length x) : OkC P x := fun n a hr => by
 have := (OkE.reach hP hr h).1; omega
mutual
theorem cntR_size {b : Int} : ∀ {x : CRaw} {d : Nat} {k : Int}, (cntR b d k x).1 = true → (cntR b d k x).2 = k - x.size ∧ 0 ≤ (cntR b d k x).2
  | .mk o n ks, d, k, h => by
    rw [cntR] at h ⊢
    rw [CRaw.size]
    cases hq : nodeOf b o with
    | none => rw [hq] at h; cases h
    | some r =>
      rw [hq] at h
      simp only at h ⊢
      split at h
      · cases h
      · rename_i hc
        rw [if_neg hc]
        simp only [Bool.or_eq_true, decide_eq_true_eq, not_or] at hc
        obtain ⟨h1, h2⟩ := cntsR_size h
        exact ⟨by omega, h2 (by omega)⟩
theorem cntsR_size {b : Int} : ∀ {l : List CRaw} {d : Nat} {k : Int}, (cntsR b d k l).1 = true → (cntsR b d k l).2 = k - CRaw.sizes l ∧ (0 ≤ k → 0 ≤ (cntsR b d k l).2)
  | [], d, k, h => by rw [cntsR, CRaw.sizes]; exact ⟨by simp, fun h => h⟩
  | x :: r, d, k, h => by
    rw [cntsR] at h ⊢
    rw [CRaw.sizes]
    split at h
    · rename_i h1
      rw [if_pos h1]
      obtain ⟨e1, e2⟩ := cntR_size h1
      obtain ⟨e3, e4⟩ := cntsR_size h
      exact ⟨by omega, fun _ => e4 e2⟩
    · cases h
end
theorem good_sizes {p : List CRaw} (h : goodP p = true) : CRaw.sizes p ≤ 80 := by
 unfold goodP at h
 simp only [Bool.and_eq_true] at h
 obtain ⟨h1, h2⟩ := cntsR_size h.2
 have := h2 (by omega)
 omega
structure Fit (P : List CExp) : Prop where
 good : goodP (P.map rawE) = true
 ok : ∀ e ∈ P, OkE P.length e
 one : 1 ≤ P.length
 six : P.length ≤ 6
 okC : ∀ e ∈ P, OkC P e
 sizes : sizesE P ≤ 80
theorem good_fit {p : List CRaw} (h : goodP p = true) : ∃ P : List CExp, p = P.map rawE ∧ Fit P := by
 obtain ⟨P, rfl, h1, h2, h3⟩ := good_typed h
 exact ⟨P, rfl, h, h1, h2, h3, fun e he => OkE.okC h1 (h1 e he), by rw [← sizes_raw]; exact good_sizes h⟩
theorem raw_inj : ∀ {x y : CExp}, rawE x = rawE y → x = y := by
 have hx : ∀ m (x y : CExp), x.size ≤ m → rawE x = rawE y → x = y := by
  intro m
  induction m with
  | zero => intro x y h; have := size_kids x; omega
  | succ m ih =>
   intro x y hs h
   have hk := size_kids x
   have hkid : ∀ z ∈ x.kids, ∀ w, rawE z = rawE w → z = w := fun z hz w => ih z w (by have := mem_sizesE hz; omega)
   clear ih hs hk
   cases x <;> cases y <;> simp [rawE, CExp.kids] at h hkid ⊢
   all_goals first
    | exact h
    | exact hkid _ h
    | exact ⟨hkid.1 _ h.1, hkid.2 _ h.2⟩
    | exact ⟨hkid.1 _ h.1, hkid.2.1 _ h.2.1, hkid.2.2 _ h.2.2⟩
    | exact ⟨h.1, hkid _ h.2⟩
    | exact ⟨h.1, hkid.1 _ h.2.1, hkid.2 _ h.2.2⟩
    | exact ⟨by omega, hkid _ h.2⟩
 exact fun {x y} => hx x.size x y (Nat.le_refl _)
theorem raws_inj : ∀ {a b : List CExp}, a.map rawE = b.map rawE → a = b
  | [], [], _ => rfl
  | x :: r, y :: q, h => by
    rw [List.map_cons, List.map_cons, List.cons.injEq] at h
    rw [raw_inj h.1, raws_inj h.2]
theorem fit_of {P : List CExp} (h : goodP (P.map rawE) = true) : Fit P := by
 obtain ⟨Q, hq, hf⟩ := good_fit h
 rw [raws_inj hq]; exact hf
section
variable {P : List CExp} (f : Fit P)
include f
theorem Fit.bound : CRaw.sizes (P.map rawE) + 1 < big := by
 have hb : big = 1099511627776 := rfl
 have := f.sizes
 rw [sizes_raw]; omega
theorem Fit.drive (hand : Int) (picks : List Int) (fuel : Nat) (h : askedB (P.map rawE) hand picks fuel = true) :
  PCalls Tryz.prog 10 [progA P, .int .i64 hand, intsA picks, .int .i64 (fuel : Int)] (.tup [runA (Cond.drive P hand picks fuel), .int .i64 0]) := driveOk_spec P f.ok f.one f.bound hand picks fuel h
theorem Fit.run (hand : Int) (fuel : Nat) (h : askedB (P.map rawE) hand [] fuel = true) :
  PCalls Tryz.prog 6 [progA P, .int .i64 hand, .int .i64 (fuel : Int)] (.tup [runA (Cond.drive P hand [] fuel), .int .i64 0]) := runOk_spec P f.ok f.one f.bound hand fuel h
theorem Fit.errors : PCalls Tryz.prog 24 [progA P] (.tup [.slc 1 ((P.map (errs P)).map intsA) .fro, .int .i64 0]) :=
 errorsOk_spec P f.okC f.six f.bound (by have hb : big = 1099511627776 := rfl; have := f.sizes; omega) f.good
theorem Fit.plain : PCalls Tryz.prog 11 [progA P] (.tup [progA (P.map (plainP P)), .int .i64 0]) :=
 plainOk_spec P f.okC f.six f.bound (by have hb : big = 1099511627776 := rfl; have := f.sizes; omega) f.good
end
end Go.Proofs.YtdeiinhccdlfiaaGreat

/- Chapter 19, plain: how small the events of a run are; a plain program is formed, and its run is the same. -/
namespace Go.Cond

def Small (B : Nat) (l : List Ev) : Prop := ∀ e ∈ l, e.hs.length ≤ B ∧ e.rs.length ≤ B
theorem Small.snoc {B : Nat} {l : List Ev} (h : Small B l) {e : Ev} (he : e.hs.length ≤ B ∧ e.rs.length ≤ B) : Small B (l ++ [e]) := fun x hx => by
 rcases List.mem_append.1 hx with hx | hx
 ·exact h x hx
 ·rw [List.mem_singleton] at hx; subst hx; exact he
structure Room (B : Nat) (s : Sc) (f : Nat) : Prop where
 hs : s.hs.length + f ≤ B
 rs : s.rs.length + f ≤ B
theorem Room.less {B : Nat} {s : Sc} {f g : Nat} (h : Room B s f) (hg : g ≤ f) : Room B s g := ⟨by have := h.hs; omega, by have := h.rs; omega⟩
theorem Room.ev {B : Nat} {s : Sc} {f : Nat} (h : Room B s f) (d n v : Int) : (s.ev d n v).hs.length ≤ B ∧ (s.ev d n v).rs.length ≤ B := by
 have h1 := h.hs
 have h2 := h.rs
 refine ⟨?_, ?_⟩
 ·show s.names.length ≤ B
  unfold Sc.names; rw [List.length_map]; omega
 ·show s.rs.length ≤ B
  omega
section
variable {B : Nat} {P : List CExp} {f : Nat} (ih : ∀ x s st, Room B s st.fuel → Small B st.evs → st.fuel < f → Small B (run P x s st).2.evs)
theorem small_then {r : Res} {g : Int → St → Res} (h : Small B r.2.evs) (hg : ∀ v q, r = (.val v, q) → Small B q.evs → Small B (g v q).2.evs) : Small B (andThen r g).2.evs := by
 obtain ⟨o, q⟩ := r
 cases o with
 | val v => exact hg v q rfl h
 | leave d v => exact h
 | stop e => exact h
theorem small_leave {r : Res} {d : Nat} {g : Int → St → Res} (h : Small B r.2.evs) (hg : ∀ v q, r = (.leave d v, q) → Small B q.evs → Small B (g v q).2.evs) : Small B (onLeave r d g).2.evs := by
 obtain ⟨o, q⟩ := r
 cases o with
 | val v => exact h
 | leave e v =>
  rw [onLeave]
  split
  ·rename_i he; subst he; exact hg v q rfl h
  ·exact h
 | stop e => exact h
include ih
theorem raiseL_small {rs : List Int} {n v : Int} : ∀ (l : List Hd) (st : St), l.length + st.fuel ≤ B → rs.length + st.fuel ≤ B → Small B st.evs → st.fuel < f → Small B (raiseL (run P) rs n v l st).2.evs
  | [], _, _, _, h, _ => h
  | h :: outer, st, h1, h2, hs, hf => by
    rw [List.length_cons] at h1
    rw [raiseL]
    split
    · have hr : Room B ⟨v, outer, rs⟩ st.fuel := ⟨by show outer.length + _ ≤ _; omega, h2⟩
      refine small_then (ih h.body ⟨v, outer, rs⟩ _ hr (hs.snoc (hr.ev ..)) hf) fun u q hq h3 => ?_
      have h4 := run_fuel P h.body ⟨v, outer, rs⟩ (st.tell (Sc.ev ⟨v, outer, rs⟩ 3 h.n v))
      rw [hq] at h4
      have h4' : q.fuel ≤ st.fuel := h4
      exact raiseL_small outer q (by omega) (by omega) h3 (by omega)
    · exact raiseL_small outer st (by omega) h2 hs hf
theorem raise_small {s : Sc} (n v : Int) {st : St} (hr : Room B s st.fuel) (h : Small B st.evs) (hf : st.fuel < f) : Small B (raise (run P) s n v st).2.evs :=
 raiseL_small ih s.hs _ hr.hs hr.rs (h.snoc (hr.ev ..)) hf
omit ih in
theorem lost_small {s : Sc} (v : Int) {st : St} (hr : Room B s st.fuel) (h : Small B st.evs) : Small B (lost s v st).2.evs := by
 unfold lost
 split
 ·exact h
 ·split
  ·exact h
  ·exact h.snoc (hr.ev ..)
theorem agains_small {n : Int} {a : CExp} {s : Sc} : ∀ (k : Nat) {v : Int} {st : St}, st.fuel ≤ k → s.hs.length + st.fuel ≤ B → s.rs.length + 1 + st.fuel ≤ B → Small B st.evs → st.fuel < f → Small B (agains P n a s v st).2.evs
  | k, v, st, hk, h1, h2, h, hf => by
    rw [agains_eq]
    refine small_leave (ih a ((s.with v).offer n) st ⟨h1, by show (n :: s.rs).length + _ ≤ _; simpa using h2⟩ h hf) fun u q hr hq => ?_
    have hb := run_burns P _ _ _ hr (by simp)
    cases k with
    | zero => omega
    | succ k => exact agains_small k (by omega) (by omega) (by omega) hq (by omega)
theorem step_small (x : CExp) {s : Sc} {st : St} {k : Nat} (hr : Room B s (st.fuel + 1)) (h : Small B st.evs) (hf : st.fuel < f) (hk : st.fuel < k) : Small B (step P (run P) k s st x).2.evs := by
 have hr0 := hr.less (Nat.le_succ _)
 have bind : ∀ {x : CExp} {st : St} {g : Int → St → Res}, Room B s st.fuel → Small B st.evs → st.fuel < f → (∀ v q, Room B s q.fuel → Small B q.evs → q.fuel < f → Small B (g v q).2.evs) → Small B (andThen (run P x s st) g).2.evs := by
  intro x st g hr h hf hg
  refine small_then (ih x s st hr h hf) fun v q hq h1 => ?_
  have h2 := run_fuel P x s st
  rw [hq] at h2
  have h2' : q.fuel ≤ st.fuel := h2
  exact hg v q (hr.less h2') h1 (by omega)
 cases x with
 | int n => exact h
 | hand => exact h
 | add a b => exact bind hr0 h hf fun _ _ hr h hf => bind hr h hf fun _ _ _ h _ => h
 | say a => exact bind hr0 h hf fun v q hr h _ => h.snoc (hr.ev ..)
 | seq a b => exact bind hr0 h hf fun _ _ hr h hf => ih _ _ _ hr h hf
 | test a b c =>
  refine bind hr0 h hf fun _ _ hr h hf => ?_
  split <;> exact ih _ _ _ hr h hf
 | call n a => exact bind hr0 h hf fun v q hr h hf => ih _ (s.with v) _ ⟨hr.hs, hr.rs⟩ h hf
 | handle n a b => exact ih _ (s.under n b) _ ⟨by show (_ :: s.hs).length + _ ≤ _; have := hr.hs; simp; omega, hr0.rs⟩ h hf
 | signal n a => exact bind hr0 h hf fun v q hr h hf => raise_small ih n v hr h hf
 | fails n a =>
  refine bind hr0 h hf fun v q hr h hf => small_then (raise_small ih n v hr h hf) fun u q' hq h' => lost_small v (hr.less ?_) h'
  have : (raise (run P) s n v q).2.fuel ≤ q.fuel := raise_grows fuel_grows (run_fuel P) s n v q
  rw [hq] at this
  exact this
 | restart n a b =>
  refine small_leave (ih a (s.offer n) _ ⟨hr0.hs, by show (n :: s.rs).length + _ ≤ _; have := hr.rs; simp; omega⟩ h hf) fun v q hq h' => ?_
  have := run_burns P _ _ _ hq (by simp)
  exact ih b (s.with v) q ⟨by have := hr.hs; show s.hs.length + _ ≤ _; omega, by have := hr.rs; show s.rs.length + _ ≤ _; omega⟩ h' (by omega)
 | again n a =>
  show Small B (again (run P) n a s k s.hand st).2.evs
  rw [again_run P n a s _ st hk (Nat.lt_succ_self _)]
  exact agains_small ih _ (Nat.le_refl _) hr0.hs (by have := hr.rs; omega) h hf
 | choose n a =>
  refine bind hr0 h hf fun v q hr h _ => ?_
  split
  ·exact h.snoc (hr.ev ..)
  ·exact h
 | find n => exact h
 | guard a b =>
  have h1 := ih a s st hr0 h hf
  have h2 := run_fuel P a s st
  show Small B (behind (run P a s st) _ _).2.evs
  generalize run P a s st = r at h1 h2
  obtain ⟨o, q⟩ := r
  have h3 : q.fuel ≤ st.fuel := h2
  cases o with
  | val v => exact small_then (ih b s q (hr0.less h3) h1 (by omega)) fun _ _ _ h => h
  | leave d v => exact small_then (ih b s (q.tell _) (hr0.less h3) (h1.snoc (hr0.ev ..)) (by show q.fuel < f; omega)) fun _ _ _ h => h
  | stop e => exact h1
end
theorem run_small {B : Nat} (P : List CExp) : ∀ (f : Nat) (x : CExp) (s : Sc) (st : St), Room B s st.fuel → Small B st.evs → st.fuel < f → Small B (run P x s st).2.evs
  | 0, _, _, _, _, _, h => absurd h (Nat.not_lt_zero _)
  | f + 1, x, s, st, hr, h, hf => by
    by_cases h0 : st.fuel = 0
    · rw [run_spent P x s st h0]; exact h
    · rw [run_step P x s st h0]
      have h2 : st.burn.fuel = st.fuel - 1 := rfl
      exact step_small (run_small P f) x (hr.less (by omega)) h (by omega) (by omega)
theorem drive_small (P : List CExp) (hand : Int) (picks : List Int) (fuel : Nat) : (drive P hand picks fuel).evs.length ≤ 3 * fuel + 1 ∧ Small fuel (drive P hand picks fuel).evs := by
 have h1 := run_phi P (fuel + 1) (P.getD 0 default) ⟨hand, [], []⟩ ⟨[], fuel, picks⟩ (Nat.lt_succ_self _)
 have h2 := run_small (B := fuel) P (fuel + 1) (P.getD 0 default) ⟨hand, [], []⟩ ⟨[], fuel, picks⟩ ⟨by simp, by simp⟩ (fun _ h => by cases h) (Nat.lt_succ_self _)
 rw [drive_run]
 generalize run P (P.getD 0 default) ⟨hand, [], []⟩ ⟨[], fuel, picks⟩ = r at h1 h2
 obtain ⟨o, q⟩ := r
 have h3 : phi q ≤ (0 : Int) + 3 * fuel := by
  cases o <;> (unfold PB at h1; simp only [phi] at h1 ⊢; simp at h1; omega)
 have h4 : q.evs.length ≤ 3 * fuel + 1 := by unfold phi at h3; omega
 cases o <;> exact ⟨h4, h2⟩
end Go.Cond
namespace Go.Proofs.YtdeiinhccdlfiaaGreat
open Go.AE Go.Cond

theorem drive_fair (P : List CExp) (hand : Int) (picks : List Int) (fuel : Nat) (hf : fuel ≤ 300) : (drive P hand picks fuel).evs.length < 1000 ∧ ∀ e ∈ (drive P hand picks fuel).evs, EvFair e := by
 obtain ⟨h1, h2⟩ := drive_small P hand picks fuel
 have hb : big = 1099511627776 := rfl
 exact ⟨by omega, fun e he => by have := h2 e he; exact ⟨by omega, by omega⟩⟩

/-! ### How deep an expression is -/
def depth : CExp → Nat
 | .int _ => 1
 | .hand => 1
 | .add a b => 1 + max (depth a) (depth b)
 | .say a => 1 + depth a
 | .seq a b => 1 + max (depth a) (depth b)
 | .test a b c => 1 + max (depth a) (max (depth b) (depth c))
 | .call _ a => 1 + depth a
 | .handle _ a b => 1 + max (depth a) (depth b)
 | .signal _ a => 1 + depth a
 | .fails _ a => 1 + depth a
 | .restart _ a b => 1 + max (depth a) (depth b)
 | .again _ a => 1 + depth a
 | .choose _ a => 1 + depth a
 | .find _ => 1
 | .guard a b => 1 + max (depth a) (depth b)
theorem depth_top {x : CExp} {n : Nat} (h1 : 1 ≤ n) (h : ∀ y ∈ x.kids, depth y + 1 ≤ n) : depth x ≤ n := by
 cases x <;> simp only [CExp.kids, List.mem_cons, List.not_mem_nil, or_false, forall_eq_or_imp, forall_eq] at h <;> rw [depth] <;> omega
theorem cntR_depth {b : Int} : ∀ (m : Nat) (x : CExp) (d : Nat) (k : Int), x.size ≤ m → (cntR b d k (rawE x)).1 = true → d + depth x ≤ 13
  | 0, x, _, _, h, _ => by have := size_kids x; omega
  | m + 1, x, d, k, hm, h => by
    have hs := size_kids x
    have he : rawE x = .mk (rawE x).op (rawE x).n (x.kids.map rawE) := by rw [← kids_raw]; cases rawE x; rfl
    have hd : d ≤ 12 := by
      rw [he, cntR] at h
      split at h
      · cases h
      · split at h
        · cases h
        · rename_i hc
          simp only [Bool.or_eq_true, decide_eq_true_eq, not_or] at hc
          omega
    rw [he] at h
    obtain ⟨r, _, _, _, _, hk⟩ := cntR_true h
    have : depth x ≤ 13 - d := depth_top (by omega) fun y hy => by
      obtain ⟨k', hk'⟩ := hk (rawE y) (List.mem_map.2 ⟨y, hy, rfl⟩)
      have := cntR_depth m y (d + 1) k' (by have := mem_sizesE hy; omega) hk'
      omega
    omega
theorem Fit.depth {P : List CExp} (f : Fit P) : ∀ e ∈ P, depth e ≤ 12 := fun e he => by
 have h := f.good
 unfold goodP at h
 simp only [Bool.and_eq_true] at h
 obtain ⟨k', hk⟩ := cntsR_mem _ _ _ _ h.2 (rawE e) (List.mem_map.2 ⟨e, he, rfl⟩)
 have := cntR_depth _ e 1 k' (Nat.le_refl _) hk
 omega
end Go.Proofs.YtdeiinhccdlfiaaGreat

/- Chapter 19: the contract of known: the chapter's examples. -/
namespace Go.Proofs.YtdeiinhccdlfiaaGreat
open Go.AE Go.Cond

theorem known_ev (evs : List Ev) (h : ∀ e ∈ evs, e.hs.length < 9 ∧ e.rs.length < 9) : ∀ x ∈ evs, EvFair x := fun x hx => by
 have hb : big = 1099511627776 := rfl
 have := h x hx
 exact ⟨by omega, by omega⟩
def kEv : List Ev := [⟨2, 0, 5, [0], [1]⟩, ⟨3, 0, 5, [], [1]⟩, ⟨4, 1, 5, [], [1]⟩, ⟨1, 0, 5, [], []⟩]
def kGuard : List CExp := [.restart 1 (.guard (.choose 1 (.int 2)) (.say (.int 9))) .hand]
def kErr : List CExp := [.call 1 (.int 0), .fails 3 (.int 0)]
def kPlain : List CExp := [.handle 0 (.signal 1 (.int 0)) (.int 4)]
theorem kErr_eq : kErr.map (errs kErr) = [[3], [3]] := by decide +kernel
theorem eventC_spec (e : Ev) (a b : AV) (ha : AVle a (intsA e.hs)) (hb : AVle b (intsA e.rs)) : PCalls Tryz.prog 19 [.int .i64 e.deed, .int .i64 e.n, .int .i64 e.val, a, b] (evA e) :=
 PCalls.args (.cons aRfl (.cons aRfl (.cons aRfl (.cons ha (.one hb))))) (event_spec e)
theorem noInts {n : Nat} : AVle (.slc n [] .nil) (intsA []) := AVle.nil (by intro b h; cases h)
set_option maxRecDepth 10000 in
set_option maxHeartbeats 2000000 in
theorem known_true : PCalls Tryz.prog 9 [] (.bool true) := by
 have hEx := example_spec
 have hRe := retry_spec
 have r1 : PCalls Tryz.prog 6 [.slc 3 ((exampleE.map rawE).map CRaw.av) .fro, .int .i64 0, .int .i64 99] (.tup [.agg [.int .i64 1, .int .i64 5, .slc 5 (kEv.map evA) .fro, .int .i64 90], .int .i64 0]) := (fit_of (P := exampleE) rfl).run 0 99 rfl
 have r2 : PCalls Tryz.prog 6 [.slc 3 ((retryE.map rawE).map CRaw.av) .fro, .int .i64 0, .int .i64 99] (.tup [.agg [.int .i64 2, .int .i64 0, .slc 5 [evA ⟨2, 0, 3, [], [2]⟩] .fro, .int .i64 94], .int .i64 0]) := (fit_of (P := retryE) rfl).run 0 99 rfl
 have r3 : PCalls Tryz.prog 10 [.slc 3 ((retryE.map rawE).map CRaw.av) .fro, .int .i64 0, .slc 1 [.int .i64 0] .clip, .int .i64 99] (.tup [.agg [.int .i64 1, .int .i64 7, .slc 5 [evA ⟨2, 0, 3, [], [2]⟩, evA ⟨4, 2, 3, [], [2]⟩] .fro, .int .i64 91], .int .i64 0]) := PCalls.args (.cons aRfl (.cons aRfl (.cons AVle.fro (.one aRfl)))) ((fit_of (P := retryE) rfl).drive 0 [0] 99 rfl)
 have r4 : PCalls Tryz.prog 6 [.slc 3 ((exampleE.map rawE).map CRaw.av) .fro, .int .i64 0, .int .i64 3] (.tup [.agg [.int .i64 4, .int .i64 0, .slc 5 [] .fro, .int .i64 0], .int .i64 0]) := (fit_of (P := exampleE) rfl).run 0 3 rfl
 have r5 : PCalls Tryz.prog 6 [.slc 3 ((exampleE.map rawE).map CRaw.av) .fro, .int .i64 0, .int .i64 301] (.tup [runA noRun, .int .i64 2]) := runBad_spec _ (fit_of (P := exampleE) rfl).bound 0 301 rfl
 have r6 : PCalls Tryz.prog 6 [.slc 3 ((kGuard.map rawE).map CRaw.av) .clip, .int .i64 0, .int .i64 99] (.tup [.agg [.int .i64 1, .int .i64 2, .slc 5 [evA ⟨4, 1, 2, [], [1]⟩, evA ⟨5, 0, 0, [], [1]⟩, evA ⟨1, 0, 9, [], [1]⟩] .fro, .int .i64 92], .int .i64 0]) := PCalls.args (.cons AVle.fro (.cons aRfl (.one aRfl))) ((fit_of (P := kGuard) rfl).run 0 99 rfl)
 have r7 : PCalls Tryz.prog 24 [.slc 3 ((kErr.map rawE).map CRaw.av) .clip] (.tup [.slc 1 ([[3], [3]].map intsA) .fro, .int .i64 0]) := by
  have := (fit_of (P := kErr) rfl).errors
  rw [kErr_eq] at this
  exact PCalls.args (.one AVle.fro) this
 have r8 : PCalls Tryz.prog 11 [.slc 3 ((kPlain.map rawE).map CRaw.av) .clip] (.tup [.slc 3 [(rawE (.signal 1 (.int 0))).av] .fro, .int .i64 0]) := PCalls.args (.one AVle.fro) ((fit_of (P := kPlain) rfl).plain)
 have hse : PCalls Tryz.prog 17 [.slc 5 (kEv.map evA) .fro, .slc 5 (kEv.map evA) .clip] (.bool true) := PCalls.args (.cons aRfl (.one AVle.fro)) (sameEvents_spec kEv kEv (by decide) (by decide) (known_ev _ (by decide)) (known_ev _ (by decide)))
 have hsl : PCalls Tryz.prog 25 [.slc 1 ([[3], [3]].map intsA) .fro, .slc 1 [.slc 1 [.int .i64 3] .clip, .slc 1 [.int .i64 3] .clip] .clip] (.bool true) := PCalls.args (.cons aRfl (.one (AVle.slc (.cons AVle.fro (.one AVle.fro))))) (sameLists_spec [[3], [3]] [[3], [3]] (by decide) (by decide) (by decide) (by decide))
 have hsp : PCalls Tryz.prog 13 [.slc 3 [(rawE (.signal 1 (.int 0))).av] .fro, .slc 3 [(rawE (.signal 1 (.int 0))).av] .clip] (.bool true) := PCalls.args (.cons aRfl (.one AVle.fro)) (sameProg_spec [rawE (.signal 1 (.int 0))] [rawE (.signal 1 (.int 0))] (by decide) (by decide))
 generalize exampleE.map rawE = X at hEx r1 r4 r5
 generalize retryE.map rawE = Y at hRe r2 r3
 refine PCalls.of_CW tO call9 Tryz.func9 rfl rfl fun s hok => ?_
 repeat (first | (with_reducible first | apply CW.seq | apply aN) | refine wR rfl ?_ | refine CW.reg ?_)
 refine RL.callPP rfl rfl rfl rfl rfl hEx ?_
 skip
 refine RL.callPP rfl rfl rfl rfl rfl r1 ?_
 repeat (first | refine wS rfl ?_)
 refine RL.newBox tO rfl rfl rfl rfl rfl rfl rfl (fun _ => rfl) rfl rfl (fun _ => rfl) rfl rfl rfl rfl ?_
 repeat (first | (with_reducible first | apply CW.seq | apply aN) | refine wR rfl ?_ | refine CW.reg ?_ | refine RL.nil ?_ | refine wS rfl ?_)
 refine RL.callPP rfl rfl rfl rfl rfl (eventC_spec ⟨2, 0, 5, [0], [1]⟩ _ _ AVle.fro AVle.fro) ?_
 repeat (first | refine wS rfl ?_)
 refine RL.callPP rfl rfl rfl rfl rfl (eventC_spec ⟨3, 0, 5, [], [1]⟩ _ _ noInts AVle.fro) ?_
 repeat (first | refine wS rfl ?_)
 refine RL.callPP rfl rfl rfl rfl rfl (eventC_spec ⟨4, 1, 5, [], [1]⟩ _ _ noInts AVle.fro) ?_
 skip
 refine RL.callPP rfl rfl rfl rfl rfl (eventC_spec ⟨1, 0, 5, [], []⟩ _ _ noInts noInts) ?_
 repeat (first | (with_reducible first | apply CW.seq | apply aN) | refine CW.reg ?_ | refine RL.nil ?_ | refine wS rfl ?_)
 refine RL.callPP rfl rfl rfl rfl rfl hse ?_
 repeat (first | (with_reducible first | apply CW.seq | apply aN | apply CW.skip) | refine CW.reg ?_ | refine RL.nil ?_ | refine CW.condF rfl ?_ | refine wS rfl ?_)
 refine RL.callPP rfl rfl rfl rfl rfl hRe ?_
 skip
 refine RL.callPP rfl rfl rfl rfl rfl r2 ?_
 repeat (first | refine wS rfl ?_)
 refine RL.newBox tO rfl rfl rfl rfl rfl rfl rfl (fun _ => rfl) rfl rfl (fun _ => rfl) rfl rfl rfl rfl ?_
 repeat (first | (with_reducible first | apply CW.seq | apply aN) | refine CW.reg ?_ | refine RL.nil ?_ | refine wS rfl ?_)
 refine RL.callPP rfl rfl rfl rfl rfl hRe ?_
 repeat (first | refine wS rfl ?_)
 refine RL.callPP rfl rfl rfl rfl rfl r3 ?_
 repeat (first | refine wS rfl ?_)
 refine RL.newBox tO rfl rfl rfl rfl rfl rfl rfl (fun _ => rfl) rfl rfl (fun _ => rfl) rfl rfl rfl rfl ?_
 repeat (first | (with_reducible first | apply CW.seq | apply aN) | refine CW.reg ?_ | refine RL.nil ?_ | refine wS rfl ?_)
 refine RL.callPP rfl rfl rfl rfl rfl hEx ?_
 skip
 refine RL.callPP rfl rfl rfl rfl rfl r4 ?_
 repeat (first | refine wS rfl ?_)
 refine RL.newBox tO rfl rfl rfl rfl rfl rfl rfl (fun _ => rfl) rfl rfl (fun _ => rfl) rfl rfl rfl rfl ?_
 repeat (first | (with_reducible first | apply CW.seq | apply aN) | refine CW.reg ?_ | refine RL.nil ?_ | refine wS rfl ?_)
 refine RL.callPP rfl rfl rfl rfl rfl hEx ?_
 skip
 refine RL.callPP rfl rfl rfl rfl rfl r5 ?_
 unfold runA runCells noRun
 repeat (first | refine wS rfl ?_)
 refine RL.newBox tO rfl rfl rfl rfl rfl rfl rfl (fun _ => rfl) rfl rfl (fun _ => rfl) rfl rfl rfl rfl ?_
 repeat (first | (with_reducible first | apply CW.seq | apply aN | apply CW.skip) | refine wR rfl ?_ | refine CW.reg ?_ | refine RL.nil ?_ | refine CW.condF rfl ?_ | refine wS rfl ?_)
 refine RL.callPP rfl rfl rfl rfl rfl (num_spec 2) ?_
 repeat (first | refine wS rfl ?_)
 refine RL.callPP rfl rfl rfl rfl rfl (ofC_spec 13 1 [numR 2]) ?_
 skip
 refine RL.callPP rfl rfl rfl rfl rfl (num_spec 9) ?_
 repeat (first | refine wS rfl ?_)
 refine RL.callPP rfl rfl rfl rfl rfl (ofC_spec 4 0 [numR 9]) ?_
 repeat (first | refine wS rfl ?_)
 refine RL.callPP rfl rfl rfl rfl rfl (ofC_spec 15 0 [.mk 13 1 [numR 2], .mk 4 0 [numR 9]]) ?_
 rw [CRaw.av_eq (.mk 15 0 [.mk 13 1 [numR 2], .mk 4 0 [numR 9]])]
 skip
 refine RL.newBox tO rfl rfl rfl rfl rfl rfl rfl (fun _ => rfl) rfl rfl (fun _ => rfl) rfl rfl rfl rfl ?_
 repeat (first | (with_reducible first | apply CW.seq | apply aN) | refine RL.nil ?_)
 refine CW.drw tO mixed rfl (RD.run rfl ?_)
 refine RD.calmPP (i := 1) rfl rfl rfl rfl rfl rfl rfl hand_spec ?_; refine RD.run rfl ?_
 refine RD.calmPP (i := 3) rfl rfl rfl rfl rfl rfl rfl (ofC_spec 11 1 [.mk 15 0 [.mk 13 1 [numR 2], .mk 4 0 [numR 9]], handR]) ?_; refine RD.run rfl ?_
 refine RD.calmPP (i := 5) rfl rfl rfl rfl rfl rfl rfl r6 ?_; refine RD.run rfl ?_
 refine RD.allocL 9 tO hok rfl rfl rfl rfl rfl rfl rfl rfl rfl (fun b13 hok => ?_); refine RD.run rfl ?_
 refine RD.storeL 10 tO hok rfl rfl rfl rfl rfl rfl rfl rfl rfl rfl rfl (by repeat (first | exact Sel.here | apply Sel.there)) (by exact rfl) (fun hok => ?_); refine RD.run rfl ?_
 refine RD.run rfl (RD.done rfl ?_)
 repeat (first | (with_reducible first | apply CW.seq | apply aN) | refine CW.reg ?_)
 refine RL.callPP rfl rfl rfl rfl rfl (num_spec 0) ?_
 repeat (first | refine wS rfl ?_)
 refine RL.callPP rfl rfl rfl rfl rfl (ofC_spec 7 1 [numR 0]) ?_
 skip
 refine RL.callPP rfl rfl rfl rfl rfl (num_spec 0) ?_
 repeat (first | refine wS rfl ?_)
 refine RL.callPP rfl rfl rfl rfl rfl (ofC_spec 10 3 [numR 0]) ?_
 repeat (first | refine wS rfl ?_)
 refine RL.callPP rfl rfl rfl rfl rfl r7 ?_
 repeat (first | (with_reducible first | apply CW.seq | apply aN) | refine CW.reg ?_ | refine RL.nil ?_ | refine wS rfl ?_)
 refine RL.callPP rfl rfl rfl rfl rfl (num_spec 0) ?_
 repeat (first | refine wS rfl ?_)
 refine RL.callPP rfl rfl rfl rfl rfl (ofC_spec 9 1 [numR 0]) ?_
 skip
 refine RL.callPP rfl rfl rfl rfl rfl (num_spec 4) ?_
 repeat (first | refine wS rfl ?_)
 refine RL.callPP rfl rfl rfl rfl rfl (ofC_spec 8 0 [.mk 9 1 [numR 0], numR 4]) ?_
 repeat (first | refine wS rfl ?_)
 refine RL.callPP rfl rfl rfl rfl rfl r8 ?_
 repeat (first | (with_reducible first | apply CW.seq | apply aN) | refine CW.reg ?_ | refine RL.nil ?_ | refine wS rfl ?_ | refine RL.loadL tO hok rfl rfl rfl rfl rfl rfl (by repeat (first | exact Sel.here | apply Sel.there)) (by exact rfl) ?_)
 refine RL.idx tO 1 rfl rfl rfl rfl rfl rfl rfl rfl rfl rfl rfl (by rfl) (by rfl) ?_
 repeat (first | refine wS rfl ?_ | refine RL.loadL tO hok rfl rfl rfl rfl rfl rfl (by repeat (first | exact Sel.here | apply Sel.there)) (by exact rfl) ?_)
 refine RL.idx tO 2 rfl rfl rfl rfl rfl rfl rfl rfl rfl rfl rfl (by rfl) (by rfl) ?_
 repeat (first | refine wS rfl ?_)
 refine RL.callPP rfl rfl rfl rfl rfl hsl ?_
 repeat (first | refine wS rfl ?_)
 refine RL.callPP rfl rfl rfl rfl rfl (num_spec 0) ?_
 repeat (first | refine wS rfl ?_)
 refine RL.callPP rfl rfl rfl rfl rfl (ofC_spec 9 1 [numR 0]) ?_
 repeat (first | refine wS rfl ?_)
 refine RL.callPP rfl rfl rfl rfl rfl hsp ?_
 repeat (first | (with_reducible first | apply aN | apply CW.ret) | refine RL.nil ?_ | refine wS rfl ?_)
 exact Fin.retP hok rfl aRfl
end Go.Proofs.YtdeiinhccdlfiaaGreat

/- Chapter 19, readings: what an argument's datum says of the value itself. -/
namespace Go.Proofs.YtdeiinhccdlfiaaGreat
open Go.AE Go.Cond

def oldP (w : World) : Prot := fun b _ => b < w.heap.size

theorem wf_old (w : World) : Wf w (oldP w) (fun _ => none) := ⟨(fun _ _ h => by cases h), fun _ _ h => h⟩

theorem add_add (a : Addr) (x y : Nat) : (a.add x).add y = a.add (x + y) := by
 unfold Addr.add
 by_cases hx : x = 0
 ·subst hx; simp
 ·by_cases hy : y = 0
  ·subst hy; simp [hx]
  ·simp [hx, hy, Nat.add_assoc]

theorem cell_old {w : World} {a : Addr} {v : Value} (h : w.cell? a = some v) : a.spot = none ∧ a.block < w.heap.size := by
 unfold World.cell? at h
 split at h
 ·rename_i c _ _ hb
  refine ⟨?_, (Array.getElem?_eq_some_iff.1 hb).1⟩
  cases hs : a.spot with
  | none => rfl
  | some s => rw [hs] at h; simp at h
 ·cases h

theorem cells_old {w : World} {a : Addr} {n : Nat} {cs : List Value} (h : w.cells? 0 a n = some cs) : cs.length = n ∧ ∀ i v, cs[i]? = some v → w.cell? (a.add i) = some v := by
 unfold World.cells? at h
 rw [if_pos (Nat.zero_le _)] at h
 refine ⟨by simpa using mapM_some_length h, fun i v hv => ?_⟩
 have hi : i < n := by
  have := mapM_some_length h
  rw [List.length_range] at this
  rw [← this]; exact (List.getElem?_eq_some_iff.1 hv).1
 rw [mapM_some_get h i i (by rw [List.getElem?_range hi])]; exact hv

section
variable {H : Type} {enc : TypeId × Value → H} {w : World}

theorem flat_len {sz : Nat} : ∀ {vs : List Value}, (∀ v ∈ vs, v.cells.size = sz) → (flat vs).length = vs.length * sz
  | [], _ => by simp [flat]
  | v :: vs, h => by
    have := flat_len (vs := vs) (fun u hu => h u (List.mem_cons_of_mem _ hu))
    have hv := h v List.mem_cons_self
    simp only [flat, List.flatMap_cons, List.length_append, List.length_cons] at this ⊢
    rw [this, Array.length_toList, hv, Nat.add_mul, Nat.one_mul, Nat.add_comm]

theorem RelL.append' {p : Prot} : ∀ {vs us : List Value} {xs ys : List AV}, RelL w p vs xs → RelL w p us ys → RelL w p (vs ++ us) (xs ++ ys)
 | _, _, _, _, .nil, h => h
 | _, _, _, _, .cons v x vs xs h t, k => .cons _ _ _ _ h (RelL.append' t k)

theorem bulk_append (l r : List (DataW H)) : Rows.uptoBulkAll (l ++ r) = Rows.uptoBulkAll l + Rows.uptoBulkAll r := by
 induction l with
 | nil => simp [Rows.uptoBulkAll]
 | cons x l ih => simp only [List.cons_append, Rows.uptoBulkAll, ih]; omega

theorem trod_list {α : Type} {t e : TypeId} {sz fuel : Nat} {cs : List Value} {x : DataW H × List MemPlace} (f : α → AV) (m : α → Nat) (ht : Tryz.prog.underlying t = some (.slice e)) (hc : Tryz.prog.cellsOf e = sz) (hsz : 0 < sz)
  (hel : ∀ n cs y, n < fuel → DataW.trod enc Tryz.prog w 0 (fun _ => true) true n e cs = some y → cs.length = sz → ∃ (a : α) (v : Value), v.cells.toList = cs ∧ Rel w (oldP w) v (f a) ∧ m a ≤ Rows.uptoBulk y.1)
  (h : DataW.trod enc Tryz.prog w 0 (fun _ => true) true fuel t cs = some x) :
  ∃ (c : Value) (l : List α), cs = [c] ∧ Rel w (oldP w) c (.slc sz (l.map f) .fro) ∧ (l.map m).sum + 1 ≤ Rows.uptoBulk x.1 := by
 rcases DataW.trod_slice ht h with ⟨rfl, rfl⟩ | ⟨a, len, cap, elems, rest, n, rfl, rfl, rfl, hb, hl, hm, hlen, hel', hsp, hns⟩
 ·exact ⟨_, [], rfl, .slcNil _ _ (by simp), by simp [Rows.uptoBulk]⟩
 ·rw [hc] at hel' hsp
  have key : ∀ k, k ≤ len → ∃ (l : List α) (vs : List Value), l.length = k ∧ RelL w (oldP w) vs (l.map f) ∧ (∀ v ∈ vs, v.cells.size = sz) ∧ (∀ i u, (flat vs)[i]? = some u → w.cell? (a.add i) = some u) ∧
    (l.map m).sum ≤ Rows.uptoBulkAll ((elems.take k).map (·.1)) := by
   intro k
   induction k with
   | zero => intro _; exact ⟨[], [], rfl, .nil, by simp, by simp [flat], by simp⟩
   | succ k ih =>
    intro hk
    obtain ⟨l, vs, h1, h2, h3, h4, h5⟩ := ih (by omega)
    have hek : elems[k]? = some (elems[k]'(by omega)) := List.getElem?_eq_getElem (by omega)
    have hb := hel' k (by omega)
    rw [hek, Option.bind_eq_some_iff] at hb
    obtain ⟨cs', hcs, hy⟩ := hb
    obtain ⟨g1, g2⟩ := cells_old hcs
    obtain ⟨a', v, e1, e2, e3⟩ := hel n cs' _ (Nat.lt_succ_self n) hy g1
    have hvs : vs.length = k := by rw [h2.length, List.length_map, h1]
    refine ⟨l ++ [a'], vs ++ [v], by simp [h1], ?_, ?_, ?_, ?_⟩
    ·rw [List.map_append]; exact RelL.append' h2 (.cons _ _ _ _ e2 .nil)
    ·intro u hu
     rcases List.mem_append.1 hu with hu | hu
     ·exact h3 u hu
     ·simp only [List.mem_singleton] at hu
      subst hu
      rw [← Array.length_toList, e1, g1]
    ·intro i u hu
     have hf : flat (vs ++ [v]) = flat vs ++ cs' := by simp [flat, e1]
     rw [hf] at hu
     by_cases hi : i < (flat vs).length
     ·rw [List.getElem?_append_left hi] at hu; exact h4 i u hu
     ·rw [List.getElem?_append_right (by omega), flat_len h3, hvs] at hu
      have := g2 _ _ hu
      rw [add_add] at this
      rw [flat_len h3, hvs] at hi
      rwa [show k * sz + (i - k * sz) = i by omega] at this
    ·rw [List.take_add_one, hek]
     simp only [Option.toList_some, List.map_append, List.map_cons, List.map_nil, bulk_append, List.sum_append, List.sum_cons, List.sum_nil, Rows.uptoBulkAll]
     omega
  obtain ⟨l, vs, h1, h2, h3, h4, h5⟩ := key len (Nat.le_refl _)
  have hvs : vs.length = len := by rw [h2.length, List.length_map, h1]
  refine ⟨_, l, rfl, ?_, ?_⟩
  ·have hmx : maxLen = 9223372036854775807 := rfl
   by_cases hcap : cap = 0
   ·have hl0 : len = 0 := by omega
    subst hl0; subst hcap
    have : l = [] := List.eq_nil_of_length_eq_zero h1
    subst this
    exact .slcZ a _ _ (.inl rfl)
   ·have hcell : ∃ v, w.cell? a = some v := by
     by_cases hl0 : len = 0
     ·obtain ⟨hr, hr'⟩ := hsp rfl
      have hek : rest[0]? = some (rest[0]'(by omega)) := List.getElem?_eq_getElem (by omega)
      have := hr' 0 (by omega)
      rw [hek, Option.bind_eq_some_iff] at this
      obtain ⟨cs', hcs, -⟩ := this
      obtain ⟨g1, g2⟩ := cells_old hcs
      have := g2 0 _ (List.getElem?_eq_getElem (by omega))
      rw [hl0, add_add] at this
      simp only [Nat.add_zero, Nat.zero_mul, Addr.add, if_true] at this
      exact ⟨_, this⟩
     ·have := h4 0 _ (List.getElem?_eq_getElem (by rw [flat_len h3, hvs]; exact Nat.mul_pos (by omega) hsz))
      simp only [Addr.add, if_true] at this
      exact ⟨_, this⟩
    obtain ⟨v, hv⟩ := hcell
    obtain ⟨hs, hlt⟩ := cell_old hv
    obtain ⟨g, off, spot⟩ := a
    simp only at hs hlt
    subst hs
    refine .slc g off len cap sz vs _ .fro (by simp) (by rw [List.length_map, h1]) (fun i u hu => ⟨hlt, ?_⟩) h2 h3 (by omega) hl (by simp) (by simp)
    have := h4 i u hu
    rwa [add_none] at this
  ·simp only [Rows.uptoBulk]
   rw [List.take_of_length_le (by omega)] at h5
   omega

theorem trod_int {t : TypeId} {fuel : Nat} {cs : List Value} {y : DataW H × List MemPlace} (ht : Tryz.prog.underlying t = some (.int .i64)) (h : DataW.trod enc Tryz.prog w 0 (fun _ => true) true fuel t cs = some y) :
  ∃ n : Int, RelL w (oldP w) cs [.int .i64 n] ∧ 1 ≤ Rows.uptoBulk y.1 := by
 obtain ⟨n, rfl, rfl, -⟩ := DataW.trod_int ht h
 exact ⟨n, .cons _ _ _ _ (.int _ _) .nil, by simp [Rows.uptoBulk]⟩

theorem trod_aggs {α : Type} {t e : TypeId} {sz fuel : Nat} {cs : List Value} {x : DataW H × List MemPlace} (f : α → List AV) (m : α → Nat) (ht : Tryz.prog.underlying t = some (.slice e)) (hc : Tryz.prog.cellsOf e = sz) (hsz : 0 < sz)
  (hel : ∀ n cs y, n < fuel → DataW.trod enc Tryz.prog w 0 (fun _ => true) true n e cs = some y → ∃ a : α, RelL w (oldP w) cs (f a) ∧ m a ≤ Rows.uptoBulk y.1)
  (h : DataW.trod enc Tryz.prog w 0 (fun _ => true) true fuel t cs = some x) :
  ∃ l : List α, RelL w (oldP w) cs [.slc sz (l.map fun a => .agg (f a)) .fro] ∧ (l.map m).sum + 1 ≤ Rows.uptoBulk x.1 := by
 obtain ⟨c, l, rfl, h1, h2⟩ := trod_list (fun a => AV.agg (f a)) m ht hc hsz (fun n cs y hn hy _ => by
  obtain ⟨a, g1, g2⟩ := hel n cs y hn hy
  exact ⟨a, .agg cs.toArray, by simp [Value.cells], .agg _ _ (by simpa using g1), g2⟩) h
 exact ⟨l, .cons _ _ _ _ h1 .nil, h2⟩

theorem agg_bulk (l : List (DataW H)) : Rows.uptoBulk (.agg l) = Rows.uptoBulkAll l + 1 := by simp [Rows.uptoBulk]

def fld (nm : String) (t : TypeId) (off boff : Nat) : Field := { name := nm, type := t, offset := off, embedded := false, tag := "", pkgPath := "", byteOffset := boff }

theorem trod_intV {t : TypeId} {fuel : Nat} {cs : List Value} {y : DataW H × List MemPlace} (ht : Tryz.prog.underlying t = some (.int .i64)) (h : DataW.trod enc Tryz.prog w 0 (fun _ => true) true fuel t cs = some y) :
  ∃ (n : Int) (v : Value), v.cells.toList = cs ∧ Rel w (oldP w) v (.int .i64 n) ∧ 1 ≤ Rows.uptoBulk y.1 := by
 obtain ⟨n, rfl, rfl, -⟩ := DataW.trod_int ht h
 exact ⟨n, .int .i64 n, rfl, .int _ _, by simp [Rows.uptoBulk]⟩
theorem ones_sum : ∀ l : List Int, (l.map fun _ => 1).sum = l.length
 | [] => rfl
 | _ :: r => by rw [List.map_cons, List.sum_cons, ones_sum r, List.length_cons]; omega
theorem trod_ints {fuel : Nat} {cs : List Value} {x : DataW H × List MemPlace} (h : DataW.trod enc Tryz.prog w 0 (fun _ => true) true fuel 23 cs = some x) :
  ∃ l : List Int, RelL w (oldP w) cs [intsA l] ∧ l.length + 1 ≤ Rows.uptoBulk x.1 := by
 obtain ⟨c, l, rfl, h1, h2⟩ := trod_list (sz := 1) (fun n => AV.int .i64 n) (fun _ => 1) Tryz.underlying23 (by kernel_rfl) (by omega) (fun _ _ _ _ h _ => trod_intV Tryz.underlying3 h) h
 rw [ones_sum] at h2
 exact ⟨l, .cons _ _ _ _ h1 .nil, h2⟩
theorem CRaw.sizes_sum : ∀ l : List CRaw, CRaw.sizes l = (l.map CRaw.size).sum
 | [] => by rw [CRaw.sizes]; rfl
 | x :: r => by rw [CRaw.sizes, CRaw.sizes_sum r]; rfl
set_option maxRecDepth 10000 in
theorem trod_exp : ∀ (fuel : Nat) (cs : List Value) (y : DataW H × List MemPlace), DataW.trod enc Tryz.prog w 0 (fun _ => true) true fuel 52 cs = some y → ∃ e : CRaw, RelL w (oldP w) cs e.cells ∧ e.size ≤ Rows.uptoBulk y.1 := by
 intro fuel
 induction fuel using Nat.strongRecOn with
 | _ fuel ih =>
  intro cs y h
  obtain ⟨xs, n, rfl, rfl, hl, hlen, hf⟩ := DataW.trod_struct Tryz.underlying52 h
  have c_kids : Tryz.prog.cellsOf 22 = 1 := by kernel_rfl
  have c_exp : Tryz.prog.cellsOf 52 = 3 := by kernel_rfl
  have c_op : Tryz.prog.cellsOf 50 = 1 := by kernel_rfl
  have c_int : Tryz.prog.cellsOf 3 = 1 := by kernel_rfl
  rw [c_exp] at hl
  match cs, hl, xs, hlen with
  | [v0, v1, v2], _, [y0, y1, y2], _ =>
   have h0 := hf 0 (fld "Op" 50 0 0) rfl
   have h1 := hf 1 (fld "N" 3 1 8) rfl
   have h2 := hf 2 (fld "Kids" 22 2 16) rfl
   simp only [fld, c_kids, c_exp, c_op, c_int, List.drop, List.take] at h0 h1 h2
   obtain ⟨o, g0, b0⟩ := trod_int Tryz.underlying50 h0
   obtain ⟨k, g1, b1⟩ := trod_int Tryz.underlying3 h1
   obtain ⟨ks, g2, b2⟩ := trod_aggs CRaw.cells CRaw.size Tryz.underlying22 c_exp (by omega) (fun m cs y hm hy => ih m (by omega) cs y hy) h2
   refine ⟨.mk o k ks, ?_, ?_⟩
   ·have : (CRaw.mk o k ks).cells = [.int .i64 o] ++ ([.int .i64 k] ++ [.slc 3 (ks.map fun a => .agg a.cells) .fro]) := by
     show [_, _, _] = _
     simp [CRaw.kids, CRaw.op, CRaw.n, CRaw.av_eq]
    rw [this]
    exact RelL.append' (vs := [v0]) g0 (RelL.append' (vs := [v1]) g1 g2)
   ·simp only [agg_bulk, List.map_cons, List.map_nil, Rows.uptoBulkAll, CRaw.size, CRaw.sizes_sum]
    omega
theorem trod_prog {fuel : Nat} {cs : List Value} {x : DataW H × List MemPlace} (h : DataW.trod enc Tryz.prog w 0 (fun _ => true) true fuel 22 cs = some x) :
  ∃ p : List CRaw, RelL w (oldP w) cs [.slc 3 (p.map CRaw.av) .fro] ∧ CRaw.sizes p + 1 ≤ Rows.uptoBulk x.1 := by
 obtain ⟨p, g, b⟩ := trod_aggs (sz := 3) CRaw.cells CRaw.size Tryz.underlying22 (by kernel_rfl) (by omega) (fun m cs y _ hy => trod_exp m cs y hy) h
 rw [← CRaw.sizes_sum] at b
 refine ⟨p, ?_, b⟩
 have : (fun a : CRaw => AV.agg a.cells) = CRaw.av := funext fun a => (CRaw.av_eq a).symm
 rw [this] at g
 exact g
structure Giv where
 p : List CRaw
 hand : Int
 picks : List Int
 fuel : Int
def Giv.cells (g : Giv) : List AV := [.slc 3 (g.p.map CRaw.av) .fro, .int .i64 g.hand, intsA g.picks, .int .i64 g.fuel]
def Giv.av (g : Giv) : AV := .agg g.cells
def Giv.weight (g : Giv) : Nat := CRaw.sizes g.p + g.picks.length + 2
set_option maxRecDepth 10000 in
theorem trod_given (fuel : Nat) (cs : List Value) (y : DataW H × List MemPlace) (h : DataW.trod enc Tryz.prog w 0 (fun _ => true) true fuel 25 cs = some y) : ∃ g : Giv, RelL w (oldP w) cs g.cells ∧ g.weight ≤ Rows.uptoBulk y.1 := by
 obtain ⟨xs, n, rfl, rfl, hl, hlen, hf⟩ := DataW.trod_struct Tryz.underlying25 h
 have c_prog : Tryz.prog.cellsOf 22 = 1 := by kernel_rfl
 have c_given : Tryz.prog.cellsOf 25 = 4 := by kernel_rfl
 have c_int : Tryz.prog.cellsOf 3 = 1 := by kernel_rfl
 have c_ints : Tryz.prog.cellsOf 23 = 1 := by kernel_rfl
 rw [c_given] at hl
 match cs, hl, xs, hlen with
 | [v0, v1, v2, v3], _, [y0, y1, y2, y3], _ =>
  have h0 := hf 0 (fld "P" 22 0 0) rfl
  have h1 := hf 1 (fld "Hand" 3 1 24) rfl
  have h2 := hf 2 (fld "Picks" 23 2 32) rfl
  have h3 := hf 3 (fld "Fuel" 3 3 56) rfl
  simp only [fld, c_prog, c_given, c_int, c_ints, List.drop, List.take] at h0 h1 h2 h3
  obtain ⟨p, g0, b0⟩ := trod_prog h0
  obtain ⟨hd, g1, b1⟩ := trod_int Tryz.underlying3 h1
  obtain ⟨pk, g2, b2⟩ := trod_ints h2
  obtain ⟨fu, g3, b3⟩ := trod_int Tryz.underlying3 h3
  refine ⟨⟨p, hd, pk, fu⟩, ?_, ?_⟩
  ·have : (Giv.mk p hd pk fu).cells = [.slc 3 (p.map CRaw.av) .fro] ++ ([.int .i64 hd] ++ ([intsA pk] ++ [.int .i64 fu])) := rfl
   rw [this]
   exact RelL.append' (vs := [v0]) g0 (RelL.append' (vs := [v1]) g1 (RelL.append' (vs := [v2]) g2 g3))
  ·simp only [agg_bulk, List.map_cons, List.map_nil, Rows.uptoBulkAll, Giv.weight]
   omega
theorem trod_byte {t : TypeId} {fuel : Nat} {cs : List Value} {y : DataW H × List MemPlace} (ht : Tryz.prog.underlying t = some (.int .u8)) (h : DataW.trod enc Tryz.prog w 0 (fun _ => true) true fuel t cs = some y) :
  ∃ n : Nat, RelL w (oldP w) cs [.int .u8 (n : Int)] ∧ n < 256 := by
 obtain ⟨n, rfl, rfl, hr⟩ := DataW.trod_int ht h
 simp [Lit.wf] at hr
 have h1 : (0 : Int) ≤ n := hr.1
 have h2 : n ≤ (255 : Int) := hr.2
 refine ⟨n.toNat, ?_, by omega⟩
 rw [Int.toNat_of_nonneg h1]
 exact .cons _ _ _ _ (.int _ _) .nil
end
end Go.Proofs.YtdeiinhccdlfiaaGreat

/- Chapter 19: how a contract closes a law: the call returns true, and the arguments read as they did. -/
namespace Go.Proofs.YtdeiinhccdlfiaaGreat
open Go.AE Go.ChangeShapes Go.WideShapes Go.ChangeAt Go.RowKit

theorem trodAll_stays {H : Type} {enc : TypeId × Value → H} {P : Program} {W W' : World} (hl : laidOutB P = true) : ∀ {ts : List TypeId} {vs : List Value} {ds : List (DataW H)} {ps : List MemPlace} {sp : Nat → Bool}, (∀ t ∈ ts, P.readableRec t = true ∧ t < P.types.size) →
    DataW.TrodAll enc P W 0 (fun _ => true) true ts vs ds ps → (∀ p ∈ ps, W.sameAt W' p) → (∀ p ∈ ps, sp p.block = true) → DataW.TrodAll enc P W' 0 sp true ts vs ds ps
  | [], [], [], _, _, _, h, _, _ => h
  | t :: ts, v :: vs, d :: ds, ps, sp, ht, h, hs, hb => by
    obtain ⟨p, q, h1, h2, rfl⟩ := h
    obtain ⟨r1, r2⟩ := ht t List.mem_cons_self
    exact ⟨p, q, WideElems.Trod_stays hl r1 r2 h1 (fun x hx => hs x (List.mem_append_left _ hx)) (fun x hx => hb x (List.mem_append_left _ hx)),
      trodAll_stays hl (fun t ht' => ht t (List.mem_cons_of_mem _ ht')) h2 (fun x hx => hs x (List.mem_append_right _ hx)) (fun x hx => hb x (List.mem_append_right _ hx)), rfl⟩
  | [], [], _ :: _, _, _, _, h, _, _ => h.elim
  | [], _ :: _, _, _, _, _, h, _, _ => h.elim
  | _ :: _, [], _, _, _, _, h, _, _ => h.elim
  | _ :: _, _ :: _, [], _, _, _, h, _, _ => h.elim

theorem close_true {H : Type} {enc : TypeId × Value → H} {f : FuncId} {fn : Func} {spec : ChangeSpec} {W : World} {args : Array Value} {xs : List AV} {ds gs : List (DataW H)} {before : List MemPlace}
  (hl : laidOutB Tryz.prog = true) (hp : ∀ t ∈ fn.params.toList, Tryz.prog.readableRec t = true ∧ t < Tryz.prog.types.size) (hr : fn.resultTypes = #[4]) (hv : spec.vars = [])
  (hsp : gs = [] → spec.fn H (ds ++ gs) = { results := [.lit (.bool true)], args := ds })
  (hW : DataW.Whole enc Tryz.prog fn.params.toList spec.vars false W args.toList ds gs before) (hrel : RelL W (oldP W) args.toList xs) (hc : ACalls Tryz.prog f xs (fun _ => none) (fun o s' => o = .ret (.bool true) ∧ s' = fun _ => none)) :
  Calls Tryz.prog f args W fun e W' => ∃ v, e = .returned v ∧ spec.post enc Tryz.prog fn false true false false W args v W' := by
 have h := hc.2 W (oldP W) args.toList (wf_old W) hrel
 rw [Array.toArray_toList] at h
 refine Calls.mono h fun e W' ⟨hne, o, s', p', hout, ⟨ho, hs'⟩, hle, hk, hwf⟩ => ?_
 subst ho
 cases e with
 | returned v =>
  have hb : Rel W' p' v (.bool true) := hout
  cases hb
  have hbelow : Below W.heap.size W W' := ⟨hle.os, hle.tape, hle.output, hle.size, fun k hk' => hk.heap k hk' rfl⟩
  have hlt := hW.lt
  have hW' := hW
  obtain ⟨p, q, hA, hV, rfl, hfz, hnd⟩ := hW
  rw [hv] at hV
  obtain ⟨rfl, rfl⟩ := trodVars_none hV
  have hspec := hsp rfl
  refine ⟨_, rfl, ds, [], _, [], p, [], hW', ?_, ?_, ?_, hbelow.frame _, fun h => by cases h⟩
  ·rw [hspec, hr]
   exact trodAll_cons_mk (shut_bool Tryz.underlying4 _) trodAll_mk0
  ·rw [hspec]
   exact trodAll_stays hl hp hA (fun x hx => hbelow.same (hlt x (by simpa using hx))) (fun x hx => by simpa using hlt x (by simpa using hx))
  ·rw [hspec, hv]; exact rfl
 | panicked ch => exact hout.elim
 | outgrown => exact hout.elim

theorem val_slice {P : Program} {W : World} {r : Reach} {b : Nat} {t e : TypeId} {v : Value} (ht : P.underlying t = some (.slice e)) (h : Value.okWide P W r b t v) : v.cells = #[v] := by
 obtain ⟨a, n, c, rfl⟩ := okWide_slice ht h
 rfl

theorem val_agg {P : Program} {W : World} {r : Reach} {b : Nat} {t : TypeId} {fs : Array Field} {v : Value} (ht : P.underlying t = some (.struct fs)) (h : Value.okWide P W r b t v) : ∃ cs, v = .agg cs := by
 obtain ⟨cs, h1, -⟩ := okWide_struct ht h
 exact ⟨cs, h1⟩

theorem rel_one {w : World} {p : Prot} {v : Value} {x : AV} (hv : v.cells = #[v]) (h : RelL w p v.cells.toList [x]) : Rel w p v x := by
 rw [hv] at h
 cases h with
 | cons _ _ _ _ h _ => exact h

theorem rel_agg {w : World} {p : Prot} {v : Value} {xs : List AV} (hv : ∃ cs, v = .agg cs) (h : RelL w p v.cells.toList xs) : Rel w p v (.agg xs) := by
 obtain ⟨cs, rfl⟩ := hv
 exact .agg _ _ h

theorem val_int {P : Program} {W : World} {r : Reach} {b : Nat} {t : TypeId} {v : Value} {k : IntKind} (ht : P.underlying t = some (.int k)) (h : Value.okWide P W r b t v) : v.cells = #[v] := by
 obtain ⟨n, rfl⟩ := okWide_int ht h
 rfl
theorem laidOut : laidOutB Tryz.prog = true := by kernel_rfl
end Go.Proofs.YtdeiinhccdlfiaaGreat

/- Chapter 19, seat .Z: contracts of the reference's run: its objects, small steps, events. -/
namespace Go.Proofs.YtdeiinhccdlfiaaGreat
open Go.AE Go.Cond

structure RS where
 st : St
 ids : Nat
 fin : Int
 ended : Bool
 to : Nat
 val : Int
def rCells (P : List CExp) (own : Own) (q : RS) : List AV :=
 [progA P, .int .i64 q.fin, .int .i64 0, .slc 5 (q.st.evs.map evA) own, .int .i64 (q.st.fuel : Int), .slc 1 (q.st.picks.map intA) .fro, .int .i64 (q.ids : Int), .bool q.ended, .int .i64 (q.to : Int), .int .i64 q.val]
def qK (rb : Nat) (P : List CExp) (own : Own) (q : RS) : LS := [(.own rb, .box 77 (rCells P own q)), (own, .row 48 5 q.st.evs.length)]
def hdC (h : Hd) : List AV := [.int .i64 h.n, .int .i64 (rawE h.body).op, .int .i64 (rawE h.body).n, .slc 3 ((rawE h.body).kids.map CRaw.av) .fro]
def hdsA (l : List Hd) : AV := .slc 4 (l.reverse.map fun h => .agg (hdC h)) .fro
def rsC (r : Int × Nat) : List AV := [.int .i64 r.1, .int .i64 (r.2 : Int)]
def rssA (l : List (Int × Nat)) : AV := .slc 2 (l.reverse.map fun r => .agg (rsC r)) .fro
def scR (s : Sc) (c : List (Int × Nat)) : AV := .agg [.int .i64 s.hand, hdsA s.hs, rssA c]

set_option maxRecDepth 10000 in
theorem rEnd_spec (rb : Nat) (P : List CExp) (own : Own) (q : RS) (e : Int) :
  LCalls Tryz.prog 71 [.ptr rb 0, .int .i64 e] (qK rb P own q) (fun o K => o = .ret (.int .i64 0) ∧ K = qK rb P own { q with fin := e, ended := true }) := by
 refine LCalls.of_CW tO call71 Tryz.func71 rfl rfl fun s hok => ?_
 unfold qK rCells at hok ⊢
 repeat (first | (with_reducible first | apply CW.seq | apply aN | apply CW.ret) | refine wR rfl ?_ | refine CW.reg ?_ | refine RL.nil ?_ | refine wS rfl ?_ | refine RL.storeL tO hok rfl rfl rfl rfl rfl rfl rfl rfl rfl (by repeat (first | exact Sel.here | apply Sel.there)) (by exact rfl) (fun hok => ?_))
 exact Fin.retL (K := qK rb P own { q with fin := e, ended := true }) hok rfl aRfl (by simp only [qK, rCells]; repeat (first | exact Sels.nil | (apply Sels.cons; · repeat (first | exact Sel.here | apply Sel.there)))) ⟨rfl, rfl⟩
set_option maxRecDepth 10000 in
theorem rGone_spec (rb : Nat) (P : List CExp) (own : Own) (q : RS) :
  LCalls Tryz.prog 93 [.ptr rb 0] (qK rb P own q) (fun o K => o = .ret (.bool (q.ended || decide ((q.to : Int) > 0))) ∧ K = qK rb P own q) := by
 refine LCalls.of_CW tO call93 Tryz.func93 rfl rfl fun s hok => ?_
 obtain ⟨st, ids, fin, ended, to, val⟩ := q
 unfold qK rCells at hok ⊢
 simp only at hok ⊢
 cases ended with
 | true =>
  repeat (first | (with_reducible first | apply CW.seq | apply aN | apply CW.ret) | refine wR rfl ?_ | refine CW.reg ?_ | refine RL.nil ?_ | refine wS rfl ?_ | refine RL.skip rfl rfl rfl ?_ | refine RL.loadL tO hok rfl rfl rfl rfl rfl rfl (by repeat (first | exact Sel.here | apply Sel.there)) (by exact rfl) ?_)
  exact Fin.retL hok rfl aRfl (Sels.all _) ⟨rfl, rfl⟩
 | false =>
  repeat (first | (with_reducible first | apply CW.seq | apply aN | apply CW.ret) | refine wR rfl ?_ | refine CW.reg ?_ | refine RL.nil ?_ | refine wS rfl ?_ | refine RL.loadL tO hok rfl rfl rfl rfl rfl rfl (by repeat (first | exact Sel.here | apply Sel.there)) (by exact rfl) ?_)
  exact Fin.retL hok rfl aRfl (Sels.all _) ⟨rfl, rfl⟩
set_option maxRecDepth 10000 in
theorem rTaken_spec (rb : Nat) (P : List CExp) (own : Own) (q : RS) (id : Int) :
  LCalls Tryz.prog 73 [.ptr rb 0, .int .i64 id] (qK rb P own q) (fun o K =>
   ((q.ended = true ∨ (q.to : Int) ≠ id) ∧ o = .ret (.bool false) ∧ K = qK rb P own q) ∨ (q.ended = false ∧ (q.to : Int) = id ∧ o = .ret (.bool true) ∧ K = qK rb P own { q with to := 0 })) := by
 refine LCalls.of_CW tO call73 Tryz.func73 rfl rfl fun s hok => ?_
 obtain ⟨st, ids, fin, ended, to, val⟩ := q
 unfold qK rCells at hok ⊢
 simp only at hok ⊢
 cases ended with
 | true =>
  repeat (first | (with_reducible first | apply CW.seq | apply aN | apply aR | apply CW.ret) | refine wR rfl ?_ | refine CW.reg ?_ | refine RL.nil ?_ | refine CW.condT rfl ?_ | refine wS rfl ?_ | refine RL.skip rfl rfl rfl ?_ | refine RL.loadL tO hok rfl rfl rfl rfl rfl rfl (by repeat (first | exact Sel.here | apply Sel.there)) (by exact rfl) ?_)
  exact Fin.retL hok rfl aRfl (Sels.all _) (.inl ⟨.inl rfl, rfl, rfl⟩)
 | false =>
  repeat (first | (with_reducible first | apply CW.seq | apply aN) | refine wR rfl ?_ | refine CW.reg ?_ | refine RL.nil ?_ | refine wS rfl ?_ | refine RL.loadL tO hok rfl rfl rfl rfl rfl rfl (by repeat (first | exact Sel.here | apply Sel.there)) (by exact rfl) ?_)
  refine CW.cond rfl (fun hh => ?_) (fun hh => ?_)
  ·have h : (to : Int) ≠ id := by simpa using hh
   repeat (first | (with_reducible first | apply CW.seq | apply aN | apply aR | apply CW.ret) | refine wR rfl ?_)
   exact Fin.retL hok rfl aRfl (Sels.all _) (.inl ⟨.inr h, rfl, rfl⟩)
  ·have h : (to : Int) = id := by simpa using hh
   repeat (first | (with_reducible first | apply CW.seq | apply aN | apply CW.ret | apply CW.skip) | refine wR rfl ?_ | refine CW.reg ?_ | refine RL.nil ?_ | refine wS rfl ?_ | refine RL.storeL tO hok rfl rfl rfl rfl rfl rfl rfl rfl rfl (by repeat (first | exact Sel.here | apply Sel.there)) (by exact rfl) (fun hok => ?_))
   exact Fin.retL (K := qK rb P own ⟨st, ids, fin, false, 0, val⟩) hok rfl aRfl (by simp only [qK, rCells]; repeat (first | exact Sels.nil | (apply Sels.cons; · repeat (first | exact Sel.here | apply Sel.there)))) (.inr ⟨rfl, h, rfl, rfl⟩)
set_option maxRecDepth 10000 in
theorem rWith_spec (hand v : Int) (x y : AV) (hx : x = .slc 4 [] .fro ∨ True) (hh : ∃ l, x = hdsA l) (hr : ∃ c, y = rssA c) : PCalls Tryz.prog 74 [.agg [.int .i64 hand, x, y], .int .i64 v] (.agg [.int .i64 v, x, y]) := by
 obtain ⟨l, rfl⟩ := hh
 obtain ⟨c, rfl⟩ := hr
 refine PCalls.of_CW tO call74 Tryz.func74 rfl rfl fun s hok => ?_
 unfold hdsA rssA
 refine CW.seq (CW.reg ?_)
 refine RL.boxL hok rfl rfl rfl rfl rfl rfl (fun b2 hok => ?_)
 skip
 refine RL.allocL tO hok rfl rfl rfl rfl rfl rfl rfl (fun b4 hok => ?_)
 repeat (first | (with_reducible first | apply CW.seq | apply aN | apply CW.ret) | refine CW.reg ?_ | refine RL.nil ?_ | refine wS rfl ?_ | refine RL.loadL tO hok rfl rfl rfl rfl rfl rfl (by repeat (first | exact Sel.here | apply Sel.there)) (by exact rfl) ?_ | refine RL.storeL tO hok rfl rfl rfl rfl rfl rfl rfl rfl rfl (by repeat (first | exact Sel.here | apply Sel.there)) (by exact rfl) (fun hok => ?_))
 exact Fin.retP hok (resA_cell rfl rfl (Sel.get Sel.here hok) rfl) aRfl
set_option maxRecDepth 10000 in
theorem rClamp_spec (n : Int) : PCalls Tryz.prog 94 [.int .i64 n] (.int .i64 (clamp n)) := by
 refine PCalls.of_CW tO call94 Tryz.func94 rfl rfl fun s hok => ?_
 repeat (first | (with_reducible first | apply CW.seq | apply aN | apply CW.ret) | refine wR rfl ?_ | refine CW.reg ?_ | refine RL.nil ?_ | refine wS rfl ?_ | refine RL.stepX tO rfl rfl rfl rfl ?_)
 exact Fin.retP hok rfl (AVle.of_eq (by unfold clamp most; congr 1; repeat' split <;> omega))
end Go.Proofs.YtdeiinhccdlfiaaGreat

/- Chapter 19, seat .Z: contracts of the reference's run: events are told, restarts offered. -/
namespace Go.Proofs.YtdeiinhccdlfiaaGreat
open Go.AE Go.Cond

structure SmallR (s : Sc) (c : List (Int × Nat)) (q : RS) : Prop where
 hs : s.hs.length < big
 rs : c.length < big
 evs : q.st.evs.length < big
def tR (b : Nat) (deed n val : Int) (o1 : Own) (hs : List Int) (o2 : Own) (rs : List Int) : LS :=
 [(.own b, .box 48 [.int .i64 deed, .int .i64 n, .int .i64 val, .slc 1 (hs.map intA) o1, .slc 1 (rs.map intA) o2]), (o1, .row 3 1 hs.length), (o2, .row 3 1 rs.length)]
theorem rev_at {α β : Type} {f : α → β} {l : List α} {j : Nat} (h : j < l.length) : ∃ x, l[j]? = some x ∧ (l.reverse.map f)[l.length - 1 - j]? = some (f x) := by
 refine ⟨l[j], List.getElem?_eq_getElem h, ?_⟩
 rw [List.getElem?_map, List.getElem?_reverse (by omega), show l.length - 1 - (l.length - 1 - j) = j by omega, List.getElem?_eq_getElem h]; rfl
set_option maxRecDepth 10000 in
set_option maxHeartbeats 2000000 in
theorem rTell_spec (rb : Nat) (P : List CExp) (own : Own) (q : RS) (s : Sc) (c : List (Int × Nat)) (hc : c.map Prod.fst = s.rs) (hsm : SmallR s c q) (deed n val : Int) :
  LCalls Tryz.prog 95 [.ptr rb 0, scR s c, .int .i64 deed, .int .i64 n, .int .i64 val] (qK rb P own q) (fun o K => o = .ret (.tup []) ∧ ∃ own', K = qK rb P own' { q with st := q.st.tell (s.ev deed n val) }) := by
 have hb : big = 1099511627776 := rfl
 obtain ⟨hh, hr, he⟩ := hsm
 have hhl : ((s.hs.reverse.map fun h => AV.agg (hdC h)).length : Int) = s.hs.length := by simp
 have hrl : ((c.reverse.map fun r => AV.agg (rsC r)).length : Int) = c.length := by simp
 have w1 : IntKind.wrap .i64 ((s.hs.length : Int) - 1) = (s.hs.length : Int) - 1 := i64_wrap (by omega) (by omega)
 have w2 : IntKind.wrap .i64 ((c.length : Int) - 1) = (c.length : Int) - 1 := i64_wrap (by omega) (by omega)
 refine LCalls.of_CW tO call95 Tryz.func95 rfl rfl fun s₀ hok => ?_
 unfold scR hdsA rssA
 unfold qK rCells at hok ⊢
 repeat (first | (with_reducible first | apply CW.seq | apply aN) | refine wR rfl ?_ | refine CW.reg ?_ | refine wS rfl ?_)
 refine RL.allocL tO hok rfl rfl rfl rfl rfl rfl rfl (fun b10 hok => ?_)
 repeat (first | (with_reducible first | apply CW.seq | apply aN | apply CW.block) | refine wR rfl ?_ | refine RL.nil ?_ | refine RL.storeL tO hok rfl rfl rfl rfl rfl rfl rfl rfl rfl (by repeat (first | exact Sel.here | apply Sel.there)) (by exact rfl) (fun hok => ?_))
 refine CW.boxWeakL hok b10 [.int .i64 deed, .int .i64 n, .int .i64 val, .slc 1 [] .nil, .slc 1 [] .nil] (by repeat (first | exact Sel.here | apply Sel.there)) (.cons aRfl (.cons aRfl (.cons aRfl (.cons (AVle.nil (by intro b h; cases h)) (.one (AVle.nil (by intro b h; cases h))))))) fun hok => ?_
 refine CW.phantom hok 3 1 0 fun hok => ?_
 refine CW.phantom hok 3 1 0 fun hok => ?_
 refine CW.loopL hok (σ := Nat × Own) (fun z => [(0, .ptr rb 0), (6, .fptr [.int .i64 s.hand, .slc 4 (s.hs.reverse.map fun h => .agg (hdC h)) .fro, .slc 2 (c.reverse.map fun r => .agg (rsC r)) .fro] 0), (10, .ptr b10 0), (11, .int .i64 ((s.hs.length : Int) - 1 - (z.1 : Int)))])
  (fun z => tR b10 deed n val z.2 ((s.hs.take z.1).map Hd.n) .nil [] ++ qK rb P own q) (fun z => z.1 ≤ s.hs.length) (fun z => s.hs.length - z.1) (0, .nil) (Nat.zero_le _) (by repeat (first | exact trivial | refine ⟨⟨_, rfl, aRfl⟩, ?_⟩ | refine ⟨⟨_, rfl, AVle.of_eq (by (rw [hhl, w1]; simp))⟩, ?_⟩)) (by simp only [tR, qK, rCells, List.cons_append, List.nil_append, List.map_nil, List.length_nil, List.take_zero]; repeat (first | exact Sels.nil | (apply Sels.cons; · repeat (first | exact Sel.here | apply Sel.there)))) ?_
 rintro ⟨j, o1⟩ hj hok
 simp only at hj hok ⊢
 unfold tR at hok ⊢
 repeat (first | (with_reducible first | apply CW.seq | apply aN) | refine wR rfl ?_)
 refine CW.cond rfl (fun hlt => ?_) (fun hge => ?_)
 ·have hlt : j < s.hs.length := by
   have : (s.hs.length : Int) - 1 - (j : Int) ≥ 0 := of_decide_eq_true hlt
   omega
  obtain ⟨h, hx, hx'⟩ := rev_at (f := fun h => AV.agg (hdC h)) hlt
  unfold hdC at hx'
  have e1 : ((s.hs.take (j + 1)).map Hd.n).map intA = ((s.hs.take j).map Hd.n).map intA ++ [.int .i64 h.n] := by rw [List.take_add_one, hx]; simp [intA]
  have e2 : ((s.hs.take (j + 1)).map Hd.n).length = ((s.hs.take j).map Hd.n).length + 1 := by simp; omega
  have hl : ((s.hs.take j).map Hd.n).length = j := by simp; omega
  have hij : (s.hs.length : Int) - 1 - (j : Int) = ((s.hs.length - 1 - j : Nat) : Int) := by omega
  have w3 : IntKind.wrap .i64 ((s.hs.length : Int) - 1 - (j : Int) - 1) = (s.hs.length : Int) - 1 - ((j + 1 : Nat) : Int) := by rw [i64_wrap (by omega) (by omega)]; omega
  repeat (with_reducible first | apply CW.seq | apply aN | apply CW.skip | apply CW.block)
  refine CW.drw tO mixed rfl (RD.run rfl ?_)
  refine RD.idx 5 (s.hs.length - 1 - j) rfl rfl rfl rfl rfl rfl rfl rfl rfl rfl rfl rfl hij hx' rfl ?_
  refine RD.run rfl ?_
  refine RD.loadL 1 tO hok rfl rfl rfl rfl rfl rfl rfl rfl (by repeat (first | exact Sel.here | apply Sel.there)) (by exact rfl) ?_; refine RD.run rfl ?_
  refine RD.append1L 9 tO hok rfl rfl rfl rfl rfl rfl rfl rfl rfl (by intro k; simp) rfl rfl rfl rfl rfl rfl rfl rfl (by repeat (first | exact Sel.here | apply Sel.there)) (by simp <;> omega) (by show (_ + 1) * 8 ≤ _; omega) (by omega) (fun b8 hok => ?_); refine RD.run rfl ?_
  refine RD.storeL 11 tO hok rfl rfl rfl rfl rfl rfl rfl rfl rfl rfl rfl (by repeat (first | exact Sel.here | apply Sel.there)) (by exact rfl) (fun hok => ?_); refine RD.run rfl ?_
  refine RD.run rfl (RD.done rfl ?_)
  repeat (first | (with_reducible first | apply aN | apply iN) | refine wR rfl ?_)
  exact NextL.mk (j + 1, .own b8) hok hlt (by repeat (first | exact trivial | refine ⟨⟨_, rfl, aRfl⟩, ?_⟩ | refine ⟨⟨_, rfl, AVle.of_eq (by rw [w3])⟩, ?_⟩)) (by simp only [tR, qK, List.cons_append, List.nil_append, List.append_eq, e1, e2]; repeat (first | exact Sels.nil | (apply Sels.cons; · repeat (first | exact Sel.here | apply Sel.there)))) (by show s.hs.length - (j + 1) < s.hs.length - j; omega)
 have hjl : j = s.hs.length := by
  have : ¬ (s.hs.length : Int) - 1 - (j : Int) ≥ 0 := of_decide_eq_false hge
  omega
 subst hjl
 rw [List.take_length] at hok ⊢
 have hhn : (s.hs.map Hd.n).length < big := by simpa using hh
 have hnm : s.names = s.hs.map Hd.n := rfl
 generalize s.hs.map Hd.n = nm at hok hhn hnm ⊢
 repeat (first | (with_reducible first | apply CW.seq | apply aN | apply aX | apply iH | apply CW.exit | apply CW.block) | refine wR rfl ?_)
 refine CW.loopL hok (σ := Nat × Own) (fun z => [(0, .ptr rb 0), (6, .fptr [.int .i64 s.hand, .slc 4 (s.hs.reverse.map fun h => .agg (hdC h)) .fro, .slc 2 (c.reverse.map fun r => .agg (rsC r)) .fro] 0), (10, .ptr b10 0), (12, .int .i64 ((c.length : Int) - 1 - (z.1 : Int)))])
  (fun z => tR b10 deed n val o1 nm z.2 ((c.take z.1).map Prod.fst) ++ qK rb P own q) (fun z => z.1 ≤ c.length) (fun z => c.length - z.1) (0, .nil) (Nat.zero_le _) (by repeat (first | exact trivial | refine ⟨⟨_, rfl, aRfl⟩, ?_⟩ | refine ⟨⟨_, rfl, AVle.of_eq (by (rw [hrl, w2]; simp))⟩, ?_⟩)) (by simp only [tR, qK, rCells, List.cons_append, List.nil_append, List.append_eq, List.map_nil, List.length_nil, List.take_zero]; repeat (first | exact Sels.nil | (apply Sels.cons; · repeat (first | exact Sel.here | apply Sel.there)))) ?_
 rintro ⟨j, o2⟩ hj hok
 simp only at hj hok ⊢
 unfold tR at hok ⊢
 repeat (first | (with_reducible first | apply CW.seq | apply aN) | refine wR rfl ?_)
 refine CW.cond rfl (fun hlt => ?_) (fun hge => ?_)
 ·have hlt : j < c.length := by
   have : (c.length : Int) - 1 - (j : Int) ≥ 0 := of_decide_eq_true hlt
   omega
  obtain ⟨h, hx, hx'⟩ := rev_at (f := fun r => AV.agg (rsC r)) hlt
  unfold rsC at hx'
  have e1 : ((c.take (j + 1)).map Prod.fst).map intA = ((c.take j).map Prod.fst).map intA ++ [.int .i64 h.1] := by rw [List.take_add_one, hx]; simp [intA]
  have e2 : ((c.take (j + 1)).map Prod.fst).length = ((c.take j).map Prod.fst).length + 1 := by simp; omega
  have hl : ((c.take j).map Prod.fst).length = j := by simp; omega
  have hij : (c.length : Int) - 1 - (j : Int) = ((c.length - 1 - j : Nat) : Int) := by omega
  have w3 : IntKind.wrap .i64 ((c.length : Int) - 1 - (j : Int) - 1) = (c.length : Int) - 1 - ((j + 1 : Nat) : Int) := by rw [i64_wrap (by omega) (by omega)]; omega
  repeat (with_reducible first | apply CW.seq | apply aN | apply CW.skip | apply CW.block)
  refine CW.drw tO mixed rfl (RD.run rfl ?_)
  refine RD.idx 5 (c.length - 1 - j) rfl rfl rfl rfl rfl rfl rfl rfl rfl rfl rfl rfl hij hx' rfl ?_
  refine RD.run rfl ?_
  refine RD.loadL 1 tO hok rfl rfl rfl rfl rfl rfl rfl rfl (by repeat (first | exact Sel.here | apply Sel.there)) (by exact rfl) ?_; refine RD.run rfl ?_
  refine RD.append1L 9 tO hok rfl rfl rfl rfl rfl rfl rfl rfl rfl (by intro k; simp) rfl rfl rfl rfl rfl rfl rfl rfl (by repeat (first | exact Sel.here | apply Sel.there)) (by simp <;> omega) (by show (_ + 1) * 8 ≤ _; omega) (by omega) (fun b8 hok => ?_); refine RD.run rfl ?_
  refine RD.storeL 11 tO hok rfl rfl rfl rfl rfl rfl rfl rfl rfl rfl rfl (by repeat (first | exact Sel.here | apply Sel.there)) (by exact rfl) (fun hok => ?_); refine RD.run rfl ?_
  refine RD.run rfl (RD.done rfl ?_)
  repeat (first | (with_reducible first | apply aN | apply iN) | refine wR rfl ?_)
  exact NextL.mk (j + 1, .own b8) hok hlt (by repeat (first | exact trivial | refine ⟨⟨_, rfl, aRfl⟩, ?_⟩ | refine ⟨⟨_, rfl, AVle.of_eq (by rw [w3])⟩, ?_⟩)) (by simp only [tR, qK, List.cons_append, List.nil_append, List.append_eq, e1, e2]; repeat (first | exact Sels.nil | (apply Sels.cons; · repeat (first | exact Sel.here | apply Sel.there)))) (by show c.length - (j + 1) < c.length - j; omega)
 have hjl : j = c.length := by
  have : ¬ (c.length : Int) - 1 - (j : Int) ≥ 0 := of_decide_eq_false hge
  omega
 subst hjl
 rw [List.take_length] at hok ⊢
 have hev : evA (s.ev deed n val) = .agg [.int .i64 deed, .int .i64 n, .int .i64 val, .slc 1 (nm.map intA) .fro, .slc 1 ((c.map Prod.fst).map intA) .fro] := by
  rw [hc, ← hnm]; rfl
 have e1 : (q.st.tell (s.ev deed n val)).evs.map evA = q.st.evs.map evA ++ [evA (s.ev deed n val)] := by simp [St.tell]
 have e2 : (q.st.tell (s.ev deed n val)).evs.length = q.st.evs.length + 1 := by simp [St.tell]
 have e3 : (q.st.tell (s.ev deed n val)).fuel = q.st.fuel := rfl
 have e4 : (q.st.tell (s.ev deed n val)).picks = q.st.picks := rfl
 unfold qK rCells at hok ⊢
 repeat (with_reducible first | apply aN | apply aX | apply iH | apply CW.exit)
 refine CW.boxWeakL hok b10 [.int .i64 deed, .int .i64 n, .int .i64 val, .slc 1 (nm.map intA) .fro, .slc 1 ((c.map Prod.fst).map intA) .fro] (by repeat (first | exact Sel.here | apply Sel.there)) (.cons aRfl (.cons aRfl (.cons aRfl (.cons AVle.fro (.one AVle.fro))))) fun hok => ?_
 refine CW.freezeL hok 10 b10 rfl (by repeat (first | exact Sel.here | apply Sel.there)) fun hok => ?_
 skip
 refine CW.drw tO mixed rfl (RD.run rfl ?_)
 refine RD.loadL 5 tO hok rfl rfl rfl rfl rfl rfl rfl rfl (by repeat (first | exact Sel.here | apply Sel.there)) (by exact rfl) ?_; refine RD.run rfl ?_
 refine RD.append1L 8 tO hok rfl rfl rfl rfl rfl rfl rfl rfl rfl (by intro k; simp) rfl rfl rfl rfl rfl rfl rfl rfl (by repeat (first | exact Sel.here | apply Sel.there)) (by simp <;> omega) (by show (_ + 1) * 72 ≤ _; omega) (by omega) (fun b9 hok => ?_); refine RD.run rfl ?_
 refine RD.storeL 12 tO hok rfl rfl rfl rfl rfl rfl rfl rfl rfl rfl rfl (by repeat (first | exact Sel.here | apply Sel.there)) (by exact rfl) (fun hok => ?_); refine RD.run rfl ?_
 refine RD.run rfl (RD.done rfl ?_)
 skip
 exact Fin.retL (K := qK rb P (.own b9) { q with st := q.st.tell (s.ev deed n val) }) hok rfl aRfl (by simp only [qK, rCells, e1, e2, e3, e4, hev]; repeat (first | exact Sels.nil | (apply Sels.cons; · repeat (first | exact Sel.here | apply Sel.there)))) ⟨rfl, .own b9, rfl⟩
end Go.Proofs.YtdeiinhccdlfiaaGreat

/- Chapter 19, seat .Z: contracts of the reference's run: restarts are offered, and chosen. -/
namespace Go.Proofs.YtdeiinhccdlfiaaGreat
open Go.AE Go.Cond

theorem rs_elem (c : List (Int × Nat)) : ∀ y ∈ c.reverse.map fun r => AV.agg (rsC r), elemOk 2 y = true := by
 intro y hy; obtain ⟨r, -, rfl⟩ := List.mem_map.1 hy; rfl
theorem hd_elem (l : List Hd) : ∀ y ∈ l.reverse.map fun h => AV.agg (hdC h), elemOk 4 y = true := by
 intro y hy; obtain ⟨r, -, rfl⟩ := List.mem_map.1 hy; rfl
set_option maxRecDepth 10000 in
set_option maxHeartbeats 1000000 in
theorem rOffer_spec (rb : Nat) (P : List CExp) (own : Own) (q : RS) (s : Sc) (c : List (Int × Nat)) (n : Int) (hl : c.length < 1000000) (hi : q.ids < 1000000) :
  LCalls Tryz.prog 72 [.ptr rb 0, scR s c, .int .i64 n] (qK rb P own q) (fun o K => o = .ret (scR (s.offer n) ((n, q.ids + 1) :: c)) ∧ K = qK rb P own { q with ids := q.ids + 1 }) := by
 have hcl : (c.reverse.map fun r => AV.agg (rsC r)).length = c.length := by simp
 have hres : scR (s.offer n) ((n, q.ids + 1) :: c) = .agg [.int .i64 s.hand, hdsA s.hs, .slc 2 ((c.reverse.map fun r => AV.agg (rsC r)) ++ [.agg [.int .i64 n, .int .i64 ((q.ids + 1 : Nat) : Int)]]) .fro] := by
  unfold scR rssA; simp [rsC, Sc.offer]
 rw [hres]
 refine LCalls.of_CW tO call72 Tryz.func72 rfl rfl fun s₀ hok => ?_
 unfold scR hdsA rssA
 unfold qK rCells at hok ⊢
 refine CW.seq (CW.reg ?_)
 refine RL.boxL hok rfl rfl rfl rfl rfl rfl (fun b4 hok => ?_)
 refine RL.allocL tO hok rfl rfl rfl rfl rfl rfl rfl (fun b6 hok => ?_)
 repeat (first | (with_reducible first | apply CW.seq | apply aN) | refine CW.reg ?_ | refine RL.nil ?_ | refine wS rfl ?_ | refine RL.loadL tO hok rfl rfl rfl rfl rfl rfl (by repeat (first | exact Sel.here | apply Sel.there)) (by exact rfl) ?_ | refine RL.storeL tO hok rfl rfl rfl rfl rfl rfl rfl rfl rfl (by repeat (first | exact Sel.here | apply Sel.there)) (by exact rfl) (fun hok => ?_))
 rw [i64_succ (by omega)] at hok ⊢
 have hJ := JS.two (s := sto s₀ _) (Sel.get (b := rb) (by repeat (first | exact Sel.here | apply Sel.there)) hok) (Sel.get (b := b4) (by repeat (first | exact Sel.here | apply Sel.there)) hok)
 refine CW.drwJ _ tO mixed rfl (RJ.run hJ rfl ?_)
 refine RJ.loadA 1 tO hJ rfl rfl rfl rfl rfl rfl rfl rfl (fun s h => h.2.1) (v := .slc 2 (c.reverse.map fun r => AV.agg (rsC r)) .fro) rfl ?_
 refine RJ.loadA 7 tO hJ rfl rfl rfl rfl rfl rfl rfl rfl (fun s h => h.1) (v := .int .i64 ((q.ids + 1 : Nat) : Int)) rfl ?_
 refine RJ.run hJ rfl ?_
 refine RJ.appendNL 2 tO hok rfl rfl rfl rfl rfl rfl rfl rfl rfl (by intro k; simp) rfl rfl rfl (.inr rfl) rfl (rs_elem c) rfl (n' := c.length) hcl.symm (by show c.length * 16 ≤ _; omega) (by omega) (fun own' hok => .inl (JS.two (Sel.get (by repeat (first | exact Sel.here | apply Sel.there)) hok) (Sel.get (by repeat (first | exact Sel.here | apply Sel.there)) hok))) (fun own' hok => ?_)
 refine RJ.run (JS.two (Sel.get (by repeat (first | exact Sel.here | apply Sel.there)) hok) (Sel.get (by repeat (first | exact Sel.here | apply Sel.there)) hok)) rfl ?_
 refine RJ.append1L 10 tO hok rfl rfl rfl rfl rfl rfl rfl rfl rfl (by intro k; simp) rfl rfl rfl rfl rfl rfl rfl rfl (by repeat (first | exact Sel.here | apply Sel.there)) (by simp <;> omega) (by show (_ + 1) * 16 ≤ _; omega) (by omega) (fun own' hok => .inl (JS.two (Sel.get (by repeat (first | exact Sel.here | apply Sel.there)) hok) (Sel.get (by repeat (first | exact Sel.here | apply Sel.there)) hok))) (fun own' hok => ?_)
 refine RJ.run (JS.two (Sel.get (by repeat (first | exact Sel.here | apply Sel.there)) hok) (Sel.get (by repeat (first | exact Sel.here | apply Sel.there)) hok)) rfl ?_
 refine RJ.storeL 12 tO hok rfl rfl rfl rfl rfl rfl rfl rfl rfl rfl rfl (by repeat (first | exact Sel.here | apply Sel.there)) rfl (fun _ => .inr rfl) (fun hok => ?_)
 refine RD.done rfl ?_
 repeat (first | (with_reducible first | apply CW.seq | apply aN | apply CW.ret) | refine CW.reg ?_ | refine RL.nil ?_ | refine RL.loadL tO hok rfl rfl rfl rfl rfl rfl (by repeat (first | exact Sel.here | apply Sel.there)) (by exact rfl) ?_ | refine RL.storeL tO hok rfl rfl rfl rfl rfl rfl rfl rfl rfl (by repeat (first | exact Sel.here | apply Sel.there)) (by exact rfl) (fun hok => ?_))
 exact Fin.retL (K := qK rb P own { q with ids := q.ids + 1 }) hok (resA_cell rfl rfl (Sel.get Sel.here hok) rfl) (AVle.agg (.cons aRfl (.cons aRfl (.one AVle.fro)))) (by simp only [qK, rCells]; repeat (first | exact Sels.nil | (apply Sels.cons; · repeat (first | exact Sel.here | apply Sel.there)))) ⟨rfl, rfl⟩
end Go.Proofs.YtdeiinhccdlfiaaGreat

/- Chapter 19, seat .Z: contracts of the reference's run: a restart is chosen; an error is lost. -/
namespace Go.Proofs.YtdeiinhccdlfiaaGreat
open Go.AE Go.Cond

def OutR (c : List (Int × Nat)) (q : RS) (u : Int) : Out → Prop
 | .val v => u = v ∧ q.ended = false ∧ q.to = 0 ∧ q.fin = 0
 | .leave d v => q.ended = false ∧ q.fin = 0 ∧ q.val = v ∧ ∃ n, c[c.length - 1 - d]? = some (n, q.to)
 | .stop e => q.ended = true ∧ q.fin = e.num
def RPost (rb : Nat) (P : List CExp) (c : List (Int × Nat)) (i0 b0 : Nat) (r : Res) (o : AOut) (K : LS) : Prop :=
 ∃ own q u, o = .ret (.int .i64 u) ∧ K = qK rb P own q ∧ q.st = r.2 ∧ OutR c q u r.1 ∧ i0 ≤ q.ids ∧ ((∀ e, r.1 ≠ .stop e) → q.ids + 2 * q.st.fuel ≤ b0)
set_option maxRecDepth 10000 in
set_option maxHeartbeats 1000000 in
theorem rChoose_spec (rb : Nat) (P : List CExp) (own : Own) (q : RS) (s : Sc) (c : List (Int × Nat)) (hc : c.map Prod.fst = s.rs) (hsm : SmallR s c q) {k : Nat} {n : Int} {id : Nat} (hk : c[k]? = some (n, id)) {a : Int} (ha : a = ((c.length - 1 - k : Nat) : Int)) (v : Int) :
  LCalls Tryz.prog 98 [.ptr rb 0, scR s c, .int .i64 a, .int .i64 v] (qK rb P own q) (fun o K => o = .ret (.int .i64 0) ∧ ∃ own', K = qK rb P own' { q with st := q.st.tell (s.ev 4 n v), to := id, val := v }) := by
 have hkl : k < c.length := (List.getElem?_eq_some_iff.1 hk).1
 obtain ⟨r, hx, hx'⟩ := rev_at (f := fun r => AV.agg (rsC r)) hkl
 rw [hk] at hx
 cases hx
 have htell := rTell_spec rb P own q s c hc hsm 4 n v
 subst ha
 unfold rsC at hx'
 unfold scR hdsA rssA at htell ⊢
 refine LCalls.of_CW tO call98 Tryz.func98 rfl rfl fun s₀ hok => ?_
 repeat (first | (with_reducible first | apply CW.seq | apply aN) | refine wR rfl ?_)
 refine CW.drw tO mixed rfl (RD.run rfl ?_)
 refine RD.idx 5 (c.length - 1 - k) rfl rfl rfl rfl rfl rfl rfl rfl rfl rfl rfl rfl rfl hx' rfl ?_
 refine RD.run rfl ?_
 refine RD.callL 9 rfl rfl rfl rfl rfl rfl rfl htell hok (Sels.all _) ?_ (fun _ _ ⟨h, _⟩ _ => by cases h)
 rintro _ _ ⟨⟨⟩, own', rfl⟩ hok
 rw [List.append_nil] at hok ⊢
 refine RD.done rfl ?_
 unfold qK rCells at hok ⊢
 repeat (first | (with_reducible first | apply CW.seq | apply aN | apply CW.ret) | refine wR rfl ?_ | refine CW.reg ?_ | refine RL.nil ?_ | refine wS rfl ?_ | refine RL.idx tO _ rfl rfl rfl rfl rfl rfl rfl rfl rfl rfl rfl (by assumption) rfl ?_ | refine RL.storeL tO hok rfl rfl rfl rfl rfl rfl rfl rfl rfl (by repeat (first | exact Sel.here | apply Sel.there)) (by exact rfl) (fun hok => ?_))
 exact Fin.retL (K := qK rb P own' { q with st := q.st.tell (s.ev 4 n v), to := id, val := v }) hok rfl aRfl (by simp only [qK, rCells]; repeat (first | exact Sels.nil | (apply Sels.cons; · repeat (first | exact Sel.here | apply Sel.there)))) ⟨rfl, own', rfl⟩
set_option maxRecDepth 10000 in
set_option maxHeartbeats 1000000 in
theorem rLost_spec (rb : Nat) (P : List CExp) (own : Own) (q : RS) (s : Sc) (c : List (Int × Nat)) (hc : c.map Prod.fst = s.rs) (hsm : SmallR s c q) (hq : q.ended = false ∧ q.to = 0 ∧ q.fin = 0) (hp : ∀ p ∈ q.st.picks, 0 ≤ p) (hpl : q.st.picks.length < big) (v : Int) :
  LCalls Tryz.prog 97 [.ptr rb 0, scR s c, .int .i64 v] (qK rb P own q) (RPost rb P c q.ids (q.ids + 2 * q.st.fuel) (lost s v q.st)) := by
 have hb : big = 1099511627776 := rfl
 obtain ⟨st, ids, fin, ended, to, val⟩ := q
 obtain ⟨evs, fuel, picks⟩ := st
 obtain ⟨q1, q2, q3⟩ := hq
 simp only at q1 q2 q3 hp hpl
 subst q1 q2 q3
 have hrl : ((c.reverse.map fun r => AV.agg (rsC r)).length : Int) = c.length := by simp
 have hcr : c.length = s.rs.length := by rw [← hc, List.length_map]
 refine LCalls.of_CW tO call97 Tryz.func97 rfl rfl fun s₀ hok => ?_
 cases picks with
 | nil =>
  have hend := rEnd_spec rb P own ⟨⟨evs, fuel, []⟩, ids, 0, false, 0, val⟩ 2
  unfold scR hdsA rssA
  unfold qK rCells at hok ⊢
  simp only [List.map_nil] at hok ⊢
  repeat (first | (with_reducible first | apply CW.seq | apply aN) | refine wR rfl ?_ | refine CW.reg ?_ | refine RL.nil ?_ | refine CW.condT rfl ?_ | refine wS rfl ?_ | refine RL.skip rfl rfl rfl ?_ | refine RL.loadL tO hok rfl rfl rfl rfl rfl rfl (by repeat (first | exact Sel.here | apply Sel.there)) (by exact rfl) ?_)
  refine RL.callL rfl rfl rfl rfl rfl hend hok (Sels.all _) ?_ (fun _ _ ⟨h, _⟩ _ => by cases h)
  rintro _ _ ⟨⟨⟩, rfl⟩ hok
  rw [List.append_nil] at hok ⊢
  repeat (first | (with_reducible first | apply aN | apply aR | apply CW.ret) | refine RL.nil ?_ | refine wS rfl ?_)
  exact Fin.retL hok rfl aRfl (Sels.all _) ⟨own, ⟨⟨evs, fuel, []⟩, ids, 2, true, 0, val⟩, 0, rfl, rfl, rfl, ⟨rfl, rfl⟩, Nat.le_refl _, fun _ => Nat.le_refl _⟩
 | cons p ps =>
  have hend := rEnd_spec rb P own ⟨⟨evs, fuel, p :: ps⟩, ids, 0, false, 0, val⟩ 2
  have hr := hsm.rs
  unfold scR hdsA rssA
  unfold qK rCells at hok ⊢
  simp only at hok ⊢
  repeat (first | (with_reducible first | apply CW.seq | apply aN) | refine wR rfl ?_ | refine CW.reg ?_ | refine RL.nil ?_ | refine wS rfl ?_ | refine RL.loadL tO hok rfl rfl rfl rfl rfl rfl (by repeat (first | exact Sel.here | apply Sel.there)) (by exact rfl) ?_)
  refine CW.cond rfl (fun hh => ?_) (fun hh => ?_)
  ·have h0 : c.length = 0 := by
    have : (c.length : Int) = 0 := by simpa using hh
    omega
   have hnil : s.rs = [] := List.length_eq_zero_iff.1 (by omega)
   have hlo : lost s v ⟨evs, fuel, p :: ps⟩ = (.stop .lost, ⟨evs, fuel, p :: ps⟩) := by unfold lost; simp [hnil]
   rw [hlo]
   repeat (first | with_reducible apply CW.seq | refine CW.reg ?_ | refine wS rfl ?_)
   refine RL.callL rfl rfl rfl rfl rfl hend hok (Sels.all _) ?_ (fun _ _ ⟨h, _⟩ _ => by cases h)
   rintro _ _ ⟨⟨⟩, rfl⟩ hok
   rw [List.append_nil] at hok ⊢
   repeat (first | (with_reducible first | apply aN | apply aR | apply CW.ret) | refine RL.nil ?_ | refine wS rfl ?_)
   exact Fin.retL hok rfl aRfl (Sels.all _) ⟨own, ⟨⟨evs, fuel, p :: ps⟩, ids, 2, true, 0, val⟩, 0, rfl, rfl, rfl, ⟨rfl, rfl⟩, Nat.le_refl _, fun _ => Nat.le_refl _⟩
  ·have h0 : c.length ≠ 0 := by
    intro h
    rw [show c = [] from List.length_eq_zero_iff.1 h] at hh
    simp at hh
   have hpos : 0 < s.rs.length := by omega
   have hp0 : 0 ≤ p := hp p List.mem_cons_self
   have hm1 := Int.emod_lt_of_pos p (show (0 : Int) < s.rs.length by omega)
   have hm2 := Int.emod_nonneg p (show (s.rs.length : Int) ≠ 0 by omega)
   obtain ⟨k, hk⟩ : ∃ k, k = (p % s.rs.length).toNat := ⟨_, rfl⟩
   have hkp : (k : Int) = p % s.rs.length := by rw [hk]; exact Int.toNat_of_nonneg hm2
   have hkl : k < c.length := by omega
   have hrem : p.tmod ((c.reverse.map fun r => AV.agg (rsC r)).length : Int) = (k : Int) := by rw [hrl, hcr, hkp, Int.tmod_eq_emod_of_nonneg hp0]
   have hck : c[k]? = some ((c[k]).1, (c[k]).2) := List.getElem?_eq_getElem hkl
   have hn : s.rs.getD k 0 = (c[k]).1 := by rw [List.getD_eq_getElem?_getD, ← hc, List.getElem?_map, hck]; rfl
   have hlo : lost s v ⟨evs, fuel, p :: ps⟩ = (.leave (s.rs.length - 1 - k) v, St.tell ⟨evs, fuel, ps⟩ (s.ev 4 (s.rs.getD k 0) v)) := by
    unfold lost
    have : s.rs ≠ [] := List.length_pos_iff.1 hpos
    simp only [this, if_false, ← hk]
    rfl
   have hch := rChoose_spec rb P own ⟨⟨evs, fuel, ps⟩, ids, 0, false, 0, val⟩ s c hc ⟨hsm.hs, hsm.rs, hsm.evs⟩ hck (a := IntKind.wrap .i64 (IntKind.wrap .i64 (((c.reverse.map fun r => AV.agg (rsC r)).length : Int) - 1) - (k : Int))) (by rw [hrl, i64_wrap (n := (c.length : Int) - 1) (by omega) (by omega), i64_wrap (by omega) (by omega)]; omega) v
   have hsl : (((p :: ps).map intA).take ((p :: ps).map intA).length).drop 1 = ps.map intA := by rw [List.take_length]; rfl
   rw [hlo, hn]
   generalize (c[k]).1 = nn at hck hch
   generalize (c[k]).2 = idd at hck hch
   unfold scR hdsA rssA qK rCells at hch
   repeat (with_reducible first | apply CW.seq | apply aN | apply CW.skip)
   have hJ := JS.one (s := sto s₀ _) (Sel.get (b := rb) (by repeat (first | exact Sel.here | apply Sel.there)) hok)
   refine CW.drwJ _ tO mixed rfl (RJ.run hJ rfl ?_)
   refine RJ.loadA 3 tO hJ rfl rfl rfl rfl rfl rfl rfl rfl (fun s h => h.1) (v := .slc 1 ((p :: ps).map intA) .fro) rfl ?_
   refine RJ.idx hJ 4 0 rfl rfl rfl rfl rfl rfl rfl rfl rfl rfl rfl rfl rfl rfl rfl ?_
   refine RJ.run hJ rfl ?_
   refine RJ.calmJ hJ (i := 9) rfl rfl rfl rfl rfl (fun _ _ => OW.rem rfl rfl rfl (by rw [hrl]; omega) hrem) ?_
   refine RJ.run hJ rfl ?_
   refine RD.done rfl ?_
   repeat (first | (with_reducible first | apply CW.seq | apply aN) | refine CW.reg ?_ | refine wS rfl ?_ | refine RL.loadL tO hok rfl rfl rfl rfl rfl rfl (by repeat (first | exact Sel.here | apply Sel.there)) (by exact rfl) ?_)
   refine RL.slice tO 1 ((p :: ps).map intA).length rfl rfl rfl rfl rfl rfl rfl rfl (.inr rfl) (.inr ⟨_, _, rfl, rfl⟩) (.inl ⟨rfl, rfl, rfl⟩) (.inl ⟨rfl, rfl⟩) (by simp) (Nat.le_refl _) ?_
   rw [hsl]
   repeat (first | (with_reducible first | apply CW.seq | apply aN) | refine CW.reg ?_ | refine RL.nil ?_ | refine wS rfl ?_ | refine RL.storeL tO hok rfl rfl rfl rfl rfl rfl rfl rfl rfl (by repeat (first | exact Sel.here | apply Sel.there)) (by exact rfl) (fun hok => ?_))
   refine RL.callL rfl rfl rfl rfl rfl hch hok (Sels.all _) ?_ (fun _ _ ⟨h, _⟩ _ => by cases h)
   rintro _ _ ⟨⟨⟩, own', rfl⟩ hok
   rw [List.append_nil] at hok ⊢
   repeat (first | (with_reducible first | apply aN | apply CW.ret) | refine RL.nil ?_ | refine wS rfl ?_)
   exact Fin.retL (K := qK rb P own' _) hok rfl aRfl (Sels.all _) ⟨own', _, 0, rfl, rfl, rfl, ⟨rfl, rfl, rfl, nn, by rw [show c.length - 1 - (s.rs.length - 1 - k) = k by omega]; exact hck⟩, Nat.le_refl _, fun _ => Nat.le_refl _⟩
end Go.Proofs.YtdeiinhccdlfiaaGreat

/- Chapter 19, seat .Z: contracts of the reference's run: values are signalled. -/
namespace Go.Proofs.YtdeiinhccdlfiaaGreat
open Go.AE Go.Cond

structure PreR (P : List CExp) (x : CExp) (s : Sc) (c : List (Int × Nat)) (q : RS) : Prop where
 x : OkE P.length x
 sc : OkSc P.length s
 rs : c.map Prod.fst = s.rs
 go : q.ended = false ∧ q.to = 0 ∧ q.fin = 0
 ids : ∀ r ∈ c, 0 < r.2 ∧ r.2 ≤ q.ids
 hs : s.hs.length + q.st.fuel ≤ 1000
 rl : c.length + q.st.fuel ≤ 1000
 phi : phi q.st ≤ 2000
 picks : ∀ p ∈ q.st.picks, 0 ≤ p
 pl : q.st.picks.length ≤ 1000
 cap : q.ids + 2 * q.st.fuel ≤ 5000
theorem PreR.small {P : List CExp} {x : CExp} {s : Sc} {c : List (Int × Nat)} {q : RS} (h : PreR P x s c q) : SmallR s c q := by
 have hb : big = 1099511627776 := rfl
 refine ⟨?_, ?_, ?_⟩
 ·have := h.hs; omega
 ·have := h.rl; omega
 ·have := h.phi
  unfold Cond.phi at this
  omega
def EvalR (rb : Nat) (P : List CExp) (x : CExp) (s : Sc) (c : List (Int × Nat)) (q : RS) : Prop :=
 ∀ own, LCalls Tryz.prog 39 [.ptr rb 0, (rawE x).av, scR s c] (qK rb P own q) (RPost rb P c q.ids (q.ids + 2 * q.st.fuel - 1) (run P x s q.st))
def BelowR (rb : Nat) (P : List CExp) (f : Nat) : Prop := ∀ x s c q, PreR P x s c q → q.st.fuel < f → EvalR rb P x s c q
theorem BelowR.get {rb : Nat} {P : List CExp} {f : Nat} (ih : BelowR rb P f) {x : CExp} {s : Sc} {c : List (Int × Nat)} {q : RS} (h : PreR P x s c q) (hf : q.st.fuel < f) (own : Own) :
  LCalls Tryz.prog 39 [.ptr rb 0, .agg [.int .i64 (rawE x).op, .int .i64 (rawE x).n, .slc 3 ((rawE x).kids.map CRaw.av) .fro], .agg [.int .i64 s.hand, .slc 4 (s.hs.reverse.map fun h => .agg (hdC h)) .fro, .slc 2 (c.reverse.map fun r => .agg (rsC r)) .fro]] (qK rb P own q) (RPost rb P c q.ids (q.ids + 2 * q.st.fuel - 1) (run P x s q.st)) := by
 have := ih x s c q h hf own
 rw [CRaw.av_eq] at this
 exact this
theorem PreR.next {P : List CExp} {x : CExp} {s : Sc} {c : List (Int × Nat)} {q q' : RS} {o : Out} (h : PreR P x s c q) {z : CExp} {s' : Sc} (hr : (run P z s' q.st) = (o, q'.st)) (hx : ∀ e, o ≠ .stop e) (hi : q.ids ≤ q'.ids) (hb : q'.ids + 2 * q'.st.fuel ≤ q.ids + 2 * q.st.fuel - 1) (hg : q'.ended = false ∧ q'.to = 0 ∧ q'.fin = 0) {y : CExp} (hy : OkE P.length y) :
  PreR P y s c q' ∧ q'.st.fuel < q.st.fuel := by
 have h1 := run_burns P z s' q.st hr hx
 have h2 := run_phi P (q.st.fuel + 1) z s' q.st (Nat.lt_succ_self _)
 obtain ⟨l, h3⟩ := run_picks P z s' q.st
 rw [hr] at h2 h3
 have h4 : Cond.phi q'.st ≤ Cond.phi q.st - 1 := by
  cases o with
  | val v => exact h2
  | leave d v => exact h2
  | stop e => exact absurd rfl (hx e)
 refine ⟨⟨hy, h.sc, h.rs, hg, fun r hr => ?_, ?_, ?_, ?_, fun p hp => h.picks p ?_, ?_, ?_⟩, h1⟩
 ·have := h.ids r hr; omega
 ·have := h.hs; omega
 ·have := h.rl; omega
 ·have := h.phi; omega
 ·rw [h3]; exact List.mem_append_right _ hp
 ·have := h.pl; rw [h3, List.length_append] at this; simp only at this ⊢; omega
 ·have := h.cap; omega
theorem PreR.tell {P : List CExp} {x y : CExp} {s s' : Sc} {c : List (Int × Nat)} {q : RS} (h : PreR P x s c q) (hp : Cond.phi q.st + 1 ≤ 2000) (hy : OkE P.length y) (hsc : OkSc P.length s') (hrs : s'.rs = s.rs) (hl : s'.hs.length ≤ s.hs.length) (e : Ev) : PreR P y s' c { q with st := q.st.tell e } := by
 refine ⟨hy, hsc, by rw [hrs]; exact h.rs, h.go, h.ids, ?_, h.rl, ?_, h.picks, h.pl, h.cap⟩
 ·have := h.hs
  show s'.hs.length + q.st.fuel ≤ 1000
  omega
 ·show Cond.phi (q.st.tell e) ≤ 2000
  rw [phi_tell]; omega
def isVal : Out → Bool
 | .val _ => true
 | _ => false
theorem OutR.gone {c : List (Int × Nat)} {q : RS} {u : Int} {o : Out} (h : OutR c q u o) (hc : ∀ r ∈ c, 0 < r.2) : (q.ended || decide ((q.to : Int) > 0)) = !isVal o := by
 cases o with
 | val v => obtain ⟨_, h1, h2, _⟩ := h; rw [h1, h2]; rfl
 | leave d v =>
  obtain ⟨h1, _, _, n, h2⟩ := h
  have h3 := hc _ (List.mem_of_getElem? h2)
  simp only at h3
  rw [h1, decide_eq_true (show (q.to : Int) > 0 by omega)]; rfl
 | stop e => rw [h.1]; rfl
theorem hs_take {l : List Hd} {j : Nat} (h : j < l.length) : (l.reverse.map fun h => AV.agg (hdC h)).take (l.length - 1 - j) = (l.drop (j + 1)).reverse.map fun h => AV.agg (hdC h) := by
 rw [← List.map_take, List.reverse_drop]
 congr 2
 omega
def UPost (rb : Nat) (P : List CExp) (c : List (Int × Nat)) (i0 b0 : Nat) (r : Res) (o : AOut) (K : LS) : Prop :=
 ∃ own q u, o = .ret (.tup []) ∧ K = qK rb P own q ∧ q.st = r.2 ∧ OutR c q u r.1 ∧ i0 ≤ q.ids ∧ ((∀ e, r.1 ≠ .stop e) → q.ids + 2 * q.st.fuel ≤ b0)
set_option maxRecDepth 10000 in
set_option maxHeartbeats 2000000 in
theorem rSignal_spec (rb : Nat) (P : List CExp) {f : Nat} (ih : BelowR rb P f) (own : Own) (q : RS) (s : Sc) (c : List (Int × Nat)) {x : CExp} (h : PreR P x s c q) (hph : Cond.phi q.st ≤ 1997) (hf : q.st.fuel < f) (n : Int) {v : Int} (hv : InR v) :
  LCalls Tryz.prog 96 [.ptr rb 0, scR s c, .int .i64 n, .int .i64 v] (qK rb P own q) (UPost rb P c q.ids (q.ids + 2 * q.st.fuel) (raise (run P) s n v q.st)) := by
 have hb : big = 1099511627776 := rfl
 have hsm := h.small
 have htell := rTell_spec rb P own q s c h.rs hsm 2 n v
 have hh := hsm.hs
 have hhl : ((s.hs.reverse.map fun h => AV.agg (hdC h)).length : Int) = s.hs.length := by simp
 have w1 : IntKind.wrap .i64 ((s.hs.length : Int) - 1) = (s.hs.length : Int) - 1 := i64_wrap (by omega) (by omega)
 unfold scR hdsA rssA at htell ⊢
 refine LCalls.of_CW tO call96 Tryz.func96 rfl rfl fun s₀ hok => ?_
 repeat (first | (with_reducible first | apply CW.seq | apply aN) | refine wR rfl ?_ | refine CW.reg ?_ | refine wS rfl ?_)
 refine RL.callL rfl rfl rfl rfl rfl htell hok (Sels.all _) ?_ (fun _ _ ⟨h, _⟩ _ => by cases h)
 rintro _ _ ⟨⟨⟩, own1, rfl⟩ hok
 rw [List.append_nil] at hok ⊢
 have hpos : ∀ r ∈ c, 0 < r.2 := fun r hr => (h.ids r hr).1
 repeat (first | (with_reducible first | apply CW.seq | apply aN | apply CW.block) | refine wR rfl ?_ | refine RL.nil ?_)
 refine CW.loopL hok (σ := Nat × Own × RS) (fun z => [(0, .ptr rb 0), (2, .int .i64 n), (3, .int .i64 v), (5, .fptr [.int .i64 s.hand, .slc 4 (s.hs.reverse.map fun h => .agg (hdC h)) .fro, .slc 2 (c.reverse.map fun r => .agg (rsC r)) .fro] 0), (8, .int .i64 ((s.hs.length : Int) - 1 - (z.1 : Int)))])
  (fun z => qK rb P z.2.1 z.2.2) (fun z => z.1 ≤ s.hs.length ∧ PreR P x s c z.2.2 ∧ raise (run P) s n v q.st = raiseL (run P) s.rs n v (s.hs.drop z.1) z.2.2.st ∧ q.ids ≤ z.2.2.ids ∧ z.2.2.ids + 2 * z.2.2.st.fuel ≤ q.ids + 2 * q.st.fuel ∧ Cond.phi z.2.2.st ≤ Cond.phi q.st + 1) (fun z => s.hs.length - z.1)
  (0, own1, { q with st := q.st.tell (s.ev 2 n v) }) ⟨Nat.zero_le _, h.tell (by omega) h.x h.sc rfl (Nat.le_refl _) _, rfl, Nat.le_refl _, Nat.le_refl _, by rw [phi_tell]; omega⟩ (by repeat (first | exact trivial | refine ⟨⟨_, rfl, aRfl⟩, ?_⟩ | refine ⟨⟨_, rfl, AVle.of_eq (by (rw [hhl, w1]; simp))⟩, ?_⟩)) (Sels.all _) ?_
 rintro ⟨j, own1, q1⟩ ⟨hj, hpre, hI, hids, hbud, hphi⟩ hok
 simp only at hj hpre hI hids hbud hphi hok ⊢
 have hfq : q1.st.fuel < f := by omega
 repeat (first | (with_reducible first | apply CW.seq | apply aN) | refine wR rfl ?_)
 refine CW.cond rfl (fun hlt => ?_) (fun hge => ?_)
 ·have hlt : j < s.hs.length := by
   have : (s.hs.length : Int) - 1 - (j : Int) ≥ 0 := of_decide_eq_true hlt
   omega
  obtain ⟨h1, hx, hx'⟩ := rev_at (f := fun h => AV.agg (hdC h)) hlt
  have hmem := List.mem_of_getElem? hx
  have hdrop := drop_cons hx
  unfold hdC at hx'
  have hij : (s.hs.length : Int) - 1 - (j : Int) = ((s.hs.length - 1 - j : Nat) : Int) := by omega
  have w3 : IntKind.wrap .i64 ((s.hs.length : Int) - 1 - (j : Int) - 1) = (s.hs.length : Int) - 1 - ((j + 1 : Nat) : Int) := by rw [i64_wrap (by omega) (by omega)]; omega
  repeat (first | (with_reducible first | apply CW.seq | apply aN | apply CW.skip | apply CW.block) | refine CW.reg ?_ | refine wS rfl ?_)
  refine RL.idx tO (s.hs.length - 1 - j) rfl rfl rfl rfl rfl rfl rfl rfl rfl rfl hij hx' rfl ?_
  repeat (first | refine wS rfl ?_)
  refine RL.newBox tO rfl rfl rfl rfl rfl rfl rfl (fun _ => rfl) rfl rfl (fun _ => rfl) rfl rfl rfl rfl ?_
  repeat (first | (with_reducible first | apply CW.seq | apply aN) | refine CW.reg ?_ | refine RL.nil ?_ | refine wS rfl ?_)
  by_cases hn1 : h1.n = n
  ·have hcond : h1.n = n ∨ h1.n = -1 := .inl hn1
   refine RL.knowF 33 rfl (by simpa using hn1) ?_
   repeat (first | (with_reducible first | apply CW.seq | apply aN | apply CW.skip) | refine RL.nil ?_ | refine CW.condF rfl ?_ | refine wS rfl ?_ | refine RL.skip rfl rfl rfl ?_)
   refine CW.drw tO mixed rfl (RD.run rfl ?_)
   refine RD.slice 4 0 (s.hs.length - 1 - j) rfl rfl rfl rfl rfl rfl rfl rfl rfl rfl (.inr rfl) (.inl ⟨rfl, rfl⟩) (.inr ⟨_, .i64, rfl, congrArg (fun z => some (AV.int .i64 z)) hij⟩) (.inl ⟨rfl, rfl⟩) (Nat.zero_le _) (by simp; omega) ?_
   rw [hs_take hlt, List.drop_zero]
   refine RD.run rfl ?_
   refine RD.allocL 8 tO hok rfl rfl rfl rfl rfl rfl rfl rfl rfl (fun b10 hok => ?_); refine RD.run rfl ?_
   refine RD.storeL 9 tO hok rfl rfl rfl rfl rfl rfl rfl rfl rfl rfl rfl (by repeat (first | exact Sel.here | apply Sel.there)) (by exact rfl) (fun hok => ?_); refine RD.run rfl ?_
   refine RD.done rfl ?_
   refine aN ?_
   refine CW.freezeL hok 10 b10 rfl (by repeat (first | exact Sel.here | apply Sel.there)) fun hok => ?_
   rw [hdrop, raiseL, if_pos hcond] at hI
   have hp1 : PreR P h1.body ⟨v, s.hs.drop (j + 1), s.rs⟩ c { q1 with st := q1.st.tell (Sc.ev ⟨v, s.hs.drop (j + 1), s.rs⟩ 3 h1.n v) } := hpre.tell (s' := ⟨v, s.hs.drop (j + 1), s.rs⟩) (by omega) (h.sc.hs _ hmem) ⟨hv, fun z hz => h.sc.hs z (List.mem_of_mem_drop hz)⟩ rfl (by simp) _
   have htell2 := rTell_spec rb P own1 q1 ⟨v, s.hs.drop (j + 1), s.rs⟩ c h.rs ⟨by simp; omega, hsm.rs, hpre.small.evs⟩ 3 h1.n v
   have heval := fun own => ih.get hp1 (by show q1.st.fuel < f; omega) own
   rcases hr : run P h1.body ⟨v, s.hs.drop (j + 1), s.rs⟩ (q1.st.tell (Sc.ev ⟨v, s.hs.drop (j + 1), s.rs⟩ 3 h1.n v)) with ⟨o2, st2⟩
   rw [hr] at hI
   have heval := heval
   simp only [hr] at heval
   unfold scR hdsA rssA at htell2
   repeat (first | with_reducible apply CW.seq | refine CW.reg ?_ | refine wS rfl ?_)
   refine RL.callL rfl rfl rfl rfl rfl htell2 hok (Sels.all _) ?_ (fun _ _ ⟨h, _⟩ _ => by cases h)
   rintro _ _ ⟨⟨⟩, own2, rfl⟩ hok
   rw [List.append_nil] at hok ⊢
   repeat (first | (with_reducible first | apply CW.seq | apply aN) | refine CW.reg ?_ | refine RL.nil ?_ | refine wS rfl ?_)
   refine RL.callL rfl rfl rfl rfl rfl (heval own2) hok (Sels.all _) ?_ (fun _ _ ⟨_, _, _, h, _⟩ _ => by cases h)
   rintro _ _ ⟨own3, q3, u, ⟨⟩, rfl, g1, g2, g3, g4⟩ hok
   simp only at g1 g2 g3 g4
   rw [List.append_nil] at hok ⊢
   have hgone := rGone_spec rb P own3 q3
   rw [g2.gone hpos] at hgone
   repeat (first | (with_reducible first | apply CW.seq | apply aN) | refine CW.reg ?_ | refine RL.nil ?_ | refine wS rfl ?_)
   refine RL.callL rfl rfl rfl rfl rfl hgone hok (Sels.all _) ?_ (fun _ _ ⟨h, _⟩ _ => by cases h)
   rintro _ _ ⟨⟨⟩, rfl⟩ hok
   rw [List.append_nil] at hok ⊢
   cases o2 with
   | val u2 =>
    obtain ⟨k1, k2⟩ := hp1.next (q' := q3) (o := .val u2) (by rw [g1]; exact hr) (by simp) g3 (g4 (by simp)) g2.2 hpre.x
    have hph3 : Cond.phi q3.st ≤ Cond.phi q1.st := by
     have := run_phi P (q1.st.fuel + 1) h1.body ⟨v, s.hs.drop (j + 1), s.rs⟩ (q1.st.tell (Sc.ev ⟨v, s.hs.drop (j + 1), s.rs⟩ 3 h1.n v)) (Nat.lt_succ_self _)
     rw [hr] at this
     have h5 : Cond.phi st2 ≤ Cond.phi (q1.st.tell (Sc.ev ⟨v, s.hs.drop (j + 1), s.rs⟩ 3 h1.n v)) - 1 := this
     rw [phi_tell] at h5
     rw [g1]; omega
    have k2' : q3.st.fuel < q1.st.fuel := k2
    have g4' := g4 (by simp)
    have g4'' : q3.ids + 2 * q3.st.fuel ≤ q1.ids + 2 * q1.st.fuel - 1 := g4'
    have g3' : q1.ids ≤ q3.ids := g3
    have hp3 : PreR P x s c q3 := ⟨hpre.x, h.sc, h.rs, g2.2, fun r hr => by have := hpre.ids r hr; omega, by have := hpre.hs; omega, by have := hpre.rl; omega, k1.phi, k1.picks, k1.pl, by have := hpre.cap; omega⟩
    have m1 : q.ids ≤ q3.ids := by omega
    have m2 : q3.ids + 2 * q3.st.fuel ≤ q.ids + 2 * q.st.fuel := by omega
    have m3 : Cond.phi q3.st ≤ Cond.phi q.st + 1 := by omega
    repeat (first | (with_reducible first | apply aN | apply iN | apply CW.skip) | refine wR rfl ?_ | refine RL.nil ?_ | refine CW.condF rfl ?_)
    exact NextL.mk (j + 1, own3, q3) hok ⟨hlt, hp3, by rw [hI]; show raiseL (run P) s.rs n v (s.hs.drop (j + 1)) st2 = _; rw [g1], m1, m2, m3⟩ (by repeat (first | exact trivial | refine ⟨⟨_, rfl, aRfl⟩, ?_⟩ | refine ⟨⟨_, rfl, AVle.of_eq (by rw [w3])⟩, ?_⟩)) (Sels.all _) (by show s.hs.length - (j + 1) < s.hs.length - j; omega)
   | leave d w =>
    have g4'' : q3.ids + 2 * q3.st.fuel ≤ q1.ids + 2 * q1.st.fuel - 1 := g4 (by simp)
    rw [hI]
    repeat (first | (with_reducible first | apply aN | apply aR | apply iR | apply CW.ret) | refine RL.nil ?_ | refine CW.condT rfl ?_)
    exact Fin.retL hok rfl aRfl (Sels.all _) ⟨own3, q3, u, rfl, rfl, g1, g2, by have : q1.ids ≤ q3.ids := g3; omega, fun _ => by omega⟩
   | stop e =>
    rw [hI]
    repeat (first | (with_reducible first | apply aN | apply aR | apply iR | apply CW.ret) | refine RL.nil ?_ | refine CW.condT rfl ?_)
    exact Fin.retL hok rfl aRfl (Sels.all _) ⟨own3, q3, u, rfl, rfl, g1, g2, by have : q1.ids ≤ q3.ids := g3; omega, fun hne => absurd rfl (hne e)⟩
  ·refine RL.knowT 33 rfl (by simpa using hn1) ?_
   repeat (first | with_reducible apply aN | refine RL.nil ?_ | refine wS rfl ?_)
   refine CW.cond rfl (fun hh => ?_) (fun hh => ?_)
   ·have hn2 : h1.n ≠ -1 := by simpa using hh
    rw [hdrop, raiseL, if_neg (by rintro (h | h); exact hn1 h; exact hn2 h)] at hI
    repeat (first | (with_reducible first | apply aN | apply aX | apply iH | apply CW.exit) | refine wR rfl ?_)
    exact NextL.mk (j + 1, own1, q1) hok ⟨hlt, hpre, hI, hids, hbud, hphi⟩ (by repeat (first | exact trivial | refine ⟨⟨_, rfl, aRfl⟩, ?_⟩ | refine ⟨⟨_, rfl, AVle.of_eq (by rw [w3])⟩, ?_⟩)) (Sels.all _) (by show s.hs.length - (j + 1) < s.hs.length - j; omega)
   ·have hcond : h1.n = n ∨ h1.n = -1 := .inr (by simpa using hh)
    repeat (with_reducible first | apply CW.seq | apply aN | apply CW.skip)
    refine CW.drw tO mixed rfl (RD.run rfl ?_)
    refine RD.slice 4 0 (s.hs.length - 1 - j) rfl rfl rfl rfl rfl rfl rfl rfl rfl rfl (.inr rfl) (.inl ⟨rfl, rfl⟩) (.inr ⟨_, .i64, rfl, congrArg (fun z => some (AV.int .i64 z)) hij⟩) (.inl ⟨rfl, rfl⟩) (Nat.zero_le _) (by simp; omega) ?_
    rw [hs_take hlt, List.drop_zero]
    refine RD.run rfl ?_
    refine RD.allocL 8 tO hok rfl rfl rfl rfl rfl rfl rfl rfl rfl (fun b10 hok => ?_); refine RD.run rfl ?_
    refine RD.storeL 9 tO hok rfl rfl rfl rfl rfl rfl rfl rfl rfl rfl rfl (by repeat (first | exact Sel.here | apply Sel.there)) (by exact rfl) (fun hok => ?_); refine RD.run rfl ?_
    refine RD.done rfl ?_
    refine aN ?_
    refine CW.freezeL hok 10 b10 rfl (by repeat (first | exact Sel.here | apply Sel.there)) fun hok => ?_
    rw [hdrop, raiseL, if_pos hcond] at hI
    have hp1 : PreR P h1.body ⟨v, s.hs.drop (j + 1), s.rs⟩ c { q1 with st := q1.st.tell (Sc.ev ⟨v, s.hs.drop (j + 1), s.rs⟩ 3 h1.n v) } := hpre.tell (s' := ⟨v, s.hs.drop (j + 1), s.rs⟩) (by omega) (h.sc.hs _ hmem) ⟨hv, fun z hz => h.sc.hs z (List.mem_of_mem_drop hz)⟩ rfl (by simp) _
    have htell2 := rTell_spec rb P own1 q1 ⟨v, s.hs.drop (j + 1), s.rs⟩ c h.rs ⟨by simp; omega, hsm.rs, hpre.small.evs⟩ 3 h1.n v
    have heval := fun own => ih.get hp1 (by show q1.st.fuel < f; omega) own
    rcases hr : run P h1.body ⟨v, s.hs.drop (j + 1), s.rs⟩ (q1.st.tell (Sc.ev ⟨v, s.hs.drop (j + 1), s.rs⟩ 3 h1.n v)) with ⟨o2, st2⟩
    rw [hr] at hI
    have heval := heval
    simp only [hr] at heval
    unfold scR hdsA rssA at htell2
    repeat (first | with_reducible apply CW.seq | refine CW.reg ?_ | refine wS rfl ?_)
    refine RL.callL rfl rfl rfl rfl rfl htell2 hok (Sels.all _) ?_ (fun _ _ ⟨h, _⟩ _ => by cases h)
    rintro _ _ ⟨⟨⟩, own2, rfl⟩ hok
    rw [List.append_nil] at hok ⊢
    repeat (first | (with_reducible first | apply CW.seq | apply aN) | refine CW.reg ?_ | refine RL.nil ?_ | refine wS rfl ?_)
    refine RL.callL rfl rfl rfl rfl rfl (heval own2) hok (Sels.all _) ?_ (fun _ _ ⟨_, _, _, h, _⟩ _ => by cases h)
    rintro _ _ ⟨own3, q3, u, ⟨⟩, rfl, g1, g2, g3, g4⟩ hok
    simp only at g1 g2 g3 g4
    rw [List.append_nil] at hok ⊢
    have hgone := rGone_spec rb P own3 q3
    rw [g2.gone hpos] at hgone
    repeat (first | (with_reducible first | apply CW.seq | apply aN) | refine CW.reg ?_ | refine RL.nil ?_ | refine wS rfl ?_)
    refine RL.callL rfl rfl rfl rfl rfl hgone hok (Sels.all _) ?_ (fun _ _ ⟨h, _⟩ _ => by cases h)
    rintro _ _ ⟨⟨⟩, rfl⟩ hok
    rw [List.append_nil] at hok ⊢
    cases o2 with
    | val u2 =>
     obtain ⟨k1, k2⟩ := hp1.next (q' := q3) (o := .val u2) (by rw [g1]; exact hr) (by simp) g3 (g4 (by simp)) g2.2 hpre.x
     have hph3 : Cond.phi q3.st ≤ Cond.phi q1.st := by
      have := run_phi P (q1.st.fuel + 1) h1.body ⟨v, s.hs.drop (j + 1), s.rs⟩ (q1.st.tell (Sc.ev ⟨v, s.hs.drop (j + 1), s.rs⟩ 3 h1.n v)) (Nat.lt_succ_self _)
      rw [hr] at this
      have h5 : Cond.phi st2 ≤ Cond.phi (q1.st.tell (Sc.ev ⟨v, s.hs.drop (j + 1), s.rs⟩ 3 h1.n v)) - 1 := this
      rw [phi_tell] at h5
      rw [g1]; omega
     have k2' : q3.st.fuel < q1.st.fuel := k2
     have g4' := g4 (by simp)
     have g4'' : q3.ids + 2 * q3.st.fuel ≤ q1.ids + 2 * q1.st.fuel - 1 := g4'
     have g3' : q1.ids ≤ q3.ids := g3
     have hp3 : PreR P x s c q3 := ⟨hpre.x, h.sc, h.rs, g2.2, fun r hr => by have := hpre.ids r hr; omega, by have := hpre.hs; omega, by have := hpre.rl; omega, k1.phi, k1.picks, k1.pl, by have := hpre.cap; omega⟩
     have m1 : q.ids ≤ q3.ids := by omega
     have m2 : q3.ids + 2 * q3.st.fuel ≤ q.ids + 2 * q.st.fuel := by omega
     have m3 : Cond.phi q3.st ≤ Cond.phi q.st + 1 := by omega
     repeat (first | (with_reducible first | apply aN | apply iN | apply CW.skip) | refine wR rfl ?_ | refine RL.nil ?_ | refine CW.condF rfl ?_)
     exact NextL.mk (j + 1, own3, q3) hok ⟨hlt, hp3, by rw [hI]; show raiseL (run P) s.rs n v (s.hs.drop (j + 1)) st2 = _; rw [g1], m1, m2, m3⟩ (by repeat (first | exact trivial | refine ⟨⟨_, rfl, aRfl⟩, ?_⟩ | refine ⟨⟨_, rfl, AVle.of_eq (by rw [w3])⟩, ?_⟩)) (Sels.all _) (by show s.hs.length - (j + 1) < s.hs.length - j; omega)
    | leave d w =>
     have g4'' : q3.ids + 2 * q3.st.fuel ≤ q1.ids + 2 * q1.st.fuel - 1 := g4 (by simp)
     rw [hI]
     repeat (first | (with_reducible first | apply aN | apply aR | apply iR | apply CW.ret) | refine RL.nil ?_ | refine CW.condT rfl ?_)
     exact Fin.retL hok rfl aRfl (Sels.all _) ⟨own3, q3, u, rfl, rfl, g1, g2, by have : q1.ids ≤ q3.ids := g3; omega, fun _ => by omega⟩
    | stop e =>
     rw [hI]
     repeat (first | (with_reducible first | apply aN | apply aR | apply iR | apply CW.ret) | refine RL.nil ?_ | refine CW.condT rfl ?_)
     exact Fin.retL hok rfl aRfl (Sels.all _) ⟨own3, q3, u, rfl, rfl, g1, g2, by have : q1.ids ≤ q3.ids := g3; omega, fun hne => absurd rfl (hne e)⟩
 ·have hjl : j = s.hs.length := by
   have : ¬ (s.hs.length : Int) - 1 - (j : Int) ≥ 0 := of_decide_eq_false hge
   omega
  subst hjl
  rw [List.drop_length, raiseL] at hI
  rw [hI]
  repeat (with_reducible first | apply aX | apply iH | apply CW.exit)
  exact Fin.retL hok rfl aRfl (Sels.all _) ⟨own1, q1, 0, rfl, rfl, rfl, ⟨rfl, hpre.go⟩, hids, fun _ => hbud⟩
end Go.Proofs.YtdeiinhccdlfiaaGreat

/- Chapter 19, seat .Z: contracts of the reference's run: guards. -/
namespace Go.Proofs.YtdeiinhccdlfiaaGreat
open Go.AE Go.Cond

set_option maxRecDepth 10000 in
set_option maxHeartbeats 2000000 in
theorem rGuard_spec (rb : Nat) (P : List CExp) {f : Nat} (ih : BelowR rb P f) (own : Own) {q q1 : RS} {s : Sc} {c : List (Int × Nat)} {a b : CExp} (h : PreR P (.guard a b) s c q) (hf : q.st.fuel < f) {o1 : Out} (hr : run P a s q.st = (o1, q1.st)) {u : Int} (hO : OutR c q1 u o1) (hi : q.ids ≤ q1.ids) (hbd : (∀ e, o1 ≠ .stop e) → q1.ids + 2 * q1.st.fuel ≤ q.ids + 2 * q.st.fuel - 1) :
  LCalls Tryz.prog 92 [.ptr rb 0, (rawE (.guard a b)).av, scR s c, .int .i64 u] (qK rb P own q1) (RPost rb P c q.ids (q.ids + 2 * q.st.fuel) (behind (o1, q1.st) (s.ev 5 0 0) fun st => run P b s st)) := by
 have hpos : ∀ r ∈ c, 0 < r.2 := fun r hr => (h.ids r hr).1
 have hph := run_phi P (q.st.fuel + 1) a s q.st (Nat.lt_succ_self _)
 rw [hr] at hph
 unfold rawE
 rw [av_mk]
 refine LCalls.of_CW tO call92 Tryz.func92 rfl rfl fun s₀ hok => ?_
 cases o1 with
 | stop e =>
  obtain ⟨st1, ids1, fin1, ended1, to1, val1⟩ := q1
  obtain ⟨e1, e2⟩ := hO
  simp only at e1 e2 hi
  subst e1 e2
  unfold scR hdsA rssA
  unfold qK rCells at hok ⊢
  simp only at hok ⊢
  repeat (first | (with_reducible first | apply CW.seq | apply aN | apply aR | apply CW.ret) | refine wR rfl ?_ | refine CW.reg ?_ | refine RL.nil ?_ | refine CW.condT rfl ?_ | refine wS rfl ?_ | refine RL.loadL tO hok rfl rfl rfl rfl rfl rfl (by repeat (first | exact Sel.here | apply Sel.there)) (by exact rfl) ?_)
  exact Fin.retL hok rfl aRfl (Sels.all _) ⟨own, ⟨st1, ids1, e.num, true, to1, val1⟩, 0, rfl, rfl, rfl, ⟨rfl, rfl⟩, hi, fun hne => absurd rfl (hne e)⟩
 | val v =>
  obtain ⟨hp1, hf1⟩ := h.next (q' := { q1 with to := 0 }) (y := b) hr (by simp) hi (hbd (by simp)) ⟨hO.2.1, rfl, hO.2.2.2⟩ h.x.2
  obtain ⟨st1, ids1, fin1, ended1, to1, val1⟩ := q1
  obtain ⟨e0, e1, e2, e3⟩ := hO
  have hbd := hbd (by simp)
  simp only at e0 e1 e2 e3 hi hr hbd hp1 hf1
  subst e0 e1 e2 e3
  have hfb : st1.fuel < f := by omega
  unfold scR hdsA rssA
  unfold qK rCells at hok ⊢
  simp only at hok ⊢
  repeat (first | (with_reducible first | apply CW.seq | apply aN | apply CW.skip) | refine wR rfl ?_ | refine CW.reg ?_ | refine RL.nil ?_ | refine CW.condF rfl ?_ | refine wS rfl ?_ | refine RL.loadL tO hok rfl rfl rfl rfl rfl rfl (by repeat (first | exact Sel.here | apply Sel.there)) (by exact rfl) ?_)
  have hJ := JS.one (s := sto s₀ _) (Sel.get (b := rb) (by repeat (first | exact Sel.here | apply Sel.there)) hok)
  refine CW.drwJ _ tO mixed rfl (RJ.run hJ rfl ?_)
  refine RJ.loadA 3 tO hJ rfl rfl rfl rfl rfl rfl rfl rfl (fun s h => h.1) (v := .int .i64 ((0 : Nat) : Int)) rfl ?_
  refine RJ.run hJ rfl ?_
  refine RJ.loadA 7 tO hJ rfl rfl rfl rfl rfl rfl rfl rfl (fun s h => h.1) (v := .int .i64 val1) rfl ?_
  refine RJ.run hJ rfl (RD.done rfl ?_)
  rcases hr2 : run P b s st1 with ⟨o2, st2⟩
  have hcall := fun own => ih.get hp1 hfb own
  simp only [hr2] at hcall
  repeat (first | (with_reducible first | apply CW.seq | apply aN | apply CW.skip) | refine wR rfl ?_ | refine CW.reg ?_ | refine RL.nil ?_ | refine CW.condF rfl ?_ | refine wS rfl ?_ | refine RL.storeL tO hok rfl rfl rfl rfl rfl rfl rfl rfl rfl (by repeat (first | exact Sel.here | apply Sel.there)) (by exact rfl) (fun hok => ?_))
  refine CW.drw tO mixed rfl (RD.run rfl ?_)
  refine RD.idx 3 1 rfl rfl rfl rfl rfl rfl rfl rfl rfl rfl rfl rfl rfl (congrArg some (CRaw.av_eq _)) rfl ?_; refine RD.run rfl ?_
  refine RD.callL 6 rfl rfl rfl rfl rfl rfl rfl (hcall _) hok (Sels.all _) ?_ (fun _ _ ⟨_, _, _, h, _⟩ _ => by cases h)
  rintro _ _ ⟨own3, q3, u3, ⟨⟩, rfl, g1, g2, g3, g4⟩ hok
  simp only at g1 g2 g3 g4
  rw [List.append_nil] at hok ⊢
  refine RD.run rfl (RD.done rfl ?_)
  have hgone := rGone_spec rb P own3 q3
  rw [g2.gone hpos] at hgone
  repeat (first | (with_reducible first | apply CW.seq | apply aN) | refine CW.reg ?_ | refine wS rfl ?_)
  refine RL.callL rfl rfl rfl rfl rfl hgone hok (Sels.all _) ?_ (fun _ _ ⟨h, _⟩ _ => by cases h)
  rintro _ _ ⟨⟨⟩, rfl⟩ hok
  rw [List.append_nil] at hok ⊢
  cases o2 with
  | leave d2 w =>
   have hrun : behind (.val u, st1) (s.ev 5 0 0) (fun st => run P b s st) = (.leave d2 w, st2) := by simp only [behind]; rw [hr2]; rfl
   have g4' := g4 (by simp)
   rw [hrun]
   repeat (first | (with_reducible first | apply CW.seq | apply aN | apply CW.ret | apply CW.skip) | refine wR rfl ?_ | refine RL.nil ?_ | refine CW.condF rfl ?_ | refine wS rfl ?_ | refine RL.skip rfl rfl rfl ?_)
   exact Fin.retL hok rfl aRfl (Sels.all _) ⟨own3, q3, _, rfl, rfl, g1, g2, by omega, fun _ => by omega⟩
  | stop e =>
   have hrun : behind (.val u, st1) (s.ev 5 0 0) (fun st => run P b s st) = (.stop e, st2) := by simp only [behind]; rw [hr2]; rfl
   rw [hrun]
   repeat (first | (with_reducible first | apply CW.seq | apply aN | apply CW.ret | apply CW.skip) | refine wR rfl ?_ | refine RL.nil ?_ | refine CW.condF rfl ?_ | refine wS rfl ?_ | refine RL.skip rfl rfl rfl ?_)
   exact Fin.retL hok rfl aRfl (Sels.all _) ⟨own3, q3, _, rfl, rfl, g1, g2, by omega, fun hne => absurd rfl (hne e)⟩
  | val w =>
   have hrun : behind (.val u, st1) (s.ev 5 0 0) (fun st => run P b s st) = (Out.val u, st2) := by simp only [behind]; rw [hr2]; rfl
   have g4' := g4 (by simp)
   rw [hrun]
   obtain ⟨st3, ids3, fin3, ended3, to3, val3⟩ := q3
   obtain ⟨-, e1, e2, e3⟩ := g2
   simp only at g1 g3 g4' e1 e2 e3
   subst e1 e2 e3
   unfold qK rCells at hok ⊢
   simp only at hok ⊢
   repeat (first | (with_reducible first | apply CW.seq | apply aN | apply CW.ret | apply CW.skip) | refine wR rfl ?_ | refine RL.nil ?_ | refine CW.condF rfl ?_ | refine wS rfl ?_)
   exact Fin.retL (K := qK rb P own3 ⟨st3, ids3, 0, false, 0, val3⟩) hok rfl aRfl (by simp only [qK, rCells]; repeat (first | exact Sels.nil | (apply Sels.cons; · repeat (first | exact Sel.here | apply Sel.there)))) ⟨own3, ⟨st3, ids3, 0, false, 0, val3⟩, u, rfl, rfl, g1, ⟨rfl, rfl, rfl, rfl⟩, by simp only; omega, fun _ => by simp only; omega⟩
 | leave d v =>
  obtain ⟨hp0, hf1⟩ := h.next (q' := { q1 with to := 0 }) (y := b) hr (by simp) hi (hbd (by simp)) ⟨hO.1, rfl, hO.2.1⟩ h.x.2
  have hph : Cond.phi q1.st ≤ Cond.phi q.st - 1 := hph
  have hp1 := hp0.tell (s' := s) (by have := h.phi; show Cond.phi q1.st + 1 ≤ 2000; omega) h.x.2 h.sc rfl (Nat.le_refl _) (s.ev 5 0 0)
  have htell := fun own => rTell_spec rb P own { q1 with to := 0 } s c h.rs hp0.small 5 0 0
  obtain ⟨st1, ids1, fin1, ended1, to1, val1⟩ := q1
  obtain ⟨e1, e2, e3, n, e4⟩ := hO
  have hto := hpos _ (List.mem_of_getElem? e4)
  have hbd := hbd (by simp)
  simp only at e1 e2 e3 e4 hto hi hr hbd hp1 hf1 htell
  subst e1 e2 e3
  have hfb : (st1.tell (s.ev 5 0 0)).fuel < f := by show st1.fuel < f; omega
  unfold scR hdsA rssA at htell ⊢
  unfold qK rCells at hok ⊢
  simp only at hok ⊢
  repeat (first | (with_reducible first | apply CW.seq | apply aN | apply CW.skip) | refine wR rfl ?_ | refine CW.reg ?_ | refine RL.nil ?_ | refine CW.condF rfl ?_ | refine wS rfl ?_ | refine RL.loadL tO hok rfl rfl rfl rfl rfl rfl (by repeat (first | exact Sel.here | apply Sel.there)) (by exact rfl) ?_)
  have hJ := JS.one (s := sto s₀ _) (Sel.get (b := rb) (by repeat (first | exact Sel.here | apply Sel.there)) hok)
  refine CW.drwJ _ tO mixed rfl (RJ.run hJ rfl ?_)
  refine RJ.loadA 3 tO hJ rfl rfl rfl rfl rfl rfl rfl rfl (fun s h => h.1) (v := .int .i64 (to1 : Int)) rfl ?_
  refine RJ.run hJ rfl ?_
  refine RJ.loadA 7 tO hJ rfl rfl rfl rfl rfl rfl rfl rfl (fun s h => h.1) (v := .int .i64 val1) rfl ?_
  refine RJ.run hJ rfl (RD.done rfl ?_)
  repeat (first | (with_reducible first | apply CW.seq | apply aN) | refine wR rfl ?_ | refine CW.reg ?_ | refine RL.nil ?_ | refine wS rfl ?_ | refine RL.storeL tO hok rfl rfl rfl rfl rfl rfl rfl rfl rfl (by repeat (first | exact Sel.here | apply Sel.there)) (by exact rfl) (fun hok => ?_))
  refine CW.cond rfl (fun hh => ?_) (fun hh => absurd hh (by simp; omega))
  repeat (first | refine CW.reg ?_ | refine wS rfl ?_)
  refine RL.callL rfl rfl rfl rfl rfl (htell own) hok (Sels.all _) ?_ (fun _ _ ⟨h, _⟩ _ => by cases h)
  rintro _ _ ⟨⟨⟩, own2, rfl⟩ hok
  rw [List.append_nil] at hok ⊢
  have hbd' : ids1 + 2 * (st1.tell (s.ev 5 0 0)).fuel ≤ q.ids + 2 * q.st.fuel - 1 := by
   have : (st1.tell (s.ev 5 0 0)).fuel = st1.fuel := rfl
   omega
  rcases hr2 : run P b s (st1.tell (s.ev 5 0 0)) with ⟨o2, st2⟩
  have hcall := fun own => ih.get hp1 hfb own
  simp only [hr2] at hcall
  repeat (first | (with_reducible first | apply CW.seq | apply aN) | refine RL.nil ?_)
  refine CW.drw tO mixed rfl (RD.run rfl ?_)
  refine RD.idx 3 1 rfl rfl rfl rfl rfl rfl rfl rfl rfl rfl rfl rfl rfl (congrArg some (CRaw.av_eq _)) rfl ?_; refine RD.run rfl ?_
  refine RD.callL 6 rfl rfl rfl rfl rfl rfl rfl (hcall _) hok (Sels.all _) ?_ (fun _ _ ⟨_, _, _, h, _⟩ _ => by cases h)
  rintro _ _ ⟨own3, q3, u3, ⟨⟩, rfl, g1, g2, g3, g4⟩ hok
  simp only at g1 g2 g3 g4
  rw [List.append_nil] at hok ⊢
  refine RD.run rfl (RD.done rfl ?_)
  have hgone := rGone_spec rb P own3 q3
  rw [g2.gone hpos] at hgone
  repeat (first | (with_reducible first | apply CW.seq | apply aN) | refine CW.reg ?_ | refine wS rfl ?_)
  refine RL.callL rfl rfl rfl rfl rfl hgone hok (Sels.all _) ?_ (fun _ _ ⟨h, _⟩ _ => by cases h)
  rintro _ _ ⟨⟨⟩, rfl⟩ hok
  rw [List.append_nil] at hok ⊢
  cases o2 with
  | leave d2 w =>
   have hrun : behind (.leave d val1, st1) (s.ev 5 0 0) (fun st => run P b s st) = (.leave d2 w, st2) := by simp only [behind]; rw [hr2]; rfl
   have g4' := g4 (by simp)
   rw [hrun]
   repeat (first | (with_reducible first | apply CW.seq | apply aN | apply CW.ret | apply CW.skip) | refine wR rfl ?_ | refine RL.nil ?_ | refine CW.condF rfl ?_ | refine wS rfl ?_ | refine RL.skip rfl rfl rfl ?_)
   exact Fin.retL hok rfl aRfl (Sels.all _) ⟨own3, q3, _, rfl, rfl, g1, g2, by omega, fun _ => by omega⟩
  | stop e =>
   have hrun : behind (.leave d val1, st1) (s.ev 5 0 0) (fun st => run P b s st) = (.stop e, st2) := by simp only [behind]; rw [hr2]; rfl
   rw [hrun]
   repeat (first | (with_reducible first | apply CW.seq | apply aN | apply CW.ret | apply CW.skip) | refine wR rfl ?_ | refine RL.nil ?_ | refine CW.condF rfl ?_ | refine wS rfl ?_ | refine RL.skip rfl rfl rfl ?_)
   exact Fin.retL hok rfl aRfl (Sels.all _) ⟨own3, q3, _, rfl, rfl, g1, g2, by omega, fun hne => absurd rfl (hne e)⟩
  | val w =>
   have hrun : behind (.leave d val1, st1) (s.ev 5 0 0) (fun st => run P b s st) = (Out.leave d val1, st2) := by simp only [behind]; rw [hr2]; rfl
   have g4' := g4 (by simp)
   rw [hrun]
   obtain ⟨st3, ids3, fin3, ended3, to3, val3⟩ := q3
   obtain ⟨-, e1, e2, e3⟩ := g2
   simp only at g1 g3 g4' e1 e2 e3
   subst e1 e2 e3
   unfold qK rCells at hok ⊢
   simp only at hok ⊢
   repeat (first | with_reducible apply aN | refine RL.nil ?_ | refine wS rfl ?_)
   refine CW.cond rfl (fun hh => ?_) (fun hh => absurd hh (by simp; omega))
   repeat (first | (with_reducible first | apply CW.seq | apply aN | apply CW.ret) | refine wR rfl ?_ | refine CW.reg ?_ | refine RL.nil ?_ | refine wS rfl ?_ | refine RL.storeL tO hok rfl rfl rfl rfl rfl rfl rfl rfl rfl (by repeat (first | exact Sel.here | apply Sel.there)) (by exact rfl) (fun hok => ?_))
   exact Fin.retL (K := qK rb P own3 ⟨st3, ids3, 0, false, to1, val1⟩) hok rfl aRfl (by simp only [qK, rCells]; repeat (first | exact Sels.nil | (apply Sels.cons; · repeat (first | exact Sel.here | apply Sel.there)))) ⟨own3, ⟨st3, ids3, 0, false, to1, val1⟩, u, rfl, rfl, g1, ⟨rfl, rfl, rfl, n, e4⟩, by simp only; omega, fun _ => by simp only; omega⟩
end Go.Proofs.YtdeiinhccdlfiaaGreat

/- Chapter 19, seat .Z: contracts of the reference's run: what is done behind the first kid. -/
namespace Go.Proofs.YtdeiinhccdlfiaaGreat
open Go.AE Go.Cond

theorem RPost.mono {rb : Nat} {P : List CExp} {c : List (Int × Nat)} {i0 b0 i1 b1 : Nat} {r : Res} {o : AOut} {K : LS} (h : RPost rb P c i0 b0 r o K) (hi : i1 ≤ i0) (hb : b0 ≤ b1) : RPost rb P c i1 b1 r o K := by
 obtain ⟨own, q, u, h1, h2, h3, h4, h5, h6⟩ := h
 exact ⟨own, q, u, h1, h2, h3, h4, by omega, fun hne => by have := h6 hne; omega⟩
theorem OutR.other {c : List (Int × Nat)} {q : RS} {u u' : Int} {o : Out} (h : OutR c q u o) (hu : ∀ w, o = .val w → u' = w) : OutR c q u' o := by
 cases o with
 | val v => exact ⟨hu v rfl, h.2⟩
 | leave d v => exact h
 | stop e => exact h
theorem PreR.at {P : List CExp} {x y : CExp} {s : Sc} {c : List (Int × Nat)} {q : RS} (h : PreR P x s c q) (hy : OkE P.length y) : PreR P y s c q := ⟨hy, h.sc, h.rs, h.go, h.ids, h.hs, h.rl, h.phi, h.picks, h.pl, h.cap⟩
theorem PreR.with {P : List CExp} {x y : CExp} {s : Sc} {c : List (Int × Nat)} {q : RS} (h : PreR P x s c q) (hy : OkE P.length y) {v : Int} (hv : InR v) : PreR P y (s.with v) c q := ⟨hy, ⟨hv, h.sc.hs⟩, h.rs, h.go, h.ids, h.hs, h.rl, h.phi, h.picks, h.pl, h.cap⟩
theorem PreR.val {P : List CExp} (hP : ∀ e ∈ P, OkE P.length e) {x y : CExp} {s : Sc} {c : List (Int × Nat)} {q : RS} (h : PreR P x s c q) (hy : OkE P.length y) {v : Int} {st : Cond.St} (hr : run P y s q.st = (.val v, st)) : InR v := by
 have := run_ok hP rfl (q.st.fuel + 1) y s q.st hy h.sc (Nat.lt_succ_self _)
 rw [hr] at this
 exact this
theorem PreR.pos {P : List CExp} {x : CExp} {s : Sc} {c : List (Int × Nat)} {q : RS} (h : PreR P x s c q) : ∀ r ∈ c, 0 < r.2 := fun r hr => (h.ids r hr).1
theorem PreR.after {P : List CExp} {x : CExp} {s : Sc} {c : List (Int × Nat)} {q : RS} (h : PreR P x s c q) {z : CExp} {s' : Sc} {v u : Int} {q' : RS} (hr : run P z s' q.st = (.val v, q'.st)) (hi : q.ids ≤ q'.ids) (hb : (∀ e, (Out.val v) ≠ .stop e) → q'.ids + 2 * q'.st.fuel ≤ q.ids + 2 * q.st.fuel - 1) (hO : OutR c q' u (.val v)) {y : CExp} (hy : OkE P.length y) :
  PreR P y s c q' ∧ q'.st.fuel < q.st.fuel ∧ q'.ids + 2 * q'.st.fuel ≤ q.ids + 2 * q.st.fuel - 1 :=
 have h1 := h.next hr (by simp) hi (hb (by simp)) hO.2 hy
 ⟨h1.1, h1.2, hb (by simp)⟩
def RestR (rb : Nat) (P : List CExp) (x : CExp) (s : Sc) (c : List (Int × Nat)) (q : RS) (r : Res) : Prop :=
 ∀ own, LCalls Tryz.prog 75 [.ptr rb 0, (rawE x).av, scR s c] (qK rb P own q) (RPost rb P c q.ids (q.ids + 2 * q.st.fuel) r)
section
variable {rb : Nat} {P : List CExp} {f : Nat}
set_option maxRecDepth 10000 in
set_option maxHeartbeats 1000000 in
theorem rSeq (ih : BelowR rb P f) {a b : CExp} {s : Sc} {c : List (Int × Nat)} {q : RS} (h : PreR P (.seq a b) s c q) (hf : q.st.fuel < f) :
  RestR rb P (.seq a b) s c q (andThen (run P a s q.st) fun _ st => run P b s st) := by
 intro own
 have hcall := fun own => ih.get (h.at (y := a) h.x.1) hf own
 rcases hr : run P a s q.st with ⟨o1, st1⟩
 simp only [hr] at hcall
 unfold rawE scR hdsA rssA
 rw [av_mk]
 refine LCalls.of_CW tO call75 Tryz.func75 rfl rfl fun s₀ hok => ?_
 repeat (first | (with_reducible first | apply CW.seq | apply aN) | refine wR rfl ?_)
 refine CW.drw tO mixed rfl (RD.run rfl ?_)
 refine RD.idx 3 0 rfl rfl rfl rfl rfl rfl rfl rfl rfl rfl rfl rfl rfl (congrArg some (CRaw.av_eq _)) rfl ?_; refine RD.run rfl ?_
 refine RD.callL 6 rfl rfl rfl rfl rfl rfl rfl (hcall own) hok (Sels.all _) ?_ (fun _ _ ⟨_, _, _, h, _⟩ _ => by cases h)
 rintro _ _ ⟨own1, q1, u1, ⟨⟩, rfl, g1, g2, g3, g4⟩ hok
 simp only at g1 g2 g3 g4
 rw [List.append_nil] at hok ⊢
 refine RD.run rfl (RD.done rfl ?_)
 have hgone := rGone_spec rb P own1 q1
 rw [g2.gone h.pos] at hgone
 repeat (first | (with_reducible first | apply CW.seq | apply aN | apply CW.skip) | refine wR rfl ?_ | refine CW.reg ?_ | refine CW.condF rfl ?_ | refine wS rfl ?_)
 refine RL.callL rfl rfl rfl rfl rfl hgone hok (Sels.all _) ?_ (fun _ _ ⟨h, _⟩ _ => by cases h)
 rintro _ _ ⟨⟨⟩, rfl⟩ hok
 rw [List.append_nil] at hok ⊢
 cases o1 with
 | leave d w =>
  repeat (first | (with_reducible first | apply CW.seq | apply aN | apply aR | apply CW.ret) | refine wR rfl ?_ | refine RL.nil ?_ | refine CW.condT rfl ?_)
  exact Fin.retL hok rfl aRfl (Sels.all _) ⟨own1, q1, 0, rfl, rfl, g1, g2, g3, fun _ => by have := g4 (by simp); omega⟩
 | stop e =>
  repeat (first | (with_reducible first | apply CW.seq | apply aN | apply aR | apply CW.ret) | refine wR rfl ?_ | refine RL.nil ?_ | refine CW.condT rfl ?_)
  exact Fin.retL hok rfl aRfl (Sels.all _) ⟨own1, q1, 0, rfl, rfl, g1, g2, g3, fun hne => absurd rfl (hne e)⟩
 | val v =>
 obtain rfl : u1 = v := g2.1
 subst g1
 obtain ⟨h1, hf1, hb1⟩ := h.after hr g3 g4 g2 (y := b) h.x.2
 have hcall := ih.get h1 (by omega) own1
 repeat (first | (with_reducible first | apply CW.seq | apply aN | apply CW.skip | apply CW.block) | refine wR rfl ?_ | refine RL.nil ?_ | refine CW.condT rfl ?_ | refine CW.condF rfl ?_)
 refine CW.drw tO mixed rfl (RD.run rfl ?_)
 refine RD.idx 3 1 rfl rfl rfl rfl rfl rfl rfl rfl rfl rfl rfl rfl rfl (congrArg some (CRaw.av_eq _)) rfl ?_; refine RD.run rfl ?_
 refine RD.callL 6 rfl rfl rfl rfl rfl rfl rfl hcall hok (Sels.all _) ?_ (fun _ _ ⟨_, _, _, h, _⟩ _ => by cases h)
 rintro _ _ ⟨own2, q2, u2, ⟨⟩, rfl, k1, k2, k3, k4⟩ hok
 rw [List.append_nil] at hok ⊢
 refine RD.run rfl (RD.done rfl ?_)
 repeat (with_reducible first | apply aN | apply aR | apply iR | apply CW.ret)
 exact Fin.retL hok rfl aRfl (Sels.all _) (RPost.mono ⟨own2, q2, u2, rfl, rfl, k1, k2, k3, k4⟩ g3 (by omega))
set_option maxRecDepth 10000 in
set_option maxHeartbeats 1000000 in
theorem rTest (ih : BelowR rb P f) {a b d : CExp} {s : Sc} {c : List (Int × Nat)} {q : RS} (h : PreR P (.test a b d) s c q) (hf : q.st.fuel < f) :
  RestR rb P (.test a b d) s c q (andThen (run P a s q.st) fun v st => if v = 0 then run P d s st else run P b s st) := by
 intro own
 have hcall := fun own => ih.get (h.at (y := a) h.x.1) hf own
 rcases hr : run P a s q.st with ⟨o1, st1⟩
 simp only [hr] at hcall
 unfold rawE scR hdsA rssA
 rw [av_mk]
 refine LCalls.of_CW tO call75 Tryz.func75 rfl rfl fun s₀ hok => ?_
 repeat (first | (with_reducible first | apply CW.seq | apply aN) | refine wR rfl ?_)
 refine CW.drw tO mixed rfl (RD.run rfl ?_)
 refine RD.idx 3 0 rfl rfl rfl rfl rfl rfl rfl rfl rfl rfl rfl rfl rfl (congrArg some (CRaw.av_eq _)) rfl ?_; refine RD.run rfl ?_
 refine RD.callL 6 rfl rfl rfl rfl rfl rfl rfl (hcall own) hok (Sels.all _) ?_ (fun _ _ ⟨_, _, _, h, _⟩ _ => by cases h)
 rintro _ _ ⟨own1, q1, u1, ⟨⟩, rfl, g1, g2, g3, g4⟩ hok
 simp only at g1 g2 g3 g4
 rw [List.append_nil] at hok ⊢
 refine RD.run rfl (RD.done rfl ?_)
 have hgone := rGone_spec rb P own1 q1
 rw [g2.gone h.pos] at hgone
 repeat (first | (with_reducible first | apply CW.seq | apply aN | apply CW.skip) | refine wR rfl ?_ | refine CW.reg ?_ | refine CW.condF rfl ?_ | refine wS rfl ?_)
 refine RL.callL rfl rfl rfl rfl rfl hgone hok (Sels.all _) ?_ (fun _ _ ⟨h, _⟩ _ => by cases h)
 rintro _ _ ⟨⟨⟩, rfl⟩ hok
 rw [List.append_nil] at hok ⊢
 cases o1 with
 | leave d w =>
  repeat (first | (with_reducible first | apply CW.seq | apply aN | apply aR | apply CW.ret) | refine wR rfl ?_ | refine RL.nil ?_ | refine CW.condT rfl ?_)
  exact Fin.retL hok rfl aRfl (Sels.all _) ⟨own1, q1, 0, rfl, rfl, g1, g2, g3, fun _ => by have := g4 (by simp); omega⟩
 | stop e =>
  repeat (first | (with_reducible first | apply CW.seq | apply aN | apply aR | apply CW.ret) | refine wR rfl ?_ | refine RL.nil ?_ | refine CW.condT rfl ?_)
  exact Fin.retL hok rfl aRfl (Sels.all _) ⟨own1, q1, 0, rfl, rfl, g1, g2, g3, fun hne => absurd rfl (hne e)⟩
 | val v =>
 obtain rfl : u1 = v := g2.1
 subst g1
 obtain ⟨h1, hf1, hb1⟩ := h.after hr g3 g4 g2 (y := b) h.x.2.1
 have h2 := h1.at (y := d) h.x.2.2
 repeat (first | (with_reducible first | apply CW.seq | apply aN | apply CW.skip | apply CW.block) | refine wR rfl ?_ | refine RL.nil ?_ | refine CW.condT rfl ?_ | refine CW.condF rfl ?_)
 refine CW.cond rfl (fun hh => ?_) (fun hh => ?_)
 ·have h0 : u1 ≠ 0 := by simpa using hh
  have hcall := ih.get h1 (by omega) own1
  repeat (first | with_reducible apply CW.seq)
  refine CW.drw tO mixed rfl (RD.run rfl ?_)
  refine RD.idx 3 1 rfl rfl rfl rfl rfl rfl rfl rfl rfl rfl rfl rfl rfl (congrArg some (CRaw.av_eq _)) rfl ?_; refine RD.run rfl ?_
  refine RD.callL 6 rfl rfl rfl rfl rfl rfl rfl hcall hok (Sels.all _) ?_ (fun _ _ ⟨_, _, _, h, _⟩ _ => by cases h)
  rintro _ _ ⟨own2, q2, u2, ⟨⟩, rfl, k1, k2, k3, k4⟩ hok
  rw [List.append_nil] at hok ⊢
  refine RD.run rfl (RD.done rfl ?_)
  repeat (with_reducible first | apply aN | apply aR | apply iR | apply CW.ret)
  exact Fin.retL hok rfl aRfl (Sels.all _) (by
   show RPost rb P c _ _ (if u1 = 0 then run P d s q1.st else run P b s q1.st) _ _
   rw [if_neg h0]
   exact RPost.mono ⟨own2, q2, u2, rfl, rfl, k1, k2, k3, k4⟩ g3 (by omega))
 ·have h0 : u1 = 0 := by simpa using hh
  have hcall := ih.get h2 (by omega) own1
  repeat (with_reducible first | apply CW.seq | apply aN | apply CW.skip)
  refine CW.drw tO mixed rfl (RD.run rfl ?_)
  refine RD.idx 3 2 rfl rfl rfl rfl rfl rfl rfl rfl rfl rfl rfl rfl rfl (congrArg some (CRaw.av_eq _)) rfl ?_; refine RD.run rfl ?_
  refine RD.callL 6 rfl rfl rfl rfl rfl rfl rfl hcall hok (Sels.all _) ?_ (fun _ _ ⟨_, _, _, h, _⟩ _ => by cases h)
  rintro _ _ ⟨own2, q2, u2, ⟨⟩, rfl, k1, k2, k3, k4⟩ hok
  rw [List.append_nil] at hok ⊢
  refine RD.run rfl (RD.done rfl ?_)
  repeat (with_reducible first | apply aN | apply aR | apply iR | apply CW.ret)
  exact Fin.retL hok rfl aRfl (Sels.all _) (by
   show RPost rb P c _ _ (if u1 = 0 then run P d s q1.st else run P b s q1.st) _ _
   rw [if_pos h0]
   exact RPost.mono ⟨own2, q2, u2, rfl, rfl, k1, k2, k3, k4⟩ g3 (by omega))
set_option maxRecDepth 10000 in
set_option maxHeartbeats 1000000 in
theorem rAdd (hP : ∀ e ∈ P, OkE P.length e) (ih : BelowR rb P f) {a b : CExp} {s : Sc} {c : List (Int × Nat)} {q : RS} (h : PreR P (.add a b) s c q) (hf : q.st.fuel < f) :
  RestR rb P (.add a b) s c q (andThen (run P a s q.st) fun v st => andThen (run P b s st) fun u st => (.val (clamp (v + u)), st)) := by
 intro own
 have hcall := fun own => ih.get (h.at (y := a) h.x.1) hf own
 rcases hr : run P a s q.st with ⟨o1, st1⟩
 simp only [hr] at hcall
 unfold rawE scR hdsA rssA
 rw [av_mk]
 refine LCalls.of_CW tO call75 Tryz.func75 rfl rfl fun s₀ hok => ?_
 repeat (first | (with_reducible first | apply CW.seq | apply aN) | refine wR rfl ?_)
 refine CW.drw tO mixed rfl (RD.run rfl ?_)
 refine RD.idx 3 0 rfl rfl rfl rfl rfl rfl rfl rfl rfl rfl rfl rfl rfl (congrArg some (CRaw.av_eq _)) rfl ?_; refine RD.run rfl ?_
 refine RD.callL 6 rfl rfl rfl rfl rfl rfl rfl (hcall own) hok (Sels.all _) ?_ (fun _ _ ⟨_, _, _, h, _⟩ _ => by cases h)
 rintro _ _ ⟨own1, q1, u1, ⟨⟩, rfl, g1, g2, g3, g4⟩ hok
 simp only at g1 g2 g3 g4
 rw [List.append_nil] at hok ⊢
 refine RD.run rfl (RD.done rfl ?_)
 have hgone := rGone_spec rb P own1 q1
 rw [g2.gone h.pos] at hgone
 repeat (first | (with_reducible first | apply CW.seq | apply aN | apply CW.skip) | refine wR rfl ?_ | refine CW.reg ?_ | refine CW.condF rfl ?_ | refine wS rfl ?_)
 refine RL.callL rfl rfl rfl rfl rfl hgone hok (Sels.all _) ?_ (fun _ _ ⟨h, _⟩ _ => by cases h)
 rintro _ _ ⟨⟨⟩, rfl⟩ hok
 rw [List.append_nil] at hok ⊢
 cases o1 with
 | leave d w =>
  repeat (first | (with_reducible first | apply CW.seq | apply aN | apply aR | apply CW.ret) | refine wR rfl ?_ | refine RL.nil ?_ | refine CW.condT rfl ?_)
  exact Fin.retL hok rfl aRfl (Sels.all _) ⟨own1, q1, 0, rfl, rfl, g1, g2, g3, fun _ => by have := g4 (by simp); omega⟩
 | stop e =>
  repeat (first | (with_reducible first | apply CW.seq | apply aN | apply aR | apply CW.ret) | refine wR rfl ?_ | refine RL.nil ?_ | refine CW.condT rfl ?_)
  exact Fin.retL hok rfl aRfl (Sels.all _) ⟨own1, q1, 0, rfl, rfl, g1, g2, g3, fun hne => absurd rfl (hne e)⟩
 | val v =>
 obtain rfl : u1 = v := g2.1
 subst g1
 obtain ⟨h1, hf1, hb1⟩ := h.after hr g3 g4 g2 (y := b) h.x.2
 have hv := h.val hP h.x.1 hr
 have hcall := ih.get h1 (by omega) own1
 rcases hr2 : run P b s q1.st with ⟨o2, st2⟩
 simp only [hr2] at hcall
 have hres : andThen (Out.val u1, q1.st) (fun v st => andThen (run P b s st) fun u st => (.val (clamp (v + u)), st)) = andThen (o2, st2) fun u st => (.val (clamp (u1 + u)), st) := by
  simp only [andThen]; rw [hr2]
 rw [hres]
 repeat (first | (with_reducible first | apply CW.seq | apply aN | apply CW.skip | apply CW.block) | refine wR rfl ?_ | refine RL.nil ?_ | refine CW.condT rfl ?_ | refine CW.condF rfl ?_)
 refine CW.drw tO mixed rfl (RD.run rfl ?_)
 refine RD.idx 4 1 rfl rfl rfl rfl rfl rfl rfl rfl rfl rfl rfl rfl rfl (congrArg some (CRaw.av_eq _)) rfl ?_; refine RD.run rfl ?_
 refine RD.callL 7 rfl rfl rfl rfl rfl rfl rfl hcall hok (Sels.all _) ?_ (fun _ _ ⟨_, _, _, h, _⟩ _ => by cases h)
 rintro _ _ ⟨own2, q2, u2, ⟨⟩, rfl, k1, k2, k3, k4⟩ hok
 simp only at k1 k2 k3 k4
 rw [List.append_nil] at hok ⊢
 refine RD.run rfl ?_
 refine RD.calmPP (i := 9) rfl rfl rfl rfl rfl rfl rfl (rClamp_spec _) ?_; refine RD.run rfl ?_
 refine RD.done rfl ?_
 repeat (with_reducible first | apply aN | apply aR | apply iR | apply CW.ret)
 cases o2 with
 | val w =>
  have hw := h1.val hP h1.x hr2
  obtain ⟨rfl, k2⟩ := k2
  have hc : clamp (IntKind.wrap .i64 (u1 + u2)) = clamp (u1 + u2) := by
   unfold InR at hv hw
   rw [i64_wrap (by omega) (by omega)]
  exact Fin.retL hok rfl aRfl (Sels.all _) ⟨own2, q2, _, rfl, rfl, k1, ⟨hc, k2⟩, by omega, fun _ => by have := k4 (by simp); omega⟩
 | leave d w => exact Fin.retL hok rfl aRfl (Sels.all _) ⟨own2, q2, _, rfl, rfl, k1, k2, by omega, fun _ => by have := k4 (by simp); omega⟩
 | stop e => exact Fin.retL hok rfl aRfl (Sels.all _) ⟨own2, q2, _, rfl, rfl, k1, k2, by omega, fun hne => absurd rfl (hne e)⟩
set_option maxRecDepth 10000 in
set_option maxHeartbeats 1000000 in
theorem rSay (ih : BelowR rb P f) {a : CExp} {s : Sc} {c : List (Int × Nat)} {q : RS} (h : PreR P (.say a) s c q) (hf : q.st.fuel < f) :
  RestR rb P (.say a) s c q (andThen (run P a s q.st) fun v st => (.val v, st.tell (s.ev 1 0 v))) := by
 intro own
 have hcall := fun own => ih.get (h.at (y := a) h.x) hf own
 rcases hr : run P a s q.st with ⟨o1, st1⟩
 simp only [hr] at hcall
 unfold rawE scR hdsA rssA
 rw [av_mk]
 refine LCalls.of_CW tO call75 Tryz.func75 rfl rfl fun s₀ hok => ?_
 repeat (first | (with_reducible first | apply CW.seq | apply aN) | refine wR rfl ?_)
 refine CW.drw tO mixed rfl (RD.run rfl ?_)
 refine RD.idx 3 0 rfl rfl rfl rfl rfl rfl rfl rfl rfl rfl rfl rfl rfl (congrArg some (CRaw.av_eq _)) rfl ?_; refine RD.run rfl ?_
 refine RD.callL 6 rfl rfl rfl rfl rfl rfl rfl (hcall own) hok (Sels.all _) ?_ (fun _ _ ⟨_, _, _, h, _⟩ _ => by cases h)
 rintro _ _ ⟨own1, q1, u1, ⟨⟩, rfl, g1, g2, g3, g4⟩ hok
 simp only at g1 g2 g3 g4
 rw [List.append_nil] at hok ⊢
 refine RD.run rfl (RD.done rfl ?_)
 have hgone := rGone_spec rb P own1 q1
 rw [g2.gone h.pos] at hgone
 repeat (first | (with_reducible first | apply CW.seq | apply aN | apply CW.skip) | refine wR rfl ?_ | refine CW.reg ?_ | refine CW.condF rfl ?_ | refine wS rfl ?_)
 refine RL.callL rfl rfl rfl rfl rfl hgone hok (Sels.all _) ?_ (fun _ _ ⟨h, _⟩ _ => by cases h)
 rintro _ _ ⟨⟨⟩, rfl⟩ hok
 rw [List.append_nil] at hok ⊢
 cases o1 with
 | leave d w =>
  repeat (first | (with_reducible first | apply CW.seq | apply aN | apply aR | apply CW.ret) | refine wR rfl ?_ | refine RL.nil ?_ | refine CW.condT rfl ?_)
  exact Fin.retL hok rfl aRfl (Sels.all _) ⟨own1, q1, 0, rfl, rfl, g1, g2, g3, fun _ => by have := g4 (by simp); omega⟩
 | stop e =>
  repeat (first | (with_reducible first | apply CW.seq | apply aN | apply aR | apply CW.ret) | refine wR rfl ?_ | refine RL.nil ?_ | refine CW.condT rfl ?_)
  exact Fin.retL hok rfl aRfl (Sels.all _) ⟨own1, q1, 0, rfl, rfl, g1, g2, g3, fun hne => absurd rfl (hne e)⟩
 | val v =>
 obtain rfl : u1 = v := g2.1
 subst g1
 obtain ⟨h1, hf1, hb1⟩ := h.after hr g3 g4 g2 (y := a) h.x
 have htell := rTell_spec rb P own1 q1 s c h.rs h1.small 1 0 u1
 unfold scR hdsA rssA at htell
 repeat (first | (with_reducible first | apply CW.seq | apply aN | apply CW.skip | apply CW.block) | refine wR rfl ?_ | refine CW.reg ?_ | refine RL.nil ?_ | refine CW.condT rfl ?_ | refine CW.condF rfl ?_ | refine wS rfl ?_)
 refine RL.callL rfl rfl rfl rfl rfl htell hok (Sels.all _) ?_ (fun _ _ ⟨h, _⟩ _ => by cases h)
 rintro _ _ ⟨⟨⟩, own2, rfl⟩ hok
 rw [List.append_nil] at hok ⊢
 repeat (first | (with_reducible first | apply CW.seq | apply aN | apply iN | apply CW.ret) | refine wR rfl ?_ | refine RL.nil ?_)
 exact Fin.retL hok rfl aRfl (Sels.all _) ⟨own2, _, u1, rfl, rfl, rfl, ⟨rfl, g2.2⟩, g3, fun _ => by show q1.ids + 2 * q1.st.fuel ≤ _; omega⟩
set_option maxRecDepth 10000 in
set_option maxHeartbeats 1000000 in
theorem rCall (hP : ∀ e ∈ P, OkE P.length e) (ih : BelowR rb P f) {n : Nat} {a : CExp} {s : Sc} {c : List (Int × Nat)} {q : RS} (h : PreR P (.call n a) s c q) (hf : q.st.fuel < f) :
  RestR rb P (.call n a) s c q (andThen (run P a s q.st) fun v st => run P (P.getD n default) (s.with v) st) := by
 have hn : n < P.length := by have := h.x.1; omega
 have hel : ((P.map rawE).map CRaw.av)[n]? = some (.agg (rawE (P.getD n default)).cells) := by
  rw [← CRaw.av_eq, List.getElem?_map, List.getElem?_map, List.getD_eq_getElem?_getD, List.getElem?_eq_getElem hn]; rfl
 have hOk : OkE P.length (P.getD n default) := by
  rw [List.getD_eq_getElem?_getD, List.getElem?_eq_getElem hn]
  exact hP _ (List.getElem_mem hn)
 generalize P.getD n default = b at hel hOk ⊢
 intro own
 have hcall := fun own => ih.get (h.at (y := a) h.x.2) hf own
 rcases hr : run P a s q.st with ⟨o1, st1⟩
 simp only [hr] at hcall
 unfold rawE scR hdsA rssA
 rw [av_mk]
 refine LCalls.of_CW tO call75 Tryz.func75 rfl rfl fun s₀ hok => ?_
 repeat (first | (with_reducible first | apply CW.seq | apply aN) | refine wR rfl ?_)
 refine CW.drw tO mixed rfl (RD.run rfl ?_)
 refine RD.idx 3 0 rfl rfl rfl rfl rfl rfl rfl rfl rfl rfl rfl rfl rfl (congrArg some (CRaw.av_eq _)) rfl ?_; refine RD.run rfl ?_
 refine RD.callL 6 rfl rfl rfl rfl rfl rfl rfl (hcall own) hok (Sels.all _) ?_ (fun _ _ ⟨_, _, _, h, _⟩ _ => by cases h)
 rintro _ _ ⟨own1, q1, u1, ⟨⟩, rfl, g1, g2, g3, g4⟩ hok
 simp only at g1 g2 g3 g4
 rw [List.append_nil] at hok ⊢
 refine RD.run rfl (RD.done rfl ?_)
 have hgone := rGone_spec rb P own1 q1
 rw [g2.gone h.pos] at hgone
 repeat (first | (with_reducible first | apply CW.seq | apply aN | apply CW.skip) | refine wR rfl ?_ | refine CW.reg ?_ | refine CW.condF rfl ?_ | refine wS rfl ?_)
 refine RL.callL rfl rfl rfl rfl rfl hgone hok (Sels.all _) ?_ (fun _ _ ⟨h, _⟩ _ => by cases h)
 rintro _ _ ⟨⟨⟩, rfl⟩ hok
 rw [List.append_nil] at hok ⊢
 cases o1 with
 | leave d w =>
  repeat (first | (with_reducible first | apply CW.seq | apply aN | apply aR | apply CW.ret) | refine wR rfl ?_ | refine RL.nil ?_ | refine CW.condT rfl ?_)
  exact Fin.retL hok rfl aRfl (Sels.all _) ⟨own1, q1, 0, rfl, rfl, g1, g2, g3, fun _ => by have := g4 (by simp); omega⟩
 | stop e =>
  repeat (first | (with_reducible first | apply CW.seq | apply aN | apply aR | apply CW.ret) | refine wR rfl ?_ | refine RL.nil ?_ | refine CW.condT rfl ?_)
  exact Fin.retL hok rfl aRfl (Sels.all _) ⟨own1, q1, 0, rfl, rfl, g1, g2, g3, fun hne => absurd rfl (hne e)⟩
 | val v =>
 obtain rfl : u1 = v := g2.1
 subst g1
 obtain ⟨h1, hf1, hb1⟩ := h.after hr g3 g4 g2 (y := b) hOk
 have hv := h.val hP h.x.2 hr
 have hcall := ih.get (h1.with hOk hv) (by omega) own1
 simp only [Sc.with] at hcall
 have hwith := rWith_spec s.hand u1 (hdsA s.hs) (rssA c) (.inr trivial) ⟨_, rfl⟩ ⟨_, rfl⟩
 unfold hdsA rssA at hwith
 repeat (first | (with_reducible first | apply CW.seq | apply aN | apply CW.skip | apply CW.block) | refine wR rfl ?_ | refine RL.nil ?_ | refine CW.condT rfl ?_ | refine CW.condF rfl ?_)
 unfold qK rCells progA at hok ⊢
 refine CW.drw tO mixed rfl (RD.run rfl ?_)
 refine RD.calmPP (i := 11) rfl rfl rfl rfl rfl rfl rfl hwith ?_; refine RD.run rfl ?_
 refine RD.loadL 4 tO hok rfl rfl rfl rfl rfl rfl rfl rfl (by repeat (first | exact Sel.here | apply Sel.there)) (by exact rfl) ?_; refine RD.run rfl ?_
 refine RD.idx 7 n rfl rfl rfl rfl rfl rfl rfl rfl rfl rfl rfl rfl rfl hel rfl ?_
 refine RD.run rfl ?_
 refine RD.callL 12 rfl rfl rfl rfl rfl rfl rfl hcall hok (Sels.all _) ?_ (fun _ _ ⟨_, _, _, h, _⟩ _ => by cases h)
 rintro _ _ ⟨own2, q2, u2, ⟨⟩, rfl, k1, k2, k3, k4⟩ hok
 rw [List.append_nil] at hok ⊢
 refine RD.run rfl (RD.done rfl ?_)
 repeat (with_reducible first | apply aN | apply aR | apply iR | apply CW.ret)
 exact Fin.retL hok rfl aRfl (Sels.all _) (RPost.mono ⟨own2, q2, u2, rfl, rfl, k1, k2, k3, k4⟩ g3 (by omega))
end
end Go.Proofs.YtdeiinhccdlfiaaGreat

/- Chapter 19, seat .Z: contracts of the reference's run: what is done behind the first kid: signals, errors, choices. -/
namespace Go.Proofs.YtdeiinhccdlfiaaGreat
open Go.AE Go.Cond

section
variable {rb : Nat} {P : List CExp} {f : Nat}
set_option maxRecDepth 10000 in
set_option maxHeartbeats 1000000 in
theorem rSig (hP : ∀ e ∈ P, OkE P.length e) (ih : BelowR rb P f) {n : Int} {a : CExp} {s : Sc} {c : List (Int × Nat)} {q : RS} (h : PreR P (.signal n a) s c q) (hph : Cond.phi q.st ≤ 1997) (hf : q.st.fuel < f) :
  RestR rb P (.signal n a) s c q (andThen (run P a s q.st) fun v st => raise (run P) s n v st) := by
 have hph1 := run_phi P (q.st.fuel + 1) a s q.st (Nat.lt_succ_self _)
 intro own
 have hcall := fun own => ih.get (h.at (y := a) h.x.2.2) hf own
 rcases hr : run P a s q.st with ⟨o1, st1⟩
 simp only [hr] at hcall
 unfold rawE scR hdsA rssA
 rw [av_mk]
 refine LCalls.of_CW tO call75 Tryz.func75 rfl rfl fun s₀ hok => ?_
 repeat (first | (with_reducible first | apply CW.seq | apply aN) | refine wR rfl ?_)
 refine CW.drw tO mixed rfl (RD.run rfl ?_)
 refine RD.idx 3 0 rfl rfl rfl rfl rfl rfl rfl rfl rfl rfl rfl rfl rfl (congrArg some (CRaw.av_eq _)) rfl ?_; refine RD.run rfl ?_
 refine RD.callL 6 rfl rfl rfl rfl rfl rfl rfl (hcall own) hok (Sels.all _) ?_ (fun _ _ ⟨_, _, _, h, _⟩ _ => by cases h)
 rintro _ _ ⟨own1, q1, u1, ⟨⟩, rfl, g1, g2, g3, g4⟩ hok
 simp only at g1 g2 g3 g4
 rw [List.append_nil] at hok ⊢
 refine RD.run rfl (RD.done rfl ?_)
 rw [hr] at hph1
 have hgone := rGone_spec rb P own1 q1
 rw [g2.gone h.pos] at hgone
 repeat (first | (with_reducible first | apply CW.seq | apply aN | apply CW.skip) | refine wR rfl ?_ | refine CW.reg ?_ | refine CW.condF rfl ?_ | refine wS rfl ?_)
 refine RL.callL rfl rfl rfl rfl rfl hgone hok (Sels.all _) ?_ (fun _ _ ⟨h, _⟩ _ => by cases h)
 rintro _ _ ⟨⟨⟩, rfl⟩ hok
 rw [List.append_nil] at hok ⊢
 cases o1 with
 | leave d w =>
  repeat (first | (with_reducible first | apply CW.seq | apply aN | apply aR | apply CW.ret) | refine wR rfl ?_ | refine RL.nil ?_ | refine CW.condT rfl ?_)
  exact Fin.retL hok rfl aRfl (Sels.all _) ⟨own1, q1, 0, rfl, rfl, g1, g2, g3, fun _ => by have := g4 (by simp); omega⟩
 | stop e =>
  repeat (first | (with_reducible first | apply CW.seq | apply aN | apply aR | apply CW.ret) | refine wR rfl ?_ | refine RL.nil ?_ | refine CW.condT rfl ?_)
  exact Fin.retL hok rfl aRfl (Sels.all _) ⟨own1, q1, 0, rfl, rfl, g1, g2, g3, fun hne => absurd rfl (hne e)⟩
 | val v =>
 obtain rfl : u1 = v := g2.1
 subst g1
 obtain ⟨h1, hf1, hb1⟩ := h.after hr g3 g4 g2 (y := a) h.x.2.2
 have hv := h.val hP h.x.2.2 hr
 have hph1 : Cond.phi q1.st ≤ Cond.phi q.st - 1 := hph1
 have hsig := rSignal_spec rb P ih own1 q1 s c h1 (by omega) (by omega) n hv
 unfold scR hdsA rssA at hsig
 repeat (first | (with_reducible first | apply CW.seq | apply aN | apply CW.skip | apply CW.block) | refine wR rfl ?_ | refine CW.reg ?_ | refine RL.nil ?_ | refine CW.condT rfl ?_ | refine CW.condF rfl ?_ | refine wS rfl ?_)
 refine RL.callL rfl rfl rfl rfl rfl hsig hok (Sels.all _) ?_ (fun _ _ ⟨_, _, _, h, _⟩ _ => by cases h)
 rintro _ _ ⟨own2, q2, u2, ⟨⟩, rfl, k1, k2, k3, k4⟩ hok
 rw [List.append_nil] at hok ⊢
 repeat (first | (with_reducible first | apply CW.seq | apply aN | apply aR | apply iR | apply CW.ret) | refine wR rfl ?_ | refine RL.nil ?_)
 exact Fin.retL hok rfl aRfl (Sels.all _) ⟨own2, q2, 0, rfl, rfl, k1, k2.other (fun w hw => (raiseL_val _ _ (Prod.ext hw rfl)).symm), by omega, fun hne => by have := k4 hne; omega⟩
set_option maxRecDepth 10000 in
set_option maxHeartbeats 1000000 in
theorem rFails (hP : ∀ e ∈ P, OkE P.length e) (ih : BelowR rb P f) {n : Int} {a : CExp} {s : Sc} {c : List (Int × Nat)} {q : RS} (h : PreR P (.fails n a) s c q) (hph : Cond.phi q.st ≤ 1997) (hf : q.st.fuel < f) :
  RestR rb P (.fails n a) s c q (andThen (run P a s q.st) fun v st => andThen (raise (run P) s n v st) fun _ st => lost s v st) := by
 have hb : big = 1099511627776 := rfl
 have hph1 := run_phi P (q.st.fuel + 1) a s q.st (Nat.lt_succ_self _)
 intro own
 have hcall := fun own => ih.get (h.at (y := a) h.x.2.2) hf own
 rcases hr : run P a s q.st with ⟨o1, st1⟩
 simp only [hr] at hcall
 unfold rawE scR hdsA rssA
 rw [av_mk]
 refine LCalls.of_CW tO call75 Tryz.func75 rfl rfl fun s₀ hok => ?_
 repeat (first | (with_reducible first | apply CW.seq | apply aN) | refine wR rfl ?_)
 refine CW.drw tO mixed rfl (RD.run rfl ?_)
 refine RD.idx 3 0 rfl rfl rfl rfl rfl rfl rfl rfl rfl rfl rfl rfl rfl (congrArg some (CRaw.av_eq _)) rfl ?_; refine RD.run rfl ?_
 refine RD.callL 6 rfl rfl rfl rfl rfl rfl rfl (hcall own) hok (Sels.all _) ?_ (fun _ _ ⟨_, _, _, h, _⟩ _ => by cases h)
 rintro _ _ ⟨own1, q1, u1, ⟨⟩, rfl, g1, g2, g3, g4⟩ hok
 simp only at g1 g2 g3 g4
 rw [List.append_nil] at hok ⊢
 refine RD.run rfl (RD.done rfl ?_)
 rw [hr] at hph1
 have hgone := rGone_spec rb P own1 q1
 rw [g2.gone h.pos] at hgone
 repeat (first | (with_reducible first | apply CW.seq | apply aN | apply CW.skip) | refine wR rfl ?_ | refine CW.reg ?_ | refine CW.condF rfl ?_ | refine wS rfl ?_)
 refine RL.callL rfl rfl rfl rfl rfl hgone hok (Sels.all _) ?_ (fun _ _ ⟨h, _⟩ _ => by cases h)
 rintro _ _ ⟨⟨⟩, rfl⟩ hok
 rw [List.append_nil] at hok ⊢
 cases o1 with
 | leave d w =>
  repeat (first | (with_reducible first | apply CW.seq | apply aN | apply aR | apply CW.ret) | refine wR rfl ?_ | refine RL.nil ?_ | refine CW.condT rfl ?_)
  exact Fin.retL hok rfl aRfl (Sels.all _) ⟨own1, q1, 0, rfl, rfl, g1, g2, g3, fun _ => by have := g4 (by simp); omega⟩
 | stop e =>
  repeat (first | (with_reducible first | apply CW.seq | apply aN | apply aR | apply CW.ret) | refine wR rfl ?_ | refine RL.nil ?_ | refine CW.condT rfl ?_)
  exact Fin.retL hok rfl aRfl (Sels.all _) ⟨own1, q1, 0, rfl, rfl, g1, g2, g3, fun hne => absurd rfl (hne e)⟩
 | val v =>
 obtain rfl : u1 = v := g2.1
 subst g1
 obtain ⟨h1, hf1, hb1⟩ := h.after hr g3 g4 g2 (y := a) h.x.2.2
 have hv := h.val hP h.x.2.2 hr
 have hph1 : Cond.phi q1.st ≤ Cond.phi q.st - 1 := hph1
 have hsig := rSignal_spec rb P ih own1 q1 s c h1 (by omega) (by omega) n hv
 have hraise := raise_phi (run_phi P (q1.st.fuel + 1)) s n u1 q1.st (Nat.lt_succ_self _)
 obtain ⟨lp, hpicks⟩ := raise_grows picks_grows (ev := run P) (run_picks P) s n u1 q1.st
 have hres : andThen (Out.val u1, q1.st) (fun v st => andThen (raise (run P) s n v st) fun _ st => lost s v st) = andThen (raise (run P) s n u1 q1.st) fun _ st => lost s u1 st := rfl
 rw [hres]
 rcases hr2 : raise (run P) s n u1 q1.st with ⟨o2, st2⟩
 rw [hr2] at hsig hraise hpicks
 unfold scR hdsA rssA at hsig
 repeat (first | (with_reducible first | apply CW.seq | apply aN | apply CW.skip | apply CW.block) | refine wR rfl ?_ | refine CW.reg ?_ | refine RL.nil ?_ | refine CW.condT rfl ?_ | refine CW.condF rfl ?_ | refine wS rfl ?_)
 refine RL.callL rfl rfl rfl rfl rfl hsig hok (Sels.all _) ?_ (fun _ _ ⟨_, _, _, h, _⟩ _ => by cases h)
 rintro _ _ ⟨own2, q2, u2, ⟨⟩, rfl, k1, k2, k3, k4⟩ hok
 simp only at k1 k2 k3 k4
 subst k1
 rw [List.append_nil] at hok ⊢
 have hgone := rGone_spec rb P own2 q2
 rw [k2.gone h.pos] at hgone
 repeat (first | (with_reducible first | apply CW.seq | apply aN) | refine CW.reg ?_ | refine RL.nil ?_ | refine wS rfl ?_)
 refine RL.callL rfl rfl rfl rfl rfl hgone hok (Sels.all _) ?_ (fun _ _ ⟨h, _⟩ _ => by cases h)
 rintro _ _ ⟨⟨⟩, rfl⟩ hok
 rw [List.append_nil] at hok ⊢
 cases o2 with
 | leave d w =>
  repeat (first | (with_reducible first | apply CW.seq | apply aN | apply iN | apply CW.ret | apply CW.skip) | refine wR rfl ?_ | refine RL.nil ?_ | refine CW.condF rfl ?_ | refine wS rfl ?_)
  exact Fin.retL hok rfl aRfl (Sels.all _) ⟨own2, q2, _, rfl, rfl, rfl, k2, by omega, fun _ => by have := k4 (by simp); omega⟩
 | stop e =>
  repeat (first | (with_reducible first | apply CW.seq | apply aN | apply iN | apply CW.ret | apply CW.skip) | refine wR rfl ?_ | refine RL.nil ?_ | refine CW.condF rfl ?_ | refine wS rfl ?_)
  exact Fin.retL hok rfl aRfl (Sels.all _) ⟨own2, q2, _, rfl, rfl, rfl, k2, by omega, fun hne => absurd rfl (hne e)⟩
 | val w =>
  have hraise : Cond.phi q2.st ≤ Cond.phi q1.st + 1 := hraise
  have hpicks : q1.st.picks = lp ++ q2.st.picks := hpicks
  have hlen := congrArg List.length hpicks
  rw [List.length_append] at hlen
  have hpl := h1.pl
  have hsm := h1.small
  have hphi := h.phi
  have hlo := rLost_spec rb P own2 q2 s c h.rs ⟨hsm.hs, hsm.rs, by unfold Cond.phi at *; omega⟩ k2.2 (fun p hp => h1.picks p (by rw [hpicks]; exact List.mem_append_right _ hp)) (by omega) u1
  unfold scR hdsA rssA at hlo
  have k4 := k4 (by simp)
  repeat (first | (with_reducible first | apply CW.seq | apply aN) | refine CW.reg ?_ | refine RL.nil ?_ | refine CW.condT rfl ?_ | refine wS rfl ?_)
  refine RL.callL rfl rfl rfl rfl rfl hlo hok (Sels.all _) ?_ (fun _ _ ⟨_, _, _, h, _⟩ _ => by cases h)
  rintro _ _ ⟨own3, q3, u3, ⟨⟩, rfl, l1, l2, l3, l4⟩ hok
  rw [List.append_nil] at hok ⊢
  repeat (first | (with_reducible first | apply aN | apply aR | apply iR | apply CW.ret) | refine RL.nil ?_ | refine wS rfl ?_)
  exact Fin.retL hok rfl aRfl (Sels.all _) (RPost.mono ⟨own3, q3, u3, rfl, rfl, l1, l2, l3, l4⟩ (by omega) (by omega))
set_option maxRecDepth 10000 in
set_option maxHeartbeats 1000000 in
theorem rChooses (ih : BelowR rb P f) {n : Int} {a : CExp} {s : Sc} {c : List (Int × Nat)} {q : RS} (h : PreR P (.choose n a) s c q) (hf : q.st.fuel < f) :
  RestR rb P (.choose n a) s c q (andThen (run P a s q.st) fun v st => match s.rs.findIdx? (· == n) with
  | some i => Cond.choose s i v st
  | none => (.stop .none, st)) := by
 have hb : big = 1099511627776 := rfl
 have hrl : ((c.reverse.map fun r => AV.agg (rsC r)).length : Int) = c.length := by simp
 intro own
 have hcall := fun own => ih.get (h.at (y := a) h.x.2.2) hf own
 rcases hr : run P a s q.st with ⟨o1, st1⟩
 simp only [hr] at hcall
 unfold rawE scR hdsA rssA
 rw [av_mk]
 refine LCalls.of_CW tO call75 Tryz.func75 rfl rfl fun s₀ hok => ?_
 repeat (first | (with_reducible first | apply CW.seq | apply aN) | refine wR rfl ?_)
 refine CW.drw tO mixed rfl (RD.run rfl ?_)
 refine RD.idx 3 0 rfl rfl rfl rfl rfl rfl rfl rfl rfl rfl rfl rfl rfl (congrArg some (CRaw.av_eq _)) rfl ?_; refine RD.run rfl ?_
 refine RD.callL 6 rfl rfl rfl rfl rfl rfl rfl (hcall own) hok (Sels.all _) ?_ (fun _ _ ⟨_, _, _, h, _⟩ _ => by cases h)
 rintro _ _ ⟨own1, q1, u1, ⟨⟩, rfl, g1, g2, g3, g4⟩ hok
 simp only at g1 g2 g3 g4
 rw [List.append_nil] at hok ⊢
 refine RD.run rfl (RD.done rfl ?_)
 have hgone := rGone_spec rb P own1 q1
 rw [g2.gone h.pos] at hgone
 repeat (first | (with_reducible first | apply CW.seq | apply aN | apply CW.skip) | refine wR rfl ?_ | refine CW.reg ?_ | refine CW.condF rfl ?_ | refine wS rfl ?_)
 refine RL.callL rfl rfl rfl rfl rfl hgone hok (Sels.all _) ?_ (fun _ _ ⟨h, _⟩ _ => by cases h)
 rintro _ _ ⟨⟨⟩, rfl⟩ hok
 rw [List.append_nil] at hok ⊢
 cases o1 with
 | leave d w =>
  repeat (first | (with_reducible first | apply CW.seq | apply aN | apply aR | apply CW.ret) | refine wR rfl ?_ | refine RL.nil ?_ | refine CW.condT rfl ?_)
  exact Fin.retL hok rfl aRfl (Sels.all _) ⟨own1, q1, 0, rfl, rfl, g1, g2, g3, fun _ => by have := g4 (by simp); omega⟩
 | stop e =>
  repeat (first | (with_reducible first | apply CW.seq | apply aN | apply aR | apply CW.ret) | refine wR rfl ?_ | refine RL.nil ?_ | refine CW.condT rfl ?_)
  exact Fin.retL hok rfl aRfl (Sels.all _) ⟨own1, q1, 0, rfl, rfl, g1, g2, g3, fun hne => absurd rfl (hne e)⟩
 | val v =>
 obtain rfl : u1 = v := g2.1
 subst g1
 obtain ⟨h1, hf1, hb1⟩ := h.after hr g3 g4 g2 (y := a) h.x.2.2
 have hsm := h1.small
 have hcl := hsm.rs
 have hlen : s.rs.length = c.length := by rw [← h.rs, List.length_map]
 have w2 : IntKind.wrap .i64 ((c.length : Int) - 1) = (c.length : Int) - 1 := i64_wrap (by omega) (by omega)
 have hres : andThen (Out.val u1, q1.st) (fun v st => match s.rs.findIdx? (· == n) with
  | some i => Cond.choose s i v st
  | none => (.stop .none, st)) = match s.rs.findIdx? (· == n) with
  | some i => Cond.choose s i u1 q1.st
  | none => (.stop .none, q1.st) := rfl
 rw [hres]
 repeat (first | (with_reducible first | apply CW.seq | apply aN | apply CW.skip | apply CW.block) | refine wR rfl ?_ | refine RL.nil ?_ | refine CW.condT rfl ?_ | refine CW.condF rfl ?_)
 refine CW.loopL hok (σ := Nat) (fun j => [(0, .ptr rb 0), (4, .fptr [.int .i64 13, .int .i64 n, .slc 3 (List.map CRaw.av [rawE a]) .fro] 0), (5, .fptr [.int .i64 s.hand, .slc 4 (s.hs.reverse.map fun h => .agg (hdC h)) .fro, .slc 2 (c.reverse.map fun r => .agg (rsC r)) .fro] 0), (7, .int .i64 u1), (8, .int .i64 ((c.length : Int) - 1 - (j : Int)))])
  (fun j => qK rb P own1 q1) (fun j => j ≤ c.length ∧ ∀ i, i < j → s.rs[i]? ≠ some n) (fun j => c.length - j) 0 ⟨Nat.zero_le _, fun i hi => absurd hi (Nat.not_lt_zero _)⟩ (by repeat (first | exact trivial | refine ⟨⟨_, rfl, aRfl⟩, ?_⟩ | refine ⟨⟨_, rfl, AVle.of_eq (by (rw [hrl, w2]; simp))⟩, ?_⟩)) (Sels.all _) ?_
 rintro j ⟨hj, hI⟩ hok
 repeat (first | (with_reducible first | apply CW.seq | apply aN) | refine wR rfl ?_)
 refine CW.cond rfl (fun hlt => ?_) (fun hge => ?_)
 ·have hlt : j < c.length := by
   have : (c.length : Int) - 1 - (j : Int) ≥ 0 := of_decide_eq_true hlt
   omega
  obtain ⟨r, hx, hx'⟩ := rev_at (f := fun r => AV.agg (rsC r)) hlt
  have hrj : s.rs[j]? = some r.1 := by rw [← h.rs, List.getElem?_map, hx]; rfl
  unfold rsC at hx'
  have hij : (c.length : Int) - 1 - (j : Int) = ((c.length - 1 - j : Nat) : Int) := by omega
  have w3 : IntKind.wrap .i64 ((c.length : Int) - 1 - (j : Int) - 1) = (c.length : Int) - 1 - ((j + 1 : Nat) : Int) := by rw [i64_wrap (by omega) (by omega)]; omega
  repeat (with_reducible first | apply CW.seq | apply aN | apply CW.skip | apply CW.block)
  refine CW.drw tO mixed rfl (RD.run rfl ?_)
  refine RD.idx 3 (c.length - 1 - j) rfl rfl rfl rfl rfl rfl rfl rfl rfl rfl rfl rfl hij hx' rfl ?_
  refine RD.run rfl (RD.done rfl ?_)
  repeat (first | with_reducible apply aN)
  refine CW.cond rfl (fun hn => ?_) (fun hn => ?_)
  ·have hn : r.1 = n := by simpa using hn
   have hf : s.rs.findIdx? (· == n) = some j := findIdx_skip (by omega) hI (fun y hy => by rw [hrj] at hy; cases hy; exact hn) (by omega)
   have hg : s.rs.getD j 0 = r.1 := by rw [List.getD_eq_getElem?_getD, hrj]; rfl
   have hch := rChoose_spec rb P own1 q1 s c h.rs hsm (k := j) (n := r.1) (id := r.2) hx (a := (c.length : Int) - 1 - (j : Int)) hij u1
   unfold scR hdsA rssA at hch
   rw [hf]
   repeat (first | with_reducible apply CW.seq | refine CW.reg ?_ | refine wS rfl ?_)
   refine RL.callL rfl rfl rfl rfl rfl hch hok (Sels.all _) ?_ (fun _ _ ⟨h, _⟩ _ => by cases h)
   rintro _ _ ⟨⟨⟩, own2, rfl⟩ hok
   rw [List.append_nil] at hok ⊢
   repeat (first | (with_reducible first | apply aN | apply aR | apply iR | apply CW.ret) | refine RL.nil ?_ | refine wS rfl ?_)
   exact Fin.retL hok rfl aRfl (Sels.all _) ⟨own2, _, 0, rfl, rfl, by rw [← hg]; rfl, ⟨g2.2.1, g2.2.2.2, rfl, r.1, by rw [show c.length - 1 - (s.rs.length - 1 - j) = j by omega]; exact hx⟩, g3, fun _ => by show q1.ids + 2 * q1.st.fuel ≤ _; omega⟩
  ·have hn : r.1 ≠ n := by simpa using hn
   repeat (first | (with_reducible first | apply aN | apply iN | apply CW.skip) | refine wR rfl ?_)
   refine NextL.mk (j + 1) hok ⟨hlt, fun i hi => ?_⟩ (by repeat (first | exact trivial | refine ⟨⟨_, rfl, aRfl⟩, ?_⟩ | refine ⟨⟨_, rfl, AVle.of_eq (by rw [w3])⟩, ?_⟩)) (Sels.all _) (by show c.length - (j + 1) < c.length - j; omega)
   rcases Nat.lt_succ_iff_lt_or_eq.1 hi with hi | rfl
   ·exact hI i hi
   ·rw [hrj]; intro e; cases e; exact hn rfl
 ·have hjl : j = c.length := by
   have : ¬ (c.length : Int) - 1 - (j : Int) ≥ 0 := of_decide_eq_false hge
   omega
  have hf : s.rs.findIdx? (· == n) = none := by
   rw [List.findIdx?_eq_none_iff]
   intro z hz
   obtain ⟨i, hi'⟩ := List.getElem?_of_mem hz
   have h1 := (List.getElem?_eq_some_iff.1 hi').1
   have h2 := hI i (by omega)
   simp only [beq_eq_false_iff_ne]
   intro e; subst e; exact h2 hi'
  have hend := rEnd_spec rb P own1 q1 3
  rw [hf]
  repeat (first | (with_reducible first | apply CW.seq | apply aN | apply aX | apply iH | apply CW.exit) | refine CW.reg ?_ | refine wS rfl ?_)
  refine RL.callL rfl rfl rfl rfl rfl hend hok (Sels.all _) ?_ (fun _ _ ⟨h, _⟩ _ => by cases h)
  rintro _ _ ⟨⟨⟩, rfl⟩ hok
  rw [List.append_nil] at hok ⊢
  repeat (first | (with_reducible first | apply aN | apply aR | apply iR | apply CW.ret) | refine RL.nil ?_ | refine wS rfl ?_)
  exact Fin.retL hok rfl aRfl (Sels.all _) ⟨own1, _, 0, rfl, rfl, rfl, ⟨rfl, rfl⟩, g3, fun hne => absurd rfl (hne .none)⟩
end
end Go.Proofs.YtdeiinhccdlfiaaGreat

/- Chapter 19, seat .Z: contracts of the reference's run: values (integers, the value at hand, restarts that are found, handlers). -/
namespace Go.Proofs.YtdeiinhccdlfiaaGreat
open Go.AE Go.Cond

def burnt (q : RS) : RS := { q with st := q.st.burn }
theorem PreR.burn {P : List CExp} {x : CExp} {s : Sc} {c : List (Int × Nat)} {q : RS} (h : PreR P x s c q) (h0 : q.st.fuel ≠ 0) :
  PreR P x s c (burnt q) ∧ Cond.phi (burnt q).st ≤ 1997 ∧ s.hs.length + 1 + (burnt q).st.fuel ≤ 1000 ∧ c.length + 1 + (burnt q).st.fuel ≤ 1000 ∧ (burnt q).st.fuel < q.st.fuel ∧ (burnt q).ids + 2 * (burnt q).st.fuel + 1 ≤ q.ids + 2 * q.st.fuel - 1 := by
 have h1 := phi_burn q.st h0
 have hf : (burnt q).st.fuel = q.st.fuel - 1 := rfl
 have hs := h.hs
 have hrl := h.rl
 have hp := h.phi
 have hc := h.cap
 have hph : Cond.phi (burnt q).st = Cond.phi q.st - 3 := h1
 have hi : (burnt q).ids = q.ids := rfl
 exact ⟨⟨h.x, h.sc, h.rs, h.go, h.ids, by omega, by omega, by omega, h.picks, h.pl, by omega⟩, by omega, by omega, by omega, by omega, by omega⟩
def StepR (rb : Nat) (P : List CExp) (x : CExp) (s : Sc) (c : List (Int × Nat)) (q : RS) (r : Res) : Prop :=
 ∀ own, LCalls Tryz.prog 39 [.ptr rb 0, (rawE x).av, scR s c] (qK rb P own q) (RPost rb P c q.ids (q.ids + 2 * q.st.fuel - 1) r)
section
variable {rb : Nat} {P : List CExp} {f : Nat}
set_option maxRecDepth 10000 in
set_option maxHeartbeats 1000000 in
theorem rSpent (x : CExp) (s : Sc) (c : List (Int × Nat)) (q : RS) (h0 : q.st.fuel = 0) : StepR rb P x s c q (.stop .spent, q.st) := by
 intro own
 have hend := rEnd_spec rb P own q 4
 have h0' : ((q.st.fuel : Nat) : Int) = 0 := by omega
 unfold scR hdsA rssA
 rw [CRaw.av_eq]
 refine LCalls.of_CW tO call39 Tryz.func39 rfl rfl fun s₀ hok => ?_
 unfold qK rCells at hok ⊢
 repeat (first | (with_reducible first | apply CW.seq | apply aN) | refine wR rfl ?_ | refine CW.reg ?_ | refine RL.nil ?_ | refine wS rfl ?_ | refine RL.loadL tO hok rfl rfl rfl rfl rfl rfl (by repeat (first | exact Sel.here | apply Sel.there)) (by exact rfl) ?_)
 refine CW.cond rfl (fun hh => ?_) (fun hh => absurd hh (by simp [h0']))
 repeat (first | with_reducible apply CW.seq | refine CW.reg ?_ | refine wS rfl ?_)
 refine RL.callL rfl rfl rfl rfl rfl hend hok (Sels.all _) ?_ (fun _ _ ⟨h, _⟩ _ => by cases h)
 rintro _ _ ⟨⟨⟩, rfl⟩ hok
 rw [List.append_nil] at hok ⊢
 repeat (first | (with_reducible first | apply aN | apply aR | apply CW.ret) | refine RL.nil ?_ | refine wS rfl ?_)
 exact Fin.retL hok rfl aRfl (Sels.all _) ⟨own, _, 0, rfl, rfl, rfl, ⟨rfl, rfl⟩, Nat.le_refl _, fun hne => absurd rfl (hne .spent)⟩
set_option maxRecDepth 10000 in
set_option maxHeartbeats 1000000 in
theorem rInt {n : Int} {s : Sc} {c : List (Int × Nat)} {q : RS} (h : PreR P (.int n) s c q) (h0 : q.st.fuel ≠ 0) : StepR rb P (.int n) s c q (.val n, q.st.burn) := by
 intro own
 have hcap := h.cap
 have hw : IntKind.wrap .i64 ((q.st.fuel : Int) - 1) = ((q.st.burn.fuel : Nat) : Int) := by
  rw [i64_wrap (by omega) (by omega)]; show _ = ((q.st.fuel - 1 : Nat) : Int); omega
 have hne : ((q.st.fuel : Nat) : Int) ≠ 0 := by omega
 obtain ⟨hb, hphb, hhb, hcb, hfb, hib⟩ := h.burn h0
 unfold rawE scR hdsA rssA
 rw [av_mk]
 refine LCalls.of_CW tO call39 Tryz.func39 rfl rfl fun s₀ hok => ?_
 unfold qK rCells at hok ⊢
 repeat (first | (with_reducible first | apply CW.seq | apply aN) | refine wR rfl ?_ | refine CW.reg ?_ | refine RL.nil ?_ | refine wS rfl ?_ | refine RL.loadL tO hok rfl rfl rfl rfl rfl rfl (by repeat (first | exact Sel.here | apply Sel.there)) (by exact rfl) ?_)
 refine CW.cond rfl (fun hh => absurd hh (by simpa using hne)) (fun hh => ?_)
 repeat (first | (with_reducible first | apply CW.seq | apply aN | apply aR | apply iR | apply CW.ret | apply CW.skip | apply CW.block) | refine wR rfl ?_ | refine CW.reg ?_ | refine RL.nil ?_ | refine CW.condT rfl ?_ | refine wS rfl ?_ | refine RL.loadL tO hok rfl rfl rfl rfl rfl rfl (by repeat (first | exact Sel.here | apply Sel.there)) (by exact rfl) ?_ | refine RL.storeL tO hok rfl rfl rfl rfl rfl rfl rfl rfl rfl (by repeat (first | exact Sel.here | apply Sel.there)) (by exact rfl) (fun hok => ?_))
 rw [hw] at hok ⊢
 exact Fin.retL (K := qK rb P own (burnt q)) hok rfl aRfl (Sels.all _) ⟨own, burnt q, n, rfl, rfl, rfl, ⟨rfl, h.go⟩, Nat.le_refl _, fun _ => by omega⟩
set_option maxRecDepth 10000 in
set_option maxHeartbeats 1000000 in
theorem rHand {s : Sc} {c : List (Int × Nat)} {q : RS} (h : PreR P .hand s c q) (h0 : q.st.fuel ≠ 0) : StepR rb P .hand s c q (.val s.hand, q.st.burn) := by
 intro own
 have hcap := h.cap
 have hw : IntKind.wrap .i64 ((q.st.fuel : Int) - 1) = ((q.st.burn.fuel : Nat) : Int) := by
  rw [i64_wrap (by omega) (by omega)]; show _ = ((q.st.fuel - 1 : Nat) : Int); omega
 have hne : ((q.st.fuel : Nat) : Int) ≠ 0 := by omega
 obtain ⟨hb, hphb, hhb, hcb, hfb, hib⟩ := h.burn h0
 unfold rawE scR hdsA rssA
 rw [av_mk]
 refine LCalls.of_CW tO call39 Tryz.func39 rfl rfl fun s₀ hok => ?_
 unfold qK rCells at hok ⊢
 repeat (first | (with_reducible first | apply CW.seq | apply aN) | refine wR rfl ?_ | refine CW.reg ?_ | refine RL.nil ?_ | refine wS rfl ?_ | refine RL.loadL tO hok rfl rfl rfl rfl rfl rfl (by repeat (first | exact Sel.here | apply Sel.there)) (by exact rfl) ?_)
 refine CW.cond rfl (fun hh => absurd hh (by simpa using hne)) (fun hh => ?_)
 repeat (first | (with_reducible first | apply CW.seq | apply aN | apply aR | apply iR | apply CW.ret | apply CW.skip | apply CW.block) | refine wR rfl ?_ | refine CW.reg ?_ | refine RL.nil ?_ | refine CW.condT rfl ?_ | refine CW.condF rfl ?_ | refine wS rfl ?_ | refine RL.loadL tO hok rfl rfl rfl rfl rfl rfl (by repeat (first | exact Sel.here | apply Sel.there)) (by exact rfl) ?_ | refine RL.storeL tO hok rfl rfl rfl rfl rfl rfl rfl rfl rfl (by repeat (first | exact Sel.here | apply Sel.there)) (by exact rfl) (fun hok => ?_))
 rw [hw] at hok ⊢
 exact Fin.retL (K := qK rb P own (burnt q)) hok rfl aRfl (Sels.all _) ⟨own, burnt q, s.hand, rfl, rfl, rfl, ⟨rfl, h.go⟩, Nat.le_refl _, fun _ => by omega⟩
set_option maxRecDepth 10000 in
set_option maxHeartbeats 1000000 in
theorem rFind {n : Int} {s : Sc} {c : List (Int × Nat)} {q : RS} (h : PreR P (.find n) s c q) (h0 : q.st.fuel ≠ 0) : StepR rb P (.find n) s c q (.val (if s.rs.contains n then 1 else 0), q.st.burn) := by
 have hbig : big = 1099511627776 := rfl
 have hcl := h.small.rs
 have hrl : (c.reverse.map fun r => AV.agg (rsC r)).length = c.length := by simp
 have hmem : ∀ r ∈ c.reverse, r.1 ∈ s.rs := fun r hr => by rw [← h.rs]; exact List.mem_map_of_mem (List.mem_reverse.1 hr)
 intro own
 have hcap := h.cap
 have hw : IntKind.wrap .i64 ((q.st.fuel : Int) - 1) = ((q.st.burn.fuel : Nat) : Int) := by
  rw [i64_wrap (by omega) (by omega)]; show _ = ((q.st.fuel - 1 : Nat) : Int); omega
 have hne : ((q.st.fuel : Nat) : Int) ≠ 0 := by omega
 obtain ⟨hb, hphb, hhb, hcb, hfb, hib⟩ := h.burn h0
 unfold rawE scR hdsA rssA
 rw [av_mk]
 refine LCalls.of_CW tO call39 Tryz.func39 rfl rfl fun s₀ hok => ?_
 unfold qK rCells at hok ⊢
 repeat (first | (with_reducible first | apply CW.seq | apply aN) | refine wR rfl ?_ | refine CW.reg ?_ | refine RL.nil ?_ | refine wS rfl ?_ | refine RL.loadL tO hok rfl rfl rfl rfl rfl rfl (by repeat (first | exact Sel.here | apply Sel.there)) (by exact rfl) ?_)
 refine CW.cond rfl (fun hh => absurd hh (by simpa using hne)) (fun hh => ?_)
 repeat (first | (with_reducible first | apply CW.seq | apply aN | apply CW.skip | apply CW.block) | refine wR rfl ?_ | refine CW.reg ?_ | refine RL.nil ?_ | refine CW.condT rfl ?_ | refine CW.condF rfl ?_ | refine wS rfl ?_ | refine RL.loadL tO hok rfl rfl rfl rfl rfl rfl (by repeat (first | exact Sel.here | apply Sel.there)) (by exact rfl) ?_ | refine RL.storeL tO hok rfl rfl rfl rfl rfl rfl rfl rfl rfl (by repeat (first | exact Sel.here | apply Sel.there)) (by exact rfl) (fun hok => ?_))
 rw [hw] at hok ⊢
 refine CW.loopL hok (σ := Nat) (fun j => [(0, .ptr rb 0), (4, .fptr [.int .i64 14, .int .i64 n, .slc 3 (List.map CRaw.av []) .fro] 0), (46, .slc 2 (c.reverse.map fun r => .agg (rsC r)) .fro), (47, .int .i64 c.length), (48, .int .i64 (j : Int))])
  (fun j => qK rb P own (burnt q)) (fun j => j ≤ c.length ∧ ∀ i r, i < j → c.reverse[i]? = some r → r.1 ≠ n) (fun j => c.length - j) 0 ⟨Nat.zero_le _, fun i r hi => absurd hi (Nat.not_lt_zero _)⟩ (by repeat (first | exact trivial | refine ⟨⟨_, rfl, aRfl⟩, ?_⟩ | refine ⟨⟨_, rfl, AVle.of_eq (by simp)⟩, ?_⟩)) (Sels.all _) ?_
 rintro j ⟨hj, hI⟩ hok
 repeat (first | (with_reducible first | apply CW.seq | apply aN) | refine wR rfl ?_)
 refine CW.cond rfl (fun hlt => ?_) (fun hge => ?_)
 ·have hlt : j < c.length := by simpa using hlt
  obtain ⟨r, hr, hr'⟩ := elem_at (f := fun r => AV.agg (rsC r)) (l := c.reverse) (j := j) (by simpa using hlt)
  unfold rsC at hr'
  repeat (first | (with_reducible first | apply CW.seq | apply aN | apply CW.skip | apply CW.block) | refine CW.reg ?_ | refine wS rfl ?_ | refine RL.idx tO _ rfl rfl rfl rfl rfl rfl rfl rfl rfl rfl rfl (by assumption) rfl ?_)
  refine RL.newBox tO rfl rfl rfl rfl rfl rfl rfl (fun _ => rfl) rfl rfl (fun _ => rfl) rfl rfl rfl rfl ?_
  repeat (first | (with_reducible first | apply CW.seq | apply aN) | refine wR rfl ?_ | refine RL.nil ?_)
  refine CW.cond rfl (fun hn => ?_) (fun hn => ?_)
  ·have hn : r.1 = n := by simpa using hn
   have hc : s.rs.contains n = true := by rw [← hn]; simpa using hmem r (List.mem_of_getElem? hr)
   rw [hc]
   repeat (first | (with_reducible first | apply CW.seq | apply aN | apply aR | apply iR | apply CW.ret) | refine wR rfl ?_)
   exact Fin.retL hok rfl aRfl (Sels.all _) ⟨own, burnt q, 1, rfl, rfl, rfl, ⟨rfl, h.go⟩, Nat.le_refl _, fun _ => by omega⟩
  ·have hn : r.1 ≠ n := by simpa using hn
   repeat (first | (with_reducible first | apply aN | apply iN | apply CW.skip) | refine wR rfl ?_)
   refine NextL.mk (j + 1) hok ⟨hlt, fun i z hi hz => ?_⟩ (by repeat (first | exact trivial | refine ⟨⟨_, rfl, aRfl⟩, ?_⟩ | refine ⟨⟨_, rfl, AVle.of_eq (by (rw [i64_succ (by omega)]))⟩, ?_⟩)) (Sels.all _) (by show c.length - (j + 1) < c.length - j; omega)
   rcases Nat.lt_succ_iff_lt_or_eq.1 hi with hi | rfl
   ·exact hI i z hi hz
   ·rw [hr] at hz; cases hz; exact hn
 ·have hge : c.length ≤ j := by simpa using hge
  have hc : s.rs.contains n = false := by
   rw [Bool.eq_false_iff]
   intro hm
   have hm : n ∈ s.rs := by simpa using hm
   rw [← h.rs] at hm
   obtain ⟨r, hr, rfl⟩ := List.mem_map.1 hm
   obtain ⟨i, hi⟩ := List.getElem?_of_mem (List.mem_reverse.2 hr)
   have := (List.getElem?_eq_some_iff.1 hi).1
   rw [List.length_reverse] at this
   exact hI i r (by omega) hi rfl
  rw [hc]
  repeat (first | (with_reducible first | apply CW.seq | apply aN | apply aX | apply aR | apply iR | apply iH | apply CW.ret | apply CW.exit) | refine wR rfl ?_)
  exact Fin.retL hok rfl aRfl (Sels.all _) ⟨own, burnt q, 0, rfl, rfl, rfl, ⟨rfl, h.go⟩, Nat.le_refl _, fun _ => by omega⟩
set_option maxRecDepth 10000 in
set_option maxHeartbeats 2000000 in
theorem rHandle (ih : BelowR rb P f) {n : Int} {a b : CExp} {s : Sc} {c : List (Int × Nat)} {q : RS} (h : PreR P (.handle n a b) s c q) (h0 : q.st.fuel ≠ 0) (hf : q.st.fuel ≤ f) : StepR rb P (.handle n a b) s c q (run P a (s.under n b) q.st.burn) := by
 have hbig : big = 1099511627776 := rfl
 have hhl : (s.hs.reverse.map fun h => AV.agg (hdC h)).length = s.hs.length := by simp
 obtain ⟨hx1, hx2, hx3, hx4⟩ := h.x
 have hhs := h.hs
 intro own
 have hcap := h.cap
 have hw : IntKind.wrap .i64 ((q.st.fuel : Int) - 1) = ((q.st.burn.fuel : Nat) : Int) := by
  rw [i64_wrap (by omega) (by omega)]; show _ = ((q.st.fuel - 1 : Nat) : Int); omega
 have hne : ((q.st.fuel : Nat) : Int) ≠ 0 := by omega
 obtain ⟨hb, hphb, hhb, hcb, hfb, hib⟩ := h.burn h0
 unfold rawE scR hdsA rssA
 rw [av_mk]
 refine LCalls.of_CW tO call39 Tryz.func39 rfl rfl fun s₀ hok => ?_
 unfold qK rCells at hok ⊢
 repeat (first | (with_reducible first | apply CW.seq | apply aN) | refine wR rfl ?_ | refine CW.reg ?_ | refine RL.nil ?_ | refine wS rfl ?_ | refine RL.loadL tO hok rfl rfl rfl rfl rfl rfl (by repeat (first | exact Sel.here | apply Sel.there)) (by exact rfl) ?_)
 refine CW.cond rfl (fun hh => absurd hh (by simpa using hne)) (fun hh => ?_)
 repeat (first | (with_reducible first | apply CW.seq | apply aN | apply CW.skip | apply CW.block) | refine wR rfl ?_ | refine CW.reg ?_ | refine RL.nil ?_ | refine CW.condT rfl ?_ | refine CW.condF rfl ?_ | refine wS rfl ?_ | refine RL.loadL tO hok rfl rfl rfl rfl rfl rfl (by repeat (first | exact Sel.here | apply Sel.there)) (by exact rfl) ?_ | refine RL.storeL tO hok rfl rfl rfl rfl rfl rfl rfl rfl rfl (by repeat (first | exact Sel.here | apply Sel.there)) (by exact rfl) (fun hok => ?_))
 rw [hw] at hok ⊢
 have hpre : PreR P a (s.under n b) c (burnt q) := ⟨hx3, ⟨h.sc.hand, fun z hz => by
  rcases List.mem_cons.1 hz with rfl | hz
  ·exact hx4
  ·exact h.sc.hs z hz⟩, hb.rs, hb.go, hb.ids, by show s.hs.length + 1 + _ ≤ _; omega, hb.rl, hb.phi, hb.picks, hb.pl, hb.cap⟩
 have hcall := ih.get hpre (by omega) own
 have hrev : ((s.under n b).hs.reverse.map fun h => AV.agg (hdC h)) = (s.hs.reverse.map fun h => AV.agg (hdC h)) ++ [.agg (hdC ⟨n, b⟩)] := by simp [Sc.under]
 rw [hrev] at hcall
 unfold hdC at hcall
 refine RL.allocL tO hok rfl rfl rfl rfl rfl rfl rfl (fun b9 hok => ?_)
 repeat (first | (with_reducible first | apply CW.seq | apply aN) | refine RL.nil ?_ | refine RL.storeL tO hok rfl rfl rfl rfl rfl rfl rfl rfl rfl (by repeat (first | exact Sel.here | apply Sel.there)) (by exact rfl) (fun hok => ?_))
 have hJ := JS.one (s := sto s₀ _) (Sel.get (b := b9) (by repeat (first | exact Sel.here | apply Sel.there)) hok)
 refine CW.drwJ _ tO mixed rfl (RJ.run hJ rfl ?_)
 refine RJ.idx hJ 7 1 rfl rfl rfl rfl rfl rfl rfl rfl rfl rfl rfl rfl rfl (congrArg some (CRaw.av_eq _)) rfl ?_
 refine RJ.run hJ rfl ?_
 refine RJ.appendNL 2 tO hok rfl rfl rfl rfl rfl rfl rfl rfl rfl (by intro k; simp) rfl rfl rfl (.inr rfl) rfl (hd_elem s.hs) rfl (n' := s.hs.length) hhl.symm (by show s.hs.length * 48 ≤ _; omega) (by omega) (fun own' hok => .inl (JS.one (Sel.get (b := b9) (by repeat (first | exact Sel.here | apply Sel.there)) hok))) (fun own' hok => ?_)
 refine RJ.run (JS.one (Sel.get (b := b9) (by repeat (first | exact Sel.here | apply Sel.there)) hok)) rfl ?_
 refine RJ.append1L 11 tO hok rfl rfl rfl rfl rfl rfl rfl rfl rfl (by intro k; simp) rfl rfl rfl rfl rfl rfl rfl rfl (by repeat (first | exact Sel.here | apply Sel.there)) (by simp <;> omega) (by show (_ + 1) * 48 ≤ _; omega) (by omega) (fun own' hok => .inl (JS.one (Sel.get (b := b9) (by repeat (first | exact Sel.here | apply Sel.there)) hok))) (fun own' hok => ?_)
 refine RJ.run (JS.one (Sel.get (b := b9) (by repeat (first | exact Sel.here | apply Sel.there)) hok)) rfl ?_
 refine RJ.storeL 13 tO hok rfl rfl rfl rfl rfl rfl rfl rfl rfl rfl rfl (by repeat (first | exact Sel.here | apply Sel.there)) rfl (fun _ => .inr rfl) (fun hok => ?_)
 refine RD.done rfl ?_
 refine aN ?_
 refine CW.boxWeakL hok b9 [.int .i64 s.hand, .slc 4 ((s.hs.reverse.map fun h => AV.agg (hdC h)) ++ [.agg [.int .i64 n, .int .i64 (rawE b).op, .int .i64 (rawE b).n, .slc 3 ((rawE b).kids.map CRaw.av) .fro]]) .fro, .slc 2 (c.reverse.map fun r => .agg (rsC r)) .fro] (by repeat (first | exact Sel.here | apply Sel.there)) (.cons aRfl (.cons AVle.fro (.one aRfl))) fun hok => ?_
 refine CW.freezeL hok 9 b9 rfl (by repeat (first | exact Sel.here | apply Sel.there)) fun hok => ?_
 refine CW.dropL hok (qK rb P own (burnt q)) (by simp only [qK, rCells]; repeat (first | exact Sels.nil | (apply Sels.cons; · repeat (first | exact Sel.here | apply Sel.there)))) fun hok => ?_
 repeat (first | with_reducible apply CW.seq)
 refine CW.drw tO mixed rfl (RD.run rfl ?_)
 refine RD.idx 3 0 rfl rfl rfl rfl rfl rfl rfl rfl rfl rfl rfl rfl rfl (congrArg some (CRaw.av_eq _)) rfl ?_; refine RD.run rfl ?_
 refine RD.callL 6 rfl rfl rfl rfl rfl rfl rfl hcall hok (Sels.all _) ?_ (fun _ _ ⟨_, _, _, h, _⟩ _ => by cases h)
 rintro _ _ ⟨own2, q2, u2, ⟨⟩, rfl, k1, k2, k3, k4⟩ hok
 rw [List.append_nil] at hok ⊢
 refine RD.run rfl (RD.done rfl ?_)
 repeat (with_reducible first | apply aN | apply aR | apply iR | apply CW.ret)
 exact Fin.retL hok rfl aRfl (Sels.all _) (RPost.mono ⟨own2, q2, u2, rfl, rfl, k1, k2, k3, k4⟩ (Nat.le_refl _) (by omega))
end
end Go.Proofs.YtdeiinhccdlfiaaGreat

