import Derived.Test.YtdeiinhccdlfiaaUe
import Derived.Shelf.Sort.Plain
import Derived.Shelf.Slices.CompactI
import Derived.KernelRfl
import Derived.Test.YtdeiinhccdlfiaaRows
import Derived.ProofKit
import Derived.OpenShut
import Derived.WalkKit
import Derived.JoinedCond
set_option linter.unusedVariables false
set_option linter.unusedSimpArgs false
/- Chapter 19: slices.Sort and slices.Compact over numbers: their contracts, laid at this program (printed by laysof.py). -/
namespace Go.Proofs.Ytdeiinhccdlfiaa
open Go.Shelf Go.Sort Go.Proofs

def sortIRen : Go.Shelf.Ren := ⟨fun | 189 => 40 | 125 => 69 | 257 => 68 | 128 => 103 | 129 => 104 | 294 => 94 | 295 => 95 | 296 => 96 | 297 => 97 | 298 => 98 | 299 => 99 | 216 => 100 | 300 => 101 | 301 => 102 | 328 => 115 | 329 => 116 | 330 => 117 | 331 => 118 | 332 => 119 | 215 => 120 | 343 => 126 | n => n, fun | 28 => 31 | 3 => 3 | 46 => 103 | 0 => 0 | 51 => 127 | 53 => 129 | 4 => 4 | 183 => 119 | 182 => 118 | 131 => 124 | 5 => 5 | 9 => 9 | 218 => 151 | 222 => 38 | 228 => 161 | 229 => 162 | n => n, fun n => n⟩
theorem sortILays : Lays.n189 Try.prog sortIRen where
 mixed := by kernel_rfl
 f125 := Try.func69.trans (congrArg some (by kernel_rfl))
 f128 := Try.func103.trans (congrArg some (by kernel_rfl))
 f129 := Try.func104.trans (congrArg some (by kernel_rfl))
 f189 := Try.func40.trans (congrArg some (by kernel_rfl))
 f215 := Try.func120.trans (congrArg some (by kernel_rfl))
 f216 := Try.func100.trans (congrArg some (by kernel_rfl))
 f257 := Try.func68.trans (congrArg some (by kernel_rfl))
 f294 := Try.func94.trans (congrArg some (by kernel_rfl))
 f295 := Try.func95.trans (congrArg some (by kernel_rfl))
 f296 := Try.func96.trans (congrArg some (by kernel_rfl))
 f297 := Try.func97.trans (congrArg some (by kernel_rfl))
 f298 := Try.func98.trans (congrArg some (by kernel_rfl))
 f299 := Try.func99.trans (congrArg some (by kernel_rfl))
 f300 := Try.func101.trans (congrArg some (by kernel_rfl))
 f301 := Try.func102.trans (congrArg some (by kernel_rfl))
 f328 := Try.func115.trans (congrArg some (by kernel_rfl))
 f329 := Try.func116.trans (congrArg some (by kernel_rfl))
 f330 := Try.func117.trans (congrArg some (by kernel_rfl))
 f331 := Try.func118.trans (congrArg some (by kernel_rfl))
 f332 := Try.func119.trans (congrArg some (by kernel_rfl))
 f343 := Try.func126.trans (congrArg some (by kernel_rfl))
 t0 := Try.underlying0
 a0 := Try.isAgg0
 z0 := Try.sizeOf0
 v0 := Try.zeroValue0
 t3 := Try.underlying3
 a3 := Try.isAgg3
 z3 := Try.sizeOf3
 v3 := Try.zeroValue3
 t4 := Try.underlying4
 a4 := Try.isAgg4
 z4 := Try.sizeOf4
 v4 := Try.zeroValue4
 t5 := Try.underlying5
 a5 := Try.isAgg5
 z5 := Try.sizeOf5
 v5 := Try.zeroValue5
 t9 := Try.underlying9
 a9 := Try.isAgg9
 z9 := Try.sizeOf9
 v9 := Try.zeroValue9
 t28 := Try.underlying31
 a28 := Try.isAgg31
 z28 := Try.sizeOf31
 v28 := Try.zeroValue31
 t46 := Try.underlying103
 a46 := Try.isAgg103
 z46 := Try.sizeOf103
 v46 := Try.zeroValue103
 t51 := Try.underlying127
 a51 := Try.isAgg127
 z51 := Try.sizeOf127
 v51 := Try.zeroValue127
 t53 := Try.underlying129
 a53 := Try.isAgg129
 z53 := Try.sizeOf129
 v53 := Try.zeroValue129
 t131 := Try.underlying124
 a131 := Try.isAgg124
 z131 := Try.sizeOf124
 v131 := Try.zeroValue124
 t182 := Try.underlying118
 a182 := Try.isAgg118
 z182 := Try.sizeOf118
 v182 := Try.zeroValue118
 t183 := Try.underlying119
 a183 := Try.isAgg119
 z183 := Try.sizeOf119
 v183 := Try.zeroValue119
 t218 := Try.underlying151
 a218 := Try.isAgg151
 z218 := Try.sizeOf151
 v218 := Try.zeroValue151
 t222 := Try.underlying38
 a222 := Try.isAgg38
 z222 := Try.sizeOf38
 v222 := Try.zeroValue38
 t228 := Try.underlying161
 a228 := Try.isAgg161
 z228 := Try.sizeOf161
 v228 := Try.zeroValue161
 t229 := Try.underlying162
 a229 := Try.isAgg162
 z229 := Try.sizeOf162
 v229 := Try.zeroValue162
def compIRen : Go.Shelf.Ren := ⟨fun | 20 => 41 | n => n, fun | 22 => 31 | 3 => 3 | 4 => 4 | 0 => 0 | n => n, fun n => n⟩
theorem compILays : Lays2.n20 Try.prog compIRen where
 mixed := by kernel_rfl
 f20 := Try.func41.trans (congrArg some (by kernel_rfl))
 t0 := Try.underlying0
 a0 := Try.isAgg0
 z0 := Try.sizeOf0
 v0 := Try.zeroValue0
 t3 := Try.underlying3
 a3 := Try.isAgg3
 z3 := Try.sizeOf3
 v3 := Try.zeroValue3
 t4 := Try.underlying4
 a4 := Try.isAgg4
 z4 := Try.sizeOf4
 v4 := Try.zeroValue4
 t22 := Try.underlying31
 a22 := Try.isAgg31
 z22 := Try.sizeOf31
 v22 := Try.zeroValue31
 i3 := by kernel_rfl
theorem sortI_calls (blk off cap : Nat) (zs : List Int) (w : World) (hH : Holds (Value.int .i64) w blk off zs.toArray) (hblk : blk < w.heap.size) (hsz : zs.length < 4611686018427387904) :
  Calls Try.prog 40 #[.slice (some ⟨blk, off, none⟩) zs.length cap] w fun e w' =>
   e = .returned (.tuple #[]) ∧ ∃ n os, w' = grow (putRow (Value.int .i64) (Sort.ahead w n) blk off (zs.mergeSort fun x y => decide (x ≤ y)).toArray) os :=
 Any.slices_Sort_int sortILays blk off cap zs w hH hblk hsz
theorem compI_calls (blk off cap : Nat) (zs : List Int) (w : World) (hH : Holds (Value.int .i64) w blk off zs.toArray) (hsz : zs.length ≤ 9223372036854775807) (hcap : zs.length ≤ cap) :
  Calls Try.prog 41 #[.slice (some ⟨blk, off, none⟩) zs.length cap] w fun e w' => e = .returned (.slice (some ⟨blk, off, none⟩) (Lib.compact zs).length cap) ∧
   ∃ q, w' = putRow (Value.int .i64) (Sort.ahead w q) blk off (Lib.compact zs ++ List.replicate (zs.length - (Lib.compact zs).length) 0).toArray :=
 Any.slices_Compact_int compILays blk off cap zs w hH hsz hcap
end Go.Proofs.Ytdeiinhccdlfiaa

/- Chapter 19: contracts of cond: all that an expression reaches, one after the other (every). -/
namespace Go.Proofs.Ytdeiinhccdlfiaa
open Go.AE Go.Cond

def metA (m : List Nat) : List AV := (List.range 6).map fun n => .bool (m.contains n)
theorem metA_at {m : List Nat} {n : Nat} (h : n < 6) : (metA m)[n]? = some (.bool (m.contains n)) := by
 unfold metA
 rw [List.getElem?_map, List.getElem?_range h]; rfl
theorem dropC_some : ∀ {n : Nat} {l : List AV}, n ≤ l.length → dropC n l = some (l.drop n)
 | 0, _, _ => by simp [dropC]
 | n + 1, [], h => absurd h (by simp)
 | n + 1, x :: r, h => by rw [dropC, List.drop_succ_cons]; exact dropC_some (by simpa using h)
theorem loadC_bool {cs : List AV} {n : Nat} {v : AV} (h : cs[n]? = some v) : loadC ⟨.bool, 1, 1, .bool false⟩ cs n = some v := by
 unfold loadC
 have hl := (List.getElem?_eq_some_iff.1 h).1
 have hv := (List.getElem?_eq_some_iff.1 h).2
 have : dropC n cs = some (cs.drop n) := dropC_some (by omega)
 rw [this]
 simp only
 rw [List.drop_eq_getElem_cons hl, hv]
theorem metA_put {m : List Nat} {n : Nat} (h : n < 6) : setL n [.bool true] (metA m) = metA (n :: m) := by
 rw [setL_eq _ _ _ (by simp [metA]; omega)]
 refine List.ext_getElem? fun i => ?_
 by_cases hi : i < 6
 ·rw [metA_at hi]
  by_cases e : i = n
  ·subst e
   rw [List.append_assoc, List.getElem?_append_right (by simp [metA] <;> omega)]
   simp [metA, show min i 6 = i by omega]
  ·by_cases hl : i < n
   ·rw [List.append_assoc, List.getElem?_append_left (by simp [metA] <;> omega), List.getElem?_take_of_lt hl, metA_at hi]
    simp [e]
   ·rw [List.getElem?_append_right (by simp [metA]; omega)]
    simp only [List.length_append, List.length_take, List.length_cons, List.length_nil, List.getElem?_drop, metA, List.length_map, List.length_range]
    rw [show n + (0 + 1) + (i - (min n 6 + (0 + 1))) = i by omega, List.getElem?_map, List.getElem?_range hi]
    simp [e]
 ·rw [List.getElem?_eq_none (by simp [metA]; omega), List.getElem?_eq_none (by simp [metA]; omega)]
theorem Sels.skip {K : LS} : ∀ A : LS, Sels (A ++ K) K A
 | [] => Sels.allZ K
 | _ :: A => (Sels.skip A).there
theorem Sels.comm (A B : LS) : Sels (A ++ B) (B ++ A) [] := (Sels.skip A).app (Sels.allZ A)
def evF (b4 b5 lp : Nat) (P : List CExp) : AV := .func 67 [] [.fptr [yieldV lp] 0, .ptr b5 0, .ptr b4 0, .fptr [progA P] 0]
def evK (b4 b5 lp : Nat) (P : List CExp) (m : List Nat) : LS := [(.own b5, .box 99 [evF b4 b5 lp P]), (.own b4, .box 100 (metA m))]
def avE (x : CExp) : AV := (rawE x).av
theorem kids_raw (x : CExp) : (rawE x).kids = x.kids.map rawE := by cases x <;> rfl
def EvPost (b4 b5 lp : Nat) (P : List CExp) (Go : List CExp → LS → Prop) (Done : LS → Prop) (Pan : AV → LS → Prop) (rest : List CExp) (m : List Nat) (o : AOut) (K : LS) : Prop :=
 (o = .ret (.bool true) ∧ ∃ K', K = evK b4 b5 lp P m ++ K' ∧ Go rest K') ∨ (o = .ret (.bool false) ∧ ∃ K' m', K = evK b4 b5 lp P m' ++ K' ∧ Done K') ∨ ∃ v K' m', o = .panic v ∧ K = evK b4 b5 lp P m' ++ K' ∧ Pan v K'
section
variable {P : List CExp} {lp b4 b5 : Nat} {Go : List CExp → LS → Prop} {Done : LS → Prop} {Pan : AV → LS → Prop}
set_option maxRecDepth 10000 in
set_option maxHeartbeats 2000000 in
theorem evWalk_spec (hP6 : P.length ≤ 6) (hY : YieldsL Try.prog avE lp Go Done Pan) : ∀ (k : Nat) (x : CExp) (m : List Nat) (rest : List CExp) (K : LS), x.size < big → OkC P x → (∀ n, (P.getD n default).size < big) → Go ((evW P k x m).1 ++ rest) K →
    (∀ S, (∀ n, (P.getD n default).size ≤ S) → unmet m P.length * S + x.size ≤ k →
    LCalls Try.prog 67 [avE x, .fptr [yieldV lp] 0, .ptr b5 0, .ptr b4 0, .fptr [progA P] 0] (evK b4 b5 lp P m ++ K) (EvPost b4 b5 lp P Go Done Pan rest (evW P k x m).2))
  | 0, x, m, rest, K, _, _, _, _, S, _, hk => by have := size_kids x; omega
  | k + 1, x, m, rest, K, hxb, hxc, hPb, hgo, S, hS, hk => by
    have hb : big = 1099511627776 := rfl
    have hsk := size_kids x
    refine LCalls.of_CW tO call67 Try.func67 rfl rfl fun s hok => ?_
    have hP1 : (evW P (k + 1) x m).1 = x :: ((evL (evW P k) x.kids m).1 ++ match x.target with
        | none => []
        | some n => if (evL (evW P k) x.kids m).2.contains n then [] else (evW P k (P.getD n default) (n :: (evL (evW P k) x.kids m).2)).1) := by
      rw [evW]
      cases x.target with
      | none => simp
      | some n => simp only; split <;> simp
    have hP2 : (evW P (k + 1) x m).2 = match x.target with
        | none => (evL (evW P k) x.kids m).2
        | some n => if (evL (evW P k) x.kids m).2.contains n then (evL (evW P k) x.kids m).2 else (evW P k (P.getD n default) (n :: (evL (evW P k) x.kids m).2)).2 := by
      rw [evW]
      cases x.target with
      | none => rfl
      | some n => simp only; split <;> rfl
    rw [hP1] at hgo
    rw [hP2]
    have hwh := evL_whole (evW_whole hS k) x.kids m (fun y hy => hxc.kid hy) (by omega)
    generalize hA : evL (evW P k) x.kids m = A at hgo hwh ⊢
    generalize hT : (match x.target with
        | none => []
        | some n => if A.2.contains n then [] else (evW P k (P.getD n default) (n :: A.2)).1 : List CExp) = T at hgo
    have hkl : ((x.kids.map rawE).map CRaw.av).length = x.kids.length := by simp
    have hklb : x.kids.length < big := by
      have : ∀ l : List CExp, l.length ≤ sizesE l := by
        intro l; induction l with
        | nil => simp [sizesE]
        | cons y r ih => rw [sizesE, List.length_cons]; have := size_kids y; omega
      have := this x.kids
      omega
    have hv := hY x (A.1 ++ T ++ rest) K (by simpa using hgo)
    clear hgo
    unfold avE at hv ⊢
    rw [CRaw.av_eq] at hv ⊢
    unfold CRaw.cells at hv ⊢
    rw [kids_raw] at hv ⊢
    unfold evK at hok ⊢
    repeat (first | (with_reducible first | apply CW.seq | apply aN) | refine wR rfl ?_ | refine CW.reg ?_ | refine wS rfl ?_)
    refine RL.callVL rfl rfl rfl rfl rfl rfl hv hok (Sels.skip _) ?_ ?_
    rotate_left
    · rintro x' K' (⟨h, -⟩ | ⟨h, -⟩ | ⟨v, ⟨⟩, hp⟩) hok
      · cases h
      · cases h
      · refine Fin.panicL hok aRfl (Sels.comm _ _) (.inr (.inr ⟨_, K', m, rfl, rfl, hp⟩))
    rintro x' K' (⟨⟨⟩, hgo⟩ | ⟨⟨⟩, hd⟩ | ⟨v, h, -⟩) hok
    rotate_left
    · repeat (first | (with_reducible first | apply CW.seq | apply aN | apply aR | apply CW.ret) | refine wR rfl ?_ | refine RL.nil ?_ | refine CW.condT rfl ?_ | refine wS rfl ?_)
      refine Fin.retL hok rfl aRfl (Sels.comm _ _) (.inr (.inl ⟨rfl, K', m, rfl, hd⟩))
    · cases h
    refine RL.dropL hok (evK b4 b5 lp P m ++ K') (Sels.comm _ _) fun hok => ?_
    repeat (first | (with_reducible first | apply CW.seq | apply aN | apply CW.skip | apply CW.block) | refine wR rfl ?_ | refine RL.nil ?_ | refine CW.condF rfl ?_ | refine wS rfl ?_)
    refine CW.loopL hok (σ := Nat × List Nat × LS) (fun q => [(1, .fptr [yieldV lp] 0), (2, .ptr b5 0), (3, .ptr b4 0), (4, .fptr [progA P] 0), (5, .fptr [.int .i64 (rawE x).op, .int .i64 (rawE x).n, .slc 3 ((x.kids.map rawE).map CRaw.av) .fro] 0), (14, .slc 3 ((x.kids.map rawE).map CRaw.av) .fro), (15, .int .i64 x.kids.length), (16, .int .i64 (q.1 : Int))]) (fun q => evK b4 b5 lp P q.2.1 ++ q.2.2)
      (fun q => q.1 ≤ x.kids.length ∧ (∀ n ∈ m, n ∈ q.2.1) ∧ (evL (evW P k) (x.kids.drop q.1) q.2.1).2 = A.2 ∧ Go ((evL (evW P k) (x.kids.drop q.1) q.2.1).1 ++ (T ++ rest)) q.2.2) (fun q => x.kids.length - q.1) (0, m, K') ⟨by simp, fun _ h => h, by simp [hA], by simpa [hA] using hgo⟩ (by repeat (first | exact trivial | refine ⟨⟨_, rfl, aRfl⟩, ?_⟩ | refine ⟨⟨_, rfl, AVle.of_eq (by simp)⟩, ?_⟩)) (Sels.allZ _) ?_
    rintro ⟨j, mj, K₀⟩ ⟨hj, hms, hm2, hgo⟩ hok
    simp only at hj hms hm2 hgo hok ⊢
    repeat (first | (with_reducible first | apply CW.seq | apply aN) | refine wR rfl ?_)
    refine CW.cond rfl (fun hh => ?_) (fun hh => ?_)
    · have hlt : j < x.kids.length := by simpa using hh
      have hy : x.kids[j]? = some x.kids[j] := List.getElem?_eq_getElem hlt
      generalize x.kids[j] = y at hy
      have hy' : ((x.kids.map rawE).map CRaw.av)[j]? = some (.agg [.int .i64 (rawE y).op, .int .i64 (rawE y).n, .slc 3 ((rawE y).kids.map CRaw.av) .fro]) := by
        rw [List.getElem?_map, List.getElem?_map, hy]
        exact congrArg some (CRaw.av_eq _)
      have hmem := List.mem_of_getElem? hy
      have hys := mem_sizesE hmem
      have hdr : x.kids.drop j = y :: x.kids.drop (j + 1) := drop_cons hy
      rw [hdr, evL] at hm2 hgo
      simp only at hm2 hgo
      have hu := Nat.mul_le_mul_right S (unmet_mono hms P.length)
      have hw1 := evW_whole hS k y mj (hxc.kid hmem) (by omega)
      have hcall := evWalk_spec hP6 hY k y mj ((evL (evW P k) (x.kids.drop (j + 1)) (evW P k y mj).2).1 ++ (T ++ rest)) K₀ (by omega) (hxc.kid hmem) hPb (by rw [← List.append_assoc]; exact hgo) S hS (by omega)
      have hcv : LCallV Try.prog (evF b4 b5 lp P) [avE y] (evK b4 b5 lp P mj ++ K₀) _ := LCallV.of_calls (first := []) (cap := [.fptr [yieldV lp] 0, .ptr b5 0, .ptr b4 0, .fptr [progA P] 0]) hcall
      unfold avE at hcv
      rw [CRaw.av_eq] at hcv
      unfold evK at hok hcv ⊢
      repeat (first | (with_reducible first | apply CW.seq | apply aN | apply CW.skip | apply CW.block) | refine CW.reg ?_ | refine wS rfl ?_ | refine RL.idx tO _ rfl rfl rfl rfl rfl rfl rfl rfl rfl rfl rfl (by assumption) rfl ?_)
      refine RL.newBox tO rfl rfl rfl rfl rfl rfl rfl (fun _ => rfl) rfl rfl (fun _ => rfl) rfl rfl rfl rfl ?_
      repeat (first | (with_reducible first | apply CW.seq | apply aN) | refine CW.reg ?_ | refine RL.nil ?_ | refine wS rfl ?_ | refine RL.loadL tO hok rfl rfl rfl rfl rfl rfl (by repeat (first | exact Sel.here | apply Sel.there)) (by exact rfl) ?_)
      refine RL.callVL rfl rfl rfl rfl rfl rfl hcv hok (Sels.allZ _) ?_ ?_
      rotate_left
      · rintro x' _ (⟨h, -⟩ | ⟨h, -⟩ | ⟨v, K₁, m₁, ⟨⟩, rfl, hp⟩) hok
        · cases h
        · cases h
        · rw [List.append_nil] at hok ⊢
          repeat (with_reducible first | apply aP | apply iP)
          exact Fin.panicL hok aRfl (Sels.allZ _) (.inr (.inr ⟨_, K₁, m₁, rfl, rfl, hp⟩))
      rintro x' _ (⟨⟨⟩, K₁, rfl, hgo₁⟩ | ⟨⟨⟩, K₁, m₁, rfl, hd⟩ | ⟨v, _, _, h, -⟩) hok
      rotate_left
      · rw [List.append_nil] at hok ⊢
        repeat (first | (with_reducible first | apply CW.seq | apply aN | apply aR | apply iR | apply CW.ret) | refine wR rfl ?_ | refine RL.nil ?_ | refine CW.condT rfl ?_ | refine wS rfl ?_)
        exact Fin.retL hok rfl aRfl (Sels.allZ _) (.inr (.inl ⟨rfl, K₁, m₁, rfl, hd⟩))
      · cases h
      rw [List.append_nil] at hok ⊢
      repeat (first | (with_reducible first | apply aN | apply iN | apply CW.skip) | refine wR rfl ?_ | refine RL.nil ?_ | refine CW.condF rfl ?_ | refine wS rfl ?_)
      exact NextL.mk (j + 1, (evW P k y mj).2, K₁) hok ⟨hlt, fun n hn => hw1.sub n (hms n hn), hm2, hgo₁⟩ (by repeat (first | exact trivial | refine ⟨⟨_, rfl, aRfl⟩, ?_⟩ | refine ⟨⟨_, rfl, AVle.of_eq (by (rw [i64_succ (by omega)]))⟩, ?_⟩)) (Sels.allZ _) (by show x.kids.length - (j + 1) < x.kids.length - j; omega)
    · have hge : j = x.kids.length := by
        have : x.kids.length ≤ j := by simpa using hh
        omega
      subst hge
      rw [List.drop_length, evL] at hm2 hgo
      simp only [List.nil_append] at hm2 hgo
      subst hm2
      unfold evK at hok ⊢
      repeat (first | (with_reducible first | apply CW.seq | apply aN | apply aX | apply iH | apply CW.exit) | refine CW.reg ?_ | refine wS rfl ?_)
      cases hx7 : (rawE x).op == 7 with
      | false =>
        have htg : x.target = none := by cases x <;> first | rfl | (simp [rawE, CRaw.op] at hx7)
        rw [htg] at hT ⊢
        subst hT
        repeat (first | (with_reducible first | apply CW.seq | apply aN | apply CW.ret | apply CW.skip) | refine wR rfl ?_ | refine RL.nil ?_ | refine CW.condF rfl ?_ | refine wS rfl ?_ | refine RL.skip rfl rfl rfl ?_)
        exact Fin.retL hok rfl aRfl (Sels.allZ _) (.inl ⟨rfl, K₀, rfl, by simpa using hgo⟩)
      | true =>
        have : ∃ n a, x = .call n a := by cases x <;> first | exact ⟨_, _, rfl⟩ | (simp [rawE, CRaw.op] at hx7)
        obtain ⟨n, a, rfl⟩ := this
        have hn := hxc n a (.refl _)
        have hn6 : n < 6 := by omega
        obtain ⟨bi, -, hbi, -, -, hbs, -⟩ := tO.parts (t := 4) (i := ⟨.bool, 1, 1, .bool false⟩) rfl
        have hmn := metA_at (m := A.2) hn6
        have hel : ((P.map rawE).map CRaw.av)[n]? = some (.agg (rawE (P.getD n default)).cells) := by
          rw [← CRaw.av_eq, List.getElem?_map, List.getElem?_map, List.getD_eq_getElem?_getD, List.getElem?_eq_getElem hn]; rfl
        simp only [CExp.target] at hT ⊢
        repeat (first | refine wS rfl ?_)
        refine RL.idxArr n rfl rfl rfl Try.underlying100 hbi hbs rfl rfl rfl rfl hn6 ?_
        refine RL.loadL tO hok rfl rfl rfl rfl rfl rfl (.there .here) (loadC_bool (by rw [Nat.mul_one]; exact hmn)) ?_
        cases hc : A.2.contains n with
        | true =>
          rw [hc] at hT
          subst hT
          repeat (first | (with_reducible first | apply CW.seq | apply aN | apply CW.ret | apply CW.skip) | refine wR rfl ?_ | refine RL.nil ?_ | refine CW.condF rfl ?_ | refine wS rfl ?_)
          exact Fin.retL hok rfl aRfl (Sels.allZ _) (.inl ⟨rfl, K₀, rfl, by simpa using hgo⟩)
        | false =>
          rw [hc] at hT
          simp only [Bool.false_eq_true, if_false] at hT ⊢
          have hnm : n ∉ A.2 := by simpa using hc
          have hu1 := Nat.mul_le_mul_right S (unmet_mono hwh.sub P.length)
          have hu := Nat.mul_le_mul_right S (unmet_cons hnm hn)
          rw [Nat.add_mul, Nat.one_mul] at hu
          have hsn := hS n
          have hcall := evWalk_spec hP6 hY k (P.getD n default) (n :: A.2) rest K₀ (hPb n) hxc.call hPb (by rw [hT]; exact hgo) S hS (by omega)
          have hcv : LCallV Try.prog (evF b4 b5 lp P) [avE (P.getD n default)] (evK b4 b5 lp P (n :: A.2) ++ K₀) _ := LCallV.of_calls (first := []) (cap := [.fptr [yieldV lp] 0, .ptr b5 0, .ptr b4 0, .fptr [progA P] 0]) hcall
          unfold avE at hcv
          rw [CRaw.av_eq] at hcv
          generalize P.getD n default = q at hel hcv ⊢
          repeat (first | (with_reducible first | apply CW.seq | apply aN) | refine CW.reg ?_ | refine RL.nil ?_ | refine CW.condT rfl ?_ | refine wS rfl ?_)
          refine RL.idxArr n rfl rfl rfl Try.underlying100 hbi hbs rfl rfl rfl rfl hn6 ?_
          refine RL.storeL tO hok rfl rfl rfl rfl rfl rfl rfl rfl rfl (.there .here) (Nat.ble_eq_true_of_le (by simp [metA]; omega)) (fun hok => ?_)
          rw [Nat.mul_one, metA_put hn6] at hok ⊢
          refine RL.dropL hok (evK b4 b5 lp P (n :: A.2) ++ K₀) (.cons (.there .here) (.cons .here (Sels.allZ _))) fun hok => ?_
          unfold evK at hok hcv ⊢
          repeat (first | (with_reducible first | apply CW.seq | apply aN) | refine RL.nil ?_)
          refine CW.drw tO mixed rfl (RD.run rfl ?_)
          refine RD.idx 4 n rfl rfl rfl rfl rfl rfl rfl rfl rfl rfl rfl rfl rfl hel rfl ?_
          refine RD.run rfl ?_
          refine RD.loadL 0 tO hok rfl rfl rfl rfl rfl rfl rfl rfl (by repeat (first | exact Sel.here | apply Sel.there)) (by exact rfl) ?_; refine RD.run rfl ?_
          refine RD.callVL 6 rfl rfl rfl rfl rfl rfl rfl rfl hcv hok (Sels.allZ _) ?_ ?_
          rotate_left
          · rintro x' _ (⟨h, -⟩ | ⟨h, -⟩ | ⟨v, K₁, m₁, ⟨⟩, rfl, hp⟩) hok
            · cases h
            · cases h
            · rw [List.append_nil] at hok ⊢
              repeat (first | with_reducible apply aP)
              exact Fin.panicL hok aRfl (Sels.allZ _) (.inr (.inr ⟨_, K₁, m₁, rfl, rfl, hp⟩))
          rintro x' _ (⟨⟨⟩, K₁, rfl, hgo₁⟩ | ⟨⟨⟩, K₁, m₁, rfl, hd⟩ | ⟨v, _, _, h, -⟩) hok
          · rw [List.append_nil] at hok ⊢
            refine RD.run rfl (RD.done rfl ?_)
            repeat (with_reducible first | apply aN | apply aR | apply CW.ret)
            exact Fin.retL hok rfl aRfl (Sels.allZ _) (.inl ⟨rfl, K₁, rfl, hgo₁⟩)
          · rw [List.append_nil] at hok ⊢
            refine RD.run rfl (RD.done rfl ?_)
            repeat (with_reducible first | apply aN | apply aR | apply CW.ret)
            exact Fin.retL hok rfl aRfl (Sels.allZ _) (.inr (.inl ⟨rfl, K₁, m₁, rfl, hd⟩))
          · cases h
end
end Go.Proofs.Ytdeiinhccdlfiaa

/- Chapter 19, plain: what is left when increasing runs are cut down to one each. -/
namespace Go.Proofs.Ytdeiinhccdlfiaa
open Go.AE Go.Cond

theorem upTo_inc {l : List Int} (h : l.Pairwise (· ≤ ·)) : ∀ m, m ≤ l.length → Inc (Lib.compactUpTo l.toArray m) ∧ (∀ z, z ∈ Lib.compactUpTo l.toArray m ↔ ∃ i, i < m ∧ l[i]? = some z)
  | 0, _ => ⟨by simp [Lib.compactUpTo, Inc], fun z => by simp [Lib.compactUpTo]⟩
  | m + 1, hm => by
    obtain ⟨h1, h2⟩ := upTo_inc h m (by omega)
    have hl : m < l.length := hm
    have hgm : l.toArray[m]! = l[m] := by simp [hl]
    have hle : ∀ i j (hi : i < l.length) (hj : j < l.length), i ≤ j → l[i] ≤ l[j] := by
      intro i j hi hj hij
      rcases Nat.lt_or_eq_of_le hij with hij | rfl
      · exact List.pairwise_iff_getElem.1 h i j hi hj hij
      · exact Int.le_refl _
    rw [Lib.compactUpTo_succ]
    by_cases hk : Lib.keeps l.toArray m = true
    · rw [if_pos hk, hgm]
      refine ⟨?_, fun z => ?_⟩
      · unfold Inc at h1 ⊢
        rw [List.pairwise_append]
        refine ⟨h1, by simp, fun a ha b hb => ?_⟩
        obtain rfl : b = l[m] := by simpa using hb
        obtain ⟨i, hi, hia⟩ := (h2 a).1 ha
        obtain ⟨hil, rfl⟩ := List.getElem?_eq_some_iff.1 hia
        have hm0 : m ≠ 0 := by omega
        have hne : l[m] ≠ l[m - 1]'(by omega) := by
          unfold Lib.keeps at hk
          have hg2 : l.toArray[m - 1]! = l[m - 1]'(by omega) := by simp [show m - 1 < l.length by omega]
          rw [hgm, hg2] at hk
          simpa [hm0] using hk
        have q1 := hle i (m - 1) hil (by omega) (by omega)
        have q2 := hle (m - 1) m (by omega) hl (by omega)
        omega
      · rw [List.mem_append, h2]
        constructor
        · rintro (⟨i, hi, hz⟩ | hz)
          · exact ⟨i, by omega, hz⟩
          · obtain rfl : z = l[m] := by simpa using hz
            exact ⟨m, by omega, List.getElem?_eq_getElem hl⟩
        · rintro ⟨i, hi, hz⟩
          rcases Nat.lt_succ_iff_lt_or_eq.1 hi with hi | rfl
          · exact .inl ⟨i, hi, hz⟩
          · right
            rw [List.getElem?_eq_getElem hl] at hz
            cases hz; simp
    · rw [if_neg hk, List.append_nil]
      refine ⟨h1, fun z => ?_⟩
      rw [h2]
      have hm0 : m ≠ 0 := by
        intro e; subst e
        exact hk (by unfold Lib.keeps; simp)
      have heq : l[m] = l[m - 1]'(by omega) := by
        unfold Lib.keeps at hk
        have hg2 : l.toArray[m - 1]! = l[m - 1]'(by omega) := by simp [show m - 1 < l.length by omega]
        rw [hgm, hg2] at hk
        simpa [hm0] using hk
      constructor
      · rintro ⟨i, hi, hz⟩; exact ⟨i, by omega, hz⟩
      · rintro ⟨i, hi, hz⟩
        rcases Nat.lt_succ_iff_lt_or_eq.1 hi with hi | rfl
        · exact ⟨i, hi, hz⟩
        · refine ⟨i - 1, by omega, ?_⟩
          rw [List.getElem?_eq_getElem hl] at hz
          rw [List.getElem?_eq_getElem (by omega), ← heq]; exact hz
def sortedI (l : List Int) : List Int := Lib.compact (l.mergeSort fun x y => decide (x ≤ y))
theorem sortedI_inc (l : List Int) : Inc (sortedI l) ∧ ∀ z, z ∈ sortedI l ↔ z ∈ l := by
 have hs : (l.mergeSort fun x y => decide (x ≤ y)).Pairwise (· ≤ ·) := by
  have := List.pairwise_mergeSort (le := fun (x y : Int) => decide (x ≤ y)) (fun a b c h1 h2 => by simp at *; omega) (fun a b => by simp; omega) l
  exact this.imp fun h => by simpa using h
 have hp := List.mergeSort_perm l fun x y => decide (x ≤ y)
 unfold sortedI Lib.compact
 obtain ⟨h1, h2⟩ := upTo_inc hs _ (Nat.le_refl _)
 refine ⟨h1, fun z => ?_⟩
 rw [h2, ← hp.mem_iff]
 constructor
 ·rintro ⟨i, hi, hz⟩; exact List.mem_of_getElem? hz
 ·intro hz
  obtain ⟨i, hi⟩ := List.getElem?_of_mem hz
  exact ⟨i, (List.getElem?_eq_some_iff.1 hi).1, hi⟩
end Go.Proofs.Ytdeiinhccdlfiaa

/- Chapter 19: contracts of cond: every; does an expression signal (raises). -/
namespace Go.Proofs.Ytdeiinhccdlfiaa
open Go.AE Go.Cond

def evs (P : List CExp) (x : CExp) : List CExp := (evW P (P.length * (sizesE P + 1) + x.size) x []).1
theorem evs_sizes (P : List CExp) (n : Nat) : (P.getD n default).size ≤ sizesE P + 1 := by
 rw [List.getD_eq_getElem?_getD]
 cases h : P[n]? with
 | none => show CExp.size default ≤ _; have : CExp.size default = 1 := rfl; omega
 | some y => have := mem_sizesE (List.mem_of_getElem? h); show y.size ≤ _; omega
theorem evs_whole {P : List CExp} {x : CExp} (hx : OkC P x) : Whole P (sizesE P + 1) [x] [] x.size (evW P (P.length * (sizesE P + 1) + x.size) x []) :=
 evW_whole (evs_sizes P) _ x [] hx (by rw [unmet_nil]; exact Nat.le_refl _)
theorem evs_reach {P : List CExp} {x : CExp} (hx : OkC P x) (z : CExp) : z ∈ evs P x ↔ Cond.Reach P x z := whole_reach (evs_whole hx) z
theorem evs_length {P : List CExp} {x : CExp} (hx : OkC P x) : (evs P x).length ≤ P.length * (sizesE P + 1) + x.size := by
 have := (evs_whole hx).few
 rw [unmet_nil] at this
 unfold evs; omega
set_option maxRecDepth 10000 in
theorem evIter (P : List CExp) (x : CExp) (hP6 : P.length ≤ 6) (hx : OkC P x) (hxb : x.size < big) (hPb : sizesE P + 1 < big) :
  IterL Try.prog 66 [] [.fptr [progA P] 0, .fptr [.int .i64 (rawE x).op, .int .i64 (rawE x).n, .slc 3 ((rawE x).kids.map CRaw.av) .fro] 0] [] avE (evs P x) := by
 intro lp Go Done Pan hY K hgo
 refine LCalls.of_CW tO call66 Try.func66 rfl rfl fun s hok => ?_
 have hw := fun b4 b5 => evWalk_spec (b4 := b4) (b5 := b5) hP6 hY (P.length * (sizesE P + 1) + x.size) x [] [] K hxb hx (fun n => by have := evs_sizes P n; omega) (by rw [List.append_nil]; exact hgo) (sizesE P + 1) (evs_sizes P) (by rw [unmet_nil]; exact Nat.le_refl _)
 have hcv : ∀ b4 b5, LCallV Try.prog (evF b4 b5 lp P) [avE x] (evK b4 b5 lp P [] ++ K) _ := fun b4 b5 => LCallV.of_calls (first := []) (cap := [.fptr [yieldV lp] 0, .ptr b5 0, .ptr b4 0, .fptr [progA P] 0]) (hw b4 b5)
 unfold avE at hcv
 rw [CRaw.av_eq] at hcv
 repeat (first | (with_reducible first | apply CW.seq | apply aN) | refine wR rfl ?_ | refine CW.reg ?_)
 refine RL.allocZ hok rfl rfl rfl rfl (info := Try.t100) (zv := .agg #[.bool false, .bool false, .bool false, .bool false, .bool false, .bool false]) (cs := metA []) (by kernel_rfl) (by kernel_rfl) rfl rfl (fun b4 hok => ?_)
 repeat (first | (with_reducible first | apply CW.seq | apply aN) | refine CW.reg ?_ | refine RL.nil ?_)
 refine RL.allocL tO hok rfl rfl rfl rfl rfl rfl rfl (fun b5 hok => ?_)
 repeat (first | (with_reducible first | apply CW.seq | apply aN) | refine CW.reg ?_ | refine RL.nil ?_ | refine wS rfl ?_ | refine RL.loadL tO hok rfl rfl rfl rfl rfl rfl (by repeat (first | exact Sel.here | apply Sel.there)) (by exact rfl) ?_ | refine RL.storeL tO hok rfl rfl rfl rfl rfl rfl rfl rfl rfl (by repeat (first | exact Sel.here | apply Sel.there)) (by exact rfl) (fun hok => ?_))
 have hcv := hcv b4 b5
 refine RL.callVL rfl rfl rfl rfl rfl rfl hcv hok (Sels.allZ _) ?_ ?_
 rotate_left
 ·rintro x' _ (⟨h, -⟩ | ⟨h, -⟩ | ⟨v, K₁, m₁, ⟨⟩, rfl, hp⟩) hok
  ·cases h
  ·cases h
  ·rw [List.append_nil] at hok ⊢
   skip
   exact Fin.panicL hok aRfl (Sels.skip _) (.inr ⟨_, rfl, hp⟩)
 rintro x' _ (⟨⟨⟩, K₁, rfl, hgo₁⟩ | ⟨⟨⟩, K₁, m₁, rfl, hd⟩ | ⟨v, _, _, h, -⟩) hok
 ·rw [List.append_nil] at hok ⊢
  repeat (first | refine RL.nil ?_)
  exact Fin.retL hok rfl aRfl (Sels.skip _) (.inl ⟨rfl, .inl hgo₁⟩)
 ·rw [List.append_nil] at hok ⊢
  repeat (first | refine RL.nil ?_)
  exact Fin.retL hok rfl aRfl (Sels.skip _) (.inl ⟨rfl, .inr hd⟩)
 ·cases h
set_option maxRecDepth 10000 in
theorem every_spec (P : List CExp) (x : CExp) : PCalls Try.prog 39 [progA P, .agg [.int .i64 (rawE x).op, .int .i64 (rawE x).n, .slc 3 ((rawE x).kids.map CRaw.av) .fro]] (.func 66 [] [.fptr [progA P] 0, .fptr [.int .i64 (rawE x).op, .int .i64 (rawE x).n, .slc 3 ((rawE x).kids.map CRaw.av) .fro] 0]) := by
 refine PCalls.of_CW tO call39 Try.func39 rfl rfl fun s hok => ?_
 unfold progA
 repeat (first | (with_reducible first | apply CW.seq | apply aN | apply CW.ret) | refine wR rfl ?_)
 exact Fin.retP hok rfl aRfl
end Go.Proofs.Ytdeiinhccdlfiaa

/- Chapter 19: contracts of cond: does an expression signal (raises). -/
namespace Go.Proofs.Ytdeiinhccdlfiaa
open Go.AE Go.Cond

def raisesB (P : List CExp) (x : CExp) (n : Int) : Bool := (evs P x).any fun y => hits y n
theorem hits_raw (y : CExp) (n : Int) : hits y n = (((rawE y).op == 9 || (rawE y).op == 10) && (decide (n < 0) || (rawE y).n == n)) := by
 cases y <;> simp [hits, rawE, CRaw.op, CRaw.n]
set_option maxRecDepth 10000 in
set_option maxHeartbeats 1000000 in
theorem raises_spec (P : List CExp) (x : CExp) (n : Int) (hP6 : P.length ≤ 6) (hx : OkC P x) (hxb : x.size < big) (hPb : sizesE P + 1 < big) :
  PCalls Try.prog 59 [progA P, .agg [.int .i64 (rawE x).op, .int .i64 (rawE x).n, .slc 3 ((rawE x).kids.map CRaw.av) .fro], .int .i64 n] (.bool (raisesB P x n)) := by
 refine PCalls.of_CW tO call59 Try.func59 rfl rfl fun s hok => ?_
 repeat (first | with_reducible apply CW.seq | refine CW.reg ?_ | refine wS rfl ?_)
 refine RL.allocL tO hok rfl rfl rfl rfl rfl rfl rfl (fun b6 hok => ?_)
 repeat (first | (with_reducible first | apply CW.seq | apply aN) | refine CW.reg ?_ | refine RL.nil ?_ | refine wS rfl ?_)
 refine RL.callPP rfl rfl rfl rfl rfl (every_spec P x) ?_
 repeat (first | (with_reducible first | apply aN | apply CW.block) | refine RL.nil ?_)
 refine CW.rangeFL hok rfl (by decide) (evIter P x hP6 hx hxb hPb) .nil (fun rem K => raisesB P x n = (rem.any fun y => hits y n) ∧ K = [(.own b6, .box 4 [.bool false])]) (fun j K => j = .ret ∧ raisesB P x n = true ∧ K = [(.own b6, .box 4 [.bool true])]) (fun _ _ => False) ⟨rfl, rfl⟩ ?_ ?_ ?_ (fun _ _ h => h.elim)
 ·rintro s₁ y rem K ⟨hr, rfl⟩ hok
  have hq := hits_raw y n
  unfold avE
  rw [CRaw.av_eq]
  rw [List.any_cons] at hr
  repeat (first | refine CW.reg ?_)
  refine RL.newBox tO rfl rfl rfl rfl rfl rfl rfl (fun _ => rfl) rfl rfl (fun _ => rfl) rfl rfl rfl rfl ?_
  repeat (first | (with_reducible first | apply CW.seq | apply aN | apply CW.block) | refine CW.reg ?_ | refine RL.nil ?_ | refine wS rfl ?_)
  cases h9 : (rawE y).op == 9 with
  | true =>
   rw [h9] at hq
   repeat (first | refine wS rfl ?_ | refine RL.skip rfl rfl rfl ?_)
   cases hn : decide (n < 0) with
   | true =>
    rw [hn] at hq
    repeat (first | (with_reducible first | apply CW.seq | apply aN | apply iR | apply CW.ret) | refine CW.reg ?_ | refine RL.nil ?_ | refine CW.condT rfl ?_ | refine wS rfl ?_ | refine RL.skip rfl rfl rfl ?_ | refine RL.storeL tO hok rfl rfl rfl rfl rfl rfl rfl rfl rfl (by repeat (first | exact Sel.here | apply Sel.there)) (by exact rfl) (fun hok => ?_))
    exact At.mk _ hok (Sels.allZ _) ⟨rfl, by rw [hr, hq]; rfl, rfl⟩
   | false =>
    rw [hn] at hq
    repeat (first | with_reducible apply aN | refine RL.nil ?_ | refine wS rfl ?_)
    cases hm : (rawE y).n == n with
    | true =>
     rw [hm] at hq
     repeat (first | (with_reducible first | apply CW.seq | apply aN | apply iR | apply CW.ret) | refine CW.reg ?_ | refine RL.nil ?_ | refine CW.condT rfl ?_ | refine RL.storeL tO hok rfl rfl rfl rfl rfl rfl rfl rfl rfl (by repeat (first | exact Sel.here | apply Sel.there)) (by exact rfl) (fun hok => ?_))
     exact At.mk _ hok (Sels.allZ _) ⟨rfl, by rw [hr, hq]; rfl, rfl⟩
    | false =>
     rw [hm] at hq
     repeat (first | (with_reducible first | apply iN | apply CW.skip) | refine CW.condF rfl ?_)
     exact At.mk _ hok (Sels.allZ _) ⟨by rw [hr, hq]; rfl, rfl⟩
  | false =>
   rw [h9] at hq
   repeat (first | refine wS rfl ?_)
   cases h10 : (rawE y).op == 10 with
   | false =>
    rw [h10] at hq
    repeat (first | (with_reducible first | apply aN | apply iN | apply CW.skip) | refine RL.nil ?_ | refine CW.condF rfl ?_ | refine wS rfl ?_ | refine RL.skip rfl rfl rfl ?_)
    exact At.mk _ hok (Sels.allZ _) ⟨by rw [hr, hq]; rfl, rfl⟩
   | true =>
    rw [h10] at hq
    repeat (first | refine wS rfl ?_)
    cases hn : decide (n < 0) with
    | true =>
     rw [hn] at hq
     repeat (first | (with_reducible first | apply CW.seq | apply aN | apply iR | apply CW.ret) | refine CW.reg ?_ | refine RL.nil ?_ | refine CW.condT rfl ?_ | refine wS rfl ?_ | refine RL.skip rfl rfl rfl ?_ | refine RL.storeL tO hok rfl rfl rfl rfl rfl rfl rfl rfl rfl (by repeat (first | exact Sel.here | apply Sel.there)) (by exact rfl) (fun hok => ?_))
     exact At.mk _ hok (Sels.allZ _) ⟨rfl, by rw [hr, hq]; rfl, rfl⟩
    | false =>
     rw [hn] at hq
     repeat (first | with_reducible apply aN | refine RL.nil ?_ | refine wS rfl ?_)
     cases hm : (rawE y).n == n with
     | true =>
      rw [hm] at hq
      repeat (first | (with_reducible first | apply CW.seq | apply aN | apply iR | apply CW.ret) | refine CW.reg ?_ | refine RL.nil ?_ | refine CW.condT rfl ?_ | refine RL.storeL tO hok rfl rfl rfl rfl rfl rfl rfl rfl rfl (by repeat (first | exact Sel.here | apply Sel.there)) (by exact rfl) (fun hok => ?_))
      exact At.mk _ hok (Sels.allZ _) ⟨rfl, by rw [hr, hq]; rfl, rfl⟩
     | false =>
      rw [hm] at hq
      repeat (first | (with_reducible first | apply iN | apply CW.skip) | refine CW.condF rfl ?_)
      exact At.mk _ hok (Sels.allZ _) ⟨by rw [hr, hq]; rfl, rfl⟩
 ·rintro K ⟨hr, rfl⟩ hok
  rw [hr]
  repeat (first | (with_reducible first | apply CW.seq | apply aN | apply iN | apply CW.ret) | refine CW.reg ?_ | refine RL.nil ?_ | refine RL.storeL tO hok rfl rfl rfl rfl rfl rfl rfl rfl rfl (by repeat (first | exact Sel.here | apply Sel.there)) (by exact rfl) (fun hok => ?_))
  exact Fin.retP hok (resA_cell rfl rfl (Sel.get Sel.here hok) rfl) aRfl
 ·rintro _ K ⟨rfl, hr, rfl⟩ hok
  rw [hr]
  repeat (with_reducible first | apply aR | apply iR | apply CW.ret)
  exact Fin.retP hok (resA_cell rfl rfl (Sel.get Sel.here hok) rfl) aRfl
end Go.Proofs.Ytdeiinhccdlfiaa

/- Chapter 19: contracts of cond: the errors of blocks (Errors). -/
namespace Go.Proofs.Ytdeiinhccdlfiaa
open Go.AE Go.Cond

/-! ### slices.Sort, slices.Compact -/
theorem int_enc (w : World) (p : Prot) (v : Value) (a : Int) (h : Rel w p v (.int .i64 a)) : v = .int .i64 a := by cases h; rfl
theorem sortC (b cap : Nat) (l : List Int) (rest : List AV) (hl : l.length < 4611686018427387904) :
  LCalls Try.prog 40 [cslc b l.length cap] [(.own b, .box 3 (l.map intA ++ rest))] (fun o K => o = .ret (.tup []) ∧ K = [(.own b, .box 3 ((l.mergeSort fun x y => decide (x ≤ y)).map intA ++ rest))]) :=
 LCalls.sort (α := Int) (enc := Value.int .i64) (encA := intA) (le := fun x y => decide (x ≤ y)) call40 int_enc (fun w p a => .int _ _) sortI_calls b cap l rest hl
theorem compact_length (l : List Int) : (Lib.compact l).length ≤ l.length := by
 unfold Lib.compact Lib.compactUpTo
 rw [List.length_map]
 exact Nat.le_trans (List.length_filter_le _ _) (by simp)
theorem compC (b cap : Nat) (l : List Int) (rest : List AV) (hl : l.length < 4611686018427387904) (hc : l.length ≤ cap) :
  LCalls Try.prog 41 [cslc b l.length cap] [(.own b, .box 3 (l.map intA ++ rest))] (fun o K => o = .ret (cslc b (Lib.compact l).length cap) ∧ K = [(.own b, .box 3 ((Lib.compact l ++ List.replicate (l.length - (Lib.compact l).length) 0).map intA ++ rest))]) := by
 have hcl := compact_length l
 refine LCalls.rewrite (α := Int) (enc := Value.int .i64) (encA := intA) (out := fun b cap => .slice (some ⟨b, 0, none⟩) (Lib.compact l).length cap) (outA := fun b cap => cslc b (Lib.compact l).length cap) call41 int_enc (fun w p a => .int _ _) b cap l (Lib.compact l ++ List.replicate (l.length - (Lib.compact l).length) 0) rest (by simp; omega) (fun w p => .conc _) fun w hH hb => ?_
 refine Calls.mono (compI_calls b 0 cap l w hH (by omega) hc) ?_
 rintro e w' ⟨rfl, q, rfl⟩
 exact ⟨rfl, q, #[], by unfold Sort.grow; rw [Array.append_empty]⟩
set_option maxRecDepth 10000 in
theorem sortNil_insert : PCalls Try.prog 94 [.slc 0 [] .nil, .int .i64 0, .int .i64 0] (.tup []) := by
 refine PCalls.of_CW tO call94 Try.func94 rfl rfl fun s hok => ?_
 repeat (first | (with_reducible first | apply CW.seq | apply aN | apply CW.block) | refine wR rfl ?_)
 refine CW.loopL hok (σ := Unit) (fun _ => [(2, .int .i64 0), (6, .int .i64 1)]) (fun _ => []) (fun _ => True) (fun _ => 0) () trivial (wE rfl) (by repeat (first | exact Sels.nil | (apply Sels.cons; · repeat (first | exact Sel.here | apply Sel.there)))) ?_
 rintro _ _ hok
 repeat (first | (with_reducible first | apply CW.seq | apply aN | apply aX | apply iH | apply CW.exit) | refine wR rfl ?_ | refine CW.condF rfl ?_)
 exact Fin.retP hok rfl aRfl
set_option maxRecDepth 10000 in
theorem sortNil_pdq (k : Int) : PCalls Try.prog 68 [.slc 0 [] .nil, .int .i64 0, .int .i64 0, .int .i64 k] (.tup []) := by
 refine PCalls.of_CW tO call68 Try.func68 rfl rfl fun s hok => ?_
 repeat (first | (with_reducible first | apply CW.seq | apply aN | apply CW.block) | refine wR rfl ?_)
 refine CW.loopL hok (σ := Unit) (fun _ => [(0, .slc 0 [] .nil), (1, .int .i64 0), (2, .int .i64 0)]) (fun _ => []) (fun _ => True) (fun _ => 0) () trivial (wE rfl) (by repeat (first | exact Sels.nil | (apply Sels.cons; · repeat (first | exact Sel.here | apply Sel.there)))) ?_
 rintro _ _ hok
 repeat (first | (with_reducible first | apply CW.seq | apply aN | apply CW.block) | refine wR rfl ?_ | refine CW.reg ?_ | refine CW.condT rfl ?_ | refine wS rfl ?_)
 refine RL.callPP rfl rfl rfl rfl rfl sortNil_insert ?_
 repeat (first | (with_reducible first | apply aN | apply aR | apply iR | apply CW.ret) | refine RL.nil ?_)
 exact Fin.retP hok rfl aRfl
set_option maxRecDepth 10000 in
theorem len64_0 : PCalls Try.prog 104 [.int .u64 0] (.int .i64 0) := by
 refine PCalls.of_CW tO call104 Try.func104 rfl rfl fun s hok => ?_
 repeat (first | (with_reducible first | apply CW.seq | apply aN | apply CW.skip) | refine wR rfl ?_ | refine CW.reg ?_ | refine CW.condF rfl ?_ | refine wS rfl ?_ | refine RL.stepX tO rfl rfl rfl rfl ?_)
 refine RL.sidx tO 0 rfl rfl rfl rfl rfl rfl rfl rfl rfl rfl ?_
 repeat (first | (with_reducible first | apply aN | apply CW.ret) | refine RL.nil ?_ | refine wS rfl ?_ | refine RL.stepX tO rfl rfl rfl rfl ?_)
 exact Fin.retP hok rfl aRfl
set_option maxRecDepth 10000 in
theorem len_0 : PCalls Try.prog 69 [.int .u64 0] (.int .i64 0) := by
 refine PCalls.of_CW tO call69 Try.func69 rfl rfl fun s hok => ?_
 repeat (first | (with_reducible first | apply CW.seq | apply aN | apply CW.skip) | refine wR rfl ?_ | refine CW.reg ?_ | refine CW.condF rfl ?_ | refine wS rfl ?_)
 refine RL.callPP rfl rfl rfl rfl rfl len64_0 ?_
 repeat (first | (with_reducible first | apply aN | apply CW.ret) | refine RL.nil ?_ | refine wS rfl ?_)
 exact Fin.retP hok rfl aRfl
set_option maxRecDepth 10000 in
theorem sortNil : PCalls Try.prog 40 [.slc 0 [] .nil] (.tup []) := by
 refine PCalls.of_CW tO call40 Try.func40 rfl rfl fun s hok => ?_
 repeat (first | (with_reducible first | apply CW.seq | apply aN) | refine wR rfl ?_ | refine CW.reg ?_ | refine wS rfl ?_ | refine RL.stepX tO rfl rfl rfl rfl ?_)
 refine RL.callPP rfl rfl rfl rfl rfl len_0 ?_
 skip
 refine RL.callPP rfl rfl rfl rfl rfl (sortNil_pdq 0) ?_
 repeat (first | refine RL.nil ?_)
 exact Fin.retP hok rfl aRfl
set_option maxRecDepth 10000 in
theorem compNil : PCalls Try.prog 41 [.slc 0 [] .nil] (intsA []) := by
 refine PCalls.of_CW tO call41 Try.func41 rfl rfl fun s hok => ?_
 repeat (first | (with_reducible first | apply CW.seq | apply aN | apply aR | apply CW.ret) | refine wR rfl ?_ | refine CW.condT rfl ?_)
 exact Fin.retP hok rfl (AVle.nil (by intro b h; cases h))

/-! ### A row that grows -/
abbrev Row := Option (Nat × Nat × List AV)
def rowAV (n : Nat) : Row → AV
 | none => .slc 0 [] .nil
 | some (b, cap, _) => cslc b n cap
def rowLS : Row → LS
 | none => []
 | some (b, _, cs) => [(.own b, .box 3 cs)]
def RowC (acc : List Int) : Row → Prop
 | none => acc = []
 | some (_, cap, cs) => cs.length = cap ∧ acc.length ≤ cap ∧ cs.take acc.length = acc.map intA
theorem ints_one (l : List Int) : (l.map intA).all oneC = true := List.all_eq_true.2 fun x hx => by obtain ⟨a, -, rfl⟩ := List.mem_map.1 hx; rfl
def failN : CExp → Option Int
 | .fails n _ => some n
 | _ => none
def errs (P : List CExp) (x : CExp) : List Int := sortedI ((evs P x).filterMap failN)
theorem failN_raw (y : CExp) : failN y = if (rawE y).op == 10 then some (rawE y).n else none := by cases y <;> rfl
set_option maxRecDepth 10000 in
theorem errorsBad_spec (p : List CRaw) (hp : CRaw.sizes p + 1 < big) (h : goodP p = false) : PCalls Try.prog 13 [.slc 3 (p.map CRaw.av) .fro] (.tup [.slc 1 [] .fro, .int .i64 2]) := by
 refine PCalls.of_CW tO call13 Try.func13 rfl rfl fun s hok => ?_
 repeat (first | (with_reducible first | apply CW.seq | apply aN) | refine wR rfl ?_ | refine CW.reg ?_ | refine wS rfl ?_)
 refine RL.callPP rfl rfl rfl rfl rfl (fine_spec p hp) ?_
 rw [h]
 repeat (first | (with_reducible first | apply CW.seq | apply aN | apply aR | apply CW.ret) | refine wR rfl ?_ | refine RL.nil ?_ | refine CW.condT rfl ?_ | refine wS rfl ?_)
 exact Fin.retP hok rfl (AVle.tup (.cons (AVle.nil (by intro b h; cases h)) (.one aRfl)))
set_option maxRecDepth 10000 in
set_option maxHeartbeats 2000000 in
theorem errorsOk_spec (P : List CExp) (hP : ∀ e ∈ P, OkC P e) (hP6 : P.length ≤ 6) (hp : CRaw.sizes (P.map rawE) + 1 < big) (hPb : 8 * (sizesE P + 1) < big) (h : goodP (P.map rawE) = true) :
  PCalls Try.prog 13 [progA P] (.tup [.slc 1 ((P.map (errs P)).map intsA) .fro, .int .i64 0]) := by
 have hb : big = 1099511627776 := rfl
 have hfi := fine_spec (P.map rawE) hp
 rw [h] at hfi
 have hlm : ((P.map rawE).map CRaw.av).length = P.length := by simp
 refine PCalls.of_CW tO call13 Try.func13 rfl rfl fun s hok => ?_
 unfold progA
 repeat (first | (with_reducible first | apply CW.seq | apply aN) | refine wR rfl ?_ | refine CW.reg ?_ | refine wS rfl ?_)
 refine RL.callPP rfl rfl rfl rfl rfl hfi ?_
 repeat (first | (with_reducible first | apply CW.seq | apply aN | apply CW.skip | apply CW.block) | refine wR rfl ?_ | refine RL.nil ?_ | refine CW.condF rfl ?_ | refine wS rfl ?_)
 refine CW.phantom hok 31 1 0 fun hok => ?_
 refine CW.loopL hok (σ := Nat × Own) (fun q => [(0, progA P), (4, .slc 1 (((P.take q.1).map (errs P)).map intsA) q.2), (12, progA P), (13, .int .i64 P.length), (14, .int .i64 (q.1 : Int))]) (fun q => [(q.2, .row 31 1 q.1)]) (fun q => q.1 ≤ P.length) (fun q => P.length - q.1) (0, .nil) (Nat.zero_le _) ⟨⟨_, rfl, aRfl⟩, ⟨_, rfl, AVle.nil (by intro b h; cases h)⟩, ⟨_, rfl, aRfl⟩, ⟨_, rfl, AVle.of_eq (by rw [hlm])⟩, ⟨_, rfl, aRfl⟩, trivial⟩ (by repeat (first | exact Sels.nil | (apply Sels.cons; · repeat (first | exact Sel.here | apply Sel.there)))) ?_
 rintro ⟨j, own⟩ hj hok
 simp only at hj hok ⊢
 unfold progA
 repeat (first | (with_reducible first | apply CW.seq | apply aN) | refine wR rfl ?_)
 refine CW.cond rfl (fun hlt => ?_) (fun hge => ?_)
 rotate_left
 ·have hge : j = P.length := by
   have : P.length ≤ j := by simpa using hge
   omega
  subst hge
  rw [List.take_length]
  repeat (first | (with_reducible first | apply CW.seq | apply aN | apply aX | apply iH | apply CW.ret | apply CW.exit) | refine wR rfl ?_)
  exact Fin.retP hok rfl (AVle.tup (.cons AVle.fro (.one aRfl)))
 have hlt : j < P.length := by simpa using hlt
 have hy : P[j]? = some P[j] := List.getElem?_eq_getElem hlt
 generalize P[j] = x at hy
 have hxm := List.mem_of_getElem? hy
 have hy' : ((P.map rawE).map CRaw.av)[j]? = some (.agg [.int .i64 (rawE x).op, .int .i64 (rawE x).n, .slc 3 ((rawE x).kids.map CRaw.av) .fro]) := by
  rw [List.getElem?_map, List.getElem?_map, hy]
  exact congrArg some (CRaw.av_eq _)
 have hxs := mem_sizesE hxm
 have hxc := hP x hxm
 have hel := evs_length hxc
 have hmul : P.length * (sizesE P + 1) ≤ 6 * (sizesE P + 1) := Nat.mul_le_mul_right _ hP6
 have htk : ((P.take j).map (errs P)).map intsA ++ [intsA (errs P x)] = ((P.take (j + 1)).map (errs P)).map intsA := by
  rw [List.map_map, List.map_map]; exact take_succ_map (fun x => intsA (errs P x)) hy
 have hev := every_spec P x
 unfold progA at hev
 repeat (first | (with_reducible first | apply CW.seq | apply aN | apply CW.skip | apply CW.block) | refine CW.reg ?_ | refine wS rfl ?_ | refine RL.idx tO _ rfl rfl rfl rfl rfl rfl rfl rfl rfl rfl rfl (by assumption) rfl ?_)
 refine RL.newBox tO rfl rfl rfl rfl rfl rfl rfl (fun _ => rfl) rfl rfl (fun _ => rfl) rfl rfl rfl rfl ?_
 repeat (first | (with_reducible first | apply CW.seq | apply aN) | refine CW.reg ?_ | refine RL.nil ?_)
 refine RL.allocL tO hok rfl rfl rfl rfl rfl rfl rfl (fun b7 hok => ?_)
 repeat (first | (with_reducible first | apply CW.seq | apply aN) | refine CW.reg ?_ | refine RL.nil ?_ | refine wS rfl ?_)
 refine RL.callPP rfl rfl rfl rfl rfl hev ?_
 repeat (first | (with_reducible first | apply aN | apply CW.block) | refine RL.nil ?_)
 refine CW.rangeFL hok rfl (by decide) (evIter P x hP6 hxc (by omega) (by omega)) .nil (fun rem K => ∃ pre row, evs P x = pre ++ rem ∧ RowC (pre.filterMap failN) row ∧ K = (.own b7, .box 31 [rowAV (pre.filterMap failN).length row]) :: (rowLS row ++ [(own, .row 31 1 j)])) (fun _ _ => False) (fun _ _ => False) ⟨[], none, rfl, rfl, rfl⟩ ?_ ?_ (fun _ _ h => h.elim) (fun _ _ h => h.elim)
 ·rintro s₁ y rem K ⟨pre, row, hpre, hrow, rfl⟩ hok
  have hpl : (pre.filterMap failN).length ≤ (evs P x).length := Nat.le_trans (List.length_filterMap_le _ _) (by rw [hpre]; simp)
  have hfl := failN_raw y
  have hfm : (pre ++ [y]).filterMap failN = pre.filterMap failN ++ (failN y).toList := by
   rw [List.filterMap_append]
   cases hfy : failN y <;> simp [List.filterMap_cons, hfy]
  unfold avE
  rw [CRaw.av_eq]
  repeat (first | refine CW.reg ?_)
  refine RL.newBox tO rfl rfl rfl rfl rfl rfl rfl (fun _ => rfl) rfl rfl (fun _ => rfl) rfl rfl rfl rfl ?_
  repeat (first | (with_reducible first | apply CW.seq | apply aN | apply CW.block) | refine wR rfl ?_ | refine RL.nil ?_)
  cases h10 : (rawE y).op == 10 with
  | false =>
   rw [if_neg (by simpa using h10)] at hfl
   rw [hfl] at hfm
   repeat (first | (with_reducible first | apply iN | apply CW.skip) | refine CW.condF rfl ?_)
   exact At.mk _ hok (Sels.allZ _) ⟨pre ++ [y], row, by rw [hpre]; simp, by rw [hfm]; simpa using hrow, by rw [hfm]; simp⟩
  | true =>
   rw [if_pos (by simpa using h10)] at hfl
   rw [hfl] at hfm
   generalize pre.filterMap failN = acc at hpl hfm hrow hok ⊢
   cases row with
   | none =>
    have hacc : acc = [] := hrow
    subst hacc
    simp only [rowAV, rowLS, List.nil_append, List.cons_append, List.length_nil] at hok ⊢
    repeat (first | refine CW.reg ?_ | refine CW.condT rfl ?_ | refine wS rfl ?_ | refine RL.loadL tO hok rfl rfl rfl rfl rfl rfl (by repeat (first | exact Sel.here | apply Sel.there)) (by exact rfl) ?_)
    refine RL.append0C tO hok rfl rfl rfl rfl rfl rfl rfl (by intro k; simp) rfl rfl rfl rfl rfl rfl rfl (by decide) (fun b' cap' cs' c1 c2 c3 hok => ?_)
    repeat (first | with_reducible apply iN | refine RL.nil ?_ | refine RL.storeL tO hok rfl rfl rfl rfl rfl rfl rfl rfl rfl (by repeat (first | exact Sel.here | apply Sel.there)) (by exact rfl) (fun hok => ?_))
    exact At.mk ((.own b7, .box 31 [rowAV ((pre ++ [y]).filterMap failN).length (some (b', cap', cs'))]) :: (rowLS (some (b', cap', cs')) ++ [(own, .row 31 1 j)])) hok (by rw [hfm]; exact .cons .here (.cons .here (.cons .here .nil))) ⟨pre ++ [y], some (b', cap', cs'), by rw [hpre]; simp, by rw [hfm]; exact ⟨c1, c2, c3⟩, rfl⟩
   | some q =>
    obtain ⟨rb, cap, cs⟩ := q
    obtain ⟨k1, k2, k3⟩ := hrow
    simp only [rowAV, rowLS, List.nil_append, List.cons_append, List.length_nil] at hok ⊢
    repeat (first | refine CW.reg ?_ | refine CW.condT rfl ?_ | refine wS rfl ?_ | refine RL.loadL tO hok rfl rfl rfl rfl rfl rfl (by repeat (first | exact Sel.here | apply Sel.there)) (by exact rfl) ?_)
    refine RL.appendC tO hok rfl rfl rfl rfl rfl rfl rfl (by intro k; simp) rfl rfl rfl rfl (by repeat (first | exact Sel.here | apply Sel.there)) k1 k2 (by rw [k3]; exact ints_one _) rfl rfl rfl (by show (_ + 1) * 8 ≤ _; omega) (by omega) (fun b' cap' cs' c1 c2 c3 hok => ?_)
    repeat (first | with_reducible apply iN | refine RL.nil ?_ | refine RL.storeL tO hok rfl rfl rfl rfl rfl rfl rfl rfl rfl (by repeat (first | exact Sel.here | apply Sel.there)) (by exact rfl) (fun hok => ?_))
    have hc3 : cs'.take (acc ++ (some (rawE y).n).toList).length = (acc ++ (some (rawE y).n).toList).map intA := by
     rw [List.length_append]
     show cs'.take (acc.length + 1) = _
     rw [c3, k3, List.map_append]; rfl
    exact At.mk ((.own b7, .box 31 [rowAV ((pre ++ [y]).filterMap failN).length (some (b', cap', cs'))]) :: (rowLS (some (b', cap', cs')) ++ [(own, .row 31 1 j)])) hok (by rw [hfm]; simp only [List.length_append, Option.toList, List.length_cons, List.length_nil]; exact .cons .here (.cons .here (.cons .here .nil))) ⟨pre ++ [y], some (b', cap', cs'), by rw [hpre]; simp, by rw [hfm]; exact ⟨c1, by simpa using c2, hc3⟩, rfl⟩
 ·rintro K ⟨pre, row, hpre, hrow, rfl⟩ hok
  rw [List.append_nil] at hpre
  subst hpre
  have hpl : ((evs P x).filterMap failN).length ≤ (evs P x).length := List.length_filterMap_le _ _
  have herr : errs P x = sortedI ((evs P x).filterMap failN) := rfl
  generalize (evs P x).filterMap failN = acc at hpl hrow hok herr ⊢
  cases row with
  | none =>
   have hacc : acc = [] := hrow
   subst hacc
   have herr : errs P x = [] := by rw [herr]; simp [sortedI, Lib.compact, Lib.compactUpTo]
   rw [herr] at htk
   simp only [rowAV, rowLS, List.nil_append, List.cons_append, List.length_nil] at hok ⊢
   repeat (first | (with_reducible first | apply CW.seq | apply aN | apply iN) | refine CW.reg ?_ | refine RL.loadL tO hok rfl rfl rfl rfl rfl rfl (by repeat (first | exact Sel.here | apply Sel.there)) (by exact rfl) ?_)
   refine RL.callPP rfl rfl rfl rfl rfl sortNil ?_
   repeat (first | with_reducible apply aN | refine CW.reg ?_ | refine RL.nil ?_ | refine wS rfl ?_ | refine RL.loadL tO hok rfl rfl rfl rfl rfl rfl (by repeat (first | exact Sel.here | apply Sel.there)) (by exact rfl) ?_)
   refine RL.callPP rfl rfl rfl rfl rfl compNil ?_
   repeat (first | refine wS rfl ?_)
   refine RL.append1L tO hok rfl rfl rfl rfl rfl rfl rfl (by intro k; simp) rfl rfl rfl rfl rfl rfl rfl rfl (by repeat (first | exact Sel.here | apply Sel.there)) (by simp <;> omega) (by show (_ + 1) * 24 ≤ _; omega) (by omega) (fun o2 hok => ?_)
   repeat (first | (with_reducible first | apply aN | apply iN) | refine wR rfl ?_ | refine RL.nil ?_ | refine wS rfl ?_)
   exact NextL.mk (j + 1, .own o2) hok hlt (by repeat (first | exact trivial | refine ⟨⟨_, rfl, aRfl⟩, ?_⟩ | refine ⟨⟨_, rfl, AVle.of_eq (by (first | rw [i64_succ (by omega)] | rw [← htk]))⟩, ?_⟩)) (by repeat (first | exact Sels.nil | (apply Sels.cons; · repeat (first | exact Sel.here | apply Sel.there)))) (by show P.length - (j + 1) < P.length - j; omega)
  | some q =>
   obtain ⟨rb, cap, cs⟩ := q
   obtain ⟨k1, k2, k3⟩ := hrow
   have hcs : cs = acc.map intA ++ cs.drop acc.length := by rw [← k3, List.take_append_drop]
   generalize cs.drop acc.length = rest at hcs
   subst hcs
   have hms := List.length_mergeSort (le := fun x y : Int => decide (x ≤ y)) acc
   have hso := sortC rb cap acc rest (by omega)
   have herr2 : errs P x = Lib.compact (acc.mergeSort fun x y => decide (x ≤ y)) := herr
   rw [← hms] at k2
   have hcm := compC rb cap (acc.mergeSort fun x y => decide (x ≤ y)) rest (by omega) k2
   have hcl := compact_length (acc.mergeSort fun x y => decide (x ≤ y))
   simp only [rowAV, rowLS, List.nil_append, List.cons_append, List.length_nil] at hok ⊢
   repeat (first | (with_reducible first | apply CW.seq | apply aN | apply iN) | refine CW.reg ?_ | refine RL.loadL tO hok rfl rfl rfl rfl rfl rfl (by repeat (first | exact Sel.here | apply Sel.there)) (by exact rfl) ?_)
   refine RL.callR rfl rfl rfl rfl rfl hso hok (by repeat (first | exact Sels.nil | (apply Sels.cons; · repeat (first | exact Sel.here | apply Sel.there)))) (fun hok => ?_)
   rw [← hms] at hok ⊢
   generalize (acc.mergeSort fun x y => decide (x ≤ y)) = so at hcm hcl herr2 hok k2 hms ⊢
   rw [herr2] at htk
   repeat (first | with_reducible apply aN | refine CW.reg ?_ | refine RL.nil ?_ | refine wS rfl ?_ | refine RL.loadL tO hok rfl rfl rfl rfl rfl rfl (by repeat (first | exact Sel.here | apply Sel.there)) (by exact rfl) ?_)
   refine RL.callR rfl rfl rfl rfl rfl hcm hok (by repeat (first | exact Sels.nil | (apply Sels.cons; · repeat (first | exact Sel.here | apply Sel.there)))) (fun hok => ?_)
   have htc : ((Lib.compact so ++ List.replicate (so.length - (Lib.compact so).length) 0).map intA ++ rest).take (Lib.compact so).length = (Lib.compact so).map intA := by
    rw [List.map_append, List.append_assoc, List.take_append_of_le_length (by simp), List.take_of_length_le (by simp)]
   refine RL.freezeC hok 34 rb rfl Sel.here (by rw [← k1]; simp; omega) (by omega) (by omega) (by rw [htc]; exact ints_one _) (fun hok => ?_)
   rw [htc]
   repeat (first | refine wS rfl ?_)
   refine RL.append1L tO hok rfl rfl rfl rfl rfl rfl rfl (by intro k; simp) rfl rfl rfl rfl rfl rfl rfl rfl (by repeat (first | exact Sel.here | apply Sel.there)) (by simp <;> omega) (by show (_ + 1) * 24 ≤ _; omega) (by omega) (fun o2 hok => ?_)
   repeat (first | (with_reducible first | apply aN | apply iN) | refine wR rfl ?_ | refine RL.nil ?_ | refine wS rfl ?_)
   exact NextL.mk (j + 1, .own o2) hok hlt (by repeat (first | exact trivial | refine ⟨⟨_, rfl, aRfl⟩, ?_⟩ | refine ⟨⟨_, rfl, AVle.of_eq (by (first | rw [i64_succ (by omega)] | (rw [← htk]; rfl)))⟩, ?_⟩)) (by repeat (first | exact Sels.nil | (apply Sels.cons; · repeat (first | exact Sel.here | apply Sel.there)))) (by show P.length - (j + 1) < P.length - j; omega)
end Go.Proofs.Ytdeiinhccdlfiaa

/- Chapter 19, plain: what blocks may call, which errors they may signal: by walks, and by the reference's lists. -/
namespace Go.Proofs.Ytdeiinhccdlfiaa
open Go.AE Go.Cond

inductive SubE : CExp → CExp → Prop
 | refl (x) : SubE x x
 | kid {x y z} : y ∈ x.kids → SubE y z → SubE x z
theorem part_sub {a r : CRaw} (h : Part a r) : ∀ x, a = rawE x → ∃ y, SubE x y ∧ r = rawE y := by
 induction h with
 | refl a => exact fun x e => ⟨x, .refl x, e⟩
 | @kid o n ks y z hy _ ih =>
  intro x e
  have hk : ks = x.kids.map rawE := by rw [← kids_raw, ← e]; rfl
  rw [hk] at hy
  obtain ⟨y', hy', rfl⟩ := List.mem_map.1 hy
  obtain ⟨w, h1, h2⟩ := ih y' rfl
  exact ⟨w, .kid hy' h1, h2⟩
theorem sub_part {x y : CExp} (h : SubE x y) : Part (rawE x) (rawE y) := by
 induction h with
 | refl x => exact .refl _
 | @kid x y z hy _ ih =>
  have : rawE x = .mk (rawE x).op (rawE x).n (x.kids.map rawE) := by rw [← kids_raw]; cases rawE x; rfl
  rw [this]
  exact .kid (List.mem_map.2 ⟨y, hy, rfl⟩) ih
theorem part_call {x : CExp} {z : Int} : (∃ ks, Part (rawE x) (.mk 7 z ks)) ↔ ∃ n a, SubE x (.call n a) ∧ z = (n : Int) := by
 constructor
 ·rintro ⟨ks, h⟩
  obtain ⟨y, h1, h2⟩ := part_sub h x rfl
  cases y <;> simp [rawE] at h2
  exact ⟨_, _, h1, h2.1⟩
 ·rintro ⟨n, a, h, rfl⟩
  exact ⟨_, sub_part h⟩
theorem part_fails {x : CExp} {z : Int} : (∃ ks, Part (rawE x) (.mk 10 z ks)) ↔ ∃ a, SubE x (.fails z a) := by
 constructor
 ·rintro ⟨ks, h⟩
  obtain ⟨y, h1, h2⟩ := part_sub h x rfl
  cases y <;> simp [rawE] at h2
  obtain ⟨rfl, -⟩ := h2
  exact ⟨_, h1⟩
 ·rintro ⟨a, h⟩
  exact ⟨_, sub_part h⟩
theorem SubE.reach {P : List CExp} {x y : CExp} (h : SubE x y) : Cond.Reach P x y := by
 induction h with
 | refl x => exact .refl x
 | kid hy _ ih => exact .kid hy ih
theorem reach_split {P : List CExp} {x z : CExp} : Cond.Reach P x z ↔ SubE x z ∨ ∃ n a, Cond.Reach P x (.call n a) ∧ SubE (P.getD n default) z := by
 constructor
 ·intro h
  induction h with
  | refl x => exact .inl (.refl x)
  | kid hy _ ih =>
   rcases ih with h | ⟨n, a, h1, h2⟩
   ·exact .inl (.kid hy h)
   ·exact .inr ⟨n, a, .kid hy h1, h2⟩
  | @call n a z _ ih =>
   rcases ih with h | ⟨n', a', h1, h2⟩
   ·exact .inr ⟨n, a, .refl _, h⟩
   ·exact .inr ⟨n', a', .call h1, h2⟩
 ·rintro (h | ⟨n, a, h1, h2⟩)
  ·exact h.reach
  ·exact h1.trans (.call h2.reach)

def callN : CExp → Option Int
 | .call n _ => some n
 | _ => none
def mayL (P : List CExp) (x : CExp) : List Int := sortedI ((evs P x).filterMap callN)
theorem mem_mayL {P : List CExp} {x : CExp} (hx : OkC P x) (z : Int) : z ∈ mayL P x ↔ ∃ n a, Cond.Reach P x (.call n a) ∧ z = (n : Int) := by
 unfold mayL
 rw [(sortedI_inc _).2, List.mem_filterMap]
 constructor
 ·rintro ⟨y, hy, h⟩
  rw [evs_reach hx] at hy
  cases y <;> simp [callN] at h
  exact ⟨_, _, hy, h.symm⟩
 ·rintro ⟨n, a, h, rfl⟩
  exact ⟨_, (evs_reach hx _).2 h, rfl⟩
theorem mem_errs {P : List CExp} {x : CExp} (hx : OkC P x) (z : Int) : z ∈ errs P x ↔ ∃ a, Cond.Reach P x (.fails z a) := by
 unfold errs
 rw [(sortedI_inc _).2, List.mem_filterMap]
 constructor
 ·rintro ⟨y, hy, h⟩
  rw [evs_reach hx] at hy
  cases y <;> simp [failN] at h
  subst h
  exact ⟨_, hy⟩
 ·rintro ⟨a, h⟩
  exact ⟨_, (evs_reach hx _).2 h, rfl⟩
def blockR (P : List CExp) (b : Int) : CRaw := rawE (P.getD b.toNat default)
def roundM (k : Int) (P : List CExp) (l : List Int) (out : List Int) : List Int := l.foldl (fun out b => foldT k (blockR P b) out) out
theorem roundM_inc {k : Int} {P : List CExp} : ∀ {l out : List Int}, Inc out → Inc (roundM k P l out)
 | [], _, h => h
 | b :: r, out, h => roundM_inc (l := r) (foldT_inc k _ _ h)
theorem mem_roundM {k z : Int} {P : List CExp} : ∀ {l out : List Int}, z ∈ roundM k P l out ↔ z ∈ out ∨ ∃ b ∈ l, ∃ ks, Part (blockR P b) (.mk k z ks)
  | [], out => by simp [roundM]
  | b :: r, out => by
    show z ∈ roundM k P r (foldT k (blockR P b) out) ↔ _
    rw [mem_roundM (l := r), mem_foldT]
    constructor
    · rintro ((h | h) | ⟨b', hb, h⟩)
      · exact .inl h
      · exact .inr ⟨b, List.mem_cons_self, h⟩
      · exact .inr ⟨b', List.mem_cons_of_mem _ hb, h⟩
    · rintro (h | ⟨b', hb, h⟩)
      · exact .inl (.inl h)
      · rcases List.mem_cons.1 hb with rfl | hb
        · exact .inl (.inr h)
        · exact .inr ⟨b', hb, h⟩
theorem nodup_len : ∀ (xs l : List Int), xs.Nodup → (∀ x ∈ xs, x ∈ l) → xs.length ≤ l.length := by
 intro xs
 induction xs with
 | nil => intro l _ _; simp
 | cons x xs ih =>
  intro l hn hs
  obtain ⟨h1, h2⟩ := List.nodup_cons.1 hn
  have hx := hs x (List.mem_cons_self ..)
  have := ih (l.erase x) h2 (fun y hy => (List.mem_erase_of_ne (fun e => h1 (by rw [← e]; exact hy))).2 (hs y (List.mem_cons_of_mem _ hy)))
  rw [List.length_erase_of_mem hx] at this
  have : 0 < l.length := List.length_pos_of_mem hx
  simp; omega
theorem inc_nodup {l : List Int} (h : Inc l) : l.Nodup := List.Pairwise.imp (fun h => by omega) h
theorem inc_sub {a b : List Int} (ha : Inc a) (hs : ∀ z ∈ a, z ∈ b) (hl : b.length ≤ a.length) : ∀ z ∈ b, z ∈ a := by
 intro z hz
 refine Classical.byContradiction fun hn => ?_
 have := nodup_len (z :: a) b (List.nodup_cons.2 ⟨hn, inc_nodup ha⟩) (fun y hy => by
  rcases List.mem_cons.1 hy with rfl | hy
  ·exact hz
  ·exact hs y hy)
 simp at this; omega
structure MayI (P : List CExp) (x : CExp) (out : List Int) : Prop where
 inc : Inc out
 some : ∀ z ∈ out, ∃ n a, Cond.Reach P x (.call n a) ∧ z = (n : Int)
 own : ∀ n a, SubE x (.call n a) → (n : Int) ∈ out
theorem MayI.start (P : List CExp) (x : CExp) : MayI P x (foldT 7 (rawE x) []) := by
 have hm := fun z => mem_foldT 7 z (rawE x) []
 refine ⟨foldT_inc _ _ _ List.Pairwise.nil, fun z hz => ?_, fun n a h => (hm n).2 (.inr ⟨_, sub_part h⟩)⟩
 rcases (hm z).1 hz with h | h
 ·cases h
 ·obtain ⟨n, a, h1, h2⟩ := part_call.1 h
  exact ⟨n, a, h1.reach, h2⟩
theorem MayI.round {P : List CExp} {x : CExp} {out l : List Int} (h : MayI P x out) (hl : ∀ z ∈ l, ∃ n a, Cond.Reach P x (.call n a) ∧ z = (n : Int)) : MayI P x (roundM 7 P l out) := by
 refine ⟨roundM_inc h.inc, fun z hz => ?_, fun n a hs => mem_roundM.2 (.inl (h.own n a hs))⟩
 rcases mem_roundM.1 hz with hz | ⟨b, hb, hz⟩
 ·exact h.some z hz
 ·obtain ⟨n, a, h1, rfl⟩ := hl b hb
  obtain ⟨n', a', h2, h3⟩ := part_call.1 (show ∃ ks, Part (rawE (P.getD n default)) (.mk 7 z ks) by simpa [blockR] using hz)
  exact ⟨n', a', h1.trans (.call h2.reach), h3⟩
theorem MayI.done {P : List CExp} {x : CExp} (hx : OkC P x) {out : List Int} (h : MayI P x out) (hd : (roundM 7 P out out).length ≤ out.length) : out = mayL P x := by
 have hcl := inc_sub h.inc (fun z hz => mem_roundM.2 (.inl hz)) hd
 refine inc_eq h.inc (sortedI_inc _).1 fun z => ?_
 rw [mem_mayL hx]
 refine ⟨h.some z, ?_⟩
 rintro ⟨n, a, hr, rfl⟩
 -- all that is reached is of the expression itself, or of a block that was found
 have : ∀ y w, Cond.Reach P y w → (∀ n a, SubE y (.call n a) → (n : Int) ∈ out) → ∀ n a, w = .call n a → (n : Int) ∈ out := by
  intro y w hyw
  induction hyw with
  | refl y => exact fun hy n a e => hy n a (by rw [e]; exact .refl _)
  | kid hk _ ih => exact fun hy => ih fun n a hs => hy n a (.kid hk hs)
  | @call m b z _ ih =>
   intro hy
   refine ih fun n a hs => hcl _ (mem_roundM.2 (.inr ⟨m, hy m b (.refl _), ?_⟩))
   have := part_call.2 ⟨n, a, hs, rfl⟩
   simpa [blockR] using this
 exact this x _ hr h.own n a rfl
def errsR (P : List CExp) (x : CExp) : List Int := roundM 10 P (mayL P x) (foldT 10 (rawE x) [])
theorem errsR_eq {P : List CExp} {x : CExp} (hx : OkC P x) : errsR P x = errs P x := by
 refine inc_eq (roundM_inc (foldT_inc _ _ _ List.Pairwise.nil)) (sortedI_inc _).1 fun z => ?_
 rw [mem_errs hx]
 unfold errsR
 rw [mem_roundM, mem_foldT]
 constructor
 ·rintro ((h | h) | ⟨b, hb, h⟩)
  ·cases h
  ·obtain ⟨a, h⟩ := part_fails.1 h
   exact ⟨a, h.reach⟩
  ·obtain ⟨n, a, h1, rfl⟩ := (mem_mayL hx b).1 hb
   obtain ⟨a', h2⟩ := part_fails.1 (show ∃ ks, Part (rawE (P.getD n default)) (.mk 10 z ks) by simpa [blockR] using h)
   exact ⟨a', h1.trans (.call h2.reach)⟩
 ·rintro ⟨a, h⟩
  rcases reach_split.1 h with h | ⟨n, a', h1, h2⟩
  ·exact .inl (.inr (part_fails.2 ⟨a, h⟩))
  ·refine .inr ⟨n, (mem_mayL hx n).2 ⟨n, a', h1, rfl⟩, ?_⟩
   have := part_fails.2 ⟨a, h2⟩
   simpa [blockR] using this
theorem may_few {P : List CExp} {x : CExp} (hx : OkC P x) {out : List Int} (h : MayI P x out) : out.length ≤ P.length := by
 have := nodup_len out ((List.range P.length).map fun (n : Nat) => (n : Int)) (inc_nodup h.inc) fun z hz => by
  obtain ⟨n, a, hr, rfl⟩ := h.some z hz
  exact List.mem_map.2 ⟨n, List.mem_range.2 (hx n a hr), rfl⟩
 simpa using this
end Go.Proofs.Ytdeiinhccdlfiaa

/- Chapter 19: contracts of cond: programs without handlers of what is never signalled (Plain). -/
namespace Go.Proofs.Ytdeiinhccdlfiaa
open Go.AE Go.Cond

abbrev plainP (P : List CExp) : CExp → CExp := Cond.plain (raisesB P)
def plF (b4 : Nat) (P : List CExp) : AV := .func 58 [] [.fptr [progA P] 0, .ptr b4 0]
def plK (b4 : Nat) (P : List CExp) : LS := [(.own b4, .box 89 [plF b4 P])]
def dropB (P : List CExp) : CExp → Bool
 | .handle n a _ => !raisesB P a n
 | _ => false
theorem plain_raw {P : List CExp} {x : CExp} (h : ((rawE x).op == 8) = false ∨ ∃ n a b, x = .handle n a b ∧ raisesB P a n = true) : rawE (plainP P x) = .mk (rawE x).op (rawE x).n (x.kids.map fun y => rawE (plainP P y)) := by
 cases x with
 | handle n a b =>
  rcases h with h | ⟨n', a', b', e, h⟩
  ·simp [rawE, CRaw.op] at h
  ·cases e
   show rawE (if raisesB P a n then _ else _) = _
   rw [if_pos h]; rfl
 | _ => rfl
set_option maxRecDepth 10000 in
set_option maxHeartbeats 2000000 in
theorem plain1_spec (P : List CExp) (hP6 : P.length ≤ 6) (hPb : sizesE P + 1 < big) (b4 : Nat) : ∀ (k : Nat) (x : CExp), x.size ≤ k → OkC P x → x.size < big →
    LCalls Try.prog 58 [avE x, .fptr [progA P] 0, .ptr b4 0] (plK b4 P) (fun o K => o = .ret (avE (plainP P x)) ∧ K = plK b4 P)
  | 0, x, hk, _, _ => by have := size_kids x; omega
  | k + 1, x, hk, hxc, hxb => by
    have hb : big = 1099511627776 := rfl
    have hsk := size_kids x
    have hkl : ((x.kids.map rawE).map CRaw.av).length = x.kids.length := by simp
    have hklb : x.kids.length < big := by
      have : ∀ l : List CExp, l.length ≤ sizesE l := by
        intro l; induction l with
        | nil => simp [sizesE]
        | cons y r ih => rw [sizesE, List.length_cons]; have := size_kids y; omega
      have := this x.kids
      omega
    refine LCalls.of_CW tO call58 Try.func58 rfl rfl fun s hok => ?_
    unfold avE
    rw [CRaw.av_eq (rawE x)]
    unfold CRaw.cells
    rw [kids_raw]
    unfold plK at hok ⊢
    repeat (first | with_reducible apply CW.seq | refine CW.reg ?_ | refine wS rfl ?_)
    refine RL.allocL tO hok rfl rfl rfl rfl rfl rfl rfl (fun br hok => ?_)
    repeat (first | (with_reducible first | apply CW.seq | apply aN) | refine RL.nil ?_)
    refine CW.atCutL (σ := Unit) (fun _ => [(1, .fptr [progA P] 0), (2, .ptr b4 0), (3, .fptr [.int .i64 (rawE x).op, .int .i64 (rawE x).n, .slc 3 ((x.kids.map rawE).map CRaw.av) .fro] 0), (4, .ptr br 0), (21, .bool (dropB P x))]) (fun _ => (.own br, .box 36 [.int .i64 0, .int .i64 0, .slc 0 [] .nil]) :: plK b4 P) (fun _ => True) ?_ ?_
    · refine CW.drw tO mixed rfl (RD.runs (is := [0, 1, 2, 3]) rfl ?_)
      cases h8 : (rawE x).op == 8 with
      | false =>
        have hm : dropB P x = false := by cases x <;> first | rfl | (simp [rawE, CRaw.op] at h8)
        refine RD.run rfl (RD.done rfl ?_)
        exact CutL.mk () hok trivial (by repeat (first | exact trivial | refine ⟨⟨_, rfl, aRfl⟩, ?_⟩ | refine ⟨⟨_, rfl, AVle.of_eq (by rw [hm])⟩, ?_⟩)) (by simp only [plK]; repeat (first | exact Sels.nil | (apply Sels.cons; · repeat (first | exact Sel.here | apply Sel.there))))
      | true =>
        have : ∃ n a b, x = .handle n a b := by cases x <;> first | exact ⟨_, _, _, rfl⟩ | (simp [rawE, CRaw.op] at h8)
        obtain ⟨n, a, b, rfl⟩ := this
        have hsa : a.size ≤ sizesE (CExp.handle n a b).kids := mem_sizesE (by simp [CExp.kids])
        have hra := raises_spec P a n hP6 (hxc.kid (by simp [CExp.kids])) (by omega) hPb
        refine RD.run rfl ?_
        refine RD.idx 7 0 rfl rfl rfl rfl rfl rfl rfl rfl rfl rfl rfl rfl rfl (congrArg some (CRaw.av_eq _)) rfl ?_; refine RD.run rfl ?_
        refine RD.calmPP (i := 11) rfl rfl rfl rfl rfl rfl rfl hra ?_; refine RD.run rfl ?_
        refine RD.done rfl ?_
        exact CutL.mk () hok trivial (wE rfl) (by simp only [plK]; repeat (first | exact Sels.nil | (apply Sels.cons; · repeat (first | exact Sel.here | apply Sel.there))))
    rintro - - hok
    cases hm : dropB P x with
    | true =>
      have : ∃ n a b, x = .handle n a b ∧ raisesB P a n = false := by
        cases x <;> first | (cases hm; done) | exact ⟨_, _, _, rfl, by simpa [dropB] using hm⟩
      obtain ⟨n, a, b, rfl, hra⟩ := this
      have hsa : a.size ≤ sizesE (CExp.handle n a b).kids := mem_sizesE (by simp [CExp.kids])
      have hpl : plainP P (.handle n a b) = plainP P a := by show (if raisesB P a n then _ else _) = _; rw [hra]; rfl
      have hcall := plain1_spec P hP6 hPb b4 k a (by omega) (hxc.kid (by simp [CExp.kids])) (by omega)
      have hcv : LCallV Try.prog (plF b4 P) [avE a] (plK b4 P) _ := LCallV.of_calls (first := []) (cap := [.fptr [progA P] 0, .ptr b4 0]) hcall
      unfold avE at hcv
      rw [CRaw.av_eq, CRaw.av_eq] at hcv
      rw [hpl]
      generalize plainP P a = q at hcv ⊢
      unfold plK at hok hcv ⊢
      repeat (first | with_reducible apply CW.seq | refine CW.condT rfl ?_)
      refine CW.drw tO mixed rfl (RD.run rfl ?_)
      refine RD.idx 3 0 rfl rfl rfl rfl rfl rfl rfl rfl rfl rfl rfl rfl rfl (congrArg some (CRaw.av_eq _)) rfl ?_; refine RD.run rfl ?_
      refine RD.loadL 0 tO hok rfl rfl rfl rfl rfl rfl rfl rfl (by repeat (first | exact Sel.here | apply Sel.there)) (by exact rfl) ?_; refine RD.run rfl ?_
      refine RD.callVL 5 rfl rfl rfl rfl rfl rfl rfl rfl hcv hok (by repeat (first | exact Sels.nil | (apply Sels.cons; · repeat (first | exact Sel.here | apply Sel.there)))) ?_ (fun _ _ ⟨h, _⟩ _ => by cases h)
      rintro _ _ ⟨⟨⟩, rfl⟩ hok
      refine RD.run rfl ?_
      refine RD.storeL 6 tO hok rfl rfl rfl rfl rfl rfl rfl rfl rfl rfl rfl (by repeat (first | exact Sel.here | apply Sel.there)) (by exact rfl) (fun hok => ?_); refine RD.run rfl ?_
      refine RD.run rfl (RD.done rfl ?_)
      repeat (with_reducible first | apply aN | apply aR | apply CW.ret)
      exact Fin.retL (K := plK b4 P) hok (resA_cell rfl rfl (Sel.get Sel.here hok) rfl) aRfl (by simp only [plK]; repeat (first | exact Sels.nil | (apply Sels.cons; · repeat (first | exact Sel.here | apply Sel.there)))) ⟨congrArg AOut.ret (CRaw.av_eq _).symm, rfl⟩
    | false =>
      have hst : ((rawE x).op == 8) = false ∨ ∃ n a b, x = .handle n a b ∧ raisesB P a n = true := by
        cases x <;> first | exact .inl rfl | exact .inr ⟨_, _, _, rfl, by simpa [dropB] using hm⟩
      have hpr := plain_raw hst
      have hpa : (rawE (plainP P x)).av = .agg [.int .i64 (rawE x).op, .int .i64 (rawE x).n, .slc 3 (x.kids.map fun y => (rawE (plainP P y)).av) .fro] := by
        rw [hpr, av_mk, List.map_map]; rfl
      rw [hpa]
      unfold plK at hok ⊢
      repeat (first | (with_reducible first | apply CW.seq | apply aN | apply CW.skip) | refine CW.reg ?_ | refine CW.condF rfl ?_ | refine wS rfl ?_)
      refine RL.allocL tO hok rfl rfl rfl rfl rfl rfl rfl (fun b5 hok => ?_)
      repeat (first | (with_reducible first | apply CW.seq | apply aN | apply CW.block) | refine wR rfl ?_ | refine RL.nil ?_ | refine RL.storeL tO hok rfl rfl rfl rfl rfl rfl rfl rfl rfl (by repeat (first | exact Sel.here | apply Sel.there)) (by exact rfl) (fun hok => ?_))
      refine CW.boxWeakL hok b5 [.int .i64 (rawE x).op, .int .i64 (rawE x).n, .slc 3 [] .nil] (by repeat (first | exact Sel.here | apply Sel.there)) (.cons aRfl (.cons aRfl (.one (AVle.nil (by intro b h; cases h))))) fun hok => ?_
      refine CW.phantom hok 36 3 0 fun hok => ?_
      refine CW.loopL hok (σ := Nat × Own) (fun q => [(2, .ptr b4 0), (4, .ptr br 0), (5, .ptr b5 0), (34, .slc 3 ((x.kids.map rawE).map CRaw.av) .fro), (35, .int .i64 x.kids.length), (36, .int .i64 (q.1 : Int))])
        (fun q => [(.own b5, .box 36 [.int .i64 (rawE x).op, .int .i64 (rawE x).n, .slc 3 ((x.kids.take q.1).map fun y => (rawE (plainP P y)).av) q.2]), (q.2, .row 36 3 q.1), (.own br, .box 36 [.int .i64 0, .int .i64 0, .slc 0 [] .nil]), (.own b4, .box 89 [plF b4 P])])
        (fun q => q.1 ≤ x.kids.length) (fun q => x.kids.length - q.1) (0, .nil) (Nat.zero_le _) (by repeat (first | exact trivial | refine ⟨⟨_, rfl, aRfl⟩, ?_⟩ | refine ⟨⟨_, rfl, AVle.of_eq (by simp)⟩, ?_⟩)) (by repeat (first | exact Sels.nil | (apply Sels.cons; · repeat (first | exact Sel.here | apply Sel.there)))) ?_
      rintro ⟨j, own⟩ hj hok
      simp only at hj hok ⊢
      repeat (first | (with_reducible first | apply CW.seq | apply aN) | refine wR rfl ?_)
      refine CW.cond rfl (fun hh => ?_) (fun hh => ?_)
      · have hlt : j < x.kids.length := by simpa using hh
        have hy : x.kids[j]? = some x.kids[j] := List.getElem?_eq_getElem hlt
        generalize x.kids[j] = y at hy
        have hmem := List.mem_of_getElem? hy
        have hys := mem_sizesE hmem
        have hy' : ((x.kids.map rawE).map CRaw.av)[j]? = some (.agg [.int .i64 (rawE y).op, .int .i64 (rawE y).n, .slc 3 ((rawE y).kids.map CRaw.av) .fro]) := by
          rw [List.getElem?_map, List.getElem?_map, hy]
          exact congrArg some (CRaw.av_eq _)
        have htk : ((x.kids.take j).map fun y => (rawE (plainP P y)).av) ++ [(rawE (plainP P y)).av] = (x.kids.take (j + 1)).map fun y => (rawE (plainP P y)).av := take_succ_map _ hy
        have hcall := plain1_spec P hP6 hPb b4 k y (by omega) (hxc.kid hmem) (by omega)
        have hcv : LCallV Try.prog (plF b4 P) [avE y] (plK b4 P) _ := LCallV.of_calls (first := []) (cap := [.fptr [progA P] 0, .ptr b4 0]) hcall
        unfold avE at hcv
        rw [CRaw.av_eq (rawE y), CRaw.av_eq (rawE (plainP P y))] at hcv
        rw [CRaw.av_eq (rawE (plainP P y))] at htk
        generalize plainP P y = q at hcv htk
        repeat (first | (with_reducible first | apply CW.seq | apply aN | apply CW.skip | apply CW.block) | refine CW.reg ?_ | refine wS rfl ?_ | refine RL.idx tO _ rfl rfl rfl rfl rfl rfl rfl rfl rfl rfl rfl (by assumption) rfl ?_)
        refine RL.newBox tO rfl rfl rfl rfl rfl rfl rfl (fun _ => rfl) rfl rfl (fun _ => rfl) rfl rfl rfl rfl ?_
        repeat (first | with_reducible apply aN | refine RL.nil ?_)
        generalize hO5 : AObj.box 36 [.int .i64 (rawE x).op, .int .i64 (rawE x).n, .slc 3 ((x.kids.take j).map fun y => (rawE (plainP P y)).av) own] = O5 at hok ⊢
        have hJ0 : JS [(b5, O5), (b4, .box 89 [plF b4 P])] (sto s [(.own b5, O5), (own, .row 36 3 j), (.own br, .box 36 [.int .i64 0, .int .i64 0, .slc 0 [] .nil]), (.own b4, .box 89 [plF b4 P])]) := JS.two (Sel.get (by repeat (first | exact Sel.here | apply Sel.there)) hok) (Sel.get (by repeat (first | exact Sel.here | apply Sel.there)) hok)
        refine CW.drwJ (JS [(b5, O5), (b4, .box 89 [plF b4 P])]) tO mixed rfl (RJ.run hJ0 rfl ?_)
        refine RJ.loadA 1 tO hJ0 rfl rfl rfl rfl rfl rfl rfl rfl (fun s h => by rw [← hO5] at h; exact h.1) (v := .slc 3 ((x.kids.take j).map fun y => (rawE (plainP P y)).av) own) rfl ?_
        refine RJ.run hJ0 rfl ?_
        refine RJ.loadA 2 tO hJ0 rfl rfl rfl rfl rfl rfl rfl rfl (fun s h => h.2.1) (v := plF b4 P) rfl ?_
        refine RJ.run hJ0 rfl ?_
        have hJ1 : ∀ {own' : Own} {m : Nat}, Ok s ([(.own b4, .box 89 [plF b4 P])] ++ [(.own b5, O5), (own', .row 36 3 m), (.own br, .box 36 [.int .i64 0, .int .i64 0, .slc 0 [] .nil])]) → JS [(b5, O5), (b4, .box 89 [plF b4 P])] (sto s ([(.own b4, .box 89 [plF b4 P])] ++ [(.own b5, O5), (own', .row 36 3 m), (.own br, .box 36 [.int .i64 0, .int .i64 0, .slc 0 [] .nil])])) := fun hok => JS.two (Sel.get (.there .here) hok) (Sel.get .here hok)
        refine RJ.callVL (i := 4) rfl rfl rfl rfl rfl rfl rfl rfl hcv hok (.cons (.there (.there (.there .here))) .nil) ?_ ?_ (fun _ _ ⟨h, _⟩ _ => by cases h)
        · rintro _ _ ⟨⟨⟩, rfl⟩ hok
          exact .inl (hJ1 hok)
        rintro _ _ ⟨⟨⟩, rfl⟩ hok
        refine RJ.run (hJ1 hok) rfl ?_
        refine RJ.append1L 6 tO hok rfl rfl rfl rfl rfl rfl rfl rfl rfl (by intro k; simp) rfl rfl rfl rfl rfl rfl rfl rfl (.there (.there .here)) (by simp <;> omega) (by show (_ + 1) * 40 ≤ _; omega) (by omega) (fun own' hok => .inl (JS.two (Sel.get (.there (.there .here)) hok) (Sel.get (.there .here) hok))) (fun own' hok => ?_)
        refine RJ.run (JS.two (Sel.get (.there (.there .here)) hok) (Sel.get (.there .here) hok)) rfl ?_
        subst hO5
        refine RJ.storeL 8 tO hok rfl rfl rfl rfl rfl rfl rfl rfl rfl rfl rfl (.there (.there .here)) rfl (fun _ => .inr rfl) (fun hok => ?_)
        refine RD.done rfl ?_
        repeat (first | (with_reducible first | apply aN | apply iN) | refine wR rfl ?_)
        exact NextL.mk (j + 1, own') hok hlt (by repeat (first | exact trivial | refine ⟨⟨_, rfl, aRfl⟩, ?_⟩ | refine ⟨⟨_, rfl, AVle.of_eq (by (rw [i64_succ (by omega)]))⟩, ?_⟩)) (by simp only [List.cons_append, List.nil_append, ← htk]; exact .cons .here (.cons .here (.cons (.there .here) (.cons .here .nil)))) (by show x.kids.length - (j + 1) < x.kids.length - j; omega)
      · have hge : j = x.kids.length := by
          have : x.kids.length ≤ j := by simpa using hh
          omega
        subst hge
        rw [List.take_length] at hok ⊢
        repeat (first | (with_reducible first | apply CW.seq | apply aN | apply aX | apply iH | apply CW.ret | apply CW.exit) | refine CW.reg ?_ | refine RL.nil ?_ | refine RL.loadL tO hok rfl rfl rfl rfl rfl rfl (by repeat (first | exact Sel.here | apply Sel.there)) (by exact rfl) ?_ | refine RL.storeL tO hok rfl rfl rfl rfl rfl rfl rfl rfl rfl (by repeat (first | exact Sel.here | apply Sel.there)) (by exact rfl) (fun hok => ?_))
        exact Fin.retL hok (resA_cell rfl rfl (Sel.get Sel.here hok) rfl) (AVle.agg (.cons aRfl (.cons aRfl (.one AVle.fro)))) (by repeat (first | exact Sels.nil | (apply Sels.cons; · repeat (first | exact Sel.here | apply Sel.there)))) ⟨rfl, rfl⟩
set_option maxRecDepth 10000 in
theorem plainBad_spec (p : List CRaw) (hp : CRaw.sizes p + 1 < big) (h : goodP p = false) : PCalls Try.prog 25 [.slc 3 (p.map CRaw.av) .fro] (.tup [.slc 3 [] .fro, .int .i64 2]) := by
 refine PCalls.of_CW tO call25 Try.func25 rfl rfl fun s hok => ?_
 repeat (first | (with_reducible first | apply CW.seq | apply aN) | refine wR rfl ?_ | refine CW.reg ?_ | refine wS rfl ?_)
 refine RL.callPP rfl rfl rfl rfl rfl (fine_spec p hp) ?_
 rw [h]
 repeat (first | (with_reducible first | apply CW.seq | apply aN | apply aR | apply CW.ret) | refine wR rfl ?_ | refine RL.nil ?_ | refine CW.condT rfl ?_ | refine wS rfl ?_)
 exact Fin.retP hok rfl (AVle.tup (.cons (AVle.nil (by intro b h; cases h)) (.one aRfl)))
set_option maxRecDepth 10000 in
set_option maxHeartbeats 1000000 in
theorem plainOk_spec (P : List CExp) (hP : ∀ e ∈ P, OkC P e) (hP6 : P.length ≤ 6) (hp : CRaw.sizes (P.map rawE) + 1 < big) (hPb : sizesE P + 1 < big) (h : goodP (P.map rawE) = true) :
  PCalls Try.prog 25 [progA P] (.tup [progA (P.map (plainP P)), .int .i64 0]) := by
 have hb : big = 1099511627776 := rfl
 have hfi := fine_spec (P.map rawE) hp
 rw [h] at hfi
 have hlm : ((P.map rawE).map CRaw.av).length = P.length := by simp
 have hout : ((P.map (plainP P)).map rawE).map CRaw.av = P.map fun x => (rawE (plainP P x)).av := by rw [List.map_map, List.map_map]; rfl
 have hspec := fun b4 k x => plain1_spec P hP6 hPb b4 k x
 refine PCalls.of_CW tO call25 Try.func25 rfl rfl fun s hok => ?_
 unfold progA
 rw [hout]
 repeat (first | (with_reducible first | apply CW.seq | apply aN) | refine wR rfl ?_ | refine CW.reg ?_ | refine wS rfl ?_)
 refine RL.callPP rfl rfl rfl rfl rfl hfi ?_
 repeat (first | (with_reducible first | apply CW.seq | apply aN | apply CW.skip) | refine CW.reg ?_ | refine RL.nil ?_ | refine CW.condF rfl ?_ | refine wS rfl ?_)
 refine RL.allocL tO hok rfl rfl rfl rfl rfl rfl rfl (fun b4 hok => ?_)
 repeat (first | (with_reducible first | apply CW.seq | apply aN | apply CW.block) | refine wR rfl ?_ | refine CW.reg ?_ | refine RL.nil ?_ | refine wS rfl ?_ | refine RL.storeL tO hok rfl rfl rfl rfl rfl rfl rfl rfl rfl (by repeat (first | exact Sel.here | apply Sel.there)) (by exact rfl) (fun hok => ?_))
 refine CW.phantom hok 36 3 0 fun hok => ?_
 refine CW.loopL hok (σ := Nat × Own) (fun q => [(4, .ptr b4 0), (5, .slc 3 ((P.take q.1).map fun x => (rawE (plainP P x)).av) q.2), (12, progA P), (13, .int .i64 P.length), (14, .int .i64 (q.1 : Int))]) (fun q => [(q.2, .row 36 3 q.1), (.own b4, .box 89 [plF b4 P])]) (fun q => q.1 ≤ P.length) (fun q => P.length - q.1) (0, .nil) (Nat.zero_le _) ⟨⟨_, rfl, aRfl⟩, ⟨_, rfl, AVle.nil (by intro b h; cases h)⟩, ⟨_, rfl, aRfl⟩, ⟨_, rfl, AVle.of_eq (by rw [hlm])⟩, ⟨_, rfl, aRfl⟩, trivial⟩ (by repeat (first | exact Sels.nil | (apply Sels.cons; · repeat (first | exact Sel.here | apply Sel.there)))) ?_
 rintro ⟨j, own⟩ hj hok
 simp only at hj hok ⊢
 unfold progA
 repeat (first | (with_reducible first | apply CW.seq | apply aN) | refine wR rfl ?_)
 refine CW.cond rfl (fun hlt => ?_) (fun hge => ?_)
 rotate_left
 ·have hge : j = P.length := by
   have : P.length ≤ j := by simpa using hge
   omega
  subst hge
  rw [List.take_length]
  repeat (first | (with_reducible first | apply CW.seq | apply aN | apply aX | apply iH | apply CW.ret | apply CW.exit) | refine wR rfl ?_)
  exact Fin.retP hok rfl (AVle.tup (.cons AVle.fro (.one aRfl)))
 have hlt : j < P.length := by simpa using hlt
 have hy : P[j]? = some P[j] := List.getElem?_eq_getElem hlt
 generalize P[j] = x at hy
 have hxm := List.mem_of_getElem? hy
 have hy' : ((P.map rawE).map CRaw.av)[j]? = some (.agg [.int .i64 (rawE x).op, .int .i64 (rawE x).n, .slc 3 ((rawE x).kids.map CRaw.av) .fro]) := by
  rw [List.getElem?_map, List.getElem?_map, hy]
  exact congrArg some (CRaw.av_eq _)
 have hxs := mem_sizesE hxm
 have htk : ((P.take j).map fun y => (rawE (plainP P y)).av) ++ [(rawE (plainP P x)).av] = (P.take (j + 1)).map fun y => (rawE (plainP P y)).av := take_succ_map _ hy
 have hcv : LCallV Try.prog (plF b4 P) [avE x] (plK b4 P) _ := LCallV.of_calls (first := []) (cap := [.fptr [progA P] 0, .ptr b4 0]) (hspec b4 x.size x (Nat.le_refl _) (hP x hxm) (by omega))
 unfold avE at hcv
 rw [CRaw.av_eq (rawE x), CRaw.av_eq (rawE (plainP P x))] at hcv
 rw [CRaw.av_eq (rawE (plainP P x))] at htk
 generalize plainP P x = q at hcv htk
 repeat (first | (with_reducible first | apply CW.seq | apply aN | apply CW.skip | apply CW.block) | refine CW.reg ?_ | refine wS rfl ?_ | refine RL.idx tO _ rfl rfl rfl rfl rfl rfl rfl rfl rfl rfl rfl (by assumption) rfl ?_)
 refine RL.newBox tO rfl rfl rfl rfl rfl rfl rfl (fun _ => rfl) rfl rfl (fun _ => rfl) rfl rfl rfl rfl ?_
 repeat (first | with_reducible apply aN | refine CW.reg ?_ | refine RL.nil ?_ | refine wS rfl ?_ | refine RL.loadL tO hok rfl rfl rfl rfl rfl rfl (by repeat (first | exact Sel.here | apply Sel.there)) (by exact rfl) ?_)
 refine RL.callVL rfl rfl rfl rfl rfl rfl hcv hok (by simp only [plK]; repeat (first | exact Sels.nil | (apply Sels.cons; · repeat (first | exact Sel.here | apply Sel.there)))) ?_ (fun _ _ ⟨h, _⟩ _ => by cases h)
 rintro _ _ ⟨⟨⟩, rfl⟩ hok
 unfold plK at hok ⊢
 repeat (first | refine wS rfl ?_)
 refine RL.append1L tO hok rfl rfl rfl rfl rfl rfl rfl (by intro k; simp) rfl rfl rfl rfl rfl rfl rfl rfl (by repeat (first | exact Sel.here | apply Sel.there)) (by simp <;> omega) (by show (_ + 1) * 40 ≤ _; omega) (by omega) (fun o2 hok => ?_)
 repeat (first | (with_reducible first | apply aN | apply iN) | refine wR rfl ?_ | refine RL.nil ?_ | refine wS rfl ?_)
 exact NextL.mk (j + 1, .own o2) hok hlt (by repeat (first | exact trivial | refine ⟨⟨_, rfl, aRfl⟩, ?_⟩ | refine ⟨⟨_, rfl, AVle.of_eq (by (first | rw [i64_succ (by omega)] | exact congrArg (fun l => AV.slc 3 l (Own.own o2)) htk | exact congrArg (fun l => AV.slc 3 l (Own.own o2)) htk.symm))⟩, ?_⟩)) (by repeat (first | exact Sels.nil | (apply Sels.cons; · repeat (first | exact Sel.here | apply Sel.there)))) (by show P.length - (j + 1) < P.length - j; omega)
end Go.Proofs.Ytdeiinhccdlfiaa

/- Chapter 19: contracts of the reference: the blocks that may be called, the errors of blocks (may, ErrorsOf). -/
namespace Go.Proofs.Ytdeiinhccdlfiaa
open Go.AE Go.Cond

theorem sizes_raw : ∀ l : List CExp, CRaw.sizes (l.map rawE) = sizesE l := by
 have hx : ∀ m (x : CExp), x.size ≤ m → (rawE x).size = x.size := by
  intro m
  induction m with
  | zero => intro x h; have := size_kids x; omega
  | succ m ih =>
   intro x h
   have hs := size_kids x
   have hl : ∀ l : List CExp, sizesE l ≤ m → CRaw.sizes (l.map rawE) = sizesE l := by
    intro l
    induction l with
    | nil => intro _; rfl
    | cons y r ihr =>
     intro hl
     rw [sizesE] at hl ⊢
     rw [List.map_cons, CRaw.sizes, ih y (by omega), ihr (by omega)]
   have : rawE x = .mk (rawE x).op (rawE x).n (x.kids.map rawE) := by rw [← kids_raw]; cases rawE x; rfl
   rw [this, CRaw.size, hl _ (by omega), hs]
 intro l
 induction l with
 | nil => rfl
 | cons y r ih => rw [List.map_cons, CRaw.sizes, sizesE, hx _ y (Nat.le_refl _), ih]
theorem size_raw (x : CExp) : (rawE x).size = x.size := by
 have := sizes_raw [x]
 simpa [CRaw.sizes, sizesE] using this
set_option maxRecDepth 10000 in
set_option maxHeartbeats 1000000 in
theorem may_spec (P : List CExp) (x : CExp) (hP6 : P.length ≤ 6) (hx : OkC P x) (hxb : x.size < 500000) (hPb : sizesE P + 1 < 500000) :
  PCalls Try.prog 49 [progA P, avE x] (intsA (mayL P x)) := by
 refine PCalls.of_CW tO call49 Try.func49 rfl rfl fun s hok => ?_
 have hsx := size_raw x
 have h0 : PCalls Try.prog 74 [(rawE x).av, .slc 0 [] .nil] (intsA (foldT 7 (rawE x) [])) := PCalls.args (.cons aRfl (.one (AVle.nil (by intro b h; cases h)))) (refCalls_spec _ (rawE x) [] (Nat.le_refl _) (by simp; omega))
 unfold avE
 rw [CRaw.av_eq] at h0 ⊢
 repeat (first | (with_reducible first | apply CW.seq | apply aN) | refine wR rfl ?_ | refine CW.reg ?_ | refine wS rfl ?_)
 refine RL.callPP rfl rfl rfl rfl rfl h0 ?_
 repeat (first | (with_reducible first | apply CW.seq | apply aN | apply CW.block) | refine wR rfl ?_ | refine RL.nil ?_ | refine wS rfl ?_)
 refine CW.loopL hok (σ := Int × List Int) (fun q => [(0, progA P), (5, intsA q.2), (6, .int .i64 q.1)]) (fun _ => []) (fun q => MayI P x q.2 ∧ -1 ≤ q.1 ∧ q.1 ≤ q.2.length ∧ (q.1 = q.2.length → (roundM 7 P q.2 q.2).length ≤ q.2.length)) (fun q => (7 - q.1).toNat) (-1, foldT 7 (rawE x) []) ⟨MayI.start P x, by omega, by omega, by omega⟩ (wE rfl) (by repeat (first | exact Sels.nil | (apply Sels.cons; · repeat (first | exact Sel.here | apply Sel.there)))) ?_
 rintro ⟨n, out⟩ ⟨hI, hn1, hn2, hn3⟩ hok
 simp only at hI hn1 hn2 hn3 hok ⊢
 have hfew := may_few hx hI
 have hlm : ((out.map intA).length : Int) = out.length := by simp
 unfold intsA
 repeat (first | (with_reducible first | apply CW.seq | apply aN) | refine wR rfl ?_)
 refine CW.cond rfl (fun hh => ?_) (fun hh => ?_)
 rotate_left
 ·have hh : n = out.length := by
   have : n = ((out.map intA).length : Int) := by simpa using hh
   rw [hlm] at this; exact this
  have := hI.done hx (hn3 hh)
  rw [← this]
  repeat (first | (with_reducible first | apply CW.seq | apply aN | apply aX | apply iH | apply CW.ret | apply CW.exit) | refine wR rfl ?_)
  exact Fin.retP hok rfl aRfl
 have hh : n ≠ out.length := by
  intro e; rw [← hlm] at e; simp [e] at hh
 repeat (first | (with_reducible first | apply CW.seq | apply aN | apply CW.skip | apply CW.block) | refine wR rfl ?_)
 refine CW.loopL hok (σ := Nat × List Int) (fun q => [(0, progA P), (5, intsA q.2), (6, .int .i64 (out.length : Int)), (17, intsA out), (18, .int .i64 out.length), (19, .int .i64 (q.1 : Int))]) (fun _ => []) (fun q => q.1 ≤ out.length ∧ q.2 = roundM 7 P (out.take q.1) out) (fun q => out.length - q.1) (0, out) ⟨by simp, rfl⟩ (by repeat (first | exact trivial | refine ⟨⟨_, rfl, aRfl⟩, ?_⟩ | refine ⟨⟨_, rfl, AVle.of_eq (by simp)⟩, ?_⟩)) (by repeat (first | exact Sels.nil | (apply Sels.cons; · repeat (first | exact Sel.here | apply Sel.there)))) ?_
 rintro ⟨j, cur⟩ ⟨hj, hcur⟩ hok
 simp only at hj hcur hok ⊢
 subst hcur
 unfold progA intsA
 repeat (first | (with_reducible first | apply CW.seq | apply aN) | refine wR rfl ?_)
 refine CW.cond rfl (fun hc => ?_) (fun hc => ?_)
 ·have hlt : j < out.length := by simpa using hc
  obtain ⟨b, hb, hb'⟩ := elem_at (f := intA) hlt
  have hbm := List.mem_of_getElem? hb
  obtain ⟨m, a, hr, rfl⟩ := hI.some b hbm
  have hm := hx m a hr
  have hI2 := hI.round (l := out.take j) (fun z hz => hI.some z (List.mem_of_mem_take hz))
  have hfew2 := may_few hx hI2
  have hsz := evs_sizes P m
  have hbl : blockR P (m : Int) = rawE (P.getD m default) := by simp [blockR]
  have hrd : roundM 7 P (out.take (j + 1)) out = foldT 7 (blockR P (m : Int)) (roundM 7 P (out.take j) out) := by
   unfold roundM
   rw [List.take_add_one, hb, List.foldl_append]; rfl
  rw [hbl] at hrd
  have hel : ((P.map rawE).map CRaw.av)[m]? = some (.agg (rawE (P.getD m default)).cells) := by
   rw [← CRaw.av_eq, List.getElem?_map, List.getElem?_map, List.getD_eq_getElem?_getD, List.getElem?_eq_getElem hm]; rfl
  have h1 := refCalls_spec _ (rawE (P.getD m default)) (roundM 7 P (out.take j) out) (Nat.le_refl _) (by rw [size_raw]; omega)
  generalize P.getD m default = q at hrd hel h1
  rw [CRaw.av_eq] at h1
  unfold intA at hb'
  unfold intsA at h1
  repeat (first | (with_reducible first | apply CW.seq | apply aN | apply CW.skip | apply CW.block) | refine CW.reg ?_ | refine RL.nil ?_ | refine wS rfl ?_ | refine RL.idx tO _ rfl rfl rfl rfl rfl rfl rfl rfl rfl rfl rfl (by assumption) rfl ?_)
  refine RL.callPP rfl rfl rfl rfl rfl h1 ?_
  repeat (first | (with_reducible first | apply aN | apply iN) | refine wR rfl ?_ | refine RL.nil ?_ | refine wS rfl ?_)
  exact NextL.mk (j + 1, roundM 7 P (out.take (j + 1)) out) hok ⟨hlt, rfl⟩ (by repeat (first | exact trivial | refine ⟨⟨_, rfl, aRfl⟩, ?_⟩ | refine ⟨⟨_, rfl, AVle.of_eq (by (first | rw [i64_succ (by omega)] | exact congrArg intsA hrd | exact congrArg intsA hrd.symm))⟩, ?_⟩)) (by repeat (first | exact Sels.nil | (apply Sels.cons; · repeat (first | exact Sel.here | apply Sel.there)))) (by show out.length - (j + 1) < out.length - j; omega)
 ·have hge : j = out.length := by
   have : out.length ≤ j := by simpa using hc
   omega
  subst hge
  rw [List.take_length]
  have hI2 := hI.round hI.some
  have hge2 := nodup_len out (roundM 7 P out out) (inc_nodup hI.inc) (fun z hz => mem_roundM.2 (.inl hz))
  repeat (with_reducible first | apply aN | apply aX | apply iN | apply iH | apply CW.exit)
  refine NextL.mk (out.length, roundM 7 P out out) hok ⟨hI2, by simp only; omega, by simp only; omega, fun e => ?_⟩ (wE rfl) (by repeat (first | exact Sels.nil | (apply Sels.cons; · repeat (first | exact Sel.here | apply Sel.there)))) (by simp only; omega)
  have hsame : out = roundM 7 P out out := inc_eq hI.inc hI2.inc fun z => ⟨fun hz => mem_roundM.2 (.inl hz), inc_sub hI.inc (fun z hz => mem_roundM.2 (.inl hz)) (by simp only at e; omega) z⟩
  show (roundM 7 P (roundM 7 P out out) (roundM 7 P out out)).length ≤ (roundM 7 P out out).length
  rw [← hsame, ← hsame]
  exact Nat.le_refl _
end Go.Proofs.Ytdeiinhccdlfiaa

/- Chapter 19: the contract of the reference's ErrorsOf. -/
namespace Go.Proofs.Ytdeiinhccdlfiaa
open Go.AE Go.Cond

theorem roundM_len {k : Int} {P : List CExp} : ∀ (l out : List Int), (roundM k P l out).length ≤ out.length + l.length * (sizesE P + 1)
  | [], out => by simp [roundM]
  | b :: r, out => by
    show (roundM k P r (foldT k (blockR P b) out)).length ≤ _
    have h1 := roundM_len (k := k) (P := P) r (foldT k (blockR P b) out)
    have h2 := foldT_len k (blockR P b) out
    have h3 : (blockR P b).size ≤ sizesE P + 1 := by rw [blockR, size_raw]; exact evs_sizes P _
    rw [List.length_cons, Nat.add_mul]
    omega
theorem mayL_few {P : List CExp} {x : CExp} (hx : OkC P x) : (mayL P x).length ≤ P.length := by
 have := nodup_len (mayL P x) ((List.range P.length).map fun (n : Nat) => (n : Int)) (inc_nodup (sortedI_inc _).1) fun z hz => by
  obtain ⟨n, a, hr, rfl⟩ := (mem_mayL hx z).1 hz
  exact List.mem_map.2 ⟨n, List.mem_range.2 (hx n a hr), rfl⟩
 simpa using this
theorem roundM_take {k : Int} {P : List CExp} {l out : List Int} {j : Nat} {b : Int} (hb : l[j]? = some b) : roundM k P (l.take (j + 1)) out = foldT k (blockR P b) (roundM k P (l.take j) out) := by
 unfold roundM
 rw [List.take_add_one, hb, List.foldl_append]; rfl
set_option maxRecDepth 10000 in
set_option maxHeartbeats 1000000 in
theorem refErrorsOf_spec (P : List CExp) (hP : ∀ e ∈ P, OkC P e) (hP6 : P.length ≤ 6) (hPb : sizesE P + 1 < 100000) :
  PCalls Try.prog 17 [progA P] (.slc 1 ((P.map (errsR P)).map intsA) .fro) := by
 have hb : big = 1099511627776 := rfl
 have hlm : ((P.map rawE).map CRaw.av).length = P.length := by simp
 refine PCalls.of_CW tO call17 Try.func17 rfl rfl fun s hok => ?_
 unfold progA
 repeat (first | (with_reducible first | apply CW.seq | apply aN | apply CW.block) | refine wR rfl ?_)
 refine CW.phantom hok 31 1 0 fun hok => ?_
 refine CW.loopL hok (σ := Nat × Own) (fun q => [(0, progA P), (3, .slc 1 (((P.take q.1).map (errsR P)).map intsA) q.2), (9, progA P), (10, .int .i64 P.length), (11, .int .i64 (q.1 : Int))]) (fun q => [(q.2, .row 31 1 q.1)]) (fun q => q.1 ≤ P.length) (fun q => P.length - q.1) (0, .nil) (Nat.zero_le _) ⟨⟨_, rfl, aRfl⟩, ⟨_, rfl, AVle.nil (by intro b h; cases h)⟩, ⟨_, rfl, aRfl⟩, ⟨_, rfl, AVle.of_eq (by rw [hlm])⟩, ⟨_, rfl, aRfl⟩, trivial⟩ (by repeat (first | exact Sels.nil | (apply Sels.cons; · repeat (first | exact Sel.here | apply Sel.there)))) ?_
 rintro ⟨j, own⟩ hj hok
 simp only at hj hok ⊢
 unfold progA
 repeat (first | (with_reducible first | apply CW.seq | apply aN) | refine wR rfl ?_)
 refine CW.cond rfl (fun hlt => ?_) (fun hge => ?_)
 rotate_left
 ·have hge : j = P.length := by
   have : P.length ≤ j := by simpa using hge
   omega
  subst hge
  rw [List.take_length]
  repeat (first | (with_reducible first | apply CW.seq | apply aN | apply aX | apply iH | apply CW.ret | apply CW.exit) | refine wR rfl ?_)
  exact Fin.retP hok rfl AVle.fro
 have hlt : j < P.length := by simpa using hlt
 have hy : P[j]? = some P[j] := List.getElem?_eq_getElem hlt
 generalize P[j] = x at hy
 have hxm := List.mem_of_getElem? hy
 have hy' : ((P.map rawE).map CRaw.av)[j]? = some (.agg [.int .i64 (rawE x).op, .int .i64 (rawE x).n, .slc 3 ((rawE x).kids.map CRaw.av) .fro]) := by
  rw [List.getElem?_map, List.getElem?_map, hy]
  exact congrArg some (CRaw.av_eq _)
 have hxs := mem_sizesE hxm
 have hxc := hP x hxm
 have hsx := size_raw x
 have h0 : PCalls Try.prog 48 [(rawE x).av, .slc 0 [] .nil] (intsA (foldT 10 (rawE x) [])) := PCalls.args (.cons aRfl (.one (AVle.nil (by intro b h; cases h)))) (refErrorsIn_spec _ (rawE x) [] (Nat.le_refl _) (by simp; omega))
 have hl0 := foldT_len 10 (rawE x) []
 rw [List.length_nil] at hl0
 have hmy := may_spec P x hP6 hxc (by omega) (by omega)
 have hmf := mayL_few hxc
 have hms : ∀ z ∈ mayL P x, ∃ m : Nat, m < P.length ∧ z = (m : Int) := by
  intro z hz
  obtain ⟨n, a, hr, rfl⟩ := (mem_mayL hxc z).1 hz
  exact ⟨n, hxc n a hr, rfl⟩
 have htk : ((P.take j).map (errsR P)).map intsA ++ [intsA (errsR P x)] = ((P.take (j + 1)).map (errsR P)).map intsA := by
  rw [List.map_map, List.map_map]; exact take_succ_map (fun x => intsA (errsR P x)) hy
 unfold avE progA at hmy
 rw [CRaw.av_eq] at h0 hmy
 have herr : errsR P x = roundM 10 P (mayL P x) (foldT 10 (rawE x) []) := rfl
 generalize mayL P x = l at hmy hmf hms herr
 repeat (first | (with_reducible first | apply CW.seq | apply aN | apply CW.skip | apply CW.block) | refine CW.reg ?_ | refine wS rfl ?_ | refine RL.idx tO _ rfl rfl rfl rfl rfl rfl rfl rfl rfl rfl rfl (by assumption) rfl ?_)
 refine RL.newBox tO rfl rfl rfl rfl rfl rfl rfl (fun _ => rfl) rfl rfl (fun _ => rfl) rfl rfl rfl rfl ?_
 repeat (first | (with_reducible first | apply CW.seq | apply aN) | refine CW.reg ?_ | refine RL.nil ?_ | refine wS rfl ?_)
 refine RL.callPP rfl rfl rfl rfl rfl h0 ?_
 repeat (first | (with_reducible first | apply CW.seq | apply aN) | refine CW.reg ?_ | refine RL.nil ?_ | refine wS rfl ?_)
 refine RL.callPP rfl rfl rfl rfl rfl hmy ?_
 have hll : ((l.map intA).length : Int) = l.length := by simp
 unfold intsA
 repeat (first | (with_reducible first | apply aN | apply CW.block) | refine RL.nil ?_ | refine wS rfl ?_)
 refine CW.loopL hok (σ := Nat) (fun q => [(0, progA P), (3, .slc 1 (((P.take j).map (errsR P)).map intsA) own), (6, intsA (roundM 10 P (l.take q) (foldT 10 (rawE x) []))), (9, progA P), (10, .int .i64 P.length), (11, .int .i64 (j : Int)), (19, intsA l), (20, .int .i64 l.length), (21, .int .i64 (q : Int))]) (fun _ => [(own, .row 31 1 j)]) (fun q => q ≤ l.length) (fun q => l.length - q) 0 (Nat.zero_le _) (by repeat (first | exact trivial | refine ⟨⟨_, rfl, aRfl⟩, ?_⟩ | refine ⟨⟨_, rfl, AVle.of_eq (by simp)⟩, ?_⟩)) (by repeat (first | exact Sels.nil | (apply Sels.cons; · repeat (first | exact Sel.here | apply Sel.there)))) ?_
 intro i hi hok
 unfold progA intsA
 repeat (first | (with_reducible first | apply CW.seq | apply aN) | refine wR rfl ?_)
 refine CW.cond rfl (fun hc => ?_) (fun hc => ?_)
 ·have hlt2 : i < l.length := by simpa using hc
  obtain ⟨b, hbi, hbi'⟩ := elem_at (f := intA) hlt2
  obtain ⟨m, hm, rfl⟩ := hms b (List.mem_of_getElem? hbi)
  have hrd := roundM_take (k := 10) (P := P) (out := foldT 10 (rawE x) []) hbi
  have hbl : blockR P (m : Int) = rawE (P.getD m default) := by simp [blockR]
  rw [hbl] at hrd
  have hel : ((P.map rawE).map CRaw.av)[m]? = some (.agg (rawE (P.getD m default)).cells) := by
   rw [← CRaw.av_eq, List.getElem?_map, List.getElem?_map, List.getD_eq_getElem?_getD, List.getElem?_eq_getElem hm]; rfl
  have hsz := evs_sizes P m
  have hrl := roundM_len (k := 10) (P := P) (l.take i) (foldT 10 (rawE x) [])
  have hmul : (l.take i).length * (sizesE P + 1) ≤ 6 * (sizesE P + 1) := Nat.mul_le_mul_right _ (by rw [List.length_take]; omega)
  have h1 := refErrorsIn_spec _ (rawE (P.getD m default)) (roundM 10 P (l.take i) (foldT 10 (rawE x) [])) (Nat.le_refl _) (by rw [size_raw]; omega)
  generalize P.getD m default = q at hrd hel h1
  rw [CRaw.av_eq] at h1
  unfold intA at hbi'
  unfold intsA at h1
  repeat (first | (with_reducible first | apply CW.seq | apply aN | apply CW.skip | apply CW.block) | refine CW.reg ?_ | refine RL.nil ?_ | refine wS rfl ?_ | refine RL.idx tO _ rfl rfl rfl rfl rfl rfl rfl rfl rfl rfl rfl (by assumption) rfl ?_)
  refine RL.callPP rfl rfl rfl rfl rfl h1 ?_
  repeat (first | (with_reducible first | apply aN | apply iN) | refine wR rfl ?_ | refine RL.nil ?_ | refine wS rfl ?_)
  exact NextL.mk (i + 1) hok hlt2 (by repeat (first | exact trivial | refine ⟨⟨_, rfl, aRfl⟩, ?_⟩ | refine ⟨⟨_, rfl, AVle.of_eq (by (first | rw [i64_succ (by omega)] | exact congrArg intsA hrd | exact congrArg intsA hrd.symm))⟩, ?_⟩)) (by repeat (first | exact Sels.nil | (apply Sels.cons; · repeat (first | exact Sel.here | apply Sel.there)))) (by show l.length - (i + 1) < l.length - i; omega)
 ·have hge : i = l.length := by
   have : l.length ≤ i := by simpa using hc
   omega
  subst hge
  rw [List.take_length, ← herr]
  unfold intsA at htk
  repeat (first | (with_reducible first | apply aN | apply aX | apply iH | apply CW.exit) | refine CW.reg ?_ | refine wS rfl ?_)
  refine RL.append1L tO hok rfl rfl rfl rfl rfl rfl rfl (by intro k; simp) rfl rfl rfl rfl rfl rfl rfl rfl (by repeat (first | exact Sel.here | apply Sel.there)) (by simp <;> omega) (by show (_ + 1) * 24 ≤ _; omega) (by omega) (fun o2 hok => ?_)
  repeat (first | (with_reducible first | apply aN | apply iN) | refine wR rfl ?_ | refine RL.nil ?_ | refine wS rfl ?_)
  exact NextL.mk (j + 1, .own o2) hok hlt (by repeat (first | exact trivial | refine ⟨⟨_, rfl, aRfl⟩, ?_⟩ | refine ⟨⟨_, rfl, AVle.of_eq (by (first | rw [i64_succ (by omega)] | (rw [← htk]; rfl) | exact congrArg (fun l => AV.slc 1 l (Own.own o2)) htk))⟩, ?_⟩)) (by repeat (first | exact Sels.nil | (apply Sels.cons; · repeat (first | exact Sel.here | apply Sel.there)))) (by show P.length - (j + 1) < P.length - j; omega)
end Go.Proofs.Ytdeiinhccdlfiaa

/- Chapter 19, plain: what is known of a program that is formed. -/
namespace Go.Proofs.Ytdeiinhccdlfiaa
open Go.AE Go.Cond

theorem OkE.kid {b : Int} {x y : CExp} (h : OkE b x) (hy : y ∈ x.kids) : OkE b y := by
 cases x <;> simp only [CExp.kids, List.mem_cons, List.not_mem_nil, or_false] at hy <;> simp only [OkE] at h
 all_goals first
  | (rcases hy with rfl | rfl | rfl <;> simp [h])
  | (rcases hy with rfl | rfl <;> simp [h])
  | (subst hy; simp [h])
theorem OkE.reach {P : List CExp} (hP : ∀ e ∈ P, OkE P.length e) {x z : CExp} (h : Cond.Reach P x z) : OkE P.length x → OkE P.length z := by
 induction h with
 | refl _ => exact id
 | kid hy _ ih => exact fun h => ih (h.kid hy)
 | @call n a z _ ih =>
  intro h
  have hn : n < P.length := by have := h.1; omega
  refine ih (hP _ ?_)
  rw [List.getD_eq_getElem?_getD, List.getElem?_eq_getElem hn]
  exact List.getElem_mem hn
theorem OkE.okC {P : List CExp} (hP : ∀ e ∈ P, OkE P.length e) {x : CExp} (h : OkE P.length x) : OkC P x := fun n a hr => by
 have := (OkE.reach hP hr h).1; omega
mutual
theorem cntR_size {b : Int} : ∀ {x : CRaw} {d : Nat} {k : Int}, (cntR b d k x).1 = true → (cntR b d k x).2 = k - x.size ∧ 0 ≤ (cntR b d k x).2
  | .mk o n ks, d, k, h => by
    rw [cntR] at h ⊢
    rw [CRaw.size]
    cases hq : nodeOf b o with
    | none => rw [hq] at h; cases h
    | some r =>
      rw [hq] at h
      simp only at h ⊢
      split at h
      · cases h
      · rename_i hc
        rw [if_neg hc]
        simp only [Bool.or_eq_true, decide_eq_true_eq, not_or] at hc
        obtain ⟨h1, h2⟩ := cntsR_size h
        exact ⟨by omega, h2 (by omega)⟩
theorem cntsR_size {b : Int} : ∀ {l : List CRaw} {d : Nat} {k : Int}, (cntsR b d k l).1 = true → (cntsR b d k l).2 = k - CRaw.sizes l ∧ (0 ≤ k → 0 ≤ (cntsR b d k l).2)
  | [], d, k, h => by rw [cntsR, CRaw.sizes]; exact ⟨by simp, fun h => h⟩
  | x :: r, d, k, h => by
    rw [cntsR] at h ⊢
    rw [CRaw.sizes]
    split at h
    · rename_i h1
      rw [if_pos h1]
      obtain ⟨e1, e2⟩ := cntR_size h1
      obtain ⟨e3, e4⟩ := cntsR_size h
      exact ⟨by omega, fun _ => e4 e2⟩
    · cases h
end
theorem good_sizes {p : List CRaw} (h : goodP p = true) : CRaw.sizes p ≤ 80 := by
 unfold goodP at h
 simp only [Bool.and_eq_true] at h
 obtain ⟨h1, h2⟩ := cntsR_size h.2
 have := h2 (by omega)
 omega
structure Fit (P : List CExp) : Prop where
 good : goodP (P.map rawE) = true
 ok : ∀ e ∈ P, OkE P.length e
 one : 1 ≤ P.length
 six : P.length ≤ 6
 okC : ∀ e ∈ P, OkC P e
 sizes : sizesE P ≤ 80
theorem good_fit {p : List CRaw} (h : goodP p = true) : ∃ P : List CExp, p = P.map rawE ∧ Fit P := by
 obtain ⟨P, rfl, h1, h2, h3⟩ := good_typed h
 exact ⟨P, rfl, h, h1, h2, h3, fun e he => OkE.okC h1 (h1 e he), by rw [← sizes_raw]; exact good_sizes h⟩
theorem raw_inj : ∀ {x y : CExp}, rawE x = rawE y → x = y := by
 have hx : ∀ m (x y : CExp), x.size ≤ m → rawE x = rawE y → x = y := by
  intro m
  induction m with
  | zero => intro x y h; have := size_kids x; omega
  | succ m ih =>
   intro x y hs h
   have hk := size_kids x
   have hkid : ∀ z ∈ x.kids, ∀ w, rawE z = rawE w → z = w := fun z hz w => ih z w (by have := mem_sizesE hz; omega)
   clear ih hs hk
   cases x <;> cases y <;> simp [rawE, CExp.kids] at h hkid ⊢
   all_goals first
    | exact h
    | exact hkid _ h
    | exact ⟨hkid.1 _ h.1, hkid.2 _ h.2⟩
    | exact ⟨hkid.1 _ h.1, hkid.2.1 _ h.2.1, hkid.2.2 _ h.2.2⟩
    | exact ⟨h.1, hkid _ h.2⟩
    | exact ⟨h.1, hkid.1 _ h.2.1, hkid.2 _ h.2.2⟩
    | exact ⟨by omega, hkid _ h.2⟩
 exact fun {x y} => hx x.size x y (Nat.le_refl _)
theorem raws_inj : ∀ {a b : List CExp}, a.map rawE = b.map rawE → a = b
  | [], [], _ => rfl
  | x :: r, y :: q, h => by
    rw [List.map_cons, List.map_cons, List.cons.injEq] at h
    rw [raw_inj h.1, raws_inj h.2]
theorem fit_of {P : List CExp} (h : goodP (P.map rawE) = true) : Fit P := by
 obtain ⟨Q, hq, hf⟩ := good_fit h
 rw [raws_inj hq]; exact hf
section
variable {P : List CExp} (f : Fit P)
include f
theorem Fit.bound : CRaw.sizes (P.map rawE) + 1 < big := by
 have hb : big = 1099511627776 := rfl
 have := f.sizes
 rw [sizes_raw]; omega
theorem Fit.drive (hand : Int) (picks : List Int) (fuel : Nat) (h : askedB (P.map rawE) hand picks fuel = true) :
  PCalls Try.prog 19 [progA P, .int .i64 hand, intsA picks, .int .i64 (fuel : Int)] (.tup [runA (Cond.drive P hand picks fuel), .int .i64 0]) := driveOk_spec P f.ok f.one f.bound hand picks fuel h
theorem Fit.run (hand : Int) (fuel : Nat) (h : askedB (P.map rawE) hand [] fuel = true) :
  PCalls Try.prog 31 [progA P, .int .i64 hand, .int .i64 (fuel : Int)] (.tup [runA (Cond.drive P hand [] fuel), .int .i64 0]) := runOk_spec P f.ok f.one f.bound hand fuel h
theorem Fit.errors : PCalls Try.prog 13 [progA P] (.tup [.slc 1 ((P.map (errs P)).map intsA) .fro, .int .i64 0]) :=
 errorsOk_spec P f.okC f.six f.bound (by have hb : big = 1099511627776 := rfl; have := f.sizes; omega) f.good
theorem Fit.plain : PCalls Try.prog 25 [progA P] (.tup [progA (P.map (plainP P)), .int .i64 0]) :=
 plainOk_spec P f.okC f.six f.bound (by have hb : big = 1099511627776 := rfl; have := f.sizes; omega) f.good
end
end Go.Proofs.Ytdeiinhccdlfiaa

/- Chapter 19, plain: how small the events of a run are; a plain program is formed, and its run is the same. -/
namespace Go.Cond

def Small (B : Nat) (l : List Ev) : Prop := ∀ e ∈ l, e.hs.length ≤ B ∧ e.rs.length ≤ B
theorem Small.snoc {B : Nat} {l : List Ev} (h : Small B l) {e : Ev} (he : e.hs.length ≤ B ∧ e.rs.length ≤ B) : Small B (l ++ [e]) := fun x hx => by
 rcases List.mem_append.1 hx with hx | hx
 ·exact h x hx
 ·rw [List.mem_singleton] at hx; subst hx; exact he
structure Room (B : Nat) (s : Sc) (f : Nat) : Prop where
 hs : s.hs.length + f ≤ B
 rs : s.rs.length + f ≤ B
theorem Room.less {B : Nat} {s : Sc} {f g : Nat} (h : Room B s f) (hg : g ≤ f) : Room B s g := ⟨by have := h.hs; omega, by have := h.rs; omega⟩
theorem Room.ev {B : Nat} {s : Sc} {f : Nat} (h : Room B s f) (d n v : Int) : (s.ev d n v).hs.length ≤ B ∧ (s.ev d n v).rs.length ≤ B := by
 have h1 := h.hs
 have h2 := h.rs
 refine ⟨?_, ?_⟩
 ·show s.names.length ≤ B
  unfold Sc.names; rw [List.length_map]; omega
 ·show s.rs.length ≤ B
  omega
section
variable {B : Nat} {P : List CExp} {f : Nat} (ih : ∀ x s st, Room B s st.fuel → Small B st.evs → st.fuel < f → Small B (run P x s st).2.evs)
theorem small_then {r : Res} {g : Int → St → Res} (h : Small B r.2.evs) (hg : ∀ v q, r = (.val v, q) → Small B q.evs → Small B (g v q).2.evs) : Small B (andThen r g).2.evs := by
 obtain ⟨o, q⟩ := r
 cases o with
 | val v => exact hg v q rfl h
 | leave d v => exact h
 | stop e => exact h
theorem small_leave {r : Res} {d : Nat} {g : Int → St → Res} (h : Small B r.2.evs) (hg : ∀ v q, r = (.leave d v, q) → Small B q.evs → Small B (g v q).2.evs) : Small B (onLeave r d g).2.evs := by
 obtain ⟨o, q⟩ := r
 cases o with
 | val v => exact h
 | leave e v =>
  rw [onLeave]
  split
  ·rename_i he; subst he; exact hg v q rfl h
  ·exact h
 | stop e => exact h
include ih
theorem raiseL_small {rs : List Int} {n v : Int} : ∀ (l : List Hd) (st : St), l.length + st.fuel ≤ B → rs.length + st.fuel ≤ B → Small B st.evs → st.fuel < f → Small B (raiseL (run P) rs n v l st).2.evs
  | [], _, _, _, h, _ => h
  | h :: outer, st, h1, h2, hs, hf => by
    rw [List.length_cons] at h1
    rw [raiseL]
    split
    · have hr : Room B ⟨v, outer, rs⟩ st.fuel := ⟨by show outer.length + _ ≤ _; omega, h2⟩
      refine small_then (ih h.body ⟨v, outer, rs⟩ _ hr (hs.snoc (hr.ev ..)) hf) fun u q hq h3 => ?_
      have h4 := run_fuel P h.body ⟨v, outer, rs⟩ (st.tell (Sc.ev ⟨v, outer, rs⟩ 3 h.n v))
      rw [hq] at h4
      have h4' : q.fuel ≤ st.fuel := h4
      exact raiseL_small outer q (by omega) (by omega) h3 (by omega)
    · exact raiseL_small outer st (by omega) h2 hs hf
theorem raise_small {s : Sc} (n v : Int) {st : St} (hr : Room B s st.fuel) (h : Small B st.evs) (hf : st.fuel < f) : Small B (raise (run P) s n v st).2.evs :=
 raiseL_small ih s.hs _ hr.hs hr.rs (h.snoc (hr.ev ..)) hf
omit ih in
theorem lost_small {s : Sc} (v : Int) {st : St} (hr : Room B s st.fuel) (h : Small B st.evs) : Small B (lost s v st).2.evs := by
 unfold lost
 split
 ·exact h
 ·split
  ·exact h
  ·exact h.snoc (hr.ev ..)
theorem agains_small {n : Int} {a : CExp} {s : Sc} : ∀ (k : Nat) {v : Int} {st : St}, st.fuel ≤ k → s.hs.length + st.fuel ≤ B → s.rs.length + 1 + st.fuel ≤ B → Small B st.evs → st.fuel < f → Small B (agains P n a s v st).2.evs
  | k, v, st, hk, h1, h2, h, hf => by
    rw [agains_eq]
    refine small_leave (ih a ((s.with v).offer n) st ⟨h1, by show (n :: s.rs).length + _ ≤ _; simpa using h2⟩ h hf) fun u q hr hq => ?_
    have hb := run_burns P _ _ _ hr (by simp)
    cases k with
    | zero => omega
    | succ k => exact agains_small k (by omega) (by omega) (by omega) hq (by omega)
theorem step_small (x : CExp) {s : Sc} {st : St} {k : Nat} (hr : Room B s (st.fuel + 1)) (h : Small B st.evs) (hf : st.fuel < f) (hk : st.fuel < k) : Small B (step P (run P) k s st x).2.evs := by
 have hr0 := hr.less (Nat.le_succ _)
 have bind : ∀ {x : CExp} {st : St} {g : Int → St → Res}, Room B s st.fuel → Small B st.evs → st.fuel < f → (∀ v q, Room B s q.fuel → Small B q.evs → q.fuel < f → Small B (g v q).2.evs) → Small B (andThen (run P x s st) g).2.evs := by
  intro x st g hr h hf hg
  refine small_then (ih x s st hr h hf) fun v q hq h1 => ?_
  have h2 := run_fuel P x s st
  rw [hq] at h2
  have h2' : q.fuel ≤ st.fuel := h2
  exact hg v q (hr.less h2') h1 (by omega)
 cases x with
 | int n => exact h
 | hand => exact h
 | add a b => exact bind hr0 h hf fun _ _ hr h hf => bind hr h hf fun _ _ _ h _ => h
 | say a => exact bind hr0 h hf fun v q hr h _ => h.snoc (hr.ev ..)
 | seq a b => exact bind hr0 h hf fun _ _ hr h hf => ih _ _ _ hr h hf
 | test a b c =>
  refine bind hr0 h hf fun _ _ hr h hf => ?_
  split <;> exact ih _ _ _ hr h hf
 | call n a => exact bind hr0 h hf fun v q hr h hf => ih _ (s.with v) _ ⟨hr.hs, hr.rs⟩ h hf
 | handle n a b => exact ih _ (s.under n b) _ ⟨by show (_ :: s.hs).length + _ ≤ _; have := hr.hs; simp; omega, hr0.rs⟩ h hf
 | signal n a => exact bind hr0 h hf fun v q hr h hf => raise_small ih n v hr h hf
 | fails n a =>
  refine bind hr0 h hf fun v q hr h hf => small_then (raise_small ih n v hr h hf) fun u q' hq h' => lost_small v (hr.less ?_) h'
  have : (raise (run P) s n v q).2.fuel ≤ q.fuel := raise_grows fuel_grows (run_fuel P) s n v q
  rw [hq] at this
  exact this
 | restart n a b =>
  refine small_leave (ih a (s.offer n) _ ⟨hr0.hs, by show (n :: s.rs).length + _ ≤ _; have := hr.rs; simp; omega⟩ h hf) fun v q hq h' => ?_
  have := run_burns P _ _ _ hq (by simp)
  exact ih b (s.with v) q ⟨by have := hr.hs; show s.hs.length + _ ≤ _; omega, by have := hr.rs; show s.rs.length + _ ≤ _; omega⟩ h' (by omega)
 | again n a =>
  show Small B (again (run P) n a s k s.hand st).2.evs
  rw [again_run P n a s _ st hk (Nat.lt_succ_self _)]
  exact agains_small ih _ (Nat.le_refl _) hr0.hs (by have := hr.rs; omega) h hf
 | choose n a =>
  refine bind hr0 h hf fun v q hr h _ => ?_
  split
  ·exact h.snoc (hr.ev ..)
  ·exact h
 | find n => exact h
 | guard a b =>
  have h1 := ih a s st hr0 h hf
  have h2 := run_fuel P a s st
  show Small B (behind (run P a s st) _ _).2.evs
  generalize run P a s st = r at h1 h2
  obtain ⟨o, q⟩ := r
  have h3 : q.fuel ≤ st.fuel := h2
  cases o with
  | val v => exact small_then (ih b s q (hr0.less h3) h1 (by omega)) fun _ _ _ h => h
  | leave d v => exact small_then (ih b s (q.tell _) (hr0.less h3) (h1.snoc (hr0.ev ..)) (by show q.fuel < f; omega)) fun _ _ _ h => h
  | stop e => exact h1
end
theorem run_small {B : Nat} (P : List CExp) : ∀ (f : Nat) (x : CExp) (s : Sc) (st : St), Room B s st.fuel → Small B st.evs → st.fuel < f → Small B (run P x s st).2.evs
  | 0, _, _, _, _, _, h => absurd h (Nat.not_lt_zero _)
  | f + 1, x, s, st, hr, h, hf => by
    by_cases h0 : st.fuel = 0
    · rw [run_spent P x s st h0]; exact h
    · rw [run_step P x s st h0]
      have h2 : st.burn.fuel = st.fuel - 1 := rfl
      exact step_small (run_small P f) x (hr.less (by omega)) h (by omega) (by omega)
theorem drive_small (P : List CExp) (hand : Int) (picks : List Int) (fuel : Nat) : (drive P hand picks fuel).evs.length ≤ 3 * fuel + 1 ∧ Small fuel (drive P hand picks fuel).evs := by
 have h1 := run_phi P (fuel + 1) (P.getD 0 default) ⟨hand, [], []⟩ ⟨[], fuel, picks⟩ (Nat.lt_succ_self _)
 have h2 := run_small (B := fuel) P (fuel + 1) (P.getD 0 default) ⟨hand, [], []⟩ ⟨[], fuel, picks⟩ ⟨by simp, by simp⟩ (fun _ h => by cases h) (Nat.lt_succ_self _)
 rw [drive_run]
 generalize run P (P.getD 0 default) ⟨hand, [], []⟩ ⟨[], fuel, picks⟩ = r at h1 h2
 obtain ⟨o, q⟩ := r
 have h3 : phi q ≤ (0 : Int) + 3 * fuel := by
  cases o <;> (unfold PB at h1; simp only [phi] at h1 ⊢; simp at h1; omega)
 have h4 : q.evs.length ≤ 3 * fuel + 1 := by unfold phi at h3; omega
 cases o <;> exact ⟨h4, h2⟩
end Go.Cond
namespace Go.Proofs.Ytdeiinhccdlfiaa
open Go.AE Go.Cond

theorem drive_fair (P : List CExp) (hand : Int) (picks : List Int) (fuel : Nat) (hf : fuel ≤ 300) : (drive P hand picks fuel).evs.length < 1000 ∧ ∀ e ∈ (drive P hand picks fuel).evs, EvFair e := by
 obtain ⟨h1, h2⟩ := drive_small P hand picks fuel
 have hb : big = 1099511627776 := rfl
 exact ⟨by omega, fun e he => by have := h2 e he; exact ⟨by omega, by omega⟩⟩

/-! ### Plain programs -/
theorem quietP {P : List CExp} {x : CExp} (hx : OkC P x) (n : Int) (h : raisesB P x n = false) : Quiet P x n := fun y hy => by
 unfold raisesB at h
 rw [List.any_eq_false] at h
 have := h y ((evs_reach hx y).2 hy)
 simpa using this
open Classical in
noncomputable def mayP (P : List CExp) (x : CExp) (n : Int) : Bool := if OkC P x then raisesB P x n else true
theorem plain_mayP {P : List CExp} : ∀ (m : Nat) (x : CExp), x.size ≤ m → OkC P x → plain (mayP P) x = plainP P x
  | 0, x, h, _ => by have := size_kids x; omega
  | m + 1, x, h, hx => by
    have hs := size_kids x
    have hk : ∀ y ∈ x.kids, plain (mayP P) y = plainP P y := fun y hy => plain_mayP m y (by have := mem_sizesE hy; omega) (hx.kid hy)
    cases x with
    | handle n a b =>
      have h1 : mayP P a n = raisesB P a n := if_pos (hx.kid (by simp [CExp.kids]))
      show (if mayP P a n then _ else _) = (if raisesB P a n then _ else _)
      rw [h1, hk a (by simp [CExp.kids]), hk b (by simp [CExp.kids])]
    | _ => simp [CExp.kids] at hk; simp [plain, hk]
theorem drive_plainP {P : List CExp} (hP : ∀ e ∈ P, OkC P e) (hand : Int) (picks : List Int) (fuel : Nat) :
  let a := drive P hand picks fuel
  let b := drive (P.map (plainP P)) hand picks fuel
  a.fin = 4 ∨ (a.fin = b.fin ∧ a.val = b.val ∧ a.evs.map Ev.mask = b.evs.map Ev.mask ∧ a.fuel ≤ b.fuel) := by
 have h : P.map (plainP P) = P.map (plain (mayP P)) := List.map_congr_left fun x hx => (plain_mayP _ x (Nat.le_refl _) (hP x hx)).symm
 rw [h]
 refine drive_plain (fun x n hm => ?_) hand picks fuel
 unfold mayP at hm
 split at hm
 ·rename_i hx; exact quietP hx n hm
 ·cases hm

/-! ### How deep an expression is -/
def depth : CExp → Nat
 | .int _ => 1
 | .hand => 1
 | .add a b => 1 + max (depth a) (depth b)
 | .say a => 1 + depth a
 | .seq a b => 1 + max (depth a) (depth b)
 | .test a b c => 1 + max (depth a) (max (depth b) (depth c))
 | .call _ a => 1 + depth a
 | .handle _ a b => 1 + max (depth a) (depth b)
 | .signal _ a => 1 + depth a
 | .fails _ a => 1 + depth a
 | .restart _ a b => 1 + max (depth a) (depth b)
 | .again _ a => 1 + depth a
 | .choose _ a => 1 + depth a
 | .find _ => 1
 | .guard a b => 1 + max (depth a) (depth b)
theorem depth_kid {x y : CExp} (h : y ∈ x.kids) : depth y + 1 ≤ depth x := by
 cases x <;> simp only [CExp.kids, List.mem_cons, List.not_mem_nil, or_false] at h
 all_goals first
  | (rcases h with rfl | rfl | rfl <;> (rw [depth]; omega))
  | (rcases h with rfl | rfl <;> (rw [depth]; omega))
  | (subst h; rw [depth]; omega)
theorem depth_top {x : CExp} {n : Nat} (h1 : 1 ≤ n) (h : ∀ y ∈ x.kids, depth y + 1 ≤ n) : depth x ≤ n := by
 cases x <;> simp only [CExp.kids, List.mem_cons, List.not_mem_nil, or_false, forall_eq_or_imp, forall_eq] at h <;> rw [depth] <;> omega
theorem cntR_depth {b : Int} : ∀ (m : Nat) (x : CExp) (d : Nat) (k : Int), x.size ≤ m → (cntR b d k (rawE x)).1 = true → d + depth x ≤ 13
  | 0, x, _, _, h, _ => by have := size_kids x; omega
  | m + 1, x, d, k, hm, h => by
    have hs := size_kids x
    have he : rawE x = .mk (rawE x).op (rawE x).n (x.kids.map rawE) := by rw [← kids_raw]; cases rawE x; rfl
    have hd : d ≤ 12 := by
      rw [he, cntR] at h
      split at h
      · cases h
      · split at h
        · cases h
        · rename_i hc
          simp only [Bool.or_eq_true, decide_eq_true_eq, not_or] at hc
          omega
    rw [he] at h
    obtain ⟨r, _, _, _, _, hk⟩ := cntR_true h
    have : depth x ≤ 13 - d := depth_top (by omega) fun y hy => by
      obtain ⟨k', hk'⟩ := hk (rawE y) (List.mem_map.2 ⟨y, hy, rfl⟩)
      have := cntR_depth m y (d + 1) k' (by have := mem_sizesE hy; omega) hk'
      omega
    omega
theorem cntsR_allE {b : Int} {d : Nat} : ∀ {l : List CRaw} {k : Int}, (∀ x ∈ l, ∀ k, (x.size : Int) ≤ k → (cntR b d k x).1 = true) → (CRaw.sizes l : Int) ≤ k → (cntsR b d k l).1 = true
  | [], _, _, _ => by rw [cntsR]
  | x :: r, k, h, hk => by
    rw [CRaw.sizes] at hk
    have h1 := h x List.mem_cons_self k (by omega)
    rw [cntsR, if_pos h1, (cntR_size h1).1]
    exact cntsR_allE (fun y hy => h y (List.mem_cons_of_mem _ hy)) (by omega)
theorem cntR_mk {b : Int} {d : Nat} {k o n : Int} {ks : List CRaw} {r : Int × Int × Int} (hr : nodeOf b o = some r) (hl : (ks.length : Int) = r.1) (h1 : r.2.1 ≤ n) (h2 : n ≤ r.2.2) (hd : d ≤ 12) (hk : 0 ≤ k - 1) (hks : (cntsR b (d + 1) (k - 1) ks).1 = true) : (cntR b d k (.mk o n ks)).1 = true := by
 rw [cntR, hr]
 simp only
 rw [if_neg]
 ·exact hks
 ·unfold inB
  simp only [Bool.or_eq_true, decide_eq_true_eq, not_or, Bool.not_eq_true', Bool.and_eq_false_iff, decide_eq_false_iff_not]
  omega
theorem cntR_ok {b : Int} (hb : 0 ≤ b) : ∀ (m : Nat) (x : CExp) (d : Nat) (k : Int), x.size ≤ m → OkE b x → d + depth x ≤ 13 → (x.size : Int) ≤ k → (cntR b d k (rawE x)).1 = true
  | 0, x, _, _, h, _, _, _ => by have := size_kids x; omega
  | m + 1, x, d, k, hm, hx, hd, hk => by
    have hs := size_kids x
    have he : rawE x = .mk (rawE x).op (rawE x).n (x.kids.map rawE) := by rw [← kids_raw]; cases rawE x; rfl
    have hd1 : 1 ≤ depth x := by cases x <;> (rw [depth]; omega)
    have hks : (cntsR b (d + 1) (k - 1) (x.kids.map rawE)).1 = true := cntsR_allE (fun z hz k' hk' => by
      obtain ⟨y, hy, rfl⟩ := List.mem_map.1 hz
      rw [size_raw] at hk'
      have := depth_kid hy
      exact cntR_ok hb m y (d + 1) k' (by have := mem_sizesE hy; omega) (hx.kid hy) (by omega) hk') (by rw [sizes_raw]; omega)
    rw [he]
    cases x with
    | int n => exact cntR_mk (r := (0, -1000000000, 1000000000)) rfl rfl hx.1 hx.2 (by omega) (by omega) hks
    | hand => exact cntR_mk (r := (0, 0, 0)) rfl rfl (Int.le_refl _) (Int.le_refl _) (by omega) (by omega) hks
    | add a b => exact cntR_mk (r := (2, 0, 0)) rfl rfl (Int.le_refl _) (Int.le_refl _) (by omega) (by omega) hks
    | say a => exact cntR_mk (r := (1, 0, 0)) rfl rfl (Int.le_refl _) (Int.le_refl _) (by omega) (by omega) hks
    | seq a b => exact cntR_mk (r := (2, 0, 0)) rfl rfl (Int.le_refl _) (Int.le_refl _) (by omega) (by omega) hks
    | test a b c => exact cntR_mk (r := (3, 0, 0)) rfl rfl (Int.le_refl _) (Int.le_refl _) (by omega) (by omega) hks
    | call n a => exact cntR_mk (r := (1, 0, b - 1)) rfl rfl (by show (0 : Int) ≤ (n : Int); omega) (by show (n : Int) ≤ b - 1; have := hx.1; omega) (by omega) (by omega) hks
    | handle n a c => exact cntR_mk (r := (2, -1, 7)) rfl rfl hx.1 hx.2.1 (by omega) (by omega) hks
    | signal n a => exact cntR_mk (r := (1, 0, 7)) rfl rfl hx.1 hx.2.1 (by omega) (by omega) hks
    | fails n a => exact cntR_mk (r := (1, 0, 7)) rfl rfl hx.1 hx.2.1 (by omega) (by omega) hks
    | restart n a c => exact cntR_mk (r := (2, 0, 7)) rfl rfl hx.1 hx.2.1 (by omega) (by omega) hks
    | again n a => exact cntR_mk (r := (1, 0, 7)) rfl rfl hx.1 hx.2.1 (by omega) (by omega) hks
    | choose n a => exact cntR_mk (r := (1, 0, 7)) rfl rfl hx.1 hx.2.1 (by omega) (by omega) hks
    | find n => exact cntR_mk (r := (0, 0, 7)) rfl rfl hx.1 hx.2 (by omega) (by omega) hks
    | guard a c => exact cntR_mk (r := (2, 0, 0)) rfl rfl (Int.le_refl _) (Int.le_refl _) (by omega) (by omega) hks
theorem good_of {P : List CExp} (h1 : 1 ≤ P.length) (h6 : P.length ≤ 6) (hP : ∀ e ∈ P, OkE P.length e ∧ depth e ≤ 12) (hs : sizesE P ≤ 80) : goodP (P.map rawE) = true := by
 unfold goodP inB
 rw [List.length_map]
 simp only [Bool.and_eq_true, decide_eq_true_eq]
 refine ⟨by omega, cntsR_allE (fun z hz k hk => ?_) (by rw [sizes_raw]; omega)⟩
 obtain ⟨y, hy, rfl⟩ := List.mem_map.1 hz
 rw [size_raw] at hk
 exact cntR_ok (by omega) _ y 1 k (Nat.le_refl _) (hP y hy).1 (by have := (hP y hy).2; omega) hk
theorem Fit.depth {P : List CExp} (f : Fit P) : ∀ e ∈ P, depth e ≤ 12 := fun e he => by
 have h := f.good
 unfold goodP at h
 simp only [Bool.and_eq_true] at h
 obtain ⟨k', hk⟩ := cntsR_mem _ _ _ _ h.2 (rawE e) (List.mem_map.2 ⟨e, he, rfl⟩)
 have := cntR_depth _ e 1 k' (Nat.le_refl _) hk
 omega
theorem plain_less {P : List CExp} {b : Int} : ∀ (m : Nat) (x : CExp), x.size ≤ m → OkE b x → OkE b (plainP P x) ∧ depth (plainP P x) ≤ depth x ∧ (plainP P x).size ≤ x.size
  | 0, x, h, _ => by have := size_kids x; omega
  | m + 1, x, h, hx => by
    have hs := size_kids x
    have hk : ∀ y ∈ x.kids, OkE b (plainP P y) ∧ depth (plainP P y) ≤ depth y ∧ (plainP P y).size ≤ y.size := fun y hy => plain_less m y (by have := mem_sizesE hy; omega) (hx.kid hy)
    cases x with
    | handle n a c =>
      have ha := hk a (by simp [CExp.kids])
      have hc := hk c (by simp [CExp.kids])
      show OkE b (if raisesB P a n then _ else _) ∧ _
      show _ ∧ Go.Proofs.Ytdeiinhccdlfiaa.depth (if raisesB P a n then .handle n (plainP P a) (plainP P c) else plainP P a) ≤ _ ∧ (if raisesB P a n then CExp.handle n (plainP P a) (plainP P c) else plainP P a).size ≤ _
      split
      · refine ⟨⟨hx.1, hx.2.1, ha.1, hc.1⟩, ?_, ?_⟩
        · simp only [Go.Proofs.Ytdeiinhccdlfiaa.depth]; omega
        · simp only [CExp.size]; omega
      · refine ⟨ha.1, ?_, ?_⟩
        · simp only [Go.Proofs.Ytdeiinhccdlfiaa.depth]; omega
        · simp only [CExp.size]; omega
    | _ =>
      simp only [CExp.kids, List.mem_cons, List.not_mem_nil, or_false, forall_eq_or_imp, forall_eq] at hk
      simp only [OkE] at hx
      simp only [plainP] at hk
      simp only [plainP, plain, OkE, Go.Proofs.Ytdeiinhccdlfiaa.depth, CExp.size]
      exact ⟨by simp_all, by omega, by omega⟩
theorem Fit.plainFit {P : List CExp} (f : Fit P) : Fit (P.map (plainP P)) := by
 refine fit_of (good_of (by rw [List.length_map]; exact f.one) (by rw [List.length_map]; exact f.six) (fun e he => ?_) ?_)
 ·obtain ⟨x, hx, rfl⟩ := List.mem_map.1 he
  rw [List.length_map]
  have := plain_less (P := P) _ x (Nat.le_refl _) (f.ok x hx)
  exact ⟨this.1, by have := f.depth x hx; omega⟩
 ·have hl : ∀ l : List CExp, (∀ x ∈ l, OkE P.length x) → sizesE (l.map (plainP P)) ≤ sizesE l := by
   intro l
   induction l with
   | nil => intro _; exact Nat.le_refl _
   | cons x r ih =>
    intro h
    rw [List.map_cons, sizesE, sizesE]
    have := (plain_less (P := P) _ x (Nat.le_refl _) (h x List.mem_cons_self)).2.2
    have := ih fun y hy => h y (List.mem_cons_of_mem _ hy)
    omega
  have := hl P f.ok
  have := f.sizes
  omega
end Go.Proofs.Ytdeiinhccdlfiaa

/- Chapter 19, plain: the values of events are neither too great nor too small. -/
namespace Go.Proofs.Ytdeiinhccdlfiaa
open Go.AE Go.Cond

def VOk (l : List Ev) : Prop := ∀ e ∈ l, InR e.val
theorem VOk.snoc {l : List Ev} (h : VOk l) {e : Ev} (he : InR e.val) : VOk (l ++ [e]) := fun x hx => by
 rcases List.mem_append.1 hx with hx | hx
 ·exact h x hx
 ·rw [List.mem_singleton] at hx; subst hx; exact he
section
variable {b : Int} {P : List CExp} {f : Nat} (hP : ∀ e ∈ P, OkE b e) (hb : b = P.length) (ih : ∀ x s st, OkE b x → OkSc b s → VOk st.evs → st.fuel < f → VOk (run P x s st).2.evs)
theorem vals_then {r : Res} {g : Int → St → Res} (h : VOk r.2.evs) (hg : ∀ v q, r = (.val v, q) → VOk q.evs → VOk (g v q).2.evs) : VOk (andThen r g).2.evs := by
 obtain ⟨o, q⟩ := r
 cases o with
 | val v => exact hg v q rfl h
 | leave d v => exact h
 | stop e => exact h
theorem vals_leave {r : Res} {d : Nat} {g : Int → St → Res} (h : VOk r.2.evs) (hg : ∀ v q, r = (.leave d v, q) → VOk q.evs → VOk (g v q).2.evs) : VOk (onLeave r d g).2.evs := by
 obtain ⟨o, q⟩ := r
 cases o with
 | val v => exact h
 | leave e v =>
  rw [onLeave]
  split
  ·rename_i he; subst he; exact hg v q rfl h
  ·exact h
 | stop e => exact h
include ih
theorem raiseL_vals {rs : List Int} {n v : Int} (hv : InR v) : ∀ (l : List Hd) (st : St), (∀ h ∈ l, OkE b h.body) → VOk st.evs → st.fuel < f → VOk (raiseL (run P) rs n v l st).2.evs
  | [], _, _, h, _ => h
  | h :: outer, st, hl, hs, hf => by
    have ho : ∀ h' ∈ outer, OkE b h'.body := fun h' hh => hl h' (List.mem_cons_of_mem _ hh)
    rw [raiseL]
    split
    · refine vals_then (ih h.body ⟨v, outer, rs⟩ _ (hl h List.mem_cons_self) ⟨hv, ho⟩ (hs.snoc hv) hf) fun u q hq h3 => ?_
      have h4 := run_fuel P h.body ⟨v, outer, rs⟩ (st.tell (Sc.ev ⟨v, outer, rs⟩ 3 h.n v))
      rw [hq] at h4
      have h4' : q.fuel ≤ st.fuel := h4
      exact raiseL_vals hv outer q ho h3 (by omega)
    · exact raiseL_vals hv outer st ho hs hf
theorem raise_vals {s : Sc} (hs : OkSc b s) (n : Int) {v : Int} (hv : InR v) {st : St} (h : VOk st.evs) (hf : st.fuel < f) : VOk (raise (run P) s n v st).2.evs :=
 raiseL_vals ih hv s.hs _ hs.hs (h.snoc hv) hf
omit ih in
theorem lost_vals {s : Sc} {v : Int} (hv : InR v) {st : St} (h : VOk st.evs) : VOk (lost s v st).2.evs := by
 unfold lost
 split
 ·exact h
 ·split
  ·exact h
  ·exact h.snoc hv
include hP hb
theorem agains_vals {n : Int} {a : CExp} {s : Sc} (ha : OkE b a) (hs : OkSc b s) : ∀ (k : Nat) {v : Int} {st : St}, InR v → st.fuel ≤ k → VOk st.evs → st.fuel < f → VOk (agains P n a s v st).2.evs
  | k, v, st, hv, hk, h, hf => by
    rw [agains_eq]
    refine vals_leave (ih a ((s.with v).offer n) st ha ⟨hv, hs.hs⟩ h hf) fun u q hr hq => ?_
    have hbn := run_burns P _ _ _ hr (by simp)
    have hu := run_ok hP hb (st.fuel + 1) a ((s.with v).offer n) st ha ⟨hv, hs.hs⟩ (Nat.lt_succ_self _)
    rw [hr] at hu
    cases k with
    | zero => omega
    | succ k => exact agains_vals ha hs k hu.2 (by omega) hq (by omega)
theorem step_vals (x : CExp) {s : Sc} (hx : OkE b x) (hs : OkSc b s) {st : St} {k : Nat} (h : VOk st.evs) (hf : st.fuel < f) (hk : st.fuel < k) : VOk (Cond.step P (run P) k s st x).2.evs := by
 have bind : ∀ {x : CExp} {st : St} {g : Int → St → Res}, OkE b x → VOk st.evs → st.fuel < f → (∀ v q, InR v → VOk q.evs → q.fuel < f → VOk (g v q).2.evs) → VOk (andThen (run P x s st) g).2.evs := by
  intro x st g hx h hf hg
  refine vals_then (ih x s st hx hs h hf) fun v q hq h1 => ?_
  have h2 := run_fuel P x s st
  have hv := run_ok hP hb (st.fuel + 1) x s st hx hs (Nat.lt_succ_self _)
  rw [hq] at h2 hv
  have h2' : q.fuel ≤ st.fuel := h2
  exact hg v q hv h1 (by omega)
 cases x with
 | int n => exact h
 | hand => exact h
 | add a c => exact bind hx.1 h hf fun _ _ _ h hf => bind hx.2 h hf fun _ _ _ h _ => h
 | say a => exact bind hx h hf fun v q hv h _ => h.snoc hv
 | seq a c => exact bind hx.1 h hf fun _ _ _ h hf => ih _ _ _ hx.2 hs h hf
 | test a c d =>
  refine bind hx.1 h hf fun _ _ _ h hf => ?_
  split
  ·exact ih _ _ _ hx.2.2 hs h hf
  ·exact ih _ _ _ hx.2.1 hs h hf
 | call n a =>
  refine bind hx.2 h hf fun v q hv h hf => ih _ (s.with v) _ ?_ ⟨hv, hs.hs⟩ h hf
  have h1 : n < P.length := by have := hx.1; omega
  rw [List.getD_eq_getElem?_getD, List.getElem?_eq_getElem h1]
  exact hP _ (List.getElem_mem h1)
 | handle n a c =>
  obtain ⟨_, _, h1, h2⟩ := hx
  refine ih a (s.under n c) _ h1 ⟨hs.hand, fun z hz => ?_⟩ h hf
  rcases List.mem_cons.1 hz with rfl | hz
  ·exact h2
  ·exact hs.hs z hz
 | signal n a => exact bind hx.2.2 h hf fun v q hv h hf => raise_vals ih hs n hv h hf
 | fails n a => exact bind hx.2.2 h hf fun v q hv h hf => vals_then (raise_vals ih hs n hv h hf) fun u q' hq h' => lost_vals hv h'
 | restart n a c =>
  refine vals_leave (ih a (s.offer n) _ hx.2.2.1 ⟨hs.hand, hs.hs⟩ h hf) fun v q hq h' => ?_
  have hbn := run_burns P _ _ _ hq (by simp)
  have hu := run_ok hP hb (st.fuel + 1) a (s.offer n) st hx.2.2.1 ⟨hs.hand, hs.hs⟩ (Nat.lt_succ_self _)
  rw [hq] at hu
  exact ih c (s.with v) q hx.2.2.2 ⟨hu.2, hs.hs⟩ h' (by omega)
 | again n a =>
  show VOk (again (run P) n a s k s.hand st).2.evs
  rw [again_run P n a s _ st hk (Nat.lt_succ_self _)]
  exact agains_vals hP hb ih hx.2.2 hs _ hs.hand (Nat.le_refl _) h hf
 | choose n a =>
  refine bind hx.2.2 h hf fun v q hv h _ => ?_
  split
  ·exact h.snoc hv
  ·exact h
 | find n => exact h
 | guard a c =>
  have h1 := ih a s st hx.1 hs h hf
  have h2 := run_fuel P a s st
  show VOk (behind (run P a s st) _ _).2.evs
  generalize run P a s st = r at h1 h2
  obtain ⟨o, q⟩ := r
  have h3 : q.fuel ≤ st.fuel := h2
  cases o with
  | val v => exact vals_then (ih c s q hx.2 hs h1 (by omega)) fun _ _ _ h => h
  | leave d v => exact vals_then (ih c s (q.tell _) hx.2 hs (h1.snoc in_zero) (by show q.fuel < f; omega)) fun _ _ _ h => h
  | stop e => exact h1
end
theorem run_vals {b : Int} {P : List CExp} (hP : ∀ e ∈ P, OkE b e) (hb : b = P.length) : ∀ (f : Nat) (x : CExp) (s : Sc) (st : St), OkE b x → OkSc b s → VOk st.evs → st.fuel < f → VOk (run P x s st).2.evs
  | 0, _, _, _, _, _, _, h => absurd h (Nat.not_lt_zero _)
  | f + 1, x, s, st, hx, hs, h, hf => by
    by_cases h0 : st.fuel = 0
    · rw [run_spent P x s st h0]; exact h
    · rw [run_step P x s st h0]
      have h2 : st.burn.fuel = st.fuel - 1 := rfl
      exact step_vals hP hb (run_vals hP hb f) x hx hs h (by omega) (by omega)
theorem drive_vals {P : List CExp} (hP : ∀ e ∈ P, OkE P.length e) (h1 : 1 ≤ P.length) (hand : Int) (hh : InR hand) (picks : List Int) (fuel : Nat) : VOk (drive P hand picks fuel).evs := by
 have hx : OkE P.length (P.getD 0 default) := by
  rw [List.getD_eq_getElem?_getD, List.getElem?_eq_getElem (by omega)]
  exact hP _ (List.getElem_mem (by omega))
 have h := run_vals hP rfl (fuel + 1) (P.getD 0 default) ⟨hand, [], []⟩ ⟨[], fuel, picks⟩ hx ⟨hh, fun _ h => by cases h⟩ (fun _ h => by cases h) (Nat.lt_succ_self _)
 rw [drive_run]
 generalize run P (P.getD 0 default) ⟨hand, [], []⟩ ⟨[], fuel, picks⟩ = r at h
 obtain ⟨o, q⟩ := r
 cases o <;> exact h
end Go.Proofs.Ytdeiinhccdlfiaa

/- Chapter 19: the contract of known: the chapter's examples. -/
namespace Go.Proofs.Ytdeiinhccdlfiaa
open Go.AE Go.Cond

theorem known_ev (evs : List Ev) (h : ∀ e ∈ evs, e.hs.length < 9 ∧ e.rs.length < 9) : ∀ x ∈ evs, EvFair x := fun x hx => by
 have hb : big = 1099511627776 := rfl
 have := h x hx
 exact ⟨by omega, by omega⟩
def kEv : List Ev := [⟨2, 0, 5, [0], [1]⟩, ⟨3, 0, 5, [], [1]⟩, ⟨4, 1, 5, [], [1]⟩, ⟨1, 0, 5, [], []⟩]
def kGuard : List CExp := [.restart 1 (.guard (.choose 1 (.int 2)) (.say (.int 9))) .hand]
def kErr : List CExp := [.call 1 (.int 0), .fails 3 (.int 0)]
def kPlain : List CExp := [.handle 0 (.signal 1 (.int 0)) (.int 4)]
theorem kErr_eq : kErr.map (errs kErr) = [[3], [3]] := by decide +kernel
theorem eventC_spec (e : Ev) (a b : AV) (ha : AVle a (intsA e.hs)) (hb : AVle b (intsA e.rs)) : PCalls Try.prog 44 [.int .i64 e.deed, .int .i64 e.n, .int .i64 e.val, a, b] (evA e) :=
 PCalls.args (.cons aRfl (.cons aRfl (.cons aRfl (.cons ha (.one hb))))) (event_spec e)
theorem noInts {n : Nat} : AVle (.slc n [] .nil) (intsA []) := AVle.nil (by intro b h; cases h)
set_option maxRecDepth 10000 in
set_option maxHeartbeats 2000000 in
theorem known_true : PCalls Try.prog 15 [] (.bool true) := by
 have hEx := example_spec
 have hRe := retry_spec
 have r1 : PCalls Try.prog 31 [.slc 3 ((exampleE.map rawE).map CRaw.av) .fro, .int .i64 0, .int .i64 99] (.tup [.agg [.int .i64 1, .int .i64 5, .slc 5 (kEv.map evA) .fro, .int .i64 90], .int .i64 0]) := (fit_of (P := exampleE) rfl).run 0 99 rfl
 have r2 : PCalls Try.prog 31 [.slc 3 ((retryE.map rawE).map CRaw.av) .fro, .int .i64 0, .int .i64 99] (.tup [.agg [.int .i64 2, .int .i64 0, .slc 5 [evA ⟨2, 0, 3, [], [2]⟩] .fro, .int .i64 94], .int .i64 0]) := (fit_of (P := retryE) rfl).run 0 99 rfl
 have r3 : PCalls Try.prog 19 [.slc 3 ((retryE.map rawE).map CRaw.av) .fro, .int .i64 0, .slc 1 [.int .i64 0] .clip, .int .i64 99] (.tup [.agg [.int .i64 1, .int .i64 7, .slc 5 [evA ⟨2, 0, 3, [], [2]⟩, evA ⟨4, 2, 3, [], [2]⟩] .fro, .int .i64 91], .int .i64 0]) := PCalls.args (.cons aRfl (.cons aRfl (.cons AVle.fro (.one aRfl)))) ((fit_of (P := retryE) rfl).drive 0 [0] 99 rfl)
 have r4 : PCalls Try.prog 31 [.slc 3 ((exampleE.map rawE).map CRaw.av) .fro, .int .i64 0, .int .i64 3] (.tup [.agg [.int .i64 4, .int .i64 0, .slc 5 [] .fro, .int .i64 0], .int .i64 0]) := (fit_of (P := exampleE) rfl).run 0 3 rfl
 have r5 : PCalls Try.prog 31 [.slc 3 ((exampleE.map rawE).map CRaw.av) .fro, .int .i64 0, .int .i64 301] (.tup [runA noRun, .int .i64 2]) := runBad_spec _ (fit_of (P := exampleE) rfl).bound 0 301 rfl
 have r6 : PCalls Try.prog 31 [.slc 3 ((kGuard.map rawE).map CRaw.av) .clip, .int .i64 0, .int .i64 99] (.tup [.agg [.int .i64 1, .int .i64 2, .slc 5 [evA ⟨4, 1, 2, [], [1]⟩, evA ⟨5, 0, 0, [], [1]⟩, evA ⟨1, 0, 9, [], [1]⟩] .fro, .int .i64 92], .int .i64 0]) := PCalls.args (.cons AVle.fro (.cons aRfl (.one aRfl))) ((fit_of (P := kGuard) rfl).run 0 99 rfl)
 have r7 : PCalls Try.prog 13 [.slc 3 ((kErr.map rawE).map CRaw.av) .clip] (.tup [.slc 1 ([[3], [3]].map intsA) .fro, .int .i64 0]) := by
  have := (fit_of (P := kErr) rfl).errors
  rw [kErr_eq] at this
  exact PCalls.args (.one AVle.fro) this
 have r8 : PCalls Try.prog 25 [.slc 3 ((kPlain.map rawE).map CRaw.av) .clip] (.tup [.slc 3 [(rawE (.signal 1 (.int 0))).av] .fro, .int .i64 0]) := PCalls.args (.one AVle.fro) ((fit_of (P := kPlain) rfl).plain)
 have hse : PCalls Try.prog 23 [.slc 5 (kEv.map evA) .fro, .slc 5 (kEv.map evA) .clip] (.bool true) := PCalls.args (.cons aRfl (.one AVle.fro)) (sameEvents_spec kEv kEv (by decide) (by decide) (known_ev _ (by decide)) (known_ev _ (by decide)))
 have hsl : PCalls Try.prog 16 [.slc 1 ([[3], [3]].map intsA) .fro, .slc 1 [.slc 1 [.int .i64 3] .clip, .slc 1 [.int .i64 3] .clip] .clip] (.bool true) := PCalls.args (.cons aRfl (.one (AVle.slc (.cons AVle.fro (.one AVle.fro))))) (sameLists_spec [[3], [3]] [[3], [3]] (by decide) (by decide) (by decide) (by decide))
 have hsp : PCalls Try.prog 46 [.slc 3 [(rawE (.signal 1 (.int 0))).av] .fro, .slc 3 [(rawE (.signal 1 (.int 0))).av] .clip] (.bool true) := PCalls.args (.cons aRfl (.one AVle.fro)) (sameProg_spec [rawE (.signal 1 (.int 0))] [rawE (.signal 1 (.int 0))] (by decide) (by decide))
 generalize exampleE.map rawE = X at hEx r1 r4 r5
 generalize retryE.map rawE = Y at hRe r2 r3
 refine PCalls.of_CW tO call15 Try.func15 rfl rfl fun s hok => ?_
 repeat (first | (with_reducible first | apply CW.seq | apply aN) | refine wR rfl ?_ | refine CW.reg ?_)
 refine RL.callPP rfl rfl rfl rfl rfl hEx ?_
 skip
 refine RL.callPP rfl rfl rfl rfl rfl r1 ?_
 repeat (first | refine wS rfl ?_)
 refine RL.newBox tO rfl rfl rfl rfl rfl rfl rfl (fun _ => rfl) rfl rfl (fun _ => rfl) rfl rfl rfl rfl ?_
 repeat (first | (with_reducible first | apply CW.seq | apply aN) | refine wR rfl ?_ | refine CW.reg ?_ | refine RL.nil ?_ | refine wS rfl ?_)
 refine RL.callPP rfl rfl rfl rfl rfl (eventC_spec ⟨2, 0, 5, [0], [1]⟩ _ _ AVle.fro AVle.fro) ?_
 repeat (first | refine wS rfl ?_)
 refine RL.callPP rfl rfl rfl rfl rfl (eventC_spec ⟨3, 0, 5, [], [1]⟩ _ _ noInts AVle.fro) ?_
 repeat (first | refine wS rfl ?_)
 refine RL.callPP rfl rfl rfl rfl rfl (eventC_spec ⟨4, 1, 5, [], [1]⟩ _ _ noInts AVle.fro) ?_
 skip
 refine RL.callPP rfl rfl rfl rfl rfl (eventC_spec ⟨1, 0, 5, [], []⟩ _ _ noInts noInts) ?_
 repeat (first | (with_reducible first | apply CW.seq | apply aN) | refine CW.reg ?_ | refine RL.nil ?_ | refine wS rfl ?_)
 refine RL.callPP rfl rfl rfl rfl rfl hse ?_
 repeat (first | (with_reducible first | apply CW.seq | apply aN | apply CW.skip) | refine CW.reg ?_ | refine RL.nil ?_ | refine CW.condF rfl ?_ | refine wS rfl ?_)
 refine RL.callPP rfl rfl rfl rfl rfl hRe ?_
 skip
 refine RL.callPP rfl rfl rfl rfl rfl r2 ?_
 repeat (first | refine wS rfl ?_)
 refine RL.newBox tO rfl rfl rfl rfl rfl rfl rfl (fun _ => rfl) rfl rfl (fun _ => rfl) rfl rfl rfl rfl ?_
 repeat (first | (with_reducible first | apply CW.seq | apply aN) | refine CW.reg ?_ | refine RL.nil ?_ | refine wS rfl ?_)
 refine RL.callPP rfl rfl rfl rfl rfl hRe ?_
 repeat (first | refine wS rfl ?_)
 refine RL.callPP rfl rfl rfl rfl rfl r3 ?_
 repeat (first | refine wS rfl ?_)
 refine RL.newBox tO rfl rfl rfl rfl rfl rfl rfl (fun _ => rfl) rfl rfl (fun _ => rfl) rfl rfl rfl rfl ?_
 repeat (first | (with_reducible first | apply CW.seq | apply aN) | refine CW.reg ?_ | refine RL.nil ?_ | refine wS rfl ?_)
 refine RL.callPP rfl rfl rfl rfl rfl hEx ?_
 skip
 refine RL.callPP rfl rfl rfl rfl rfl r4 ?_
 repeat (first | refine wS rfl ?_)
 refine RL.newBox tO rfl rfl rfl rfl rfl rfl rfl (fun _ => rfl) rfl rfl (fun _ => rfl) rfl rfl rfl rfl ?_
 repeat (first | (with_reducible first | apply CW.seq | apply aN) | refine CW.reg ?_ | refine RL.nil ?_ | refine wS rfl ?_)
 refine RL.callPP rfl rfl rfl rfl rfl hEx ?_
 skip
 refine RL.callPP rfl rfl rfl rfl rfl r5 ?_
 unfold runA runCells noRun
 repeat (first | refine wS rfl ?_)
 refine RL.newBox tO rfl rfl rfl rfl rfl rfl rfl (fun _ => rfl) rfl rfl (fun _ => rfl) rfl rfl rfl rfl ?_
 repeat (first | (with_reducible first | apply CW.seq | apply aN | apply CW.skip) | refine wR rfl ?_ | refine CW.reg ?_ | refine RL.nil ?_ | refine CW.condF rfl ?_ | refine wS rfl ?_)
 refine RL.callPP rfl rfl rfl rfl rfl (num_spec 2) ?_
 repeat (first | refine wS rfl ?_)
 refine RL.callPP rfl rfl rfl rfl rfl (ofC_spec 13 1 [numR 2]) ?_
 skip
 refine RL.callPP rfl rfl rfl rfl rfl (num_spec 9) ?_
 repeat (first | refine wS rfl ?_)
 refine RL.callPP rfl rfl rfl rfl rfl (ofC_spec 4 0 [numR 9]) ?_
 repeat (first | refine wS rfl ?_)
 refine RL.callPP rfl rfl rfl rfl rfl (ofC_spec 15 0 [.mk 13 1 [numR 2], .mk 4 0 [numR 9]]) ?_
 rw [CRaw.av_eq (.mk 15 0 [.mk 13 1 [numR 2], .mk 4 0 [numR 9]])]
 skip
 refine RL.newBox tO rfl rfl rfl rfl rfl rfl rfl (fun _ => rfl) rfl rfl (fun _ => rfl) rfl rfl rfl rfl ?_
 repeat (first | (with_reducible first | apply CW.seq | apply aN) | refine RL.nil ?_)
 refine CW.drw tO mixed rfl (RD.run rfl ?_)
 refine RD.calmPP (i := 1) rfl rfl rfl rfl rfl rfl rfl hand_spec ?_; refine RD.run rfl ?_
 refine RD.calmPP (i := 3) rfl rfl rfl rfl rfl rfl rfl (ofC_spec 11 1 [.mk 15 0 [.mk 13 1 [numR 2], .mk 4 0 [numR 9]], handR]) ?_; refine RD.run rfl ?_
 refine RD.calmPP (i := 5) rfl rfl rfl rfl rfl rfl rfl r6 ?_; refine RD.run rfl ?_
 refine RD.allocL 9 tO hok rfl rfl rfl rfl rfl rfl rfl rfl rfl (fun b13 hok => ?_); refine RD.run rfl ?_
 refine RD.storeL 10 tO hok rfl rfl rfl rfl rfl rfl rfl rfl rfl rfl rfl (by repeat (first | exact Sel.here | apply Sel.there)) (by exact rfl) (fun hok => ?_); refine RD.run rfl ?_
 refine RD.run rfl (RD.done rfl ?_)
 repeat (first | (with_reducible first | apply CW.seq | apply aN) | refine CW.reg ?_)
 refine RL.callPP rfl rfl rfl rfl rfl (num_spec 0) ?_
 repeat (first | refine wS rfl ?_)
 refine RL.callPP rfl rfl rfl rfl rfl (ofC_spec 7 1 [numR 0]) ?_
 skip
 refine RL.callPP rfl rfl rfl rfl rfl (num_spec 0) ?_
 repeat (first | refine wS rfl ?_)
 refine RL.callPP rfl rfl rfl rfl rfl (ofC_spec 10 3 [numR 0]) ?_
 repeat (first | refine wS rfl ?_)
 refine RL.callPP rfl rfl rfl rfl rfl r7 ?_
 repeat (first | (with_reducible first | apply CW.seq | apply aN) | refine CW.reg ?_ | refine RL.nil ?_ | refine wS rfl ?_)
 refine RL.callPP rfl rfl rfl rfl rfl (num_spec 0) ?_
 repeat (first | refine wS rfl ?_)
 refine RL.callPP rfl rfl rfl rfl rfl (ofC_spec 9 1 [numR 0]) ?_
 skip
 refine RL.callPP rfl rfl rfl rfl rfl (num_spec 4) ?_
 repeat (first | refine wS rfl ?_)
 refine RL.callPP rfl rfl rfl rfl rfl (ofC_spec 8 0 [.mk 9 1 [numR 0], numR 4]) ?_
 repeat (first | refine wS rfl ?_)
 refine RL.callPP rfl rfl rfl rfl rfl r8 ?_
 repeat (first | (with_reducible first | apply CW.seq | apply aN) | refine CW.reg ?_ | refine RL.nil ?_ | refine wS rfl ?_ | refine RL.loadL tO hok rfl rfl rfl rfl rfl rfl (by repeat (first | exact Sel.here | apply Sel.there)) (by exact rfl) ?_)
 refine RL.idx tO 1 rfl rfl rfl rfl rfl rfl rfl rfl rfl rfl rfl (by rfl) (by rfl) ?_
 repeat (first | refine wS rfl ?_ | refine RL.loadL tO hok rfl rfl rfl rfl rfl rfl (by repeat (first | exact Sel.here | apply Sel.there)) (by exact rfl) ?_)
 refine RL.idx tO 2 rfl rfl rfl rfl rfl rfl rfl rfl rfl rfl rfl (by rfl) (by rfl) ?_
 repeat (first | refine wS rfl ?_)
 refine RL.callPP rfl rfl rfl rfl rfl hsl ?_
 repeat (first | refine wS rfl ?_)
 refine RL.callPP rfl rfl rfl rfl rfl (num_spec 0) ?_
 repeat (first | refine wS rfl ?_)
 refine RL.callPP rfl rfl rfl rfl rfl (ofC_spec 9 1 [numR 0]) ?_
 repeat (first | refine wS rfl ?_)
 refine RL.callPP rfl rfl rfl rfl rfl hsp ?_
 repeat (first | (with_reducible first | apply aN | apply CW.ret) | refine RL.nil ?_ | refine wS rfl ?_)
 exact Fin.retP hok rfl aRfl
end Go.Proofs.Ytdeiinhccdlfiaa

/- Chapter 19, readings: what an argument's datum says of the value itself. -/
namespace Go.Proofs.Ytdeiinhccdlfiaa
open Go.AE Go.Cond

def oldP (w : World) : Prot := fun b _ => b < w.heap.size

theorem wf_old (w : World) : Wf w (oldP w) (fun _ => none) := ⟨(fun _ _ h => by cases h), fun _ _ h => h⟩

theorem add_add (a : Addr) (x y : Nat) : (a.add x).add y = a.add (x + y) := by
 unfold Addr.add
 by_cases hx : x = 0
 ·subst hx; simp
 ·by_cases hy : y = 0
  ·subst hy; simp [hx]
  ·simp [hx, hy, Nat.add_assoc]

theorem cell_old {w : World} {a : Addr} {v : Value} (h : w.cell? a = some v) : a.spot = none ∧ a.block < w.heap.size := by
 unfold World.cell? at h
 split at h
 ·rename_i c _ _ hb
  refine ⟨?_, (Array.getElem?_eq_some_iff.1 hb).1⟩
  cases hs : a.spot with
  | none => rfl
  | some s => rw [hs] at h; simp at h
 ·cases h

theorem cells_old {w : World} {a : Addr} {n : Nat} {cs : List Value} (h : w.cells? 0 a n = some cs) : cs.length = n ∧ ∀ i v, cs[i]? = some v → w.cell? (a.add i) = some v := by
 unfold World.cells? at h
 rw [if_pos (Nat.zero_le _)] at h
 refine ⟨by simpa using mapM_some_length h, fun i v hv => ?_⟩
 have hi : i < n := by
  have := mapM_some_length h
  rw [List.length_range] at this
  rw [← this]; exact (List.getElem?_eq_some_iff.1 hv).1
 rw [mapM_some_get h i i (by rw [List.getElem?_range hi])]; exact hv

section
variable {H : Type} {enc : TypeId × Value → H} {w : World}

theorem flat_len {sz : Nat} : ∀ {vs : List Value}, (∀ v ∈ vs, v.cells.size = sz) → (flat vs).length = vs.length * sz
  | [], _ => by simp [flat]
  | v :: vs, h => by
    have := flat_len (vs := vs) (fun u hu => h u (List.mem_cons_of_mem _ hu))
    have hv := h v List.mem_cons_self
    simp only [flat, List.flatMap_cons, List.length_append, List.length_cons] at this ⊢
    rw [this, Array.length_toList, hv, Nat.add_mul, Nat.one_mul, Nat.add_comm]

theorem RelL.append' {p : Prot} : ∀ {vs us : List Value} {xs ys : List AV}, RelL w p vs xs → RelL w p us ys → RelL w p (vs ++ us) (xs ++ ys)
 | _, _, _, _, .nil, h => h
 | _, _, _, _, .cons v x vs xs h t, k => .cons _ _ _ _ h (RelL.append' t k)

theorem bulk_append (l r : List (DataW H)) : Rows.uptoBulkAll (l ++ r) = Rows.uptoBulkAll l + Rows.uptoBulkAll r := by
 induction l with
 | nil => simp [Rows.uptoBulkAll]
 | cons x l ih => simp only [List.cons_append, Rows.uptoBulkAll, ih]; omega

theorem trod_list {α : Type} {t e : TypeId} {sz fuel : Nat} {cs : List Value} {x : DataW H × List MemPlace} (f : α → AV) (m : α → Nat) (ht : Try.prog.underlying t = some (.slice e)) (hc : Try.prog.cellsOf e = sz) (hsz : 0 < sz)
  (hel : ∀ n cs y, n < fuel → DataW.trod enc Try.prog w 0 (fun _ => true) true n e cs = some y → cs.length = sz → ∃ (a : α) (v : Value), v.cells.toList = cs ∧ Rel w (oldP w) v (f a) ∧ m a ≤ Rows.uptoBulk y.1)
  (h : DataW.trod enc Try.prog w 0 (fun _ => true) true fuel t cs = some x) :
  ∃ (c : Value) (l : List α), cs = [c] ∧ Rel w (oldP w) c (.slc sz (l.map f) .fro) ∧ (l.map m).sum + 1 ≤ Rows.uptoBulk x.1 := by
 rcases DataW.trod_slice ht h with ⟨rfl, rfl⟩ | ⟨a, len, cap, elems, rest, n, rfl, rfl, rfl, hb, hl, hm, hlen, hel', hsp, hns⟩
 ·exact ⟨_, [], rfl, .slcNil _ _ (by simp), by simp [Rows.uptoBulk]⟩
 ·rw [hc] at hel' hsp
  have key : ∀ k, k ≤ len → ∃ (l : List α) (vs : List Value), l.length = k ∧ RelL w (oldP w) vs (l.map f) ∧ (∀ v ∈ vs, v.cells.size = sz) ∧ (∀ i u, (flat vs)[i]? = some u → w.cell? (a.add i) = some u) ∧
    (l.map m).sum ≤ Rows.uptoBulkAll ((elems.take k).map (·.1)) := by
   intro k
   induction k with
   | zero => intro _; exact ⟨[], [], rfl, .nil, by simp, by simp [flat], by simp⟩
   | succ k ih =>
    intro hk
    obtain ⟨l, vs, h1, h2, h3, h4, h5⟩ := ih (by omega)
    have hek : elems[k]? = some (elems[k]'(by omega)) := List.getElem?_eq_getElem (by omega)
    have hb := hel' k (by omega)
    rw [hek, Option.bind_eq_some_iff] at hb
    obtain ⟨cs', hcs, hy⟩ := hb
    obtain ⟨g1, g2⟩ := cells_old hcs
    obtain ⟨a', v, e1, e2, e3⟩ := hel n cs' _ (Nat.lt_succ_self n) hy g1
    have hvs : vs.length = k := by rw [h2.length, List.length_map, h1]
    refine ⟨l ++ [a'], vs ++ [v], by simp [h1], ?_, ?_, ?_, ?_⟩
    ·rw [List.map_append]; exact RelL.append' h2 (.cons _ _ _ _ e2 .nil)
    ·intro u hu
     rcases List.mem_append.1 hu with hu | hu
     ·exact h3 u hu
     ·simp only [List.mem_singleton] at hu
      subst hu
      rw [← Array.length_toList, e1, g1]
    ·intro i u hu
     have hf : flat (vs ++ [v]) = flat vs ++ cs' := by simp [flat, e1]
     rw [hf] at hu
     by_cases hi : i < (flat vs).length
     ·rw [List.getElem?_append_left hi] at hu; exact h4 i u hu
     ·rw [List.getElem?_append_right (by omega), flat_len h3, hvs] at hu
      have := g2 _ _ hu
      rw [add_add] at this
      rw [flat_len h3, hvs] at hi
      rwa [show k * sz + (i - k * sz) = i by omega] at this
    ·rw [List.take_add_one, hek]
     simp only [Option.toList_some, List.map_append, List.map_cons, List.map_nil, bulk_append, List.sum_append, List.sum_cons, List.sum_nil, Rows.uptoBulkAll]
     omega
  obtain ⟨l, vs, h1, h2, h3, h4, h5⟩ := key len (Nat.le_refl _)
  have hvs : vs.length = len := by rw [h2.length, List.length_map, h1]
  refine ⟨_, l, rfl, ?_, ?_⟩
  ·have hmx : maxLen = 9223372036854775807 := rfl
   by_cases hcap : cap = 0
   ·have hl0 : len = 0 := by omega
    subst hl0; subst hcap
    have : l = [] := List.eq_nil_of_length_eq_zero h1
    subst this
    exact .slcZ a _ _ (.inl rfl)
   ·have hcell : ∃ v, w.cell? a = some v := by
     by_cases hl0 : len = 0
     ·obtain ⟨hr, hr'⟩ := hsp rfl
      have hek : rest[0]? = some (rest[0]'(by omega)) := List.getElem?_eq_getElem (by omega)
      have := hr' 0 (by omega)
      rw [hek, Option.bind_eq_some_iff] at this
      obtain ⟨cs', hcs, -⟩ := this
      obtain ⟨g1, g2⟩ := cells_old hcs
      have := g2 0 _ (List.getElem?_eq_getElem (by omega))
      rw [hl0, add_add] at this
      simp only [Nat.add_zero, Nat.zero_mul, Addr.add, if_true] at this
      exact ⟨_, this⟩
     ·have := h4 0 _ (List.getElem?_eq_getElem (by rw [flat_len h3, hvs]; exact Nat.mul_pos (by omega) hsz))
      simp only [Addr.add, if_true] at this
      exact ⟨_, this⟩
    obtain ⟨v, hv⟩ := hcell
    obtain ⟨hs, hlt⟩ := cell_old hv
    obtain ⟨g, off, spot⟩ := a
    simp only at hs hlt
    subst hs
    refine .slc g off len cap sz vs _ .fro (by simp) (by rw [List.length_map, h1]) (fun i u hu => ⟨hlt, ?_⟩) h2 h3 (by omega) hl (by simp) (by simp)
    have := h4 i u hu
    rwa [add_none] at this
  ·simp only [Rows.uptoBulk]
   rw [List.take_of_length_le (by omega)] at h5
   omega

theorem trod_int {t : TypeId} {fuel : Nat} {cs : List Value} {y : DataW H × List MemPlace} (ht : Try.prog.underlying t = some (.int .i64)) (h : DataW.trod enc Try.prog w 0 (fun _ => true) true fuel t cs = some y) :
  ∃ n : Int, RelL w (oldP w) cs [.int .i64 n] ∧ 1 ≤ Rows.uptoBulk y.1 := by
 obtain ⟨n, rfl, rfl, -⟩ := DataW.trod_int ht h
 exact ⟨n, .cons _ _ _ _ (.int _ _) .nil, by simp [Rows.uptoBulk]⟩

theorem trod_aggs {α : Type} {t e : TypeId} {sz fuel : Nat} {cs : List Value} {x : DataW H × List MemPlace} (f : α → List AV) (m : α → Nat) (ht : Try.prog.underlying t = some (.slice e)) (hc : Try.prog.cellsOf e = sz) (hsz : 0 < sz)
  (hel : ∀ n cs y, n < fuel → DataW.trod enc Try.prog w 0 (fun _ => true) true n e cs = some y → ∃ a : α, RelL w (oldP w) cs (f a) ∧ m a ≤ Rows.uptoBulk y.1)
  (h : DataW.trod enc Try.prog w 0 (fun _ => true) true fuel t cs = some x) :
  ∃ l : List α, RelL w (oldP w) cs [.slc sz (l.map fun a => .agg (f a)) .fro] ∧ (l.map m).sum + 1 ≤ Rows.uptoBulk x.1 := by
 obtain ⟨c, l, rfl, h1, h2⟩ := trod_list (fun a => AV.agg (f a)) m ht hc hsz (fun n cs y hn hy _ => by
  obtain ⟨a, g1, g2⟩ := hel n cs y hn hy
  exact ⟨a, .agg cs.toArray, by simp [Value.cells], .agg _ _ (by simpa using g1), g2⟩) h
 exact ⟨l, .cons _ _ _ _ h1 .nil, h2⟩

theorem agg_bulk (l : List (DataW H)) : Rows.uptoBulk (.agg l) = Rows.uptoBulkAll l + 1 := by simp [Rows.uptoBulk]

def fld (nm : String) (t : TypeId) (off boff : Nat) : Field := { name := nm, type := t, offset := off, embedded := false, tag := "", pkgPath := "", byteOffset := boff }

theorem trod_intV {t : TypeId} {fuel : Nat} {cs : List Value} {y : DataW H × List MemPlace} (ht : Try.prog.underlying t = some (.int .i64)) (h : DataW.trod enc Try.prog w 0 (fun _ => true) true fuel t cs = some y) :
  ∃ (n : Int) (v : Value), v.cells.toList = cs ∧ Rel w (oldP w) v (.int .i64 n) ∧ 1 ≤ Rows.uptoBulk y.1 := by
 obtain ⟨n, rfl, rfl, -⟩ := DataW.trod_int ht h
 exact ⟨n, .int .i64 n, rfl, .int _ _, by simp [Rows.uptoBulk]⟩
theorem ones_sum : ∀ l : List Int, (l.map fun _ => 1).sum = l.length
 | [] => rfl
 | _ :: r => by rw [List.map_cons, List.sum_cons, ones_sum r, List.length_cons]; omega
theorem trod_ints {fuel : Nat} {cs : List Value} {x : DataW H × List MemPlace} (h : DataW.trod enc Try.prog w 0 (fun _ => true) true fuel 31 cs = some x) :
  ∃ l : List Int, RelL w (oldP w) cs [intsA l] ∧ l.length + 1 ≤ Rows.uptoBulk x.1 := by
 obtain ⟨c, l, rfl, h1, h2⟩ := trod_list (sz := 1) (fun n => AV.int .i64 n) (fun _ => 1) Try.underlying31 (by kernel_rfl) (by omega) (fun _ _ _ _ h _ => trod_intV Try.underlying3 h) h
 rw [ones_sum] at h2
 exact ⟨l, .cons _ _ _ _ h1 .nil, h2⟩
theorem CRaw.sizes_sum : ∀ l : List CRaw, CRaw.sizes l = (l.map CRaw.size).sum
 | [] => by rw [CRaw.sizes]; rfl
 | x :: r => by rw [CRaw.sizes, CRaw.sizes_sum r]; rfl
set_option maxRecDepth 10000 in
theorem trod_exp : ∀ (fuel : Nat) (cs : List Value) (y : DataW H × List MemPlace), DataW.trod enc Try.prog w 0 (fun _ => true) true fuel 36 cs = some y → ∃ e : CRaw, RelL w (oldP w) cs e.cells ∧ e.size ≤ Rows.uptoBulk y.1 := by
 intro fuel
 induction fuel using Nat.strongRecOn with
 | _ fuel ih =>
  intro cs y h
  obtain ⟨xs, n, rfl, rfl, hl, hlen, hf⟩ := DataW.trod_struct Try.underlying36 h
  have c_kids : Try.prog.cellsOf 22 = 1 := by kernel_rfl
  have c_exp : Try.prog.cellsOf 36 = 3 := by kernel_rfl
  have c_op : Try.prog.cellsOf 34 = 1 := by kernel_rfl
  have c_int : Try.prog.cellsOf 3 = 1 := by kernel_rfl
  rw [c_exp] at hl
  match cs, hl, xs, hlen with
  | [v0, v1, v2], _, [y0, y1, y2], _ =>
   have h0 := hf 0 (fld "Op" 34 0 0) rfl
   have h1 := hf 1 (fld "N" 3 1 8) rfl
   have h2 := hf 2 (fld "Kids" 22 2 16) rfl
   simp only [fld, c_kids, c_exp, c_op, c_int, List.drop, List.take] at h0 h1 h2
   obtain ⟨o, g0, b0⟩ := trod_int Try.underlying34 h0
   obtain ⟨k, g1, b1⟩ := trod_int Try.underlying3 h1
   obtain ⟨ks, g2, b2⟩ := trod_aggs CRaw.cells CRaw.size Try.underlying22 c_exp (by omega) (fun m cs y hm hy => ih m (by omega) cs y hy) h2
   refine ⟨.mk o k ks, ?_, ?_⟩
   ·have : (CRaw.mk o k ks).cells = [.int .i64 o] ++ ([.int .i64 k] ++ [.slc 3 (ks.map fun a => .agg a.cells) .fro]) := by
     show [_, _, _] = _
     simp [CRaw.kids, CRaw.op, CRaw.n, CRaw.av_eq]
    rw [this]
    exact RelL.append' (vs := [v0]) g0 (RelL.append' (vs := [v1]) g1 g2)
   ·simp only [agg_bulk, List.map_cons, List.map_nil, Rows.uptoBulkAll, CRaw.size, CRaw.sizes_sum]
    omega
theorem trod_prog {fuel : Nat} {cs : List Value} {x : DataW H × List MemPlace} (h : DataW.trod enc Try.prog w 0 (fun _ => true) true fuel 22 cs = some x) :
  ∃ p : List CRaw, RelL w (oldP w) cs [.slc 3 (p.map CRaw.av) .fro] ∧ CRaw.sizes p + 1 ≤ Rows.uptoBulk x.1 := by
 obtain ⟨p, g, b⟩ := trod_aggs (sz := 3) CRaw.cells CRaw.size Try.underlying22 (by kernel_rfl) (by omega) (fun m cs y _ hy => trod_exp m cs y hy) h
 rw [← CRaw.sizes_sum] at b
 refine ⟨p, ?_, b⟩
 have : (fun a : CRaw => AV.agg a.cells) = CRaw.av := funext fun a => (CRaw.av_eq a).symm
 rw [this] at g
 exact g
structure Giv where
 p : List CRaw
 hand : Int
 picks : List Int
 fuel : Int
def Giv.cells (g : Giv) : List AV := [.slc 3 (g.p.map CRaw.av) .fro, .int .i64 g.hand, intsA g.picks, .int .i64 g.fuel]
def Giv.av (g : Giv) : AV := .agg g.cells
def Giv.weight (g : Giv) : Nat := CRaw.sizes g.p + g.picks.length + 2
set_option maxRecDepth 10000 in
theorem trod_given (fuel : Nat) (cs : List Value) (y : DataW H × List MemPlace) (h : DataW.trod enc Try.prog w 0 (fun _ => true) true fuel 33 cs = some y) : ∃ g : Giv, RelL w (oldP w) cs g.cells ∧ g.weight ≤ Rows.uptoBulk y.1 := by
 obtain ⟨xs, n, rfl, rfl, hl, hlen, hf⟩ := DataW.trod_struct Try.underlying33 h
 have c_prog : Try.prog.cellsOf 22 = 1 := by kernel_rfl
 have c_given : Try.prog.cellsOf 33 = 4 := by kernel_rfl
 have c_int : Try.prog.cellsOf 3 = 1 := by kernel_rfl
 have c_ints : Try.prog.cellsOf 31 = 1 := by kernel_rfl
 rw [c_given] at hl
 match cs, hl, xs, hlen with
 | [v0, v1, v2, v3], _, [y0, y1, y2, y3], _ =>
  have h0 := hf 0 (fld "P" 22 0 0) rfl
  have h1 := hf 1 (fld "Hand" 3 1 24) rfl
  have h2 := hf 2 (fld "Picks" 31 2 32) rfl
  have h3 := hf 3 (fld "Fuel" 3 3 56) rfl
  simp only [fld, c_prog, c_given, c_int, c_ints, List.drop, List.take] at h0 h1 h2 h3
  obtain ⟨p, g0, b0⟩ := trod_prog h0
  obtain ⟨hd, g1, b1⟩ := trod_int Try.underlying3 h1
  obtain ⟨pk, g2, b2⟩ := trod_ints h2
  obtain ⟨fu, g3, b3⟩ := trod_int Try.underlying3 h3
  refine ⟨⟨p, hd, pk, fu⟩, ?_, ?_⟩
  ·have : (Giv.mk p hd pk fu).cells = [.slc 3 (p.map CRaw.av) .fro] ++ ([.int .i64 hd] ++ ([intsA pk] ++ [.int .i64 fu])) := rfl
   rw [this]
   exact RelL.append' (vs := [v0]) g0 (RelL.append' (vs := [v1]) g1 (RelL.append' (vs := [v2]) g2 g3))
  ·simp only [agg_bulk, List.map_cons, List.map_nil, Rows.uptoBulkAll, Giv.weight]
   omega
theorem trod_byte {t : TypeId} {fuel : Nat} {cs : List Value} {y : DataW H × List MemPlace} (ht : Try.prog.underlying t = some (.int .u8)) (h : DataW.trod enc Try.prog w 0 (fun _ => true) true fuel t cs = some y) :
  ∃ n : Nat, RelL w (oldP w) cs [.int .u8 (n : Int)] ∧ n < 256 := by
 obtain ⟨n, rfl, rfl, hr⟩ := DataW.trod_int ht h
 simp [Lit.wf] at hr
 have h1 : (0 : Int) ≤ n := hr.1
 have h2 : n ≤ (255 : Int) := hr.2
 refine ⟨n.toNat, ?_, by omega⟩
 rw [Int.toNat_of_nonneg h1]
 exact .cons _ _ _ _ (.int _ _) .nil
end
end Go.Proofs.Ytdeiinhccdlfiaa

/- Chapter 19: how a contract closes a law: the call returns true, and the arguments read as they did. -/
namespace Go.Proofs.Ytdeiinhccdlfiaa
open Go.AE Go.ChangeShapes Go.WideShapes Go.ChangeAt Go.RowKit

theorem trodAll_stays {H : Type} {enc : TypeId × Value → H} {P : Program} {W W' : World} (hl : laidOutB P = true) : ∀ {ts : List TypeId} {vs : List Value} {ds : List (DataW H)} {ps : List MemPlace} {sp : Nat → Bool}, (∀ t ∈ ts, P.readableRec t = true ∧ t < P.types.size) →
    DataW.TrodAll enc P W 0 (fun _ => true) true ts vs ds ps → (∀ p ∈ ps, W.sameAt W' p) → (∀ p ∈ ps, sp p.block = true) → DataW.TrodAll enc P W' 0 sp true ts vs ds ps
  | [], [], [], _, _, _, h, _, _ => h
  | t :: ts, v :: vs, d :: ds, ps, sp, ht, h, hs, hb => by
    obtain ⟨p, q, h1, h2, rfl⟩ := h
    obtain ⟨r1, r2⟩ := ht t List.mem_cons_self
    exact ⟨p, q, WideElems.Trod_stays hl r1 r2 h1 (fun x hx => hs x (List.mem_append_left _ hx)) (fun x hx => hb x (List.mem_append_left _ hx)),
      trodAll_stays hl (fun t ht' => ht t (List.mem_cons_of_mem _ ht')) h2 (fun x hx => hs x (List.mem_append_right _ hx)) (fun x hx => hb x (List.mem_append_right _ hx)), rfl⟩
  | [], [], _ :: _, _, _, _, h, _, _ => h.elim
  | [], _ :: _, _, _, _, _, h, _, _ => h.elim
  | _ :: _, [], _, _, _, _, h, _, _ => h.elim
  | _ :: _, _ :: _, [], _, _, _, h, _, _ => h.elim

theorem close_true {H : Type} {enc : TypeId × Value → H} {f : FuncId} {fn : Func} {spec : ChangeSpec} {W : World} {args : Array Value} {xs : List AV} {ds gs : List (DataW H)} {before : List MemPlace}
  (hl : laidOutB Try.prog = true) (hp : ∀ t ∈ fn.params.toList, Try.prog.readableRec t = true ∧ t < Try.prog.types.size) (hr : fn.resultTypes = #[4]) (hv : spec.vars = [])
  (hsp : gs = [] → spec.fn H (ds ++ gs) = { results := [.lit (.bool true)], args := ds })
  (hW : DataW.Whole enc Try.prog fn.params.toList spec.vars false W args.toList ds gs before) (hrel : RelL W (oldP W) args.toList xs) (hc : ACalls Try.prog f xs (fun _ => none) (fun o s' => o = .ret (.bool true) ∧ s' = fun _ => none)) :
  Calls Try.prog f args W fun e W' => ∃ v, e = .returned v ∧ spec.post enc Try.prog fn false true false false W args v W' := by
 have h := hc.2 W (oldP W) args.toList (wf_old W) hrel
 rw [Array.toArray_toList] at h
 refine Calls.mono h fun e W' ⟨hne, o, s', p', hout, ⟨ho, hs'⟩, hle, hk, hwf⟩ => ?_
 subst ho
 cases e with
 | returned v =>
  have hb : Rel W' p' v (.bool true) := hout
  cases hb
  have hbelow : Below W.heap.size W W' := ⟨hle.os, hle.tape, hle.output, hle.size, fun k hk' => hk.heap k hk' rfl⟩
  have hlt := hW.lt
  have hW' := hW
  obtain ⟨p, q, hA, hV, rfl, hfz, hnd⟩ := hW
  rw [hv] at hV
  obtain ⟨rfl, rfl⟩ := trodVars_none hV
  have hspec := hsp rfl
  refine ⟨_, rfl, ds, [], _, [], p, [], hW', ?_, ?_, ?_, hbelow.frame _, fun h => by cases h⟩
  ·rw [hspec, hr]
   exact trodAll_cons_mk (shut_bool Try.underlying4 _) trodAll_mk0
  ·rw [hspec]
   exact trodAll_stays hl hp hA (fun x hx => hbelow.same (hlt x (by simpa using hx))) (fun x hx => by simpa using hlt x (by simpa using hx))
  ·rw [hspec, hv]; exact rfl
 | panicked ch => exact hout.elim
 | outgrown => exact hout.elim

theorem val_slice {P : Program} {W : World} {r : Reach} {b : Nat} {t e : TypeId} {v : Value} (ht : P.underlying t = some (.slice e)) (h : Value.okWide P W r b t v) : v.cells = #[v] := by
 obtain ⟨a, n, c, rfl⟩ := okWide_slice ht h
 rfl

theorem val_agg {P : Program} {W : World} {r : Reach} {b : Nat} {t : TypeId} {fs : Array Field} {v : Value} (ht : P.underlying t = some (.struct fs)) (h : Value.okWide P W r b t v) : ∃ cs, v = .agg cs := by
 obtain ⟨cs, h1, -⟩ := okWide_struct ht h
 exact ⟨cs, h1⟩

theorem rel_one {w : World} {p : Prot} {v : Value} {x : AV} (hv : v.cells = #[v]) (h : RelL w p v.cells.toList [x]) : Rel w p v x := by
 rw [hv] at h
 cases h with
 | cons _ _ _ _ h _ => exact h

theorem rel_agg {w : World} {p : Prot} {v : Value} {xs : List AV} (hv : ∃ cs, v = .agg cs) (h : RelL w p v.cells.toList xs) : Rel w p v (.agg xs) := by
 obtain ⟨cs, rfl⟩ := hv
 exact .agg _ _ h

theorem val_int {P : Program} {W : World} {r : Reach} {b : Nat} {t : TypeId} {v : Value} {k : IntKind} (ht : P.underlying t = some (.int k)) (h : Value.okWide P W r b t v) : v.cells = #[v] := by
 obtain ⟨n, rfl⟩ := okWide_int ht h
 rfl
theorem laidOut : laidOutB Try.prog = true := by kernel_rfl
end Go.Proofs.Ytdeiinhccdlfiaa

/- Chapter 19: the laws Checks and Errors. -/
namespace Go.Proofs.Ytdeiinhccdlfiaa
open Go.AE Go.Cond

theorem intsB_iff (a b : List Int) : intsB a b = true ↔ a = b := listB_iff (by intro x y; simp [intEq])
set_option maxRecDepth 10000 in
theorem condChecks_spec (p : List CRaw) (hp : CRaw.sizes p + 1 ≤ 1048576) : PCalls Try.prog 6 [.slc 3 (p.map CRaw.av) .fro] (.bool true) := by
 have hb : big = 1099511627776 := rfl
 have h1 := check_spec p (by omega)
 have h2 := refGood_spec p (by omega)
 refine PCalls.of_CW tO call6 Try.func6 rfl rfl fun s hok => ?_
 repeat (first | (with_reducible first | apply CW.seq | apply aN) | refine wR rfl ?_ | refine CW.reg ?_ | refine wS rfl ?_)
 refine RL.callPP rfl rfl rfl rfl rfl h1 ?_
 repeat (first | (with_reducible first | apply CW.seq | apply aN) | refine CW.reg ?_ | refine RL.nil ?_ | refine wS rfl ?_)
 refine RL.callPP rfl rfl rfl rfl rfl h2 ?_
 cases goodP p with
 | false =>
  unfold err
  repeat (first | (with_reducible first | apply CW.seq | apply aN) | refine CW.reg ?_ | refine RL.nil ?_ | refine CW.condT rfl ?_ | refine wS rfl ?_)
  refine RL.callPP rfl rfl rfl rfl rfl known_true ?_
  repeat (first | (with_reducible first | apply aN | apply aR | apply CW.ret) | refine RL.nil ?_ | refine wS rfl ?_)
  exact Fin.retP hok rfl aRfl
 | true =>
  unfold err
  repeat (first | (with_reducible first | apply CW.seq | apply aN | apply CW.skip) | refine CW.reg ?_ | refine RL.nil ?_ | refine CW.condF rfl ?_ | refine wS rfl ?_)
  refine RL.callPP rfl rfl rfl rfl rfl known_true ?_
  repeat (first | (with_reducible first | apply aN | apply CW.ret) | refine RL.nil ?_ | refine wS rfl ?_)
  exact Fin.retP hok rfl aRfl
set_option maxRecDepth 10000 in
theorem condErrors_spec (p : List CRaw) (hp : CRaw.sizes p + 1 ≤ 1048576) : PCalls Try.prog 3 [.slc 3 (p.map CRaw.av) .fro] (.bool true) := by
 have hb : big = 1099511627776 := rfl
 have h2 := refGood_spec p (by omega)
 cases hg : goodP p with
 | false =>
  have h1 := errorsBad_spec p (by omega) hg
  rw [hg] at h2
  refine PCalls.of_CW tO call3 Try.func3 rfl rfl fun s hok => ?_
  repeat (first | (with_reducible first | apply CW.seq | apply aN) | refine wR rfl ?_ | refine CW.reg ?_ | refine wS rfl ?_)
  refine RL.callPP rfl rfl rfl rfl rfl h1 ?_
  repeat (first | (with_reducible first | apply CW.seq | apply aN) | refine CW.reg ?_ | refine RL.nil ?_ | refine wS rfl ?_)
  refine RL.callPP rfl rfl rfl rfl rfl h2 ?_
  repeat (first | (with_reducible first | apply CW.seq | apply aN) | refine CW.reg ?_ | refine RL.nil ?_ | refine CW.condT rfl ?_ | refine wS rfl ?_)
  refine RL.callPP rfl rfl rfl rfl rfl known_true ?_
  repeat (first | (with_reducible first | apply aN | apply aR | apply CW.ret) | refine RL.nil ?_ | refine wS rfl ?_)
  exact Fin.retP hok rfl aRfl
 | true =>
  obtain ⟨P, rfl, f⟩ := good_fit hg
  have h1 := f.errors
  have h3 := refErrorsOf_spec P f.okC f.six (by have := f.sizes; omega)
  have heq : P.map (errsR P) = P.map (errs P) := List.map_congr_left fun x hx => errsR_eq (f.okC x hx)
  rw [heq] at h3
  rw [hg] at h2
  have hl : ∀ l ∈ P.map (errs P), l.length < big := by
   intro l hl
   obtain ⟨x, hx, rfl⟩ := List.mem_map.1 hl
   have h4 := roundM_len (k := 10) (P := P) (mayL P x) (foldT 10 (rawE x) [])
   have h5 := foldT_len 10 (rawE x) []
   have h6 := mayL_few (f.okC x hx)
   have h7 : (mayL P x).length * (sizesE P + 1) ≤ 6 * 81 := Nat.mul_le_mul (by have := f.six; omega) (by have := f.sizes; omega)
   rw [← errsR_eq (f.okC x hx), errsR]
   have h8 := mem_sizesE hx
   have h9 := f.sizes
   rw [size_raw, List.length_nil] at h5
   omega
  have h4 := sameLists_spec (P.map (errs P)) (P.map (errs P)) (by have := f.six; simp; omega) (by have := f.six; simp; omega) hl hl
  rw [(listB_iff (f := intsB) intsB_iff).2 rfl] at h4
  generalize P.map (errs P) = l at h1 h3 h4
  unfold progA at h1 h3
  refine PCalls.of_CW tO call3 Try.func3 rfl rfl fun s hok => ?_
  repeat (first | (with_reducible first | apply CW.seq | apply aN) | refine wR rfl ?_ | refine CW.reg ?_ | refine wS rfl ?_)
  refine RL.callPP rfl rfl rfl rfl rfl h1 ?_
  repeat (first | (with_reducible first | apply CW.seq | apply aN) | refine CW.reg ?_ | refine RL.nil ?_ | refine wS rfl ?_)
  refine RL.callPP rfl rfl rfl rfl rfl h2 ?_
  repeat (first | (with_reducible first | apply CW.seq | apply aN | apply CW.skip) | refine CW.reg ?_ | refine RL.nil ?_ | refine CW.condF rfl ?_ | refine wS rfl ?_)
  refine RL.callPP rfl rfl rfl rfl rfl h3 ?_
  skip
  refine RL.callPP rfl rfl rfl rfl rfl h4 ?_
  repeat (first | refine wS rfl ?_)
  refine RL.callPP rfl rfl rfl rfl rfl known_true ?_
  repeat (first | (with_reducible first | apply aN | apply CW.ret) | refine RL.nil ?_ | refine wS rfl ?_)
  exact Fin.retP hok rfl aRfl
end Go.Proofs.Ytdeiinhccdlfiaa

/- Chapter 19: the law of fuel. -/
namespace Go.Proofs.Ytdeiinhccdlfiaa
open Go.AE Go.Cond

theorem evB_iff (a b : Ev) : evB a b = true ↔ a = b := by
 obtain ⟨d, n, v, hs, rs⟩ := a
 obtain ⟨d', n', v', hs', rs'⟩ := b
 simp [evB, intsB_iff]
theorem evsB_iff (a b : List Ev) : listB evB a b = true ↔ a = b := listB_iff evB_iff
structure Asked (P : List CExp) (hand : Int) (picks : List Int) (fuel : Nat) : Prop where
 fit : Fit P
 yes : askedB (P.map rawE) hand picks fuel = true
 few : fuel ≤ 300
theorem asked_of {p : List CRaw} {hand : Int} {picks : List Int} {fuel : Int} (h : askedB p hand picks fuel = true) : ∃ (P : List CExp) (f : Nat), p = P.map rawE ∧ fuel = f ∧ Asked P hand picks f := by
 have h' := h
 unfold askedB inB at h'
 simp only [Bool.and_eq_true, decide_eq_true_eq] at h'
 obtain ⟨⟨⟨⟨h1, h2⟩, h3⟩, h4⟩, h5⟩ := h'
 obtain ⟨P, rfl, f⟩ := good_fit h1
 refine ⟨P, fuel.toNat, rfl, (Int.toNat_of_nonneg h3.1).symm, f, ?_, by omega⟩
 rw [Int.toNat_of_nonneg h3.1]; exact h
noncomputable def driveT (p : List CRaw) (hand : Int) (picks : List Int) (fuel : Int) : Cond.Run × Int :=
 if h : askedB p hand picks fuel = true then (drive (asked_of h).choose hand picks fuel.toNat, 0) else (noRun, 2)
theorem driveT_spec (p : List CRaw) (hp : CRaw.sizes p + 1 < big) (hand : Int) (picks : List Int) (hpl : picks.length < big) (fuel : Int) :
  PCalls Try.prog 19 [.slc 3 (p.map CRaw.av) .fro, .int .i64 hand, intsA picks, .int .i64 fuel] (.tup [runA (driveT p hand picks fuel).1, .int .i64 (driveT p hand picks fuel).2]) := by
 unfold driveT
 split
 ·rename_i h
  obtain ⟨f, h1, h2, h3⟩ := (asked_of h).choose_spec
  generalize (asked_of h).choose = P at h1 h3
  subst h1 h2
  exact h3.fit.drive hand picks f h3.yes
 ·rename_i h
  exact driveBad_spec p hp hand picks hpl fuel (by simpa using h)
section
variable {P : List CExp} {hand : Int} {picks : List Int} {fuel : Nat} (h : Asked P hand picks fuel)
include h
theorem Asked.drive : driveT (P.map rawE) hand picks fuel = (Cond.drive P hand picks fuel, 0) := by
 unfold driveT
 rw [dif_pos h.yes]
 obtain ⟨f, h1, h2, -⟩ := (asked_of h.yes).choose_spec
 rw [← raws_inj h1]
 have : (fuel : Int).toNat = fuel := rfl
 rw [this]
theorem Asked.fair : (Cond.drive P hand picks fuel).evs.length < 1000 ∧ ∀ e ∈ (Cond.drive P hand picks fuel).evs, EvFair e := drive_fair P hand picks fuel h.few
end
theorem driveT_bad {p : List CRaw} {hand : Int} {picks : List Int} {fuel : Int} (h : askedB p hand picks fuel = false) : driveT p hand picks fuel = (noRun, 2) := by
 unfold driveT
 rw [dif_neg (by simp [h])]
theorem noRun_same : PCalls Try.prog 22 [runA noRun, .agg [.int .i64 0, .int .i64 0, .slc 0 [] .nil, .int .i64 0]] (.bool true) :=
 PCalls.args (.cons aRfl (.one (AVle.agg (.cons aRfl (.cons aRfl (.cons (AVle.nil (by intro b h; cases h)) (.one aRfl))))))) <| same_spec noRun noRun (by decide) (by decide) (fun _ h => by cases h) (fun _ h => by cases h)
set_option maxRecDepth 10000 in
set_option maxHeartbeats 1000000 in
theorem condFuel_spec (g : Giv) (more : Nat) (hg : g.weight ≤ 1048576) (hm : more < 256) : PCalls Try.prog 5 [.agg g.cells, .int .u8 (more : Int)] (.bool true) := by
 have hb : big = 1099511627776 := rfl
 obtain ⟨p, hand, picks, fuel⟩ := g
 unfold Giv.weight at hg
 simp only at hg
 have h1 := driveT_spec p (by omega) hand picks (by omega) fuel
 have h2 := fun f => driveT_spec p (by omega) hand picks (by omega) f
 cases ha : askedB p hand picks fuel with
 | false =>
  rw [driveT_bad ha] at h1
  have h3 := noRun_same
  simp only [intsA, runA, runCells, noRun, List.map_nil] at h1 h2 h3
  simp only [Giv.cells, intsA]
  refine PCalls.of_CW tO call5 Try.func5 rfl rfl fun s hok => ?_
  repeat (first | (with_reducible first | apply CW.seq | apply aN) | refine wR rfl ?_ | refine CW.reg ?_ | refine wS rfl ?_)
  refine RL.callPP rfl rfl rfl rfl rfl h1 ?_
  repeat (first | refine wS rfl ?_)
  refine RL.newBox tO rfl rfl rfl rfl rfl rfl rfl (fun _ => rfl) rfl rfl (fun _ => rfl) rfl rfl rfl rfl ?_
  repeat (first | (with_reducible first | apply CW.seq | apply aN) | refine CW.reg ?_ | refine RL.nil ?_ | refine wS rfl ?_ | refine RL.stepX tO rfl rfl rfl rfl ?_)
  refine RL.callPP rfl rfl rfl rfl rfl (h2 _) ?_
  repeat (first | refine wS rfl ?_)
  refine RL.newBox tO rfl rfl rfl rfl rfl rfl rfl (fun _ => rfl) rfl rfl (fun _ => rfl) rfl rfl rfl rfl ?_
  repeat (first | (with_reducible first | apply CW.seq | apply aN) | refine wR rfl ?_ | refine CW.reg ?_ | refine RL.nil ?_ | refine CW.condT rfl ?_ | refine wS rfl ?_)
  refine RL.callPP rfl rfl rfl rfl rfl h3 ?_
  repeat (first | refine wS rfl ?_)
  refine RL.callPP rfl rfl rfl rfl rfl known_true ?_
  repeat (first | (with_reducible first | apply aN | apply aR | apply CW.ret) | refine RL.nil ?_ | refine wS rfl ?_)
  exact Fin.retP hok rfl aRfl
 | true =>
  obtain ⟨P, f, rfl, rfl, A⟩ := asked_of ha
  rw [A.drive] at h1
  have hmin : ∃ k : Nat, (if IntKind.i64.wrap ((f : Int) + IntKind.i64.wrap (more : Int)) < 300 then IntKind.i64.wrap ((f : Int) + IntKind.i64.wrap (more : Int)) else 300) = ((f + k : Nat) : Int) ∧ f + k ≤ 300 := by
   have := A.few
   rw [i64_wrap (n := (more : Int)) (by omega) (by omega), i64_wrap (by omega) (by omega)]
   split
   ·exact ⟨more, by omega, by omega⟩
   ·exact ⟨300 - f, by omega, by omega⟩
  have ha2 : ∀ k, f + k ≤ 300 → Asked P hand picks (f + k) := fun k hk => ⟨A.fit, by
   have := A.yes
   unfold askedB inB at this ⊢
   simp only [Bool.and_eq_true, decide_eq_true_eq] at this ⊢
   obtain ⟨⟨⟨⟨q1, q2⟩, q3⟩, q4⟩, q5⟩ := this
   exact ⟨⟨⟨⟨q1, q2⟩, by omega⟩, q4⟩, q5⟩, hk⟩
  obtain ⟨k, hk, hk3⟩ := hmin
  have h2 := h2 ((f + k : Nat) : Int)
  rw [(ha2 k hk3).drive, ← hk] at h2
  have hfa := A.fair
  have hfb := (ha2 k hk3).fair
  have hmo := drive_more P hand picks f k
  have hsp := drive_spent P hand picks f
  generalize drive P hand picks f = a at h1 hfa hmo hsp
  generalize drive P hand picks (f + k) = b at h2 hfb hmo
  simp only at hmo
  simp only [intsA, runA, runCells] at h1 h2
  simp only [Giv.cells, intsA]
  refine PCalls.of_CW tO call5 Try.func5 rfl rfl fun s hok => ?_
  repeat (first | (with_reducible first | apply CW.seq | apply aN) | refine wR rfl ?_ | refine CW.reg ?_ | refine wS rfl ?_)
  refine RL.callPP rfl rfl rfl rfl rfl h1 ?_
  repeat (first | refine wS rfl ?_)
  refine RL.newBox tO rfl rfl rfl rfl rfl rfl rfl (fun _ => rfl) rfl rfl (fun _ => rfl) rfl rfl rfl rfl ?_
  repeat (first | (with_reducible first | apply CW.seq | apply aN) | refine CW.reg ?_ | refine RL.nil ?_ | refine wS rfl ?_ | refine RL.stepX tO rfl rfl rfl rfl ?_)
  refine RL.callPP rfl rfl rfl rfl rfl h2 ?_
  repeat (first | refine wS rfl ?_)
  refine RL.newBox tO rfl rfl rfl rfl rfl rfl rfl (fun _ => rfl) rfl rfl (fun _ => rfl) rfl rfl rfl rfl ?_
  repeat (first | (with_reducible first | apply CW.seq | apply aN | apply CW.skip) | refine wR rfl ?_ | refine RL.nil ?_ | refine CW.condF rfl ?_ | refine wS rfl ?_)
  have hpre : ∃ l, b.evs = a.evs ++ l := by
   rcases hmo with ⟨_, _, _, h⟩ | ⟨_, _, h, _⟩
   ·exact h
   ·exact ⟨[], by rw [h, List.append_nil]⟩
  have hle : a.evs.length ≤ b.evs.length := by
   obtain ⟨l, h⟩ := hpre
   rw [h, List.length_append]; omega
  have hev : PCalls Try.prog 23 [.slc 5 (a.evs.map evA) .fro, .slc 5 (((b.evs.map evA).take (a.evs.map evA).length).drop 0) .fro] (.bool true) := by
   obtain ⟨l, h⟩ := hpre
   have h4 := sameEvents_spec a.evs a.evs (by omega) (by omega) hfa.2 hfa.2
   rw [(evsB_iff _ _).2 rfl] at h4
   rw [h, List.map_append, List.take_left, List.drop_zero]
   exact h4
  refine CW.drw tO mixed rfl (RD.runs (is := [0, 1, 2, 3, 4, 5, 6, 7, 8, 9]) rfl ?_)
  refine RD.knowF 58 rfl (decide_eq_false (by simp; omega)) ?_
  refine RD.runs (is := [10, 11, 12, 13, 14, 15, 16, 17, 18]) rfl ?_
  refine RD.slice 19 0 (a.evs.map evA).length rfl rfl rfl rfl rfl rfl rfl rfl rfl rfl (.inr rfl) (.inl ⟨rfl, rfl⟩) (.inr ⟨_, _, rfl, rfl⟩) (.inl ⟨rfl, rfl⟩) (Nat.zero_le _) (by simpa using hle) ?_
  refine RD.calmPP (i := 20) rfl rfl rfl rfl rfl rfl rfl hev ?_; refine RD.run rfl ?_
  refine RD.done rfl ?_
  repeat (first | (with_reducible first | apply CW.seq | apply aN | apply CW.skip) | refine wR rfl ?_ | refine CW.condF rfl ?_)
  refine CW.cond rfl (fun hh => ?_) (fun hh => ?_)
  ·obtain ⟨q1, q2⟩ := hsp (of_decide_eq_true hh)
   rw [q1, q2]
   repeat (first | with_reducible apply CW.seq | refine CW.reg ?_ | refine wS rfl ?_)
   refine RL.callPP rfl rfl rfl rfl rfl known_true ?_
   repeat (first | (with_reducible first | apply aN | apply aR | apply CW.ret) | refine RL.nil ?_ | refine wS rfl ?_)
   exact Fin.retP hok rfl aRfl
  ·rcases hmo with ⟨h4, _⟩ | ⟨e1, e2, e3, e4⟩
   ·exact absurd h4 (of_decide_eq_false hh)
   ·repeat (first | (with_reducible first | apply CW.seq | apply aN | apply CW.skip) | refine CW.reg ?_ | refine wS rfl ?_)
    refine RL.knowT 91 rfl (decide_eq_true e1) ?_
    repeat (first | refine wS rfl ?_)
    refine RL.knowT 98 rfl (decide_eq_true e2) ?_
    repeat (first | refine wS rfl ?_)
    refine RL.knowT 107 rfl (decide_eq_true (by rw [e3])) ?_
    repeat (first | refine wS rfl ?_ | refine RL.stepX tO rfl rfl rfl rfl ?_)
    refine RL.knowT 124 rfl (decide_eq_true ?_) ?_
    ·rw [hk, e4]
     congr 1; omega
    skip
    refine RL.callPP rfl rfl rfl rfl rfl known_true ?_
    repeat (first | (with_reducible first | apply aN | apply CW.ret) | refine RL.nil ?_ | refine wS rfl ?_)
    exact Fin.retP hok rfl aRfl
end Go.Proofs.Ytdeiinhccdlfiaa

/- Chapter 19: copies of programs; the law of the outermost handler. -/
namespace Go.Proofs.Ytdeiinhccdlfiaa
open Go.AE Go.Cond

theorem OW.nilEq {P : Program} {Γ : Tys} {N : Nat} {env : Env} {s : Store} {o : Oper} (hΓ : TysOk P Γ) {t yt e : TypeId} {x : Operand} {it : TI} {sz : Nat} {xs : List AV} {own : Own} (ho : o.op = .binOp .eql t x (.const (.slice none 0 0)) yt)
  (ht : Γ.get? t = some it) (htd : it.td = .slc e) (hx : ev env x = some (.slc sz xs own)) {X : AV → Store → Prop} :
  OW P N o env s (fun r s' => s' = s ∧ ((r = .bool true ∧ xs = []) ∨ r = .bool false)) X := by
 refine OW.of_run (by simp [AE.noDefer, ho]) fun ro B a w p hst => ?_
 obtain ⟨info, d, h1, h2, h3, h4, h5, h6⟩ := hΓ.parts ht
 have hu := hst.ev hx
 have hd : ∃ e, d = .slice e := by
  rw [htd] at h3; cases d <;> simp [tdOf] at h3 <;> exact ⟨_, rfl⟩
 obtain ⟨e', rfl⟩ := hd
 have hrun : ∀ q, (binOp .eql t (a.eval x) (.slice none 0 0)).run P w = .ok (.bool q) w → (∀ c, a.eval x ≠ .agg c) → (execOp a.eval o).run P w = .ok (.value (.bool q)) w := by
  intro q hq hc
  unfold execOp
  rw [ho]
  refine run_v ?_
  show (do eqGuard .eql t x (.const (.slice none 0 0)) (a.eval x) (.slice none 0 0); binOp .eql t (a.eval x) (.slice none 0 0) : Sem Value).run P w = _
  rw [Sem.run_bind, eqGuard_ok w ⟨fun _ => ⟨_, rfl⟩, hc⟩, Result.andThen_ok, hq]
 generalize a.eval x = vx at hu hrun
 cases hu with
 | slcNil _ _ _ => exact ⟨_, _, s, p, .bool true, hrun true (run_eqneq rfl rfl (fun d => by simp [Op.equalIn, run_underlying h2])).1 (by simp), .refl w p, .refl s w p, hst.wf, ⟨rfl, .inl ⟨rfl, rfl⟩⟩, .bool _⟩
 | slcZ a _ _ _ => exact ⟨_, _, s, p, .bool false, hrun false (run_eqneq rfl rfl (fun d => by simp [Op.equalIn, run_underlying h2])).1 (by simp), .refl w p, .refl s w p, hst.wf, ⟨rfl, .inr rfl⟩, .bool _⟩
 | slc g off n cap _ vs _ _ hn hl hc hr hs hm hk hcl ho => exact ⟨_, _, s, p, .bool false, hrun false (run_eqneq rfl rfl (fun d => by simp [Op.equalIn, run_underlying h2])).1 (by simp), .refl w p, .refl s w p, hst.wf, ⟨rfl, .inr rfl⟩, .bool _⟩
theorem cells_eq (p : List CRaw) : p.map CRaw.av = (p.map CRaw.cells).map AV.agg := by
 rw [List.map_map]; exact List.map_congr_left fun x _ => CRaw.av_eq x
theorem cells_three (p : List CRaw) : ∀ c ∈ p.map CRaw.cells, c.length = 3 := by
 intro c hc
 obtain ⟨x, -, rfl⟩ := List.mem_map.1 hc
 rfl
set_option maxRecDepth 10000 in
theorem clone_spec (p : List CRaw) (h1 : 1 ≤ p.length) (hl : p.length < 1000000) :
  LCalls Try.prog 28 [.slc 3 (p.map CRaw.av) .fro] [] (fun o K => ∃ b cap cs, o = .ret (cslc b p.length cap) ∧ K = [(.own b, .box 36 cs)] ∧ p.length ≤ cap ∧ cs.take (p.length * 3) = (p.map CRaw.cells).flatten) := by
 rw [cells_eq]
 refine LCalls.of_CW tO call28 Try.func28 rfl rfl fun s hok => ?_
 repeat (first | (with_reducible first | apply CW.seq | apply aN) | refine wR rfl ?_ | refine CW.reg ?_ | refine wS rfl ?_)
 refine RL.op rfl rfl rfl (OW.nilEq tO rfl rfl rfl rfl (X := fun _ _ => False)) ?_ (fun _ _ h => False.elim h)
 rintro r s' ⟨rfl, ⟨rfl, hn⟩ | rfl⟩
 ·exfalso
  have := congrArg List.length hn
  simp at this; subst this; simp at h1
 ·repeat (first | (with_reducible first | apply CW.seq | apply aN | apply CW.skip) | refine CW.reg ?_ | refine RL.nil ?_ | refine CW.condF rfl ?_ | refine wS rfl ?_)
  refine RL.cloneC tO hok rfl rfl rfl rfl rfl rfl rfl (by intro k; simp) rfl rfl rfl (.inr rfl) rfl rfl (by simpa using h1) (by rw [List.length_map]; show _ * 40 ≤ _; omega) (by rw [List.length_map]; omega) (fun b cap cs c1 c2 c3 hok => ?_)
  rw [List.length_map] at c2 c3 ⊢
  repeat (first | (with_reducible first | apply aN | apply CW.ret) | refine RL.nil ?_ | refine wS rfl ?_)
  exact Fin.retL hok rfl aRfl (by repeat (first | exact Sels.nil | (apply Sels.cons; · repeat (first | exact Sel.here | apply Sel.there)))) ⟨b, cap, cs, rfl, rfl, c2, c3⟩
theorem copy_head {x : CRaw} {r : List CRaw} {cs : List AV} (h : cs.take ((x :: r).length * 3) = ((x :: r).map CRaw.cells).flatten) : ∃ tl, cs = .int .i64 x.op :: .int .i64 x.n :: .slc 3 (x.kids.map CRaw.av) .fro :: tl ∧ tl.take (r.length * 3) = (r.map CRaw.cells).flatten := by
 have h3 : cs.take 3 = x.cells := by
  have := congrArg (List.take 3) h
  rw [List.take_take, Nat.min_eq_left (by simp; omega)] at this
  rw [this]; rfl
 refine ⟨cs.drop 3, ?_, ?_⟩
 ·conv => lhs; rw [← List.take_append_drop 3 cs, h3]
  rfl
 ·have := congrArg (List.drop 3) h
  rw [List.drop_take] at this
  rw [show (x :: r).length * 3 - 3 = r.length * 3 by simp; omega] at this
  rw [this]; rfl
theorem copy_put {y : CRaw} {r : List CRaw} {tl : List AV} (h : tl.take (r.length * 3) = (r.map CRaw.cells).flatten) : (.int .i64 y.op :: .int .i64 y.n :: .slc 3 (y.kids.map CRaw.av) .fro :: tl).take ((r.length + 1) * 3) = ((y :: r).map CRaw.cells).flatten := by
 rw [show (r.length + 1) * 3 = r.length * 3 + 3 by omega]
 simp only [List.take_succ_cons, List.map_cons, List.flatten_cons, h]
 rfl
set_option maxRecDepth 10000 in
set_option maxHeartbeats 1000000 in
theorem condCaught_spec (g : Giv) (hg : g.weight ≤ 1048576) : PCalls Try.prog 8 [.agg g.cells] (.bool true) := by
 have hb : big = 1099511627776 := rfl
 obtain ⟨p, hand, picks, fuel⟩ := g
 unfold Giv.weight at hg
 simp only at hg
 have h1 := refGood_spec p (by omega)
 cases hgo : goodP p with
 | false =>
  rw [hgo] at h1
  simp only [Giv.cells]
  refine PCalls.of_CW tO call8 Try.func8 rfl rfl fun s hok => ?_
  repeat (first | (with_reducible first | apply CW.seq | apply aN) | refine wR rfl ?_ | refine CW.reg ?_ | refine wS rfl ?_)
  refine RL.callPP rfl rfl rfl rfl rfl h1 ?_
  repeat (first | (with_reducible first | apply CW.seq | apply aN) | refine CW.reg ?_ | refine RL.nil ?_ | refine CW.condT rfl ?_ | refine wS rfl ?_)
  refine RL.callPP rfl rfl rfl rfl rfl known_true ?_
  repeat (first | (with_reducible first | apply aN | apply aR | apply CW.ret) | refine RL.nil ?_ | refine wS rfl ?_)
  exact Fin.retP hok rfl aRfl
 | true =>
  rw [hgo] at h1
  obtain ⟨P, rfl, ft⟩ := good_fit hgo
  have hsz := ft.sizes
  obtain ⟨e, r, rfl⟩ : ∃ e r, P = e :: r := by
   have := ft.one
   match P, this with
   | e :: r, _ => exact ⟨e, r, rfl⟩
  have hlen : (List.map rawE (e :: r)).length = r.length + 1 := by simp
  have hsix := ft.six
  rw [List.length_cons] at hsix
  rw [sizesE] at hsz
  have hcl := clone_spec ((e :: r).map rawE) (by rw [hlen]; omega) (by rw [hlen]; omega)
  have hdr := driveT_spec ((.restart 7 (.handle (-1) e (.choose 7 .hand)) .hand :: r : List CExp).map rawE) (by rw [sizes_raw, sizesE]; simp only [CExp.size]; omega) hand picks (by omega) fuel
  have hdt : (driveT ((.restart 7 (.handle (-1) e (.choose 7 .hand)) .hand :: r : List CExp).map rawE) hand picks fuel).2 = 2 ∨ ((driveT ((.restart 7 (.handle (-1) e (.choose 7 .hand)) .hand :: r : List CExp).map rawE) hand picks fuel).2 = 0 ∧ (driveT ((.restart 7 (.handle (-1) e (.choose 7 .hand)) .hand :: r : List CExp).map rawE) hand picks fuel).1.fin ≠ 2) := by
   cases ha : askedB ((.restart 7 (.handle (-1) e (.choose 7 .hand)) .hand :: r : List CExp).map rawE) hand picks fuel with
   | false => rw [driveT_bad ha]; exact .inl rfl
   | true =>
    obtain ⟨P', f, e1, rfl, A⟩ := asked_of ha
    obtain rfl := raws_inj e1
    rw [A.drive]
    exact .inr ⟨rfl, drive_caught e r hand picks f⟩
  generalize driveT ((.restart 7 (.handle (-1) e (.choose 7 .hand)) .hand :: r : List CExp).map rawE) hand picks fuel = dt at hdr hdt
  simp only [runA, runCells] at hdr
  have h8 := ofC_spec 8 (-1) [rawE e, .mk 13 7 [handR]]
  rw [List.map_cons, CRaw.av_eq (rawE e)] at h8
  simp only [Giv.cells]
  simp only [intsA] at hdr ⊢
  refine PCalls.of_CW tO call8 Try.func8 rfl rfl fun s hok => ?_
  repeat (first | (with_reducible first | apply CW.seq | apply aN) | refine wR rfl ?_ | refine CW.reg ?_ | refine wS rfl ?_)
  refine RL.callPP rfl rfl rfl rfl rfl h1 ?_
  repeat (first | (with_reducible first | apply CW.seq | apply aN | apply CW.skip) | refine CW.reg ?_ | refine RL.nil ?_ | refine CW.condF rfl ?_ | refine wS rfl ?_)
  refine RL.callL rfl rfl rfl rfl rfl hcl hok (by repeat (first | exact Sels.nil | (apply Sels.cons; · repeat (first | exact Sel.here | apply Sel.there)))) ?_ (fun _ _ ⟨_, _, _, h, _⟩ _ => by cases h)
  rintro _ _ ⟨b, cap, cs, ⟨⟩, rfl, c2, c3⟩ hok
  obtain ⟨tl, rfl, c4⟩ := copy_head c3
  have c5 := copy_put (y := rawE (.restart 7 (.handle (-1) e (.choose 7 .hand)) .hand)) c4
  rw [List.length_map] at c5
  have hpos : 0 < ((e :: r).map rawE).length := by simp
  repeat (first | (with_reducible first | apply CW.seq | apply aN) | refine RL.nil ?_ | refine wS rfl ?_)
  have hJ : JS [(b, .box 36 (.int .i64 (rawE e).op :: .int .i64 (rawE e).n :: .slc 3 ((rawE e).kids.map CRaw.av) .fro :: tl))] (sto s ([(.own b, .box 36 (.int .i64 (rawE e).op :: .int .i64 (rawE e).n :: .slc 3 ((rawE e).kids.map CRaw.av) .fro :: tl))] ++ [])) := JS.one (Sel.get (by repeat (first | exact Sel.here | apply Sel.there)) hok)
  refine CW.drwJ _ tO mixed rfl (RJ.run hJ rfl ?_)
  refine RJ.idxC 2 tO hJ (j := 0) rfl rfl rfl rfl rfl rfl rfl rfl rfl rfl rfl rfl hpos ?_
  refine RJ.loadA 3 tO hJ rfl rfl rfl rfl rfl rfl rfl rfl (fun s h => h.1) (v := .agg [.int .i64 (rawE e).op, .int .i64 (rawE e).n, .slc 3 ((rawE e).kids.map CRaw.av) .fro]) rfl ?_
  refine RJ.calmPP (i := 4) hJ rfl rfl rfl rfl rfl rfl rfl hand_spec ?_
  refine RJ.run hJ rfl ?_
  refine RJ.calmPP (i := 6) hJ rfl rfl rfl rfl rfl rfl rfl (ofC_spec 13 7 [handR]) ?_
  refine RJ.run hJ rfl ?_
  refine RJ.calmPP (i := 8) hJ rfl rfl rfl rfl rfl rfl rfl h8 ?_
  refine RJ.calmPP (i := 9) hJ rfl rfl rfl rfl rfl rfl rfl hand_spec ?_
  refine RJ.run hJ rfl ?_
  refine RJ.calmPP (i := 11) hJ rfl rfl rfl rfl rfl rfl rfl (ofC_spec 11 7 [.mk 8 (-1) [rawE e, .mk 13 7 [handR]], handR]) ?_
  refine RJ.idxC 12 tO hJ (j := 0) rfl rfl rfl rfl rfl rfl rfl rfl rfl rfl rfl rfl hpos ?_
  rw [CRaw.av_eq (.mk 11 7 _)]
  refine RJ.storeL 13 tO hok rfl rfl rfl rfl rfl rfl rfl rfl rfl rfl rfl (by repeat (first | exact Sel.here | apply Sel.there)) rfl (fun _ => .inr rfl) (fun hok => ?_)
  refine RD.done rfl ?_
  refine aN ?_
  refine CW.freezeR hok 3 b (sz := 3) (xss := ((.restart 7 (.handle (-1) e (.choose 7 .hand)) .hand :: r : List CExp).map rawE).map CRaw.cells) rfl (by repeat (first | exact Sel.here | apply Sel.there)) (by rw [hlen]; exact c5) (by simp) (cells_three _) c2 (by rw [hlen]; omega) (fun hok => ?_)
  rw [← cells_eq]
  repeat (first | with_reducible apply CW.seq | refine CW.reg ?_ | refine wS rfl ?_)
  refine RL.callPP rfl rfl rfl rfl rfl hdr ?_
  repeat (first | refine wS rfl ?_)
  refine RL.newBox tO rfl rfl rfl rfl rfl rfl rfl (fun _ => rfl) rfl rfl (fun _ => rfl) rfl rfl rfl rfl ?_
  rcases hdt with h | ⟨h, hf⟩
  ·rw [h]
   repeat (first | (with_reducible first | apply CW.seq | apply aN) | refine wR rfl ?_ | refine CW.reg ?_ | refine RL.nil ?_ | refine CW.condT rfl ?_ | refine wS rfl ?_)
   refine RL.callPP rfl rfl rfl rfl rfl known_true ?_
   repeat (first | (with_reducible first | apply aN | apply aR | apply CW.ret) | refine RL.nil ?_ | refine wS rfl ?_)
   exact Fin.retP hok rfl aRfl
  ·rw [h]
   repeat (first | (with_reducible first | apply CW.seq | apply aN | apply CW.skip) | refine wR rfl ?_ | refine CW.reg ?_ | refine RL.nil ?_ | refine CW.condF rfl ?_ | refine wS rfl ?_)
   refine RL.knowT 48 rfl (by simpa using hf) ?_
   skip
   refine RL.callPP rfl rfl rfl rfl rfl known_true ?_
   repeat (first | (with_reducible first | apply aN | apply CW.ret) | refine RL.nil ?_ | refine wS rfl ?_)
   exact Fin.retP hok rfl aRfl
end Go.Proofs.Ytdeiinhccdlfiaa

/- Chapter 19: the law Known: the rest of the chapter's examples. -/
namespace Go.Proofs.Ytdeiinhccdlfiaa
open Go.AE Go.Cond

def saidE (e : Ev) : Option Int := if e.deed = 1 then some e.val else none
theorem take_filter {α β : Type} (f : α → Option β) {l : List α} {j : Nat} {x : α} (h : l[j]? = some x) : (l.take (j + 1)).filterMap f = (l.take j).filterMap f ++ (f x).toList := by
 rw [List.take_add_one, h, List.filterMap_append]
 cases hf : f x <;> simp [hf]
def nA : List CExp := [.handle 0 (.signal 0 (.int 5)) (.say .hand)]
def nB : List CExp := [.choose 1 (.int 2)]
def nC : List CExp := [.restart 1 (.restart 2 (.guard (.choose 1 (.int 2)) (.choose 2 (.int 3))) (.add .hand (.int 10))) .hand]
def nD : List CExp := [.handle 0 (.handle 0 (.signal 0 (.int 1)) (.signal 0 (.int 2))) (.say .hand)]
def nDs : List Ev := [⟨2, 0, 1, [0, 0], []⟩, ⟨3, 0, 1, [0], []⟩, ⟨2, 0, 2, [0], []⟩, ⟨3, 0, 2, [], []⟩, ⟨1, 0, 2, [], []⟩, ⟨3, 0, 1, [], []⟩, ⟨1, 0, 1, [], []⟩]
set_option maxRecDepth 10000 in
set_option maxHeartbeats 2000000 in
theorem condKnown_spec : PCalls Try.prog 11 [] (.bool true) := by
 have hb : big = 1099511627776 := rfl
 have r1 : PCalls Try.prog 31 [.slc 3 ((nA.map rawE).map CRaw.av) .clip, .int .i64 0, .int .i64 99] (.tup [.agg [.int .i64 1, .int .i64 0, .slc 5 [evA ⟨2, 0, 5, [0], []⟩, evA ⟨3, 0, 5, [], []⟩, evA ⟨1, 0, 5, [], []⟩] .fro, .int .i64 94], .int .i64 0]) := PCalls.args (.cons AVle.fro (.cons aRfl (.one aRfl))) ((fit_of (P := nA) rfl).run 0 99 rfl)
 have r2 : PCalls Try.prog 31 [.slc 3 ((nB.map rawE).map CRaw.av) .clip, .int .i64 0, .int .i64 99] (.tup [.agg [.int .i64 3, .int .i64 0, .slc 5 [] .fro, .int .i64 97], .int .i64 0]) := PCalls.args (.cons AVle.fro (.cons aRfl (.one aRfl))) ((fit_of (P := nB) rfl).run 0 99 rfl)
 have r3 : PCalls Try.prog 31 [.slc 3 ((nC.map rawE).map CRaw.av) .clip, .int .i64 0, .int .i64 99] (.tup [.agg [.int .i64 1, .int .i64 13, .slc 5 [evA ⟨4, 1, 2, [], [2, 1]⟩, evA ⟨5, 0, 0, [], [2, 1]⟩, evA ⟨4, 2, 3, [], [2, 1]⟩] .fro, .int .i64 89], .int .i64 0]) := PCalls.args (.cons AVle.fro (.cons aRfl (.one aRfl))) ((fit_of (P := nC) rfl).run 0 99 rfl)
 have r4 : PCalls Try.prog 31 [.slc 3 ((nD.map rawE).map CRaw.av) .clip, .int .i64 0, .int .i64 99] (.tup [.agg [.int .i64 1, .int .i64 0, .slc 5 (nDs.map evA) .fro, .int .i64 89], .int .i64 0]) := PCalls.args (.cons AVle.fro (.cons aRfl (.one aRfl))) ((fit_of (P := nD) rfl).run 0 99 rfl)
 have hlen : nDs.length = 7 := rfl
 have hsaid : nDs.filterMap saidE = [2, 1] := rfl
 have heq : ∀ own, PCalls Try.prog 35 [.slc 1 ([2, 1].map intA) own, .slc 1 ([2, 1].map intA) .clip] (.bool true) := fun own => PCalls.args (.cons AVle.fro (.one AVle.fro)) (slEqual0_spec [2, 1] [2, 1] (by decide) (by decide))
 generalize nDs = evs at r4 hlen hsaid
 refine PCalls.of_CW tO call11 Try.func11 rfl rfl fun s hok => ?_
 repeat (first | (with_reducible first | apply CW.seq | apply aN) | refine wR rfl ?_ | refine CW.reg ?_)
 refine RL.callPP rfl rfl rfl rfl rfl (num_spec 5) ?_
 repeat (first | refine wS rfl ?_)
 refine RL.callPP rfl rfl rfl rfl rfl (ofC_spec 9 0 [numR 5]) ?_
 skip
 refine RL.callPP rfl rfl rfl rfl rfl hand_spec ?_
 repeat (first | refine wS rfl ?_)
 refine RL.callPP rfl rfl rfl rfl rfl (ofC_spec 4 0 [handR]) ?_
 repeat (first | refine wS rfl ?_)
 refine RL.callPP rfl rfl rfl rfl rfl (ofC_spec 8 0 [.mk 9 0 [numR 5], .mk 4 0 [handR]]) ?_
 repeat (first | refine wS rfl ?_)
 refine RL.callPP rfl rfl rfl rfl rfl r1 ?_
 repeat (first | refine wS rfl ?_)
 refine RL.newBox tO rfl rfl rfl rfl rfl rfl rfl (fun _ => rfl) rfl rfl (fun _ => rfl) rfl rfl rfl rfl ?_
 repeat (first | (with_reducible first | apply CW.seq | apply aN) | refine CW.reg ?_ | refine RL.nil ?_ | refine wS rfl ?_)
 refine RL.callPP rfl rfl rfl rfl rfl (num_spec 2) ?_
 repeat (first | refine wS rfl ?_)
 refine RL.callPP rfl rfl rfl rfl rfl (ofC_spec 13 1 [numR 2]) ?_
 repeat (first | refine wS rfl ?_)
 refine RL.callPP rfl rfl rfl rfl rfl r2 ?_
 repeat (first | refine wS rfl ?_)
 refine RL.newBox tO rfl rfl rfl rfl rfl rfl rfl (fun _ => rfl) rfl rfl (fun _ => rfl) rfl rfl rfl rfl ?_
 repeat (first | (with_reducible first | apply CW.seq | apply aN) | refine CW.reg ?_ | refine RL.nil ?_ | refine wS rfl ?_)
 refine RL.idx tO 2 rfl rfl rfl rfl rfl rfl rfl rfl rfl rfl rfl (by rfl) (by rfl) ?_
 repeat (first | refine wS rfl ?_)
 refine RL.idx tO 2 rfl rfl rfl rfl rfl rfl rfl rfl rfl rfl rfl (by rfl) (by rfl) ?_
 repeat (first | (with_reducible first | apply CW.seq | apply aN | apply CW.skip) | refine CW.reg ?_ | refine RL.nil ?_ | refine CW.condF rfl ?_ | refine wS rfl ?_)
 refine RL.callPP rfl rfl rfl rfl rfl (num_spec 2) ?_
 repeat (first | refine wS rfl ?_)
 refine RL.callPP rfl rfl rfl rfl rfl (ofC_spec 13 1 [numR 2]) ?_
 skip
 refine RL.callPP rfl rfl rfl rfl rfl (num_spec 3) ?_
 repeat (first | refine wS rfl ?_)
 refine RL.callPP rfl rfl rfl rfl rfl (ofC_spec 13 2 [numR 3]) ?_
 repeat (first | refine wS rfl ?_)
 refine RL.callPP rfl rfl rfl rfl rfl (ofC_spec 15 0 [.mk 13 1 [numR 2], .mk 13 2 [numR 3]]) ?_
 rw [CRaw.av_eq (.mk 15 0 [.mk 13 1 [numR 2], .mk 13 2 [numR 3]])]
 skip
 refine RL.newBox tO rfl rfl rfl rfl rfl rfl rfl (fun _ => rfl) rfl rfl (fun _ => rfl) rfl rfl rfl rfl ?_
 repeat (first | (with_reducible first | apply CW.seq | apply aN) | refine RL.nil ?_)
 refine CW.drw tO mixed rfl (RD.run rfl ?_)
 refine RD.calmPP (i := 1) rfl rfl rfl rfl rfl rfl rfl hand_spec ?_; refine RD.run rfl ?_
 refine RD.calmPP (i := 2) rfl rfl rfl rfl rfl rfl rfl (num_spec 10) ?_; refine RD.run rfl ?_
 refine RD.calmPP (i := 4) rfl rfl rfl rfl rfl rfl rfl (ofC_spec 3 0 [handR, numR 10]) ?_; refine RD.run rfl ?_
 refine RD.calmPP (i := 6) rfl rfl rfl rfl rfl rfl rfl (ofC_spec 11 2 [.mk 15 0 [.mk 13 1 [numR 2], .mk 13 2 [numR 3]], .mk 3 0 [handR, numR 10]]) ?_; refine RD.run rfl ?_
 refine RD.calmPP (i := 7) rfl rfl rfl rfl rfl rfl rfl hand_spec ?_; refine RD.run rfl ?_
 refine RD.calmPP (i := 9) rfl rfl rfl rfl rfl rfl rfl (ofC_spec 11 1 [.mk 11 2 [.mk 15 0 [.mk 13 1 [numR 2], .mk 13 2 [numR 3]], .mk 3 0 [handR, numR 10]], handR]) ?_; refine RD.run rfl ?_
 refine RD.calmPP (i := 11) rfl rfl rfl rfl rfl rfl rfl r3 ?_; refine RD.run rfl ?_
 refine RD.allocL 15 tO hok rfl rfl rfl rfl rfl rfl rfl rfl rfl (fun b6 hok => ?_); refine RD.run rfl ?_
 refine RD.storeL 16 tO hok rfl rfl rfl rfl rfl rfl rfl rfl rfl rfl rfl (by repeat (first | exact Sel.here | apply Sel.there)) (by exact rfl) (fun hok => ?_); refine RD.run rfl ?_
 refine RD.run rfl (RD.done rfl ?_)
 repeat (first | (with_reducible first | apply CW.seq | apply aN | apply CW.skip) | refine CW.reg ?_ | refine RL.nil ?_ | refine CW.condF rfl ?_ | refine wS rfl ?_ | refine RL.loadL tO hok rfl rfl rfl rfl rfl rfl (by repeat (first | exact Sel.here | apply Sel.there)) (by exact rfl) ?_)
 refine RL.callPP rfl rfl rfl rfl rfl (num_spec 1) ?_
 repeat (first | refine wS rfl ?_)
 refine RL.callPP rfl rfl rfl rfl rfl (ofC_spec 9 0 [numR 1]) ?_
 skip
 refine RL.callPP rfl rfl rfl rfl rfl (num_spec 2) ?_
 repeat (first | refine wS rfl ?_)
 refine RL.callPP rfl rfl rfl rfl rfl (ofC_spec 9 0 [numR 2]) ?_
 repeat (first | refine wS rfl ?_)
 refine RL.callPP rfl rfl rfl rfl rfl (ofC_spec 8 0 [.mk 9 0 [numR 1], .mk 9 0 [numR 2]]) ?_
 skip
 refine RL.callPP rfl rfl rfl rfl rfl hand_spec ?_
 repeat (first | refine wS rfl ?_)
 refine RL.callPP rfl rfl rfl rfl rfl (ofC_spec 4 0 [handR]) ?_
 repeat (first | refine wS rfl ?_)
 refine RL.callPP rfl rfl rfl rfl rfl (ofC_spec 8 0 [.mk 8 0 [.mk 9 0 [numR 1], .mk 9 0 [numR 2]], .mk 4 0 [handR]]) ?_
 rw [CRaw.av_eq (.mk 8 0 [.mk 8 0 [.mk 9 0 [numR 1], .mk 9 0 [numR 2]], .mk 4 0 [handR]])]
 skip
 refine RL.newBox tO rfl rfl rfl rfl rfl rfl rfl (fun _ => rfl) rfl rfl (fun _ => rfl) rfl rfl rfl rfl ?_
 repeat (first | (with_reducible first | apply CW.seq | apply aN) | refine CW.reg ?_ | refine RL.nil ?_ | refine wS rfl ?_)
 refine RL.callPP rfl rfl rfl rfl rfl r4 ?_
 repeat (first | refine wS rfl ?_)
 refine RL.newBox tO rfl rfl rfl rfl rfl rfl rfl (fun _ => rfl) rfl rfl (fun _ => rfl) rfl rfl rfl rfl ?_
 repeat (first | (with_reducible first | apply CW.seq | apply aN | apply CW.block) | refine wR rfl ?_ | refine RL.nil ?_ | refine wS rfl ?_)
 have hpl : ((evs.map evA).length : Int) = evs.length := by simp
 refine CW.phantom hok 3 1 0 fun hok => ?_
 refine CW.loopL hok (σ := Nat × Own) (fun q => [(2, .int .i64 0), (8, .fptr [.int .i64 1, .int .i64 0, .slc 5 (evs.map evA) .fro, .int .i64 89] 0), (9, .slc 1 (((evs.take q.1).filterMap saidE).map intA) q.2), (142, .slc 5 (evs.map evA) .fro), (143, .int .i64 evs.length), (144, .int .i64 (q.1 : Int))]) (fun q => [(q.2, .row 3 1 ((evs.take q.1).filterMap saidE).length)]) (fun q => q.1 ≤ evs.length) (fun q => evs.length - q.1) (0, .nil) (Nat.zero_le _) ⟨⟨_, rfl, aRfl⟩, ⟨_, rfl, aRfl⟩, ⟨_, rfl, AVle.nil (by intro b h; cases h)⟩, ⟨_, rfl, aRfl⟩, ⟨_, rfl, by rw [hpl]; exact aRfl⟩, ⟨_, rfl, aRfl⟩, trivial⟩ (by repeat (first | exact Sels.nil | (apply Sels.cons; · repeat (first | exact Sel.here | apply Sel.there)))) ?_
 rintro ⟨j, own⟩ hj hok
 simp only at hj hok ⊢
 repeat (first | (with_reducible first | apply CW.seq | apply aN) | refine wR rfl ?_)
 refine CW.cond rfl (fun hlt => ?_) (fun hge => ?_)
 ·have hlt : j < evs.length := by simpa using hlt
  obtain ⟨y, hy, hy'⟩ := elem_at (f := evA) hlt
  have htk := take_filter saidE hy
  have hfl := List.length_filterMap_le saidE (evs.take j)
  rw [List.length_take] at hfl
  rw [evA_eq] at hy'
  repeat (first | (with_reducible first | apply CW.seq | apply aN | apply CW.skip | apply CW.block) | refine CW.reg ?_ | refine wS rfl ?_ | refine RL.idx tO _ rfl rfl rfl rfl rfl rfl rfl rfl rfl rfl rfl (by assumption) rfl ?_)
  refine RL.newBox tO rfl rfl rfl rfl rfl rfl rfl (fun _ => rfl) rfl rfl (fun _ => rfl) rfl rfl rfl rfl ?_
  repeat (first | (with_reducible first | apply CW.seq | apply aN) | refine wR rfl ?_ | refine RL.nil ?_)
  refine CW.cond rfl (fun hd => ?_) (fun hd => ?_)
  ·have h1 : saidE y = some y.val := if_pos (of_decide_eq_true hd)
   rw [h1] at htk
   repeat (first | refine CW.reg ?_ | refine wS rfl ?_)
   refine RL.append1L tO hok rfl rfl rfl rfl rfl rfl rfl (by intro k; simp) rfl rfl rfl rfl rfl rfl rfl rfl (by repeat (first | exact Sel.here | apply Sel.there)) (by simp <;> omega) (by show (_ + 1) * 8 ≤ _; omega) (by omega) (fun o2 hok => ?_)
   repeat (first | (with_reducible first | apply aN | apply iN) | refine wR rfl ?_ | refine RL.nil ?_ | refine wS rfl ?_)
   have hm : ((evs.take j).filterMap saidE).map intA ++ [intA y.val] = ((evs.take (j + 1)).filterMap saidE).map intA := by rw [htk, List.map_append]; rfl
   exact NextL.mk (j + 1, .own o2) hok hlt (by repeat (first | exact trivial | refine ⟨⟨_, rfl, aRfl⟩, ?_⟩ | refine ⟨⟨_, rfl, AVle.of_eq (by (first | rw [i64_succ (by omega)] | exact congrArg (fun l => AV.slc 1 l (Own.own o2)) hm | exact congrArg (fun l => AV.slc 1 l (Own.own o2)) hm.symm))⟩, ?_⟩)) (by simp only [htk, Option.toList, List.length_append, List.length_cons, List.length_nil]; exact .cons .here .nil) (by show evs.length - (j + 1) < evs.length - j; omega)
  ·have h1 : saidE y = none := if_neg (of_decide_eq_false hd)
   rw [h1, Option.toList, List.append_nil] at htk
   repeat (first | (with_reducible first | apply aN | apply iN | apply CW.skip) | refine wR rfl ?_)
   exact NextL.mk (j + 1, own) hok hlt (by repeat (first | exact trivial | refine ⟨⟨_, rfl, aRfl⟩, ?_⟩ | refine ⟨⟨_, rfl, AVle.of_eq (by (first | rw [i64_succ (by omega)] | rw [htk]))⟩, ?_⟩)) (by simp only [htk]; exact .cons .here .nil) (by show evs.length - (j + 1) < evs.length - j; omega)
 ·have hge : j = evs.length := by
   have : evs.length ≤ j := by simpa using hge
   omega
  subst hge
  rw [List.take_length, hsaid]
  repeat (first | (with_reducible first | apply CW.seq | apply aN | apply aX | apply iH | apply CW.exit) | refine CW.reg ?_ | refine wS rfl ?_)
  refine RL.callPP rfl rfl rfl rfl rfl (heq _) ?_
  repeat (first | refine wS rfl ?_)
  refine RL.callPP rfl rfl rfl rfl rfl known_true ?_
  repeat (first | (with_reducible first | apply aN | apply CW.ret) | refine RL.nil ?_ | refine wS rfl ?_)
  exact Fin.retP hok rfl aRfl
end Go.Proofs.Ytdeiinhccdlfiaa

/- Chapter 19: the law of plain programs. -/
namespace Go.Proofs.Ytdeiinhccdlfiaa
open Go.AE Go.Cond

mutual
theorem upC_all : ∀ x : CRaw, x.size ≤ 200 → upC x = x.size
  | .mk _ _ ks, h => by
    rw [CRaw.size] at h ⊢
    rw [upC, upsC_all ks 0 (by omega)]; omega
theorem upsC_all : ∀ (l : List CRaw) (n : Nat), n + CRaw.sizes l ≤ 200 → upsC l n = n + CRaw.sizes l
  | [], n, _ => by rw [upsC, CRaw.sizes]; rfl
  | x :: r, n, h => by
    rw [CRaw.sizes] at h ⊢
    have h0 := x.size_eq
    rw [upsC, if_pos (by omega), upC_all x (by omega), upsC_all r _ (by omega)]
    omega
end
theorem plain_sizes {P : List CExp} {b : Int} : ∀ l : List CExp, (∀ x ∈ l, OkE b x) → sizesE (l.map (plainP P)) ≤ sizesE l
  | [], _ => Nat.le_refl _
  | x :: r, h => by
    rw [List.map_cons, sizesE, sizesE]
    have := (plain_less (P := P) _ x (Nat.le_refl _) (h x List.mem_cons_self)).2.2
    have := plain_sizes (P := P) r fun y hy => h y (List.mem_cons_of_mem _ hy)
    omega
theorem mask_fair {l : List Ev} (h : ∀ e ∈ l, EvFair e) : ∀ e ∈ l.map Ev.mask, EvFair e := by
 intro e he
 obtain ⟨x, hx, rfl⟩ := List.mem_map.1 he
 exact ⟨by show ([] : List Int).length < big; decide, (h x hx).2⟩
theorem asked_same {P Q : List CExp} {hand : Int} {picks : List Int} {fuel : Int} (hp : goodP (P.map rawE) = true) (hq : goodP (Q.map rawE) = true) : askedB (P.map rawE) hand picks fuel = askedB (Q.map rawE) hand picks fuel := by
 unfold askedB
 rw [hp, hq]
set_option maxRecDepth 10000 in
set_option maxHeartbeats 1000000 in
theorem condPlained_spec (g : Giv) (hg : g.weight ≤ 1048576) : PCalls Try.prog 7 [.agg g.cells] (.bool true) := by
 have hb : big = 1099511627776 := rfl
 obtain ⟨p, hand, picks, fuel⟩ := g
 unfold Giv.weight at hg
 simp only at hg
 cases hgo : goodP p with
 | false =>
  have h1 := plainBad_spec p (by omega) hgo
  simp only [Giv.cells]
  refine PCalls.of_CW tO call7 Try.func7 rfl rfl fun s hok => ?_
  repeat (first | (with_reducible first | apply CW.seq | apply aN) | refine wR rfl ?_ | refine CW.reg ?_ | refine wS rfl ?_)
  refine RL.callPP rfl rfl rfl rfl rfl h1 ?_
  repeat (first | (with_reducible first | apply CW.seq | apply aN) | refine wR rfl ?_ | refine CW.reg ?_ | refine RL.nil ?_ | refine CW.condT rfl ?_ | refine wS rfl ?_)
  refine RL.callPP rfl rfl rfl rfl rfl known_true ?_
  repeat (first | (with_reducible first | apply aN | apply aR | apply CW.ret) | refine RL.nil ?_ | refine wS rfl ?_)
  exact Fin.retP hok rfl aRfl
 | true =>
  obtain ⟨P, rfl, ft⟩ := good_fit hgo
  have hsz := ft.sizes
  have fq := ft.plainFit
  have h1 := ft.plain
  have hsq := plain_sizes (P := P) P ft.ok
  have h2 := check_spec _ fq.bound
  have h3 := count_spec _ ((P.map (plainP P)).map rawE) (Nat.le_refl _) (by rw [sizes_raw]; omega)
  have h4 := count_spec _ (P.map rawE) (Nat.le_refl _) (by rw [sizes_raw]; omega)
  rw [upsC_all _ 0 (by rw [sizes_raw]; omega), sizes_raw] at h3 h4
  have h5 := driveT_spec (P.map rawE) (by rw [sizes_raw]; omega) hand picks (by omega) fuel
  have h6 := driveT_spec ((P.map (plainP P)).map rawE) (by rw [sizes_raw]; omega) hand picks (by omega) fuel
  have hsame := asked_same (hand := hand) (picks := picks) (fuel := fuel) ft.good fq.good
  rw [fq.good] at h2
  cases ha : askedB (P.map rawE) hand picks fuel with
  | false =>
   rw [driveT_bad ha] at h5
   rw [driveT_bad (hsame.symm.trans ha)] at h6
   generalize P.map (plainP P) = Q at *
   simp only [Giv.cells]
   simp only [progA, intsA, runA, runCells, noRun, List.map_nil, err] at h1 h2 h3 h4 h5 h6 ⊢
   refine PCalls.of_CW tO call7 Try.func7 rfl rfl fun s hok => ?_
   repeat (first | (with_reducible first | apply CW.seq | apply aN) | refine wR rfl ?_ | refine CW.reg ?_ | refine wS rfl ?_)
   refine RL.callPP rfl rfl rfl rfl rfl h1 ?_
   repeat (first | (with_reducible first | apply CW.seq | apply aN | apply CW.skip) | refine wR rfl ?_ | refine RL.nil ?_ | refine CW.condF rfl ?_ | refine wS rfl ?_)
   refine CW.drw tO mixed rfl (RD.runs (is := [0]) rfl ?_)
   refine RD.calmPP (i := 1) rfl rfl rfl rfl rfl rfl rfl h2 ?_
   refine RD.runs (is := [2, 3, 4, 6, 7]) rfl ?_
   refine RD.calmPP (i := 5) rfl rfl rfl rfl rfl rfl rfl h3 ?_
   refine RD.calmPP (i := 8) rfl rfl rfl rfl rfl rfl rfl h4 ?_
   refine RD.runs (is := [9]) rfl ?_
   refine RD.knowF 30 rfl (decide_eq_false (by omega)) ?_
   refine RD.run rfl (RD.done rfl ?_)
   repeat (first | (with_reducible first | apply CW.seq | apply aN | apply CW.skip) | refine CW.reg ?_ | refine CW.condF rfl ?_ | refine wS rfl ?_)
   refine RL.callPP rfl rfl rfl rfl rfl h5 ?_
   repeat (first | refine wS rfl ?_)
   refine RL.newBox tO rfl rfl rfl rfl rfl rfl rfl (fun _ => rfl) rfl rfl (fun _ => rfl) rfl rfl rfl rfl ?_
   repeat (first | (with_reducible first | apply CW.seq | apply aN) | refine CW.reg ?_ | refine RL.nil ?_ | refine wS rfl ?_)
   refine RL.callPP rfl rfl rfl rfl rfl h6 ?_
   repeat (first | refine wS rfl ?_)
   refine RL.newBox tO rfl rfl rfl rfl rfl rfl rfl (fun _ => rfl) rfl rfl (fun _ => rfl) rfl rfl rfl rfl ?_
   repeat (first | (with_reducible first | apply CW.seq | apply aN | apply CW.skip) | refine wR rfl ?_ | refine CW.reg ?_ | refine RL.nil ?_ | refine CW.condT rfl ?_ | refine CW.condF rfl ?_ | refine wS rfl ?_)
   refine RL.callPP rfl rfl rfl rfl rfl known_true ?_
   repeat (first | (with_reducible first | apply aN | apply aR | apply CW.ret) | refine RL.nil ?_ | refine wS rfl ?_)
   exact Fin.retP hok rfl aRfl
  | true =>
   obtain ⟨P', f, e1, rfl, A⟩ := asked_of ha
   obtain rfl := raws_inj e1
   have B : Asked (P.map (plainP P)) hand picks f := ⟨fq, hsame.symm.trans A.yes, A.few⟩
   rw [A.drive] at h5
   rw [B.drive] at h6
   have hfa := A.fair
   have hfb := B.fair
   have hlaw := drive_plainP ft.okC hand picks f
   generalize P.map (plainP P) = Q at *
   generalize drive P hand picks f = a at h5 hfa hlaw
   generalize drive Q hand picks f = b at h6 hfb hlaw
   simp only at hlaw
   have h7 := masked_spec a.evs (by omega)
   have h8 := masked_spec b.evs (by omega)
   have h9 := sameEvents_spec (a.evs.map Ev.mask) (b.evs.map Ev.mask) (by simp; omega) (by simp; omega) (mask_fair hfa.2) (mask_fair hfb.2)
   simp only [Giv.cells]
   simp only [progA, intsA, runA, runCells, err] at h1 h2 h3 h4 h5 h6 ⊢
   refine PCalls.of_CW tO call7 Try.func7 rfl rfl fun s hok => ?_
   repeat (first | (with_reducible first | apply CW.seq | apply aN) | refine wR rfl ?_ | refine CW.reg ?_ | refine wS rfl ?_)
   refine RL.callPP rfl rfl rfl rfl rfl h1 ?_
   repeat (first | (with_reducible first | apply CW.seq | apply aN | apply CW.skip) | refine wR rfl ?_ | refine RL.nil ?_ | refine CW.condF rfl ?_ | refine wS rfl ?_)
   refine CW.drw tO mixed rfl (RD.runs (is := [0]) rfl ?_)
   refine RD.calmPP (i := 1) rfl rfl rfl rfl rfl rfl rfl h2 ?_
   refine RD.runs (is := [2, 3, 4, 6, 7]) rfl ?_
   refine RD.calmPP (i := 5) rfl rfl rfl rfl rfl rfl rfl h3 ?_
   refine RD.calmPP (i := 8) rfl rfl rfl rfl rfl rfl rfl h4 ?_
   refine RD.runs (is := [9]) rfl ?_
   refine RD.knowF 30 rfl (decide_eq_false (by omega)) ?_
   refine RD.run rfl (RD.done rfl ?_)
   repeat (first | (with_reducible first | apply CW.seq | apply aN | apply CW.skip) | refine CW.reg ?_ | refine CW.condF rfl ?_ | refine wS rfl ?_)
   refine RL.callPP rfl rfl rfl rfl rfl h5 ?_
   repeat (first | refine wS rfl ?_)
   refine RL.newBox tO rfl rfl rfl rfl rfl rfl rfl (fun _ => rfl) rfl rfl (fun _ => rfl) rfl rfl rfl rfl ?_
   repeat (first | (with_reducible first | apply CW.seq | apply aN) | refine CW.reg ?_ | refine RL.nil ?_ | refine wS rfl ?_)
   refine RL.callPP rfl rfl rfl rfl rfl h6 ?_
   repeat (first | refine wS rfl ?_)
   refine RL.newBox tO rfl rfl rfl rfl rfl rfl rfl (fun _ => rfl) rfl rfl (fun _ => rfl) rfl rfl rfl rfl ?_
   repeat (first | (with_reducible first | apply CW.seq | apply aN | apply CW.skip) | refine wR rfl ?_ | refine RL.nil ?_ | refine CW.condF rfl ?_ | refine wS rfl ?_)
   refine CW.cond rfl (fun hh => ?_) (fun hh => ?_)
   ·repeat (first | with_reducible apply CW.seq | refine CW.reg ?_)
    refine RL.callPP rfl rfl rfl rfl rfl known_true ?_
    repeat (first | (with_reducible first | apply aN | apply aR | apply CW.ret) | refine RL.nil ?_ | refine wS rfl ?_)
    exact Fin.retP hok rfl aRfl
   ·rcases hlaw with h | ⟨e1, e2, e3, e4⟩
    ·exact absurd h (of_decide_eq_false hh)
    ·rw [e3, (evsB_iff _ _).2 rfl] at h9
     rw [e3] at h7
     repeat (with_reducible first | apply CW.seq | apply aN | apply CW.skip)
     refine CW.drw tO mixed rfl (RD.runs (is := [0, 1, 2, 3, 4, 5]) rfl ?_)
     refine RD.knowT 71 rfl (decide_eq_true e1) ?_
     refine RD.runs (is := [6, 7, 8, 9, 10, 11, 12]) rfl ?_
     refine RD.knowT 78 rfl (decide_eq_true e2) ?_
     refine RD.runs (is := [13, 14, 16, 17]) rfl ?_
     refine RD.calmPP (i := 15) rfl rfl rfl rfl rfl rfl rfl h7 ?_
     refine RD.calmPP (i := 18) rfl rfl rfl rfl rfl rfl rfl h8 ?_
     refine RD.calmPP (i := 19) rfl rfl rfl rfl rfl rfl rfl h9 ?_
     refine RD.runs (is := [20, 21, 22, 23, 24, 25, 26, 27, 28]) rfl ?_
     refine RD.knowT 94 rfl (decide_eq_true (by omega)) ?_
     refine RD.calmPP (i := 29) rfl rfl rfl rfl rfl rfl rfl known_true ?_
     refine RD.run rfl (RD.done rfl ?_)
     repeat (with_reducible first | apply aN | apply CW.ret)
     exact Fin.retP hok rfl aRfl
end Go.Proofs.Ytdeiinhccdlfiaa

/- Chapter 19: IndexFunc and ContainsFunc over events. -/
namespace Go.Proofs.Ytdeiinhccdlfiaa
open Go.AE Go.Cond

def idxE (f : Ev → Bool) (l : List Ev) (j : Nat) : Int := match (l.drop j).findIdx? f with
 | some i => ((j + i : Nat) : Int)
 | none => -1
theorem idxE_here {f : Ev → Bool} {l : List Ev} {j : Nat} {x : Ev} (hx : l[j]? = some x) (h : f x = true) : idxE f l j = (j : Int) := by
 unfold idxE
 rw [drop_cons hx, List.findIdx?_cons, h]; simp
theorem idxE_next {f : Ev → Bool} {l : List Ev} {j : Nat} {x : Ev} (hx : l[j]? = some x) (h : f x = false) : idxE f l j = idxE f l (j + 1) := by
 unfold idxE
 rw [drop_cons hx, List.findIdx?_cons, h]
 cases (l.drop (j + 1)).findIdx? f with
 | none => rfl
 | some i => simp; omega
theorem idxE_end {f : Ev → Bool} {l : List Ev} : idxE f l l.length = -1 := by
 unfold idxE
 rw [List.drop_length]; rfl
theorem idxE_any (f : Ev → Bool) (l : List Ev) : decide (idxE f l 0 ≥ 0) = l.any f := by
 unfold idxE
 rw [List.drop_zero]
 cases h : l.findIdx? f with
 | none =>
  rw [List.findIdx?_eq_none_iff] at h
  have : l.any f = false := by rw [List.any_eq_false]; intro x hx; simp [h x hx]
  rw [this]; rfl
 | some i =>
  rw [List.findIdx?_eq_some_iff_getElem] at h
  obtain ⟨hi, h1, _⟩ := h
  have : l.any f = true := List.any_eq_true.2 ⟨l[i], List.getElem_mem hi, h1⟩
  rw [this]; simp
set_option maxRecDepth 10000 in
set_option maxHeartbeats 1000000 in
theorem idxEv_spec (l : List Ev) (hl : l.length < big) (fv : AV) (f : Ev → Bool) (hf : ∀ x ∈ l, PCallV Try.prog fv [evA x] (.bool (f x))) :
  PCalls Try.prog 56 [.slc 5 (l.map evA) .fro, fv] (.int .i64 (idxE f l 0)) := by
 have hb : big = 1099511627776 := rfl
 have hpl : ((l.map evA).length : Int) = l.length := by simp
 refine PCalls.of_CW tO call56 Try.func56 rfl rfl fun s hok => ?_
 repeat (first | (with_reducible first | apply CW.seq | apply aN | apply CW.block) | refine wR rfl ?_)
 refine CW.loopL hok (σ := Nat) (fun j => [(0, .slc 5 (l.map evA) .fro), (1, fv), (7, .int .i64 l.length), (8, .int .i64 (j : Int))]) (fun _ => []) (fun j => j ≤ l.length ∧ idxE f l 0 = idxE f l j) (fun j => l.length - j) 0 ⟨Nat.zero_le _, rfl⟩ (by repeat (first | exact trivial | refine ⟨⟨_, rfl, aRfl⟩, ?_⟩ | refine ⟨⟨_, rfl, AVle.of_eq (by rw [hpl])⟩, ?_⟩)) (by repeat (first | exact Sels.nil | (apply Sels.cons; · repeat (first | exact Sel.here | apply Sel.there)))) ?_
 rintro j ⟨hj, hI⟩ hok
 repeat (first | (with_reducible first | apply CW.seq | apply aN) | refine wR rfl ?_)
 refine CW.cond rfl (fun hlt => ?_) (fun hge => ?_)
 ·have hlt : j < l.length := by simpa using hlt
  obtain ⟨y, hy, hy'⟩ := elem_at (f := evA) hlt
  have hcall := hf y (List.mem_of_getElem? hy)
  rw [evA_eq] at hy' hcall
  repeat (first | (with_reducible first | apply CW.seq | apply aN | apply CW.skip | apply CW.block) | refine wR rfl ?_ | refine CW.reg ?_ | refine wS rfl ?_ | refine RL.idx tO _ rfl rfl rfl rfl rfl rfl rfl rfl rfl rfl rfl (by assumption) rfl ?_)
  refine RL.callVP rfl rfl rfl rfl rfl rfl hcall ?_
  cases hfy : f y with
  | true =>
   rw [idxE_here hy hfy] at hI
   rw [hI]
   repeat (first | (with_reducible first | apply CW.seq | apply aN | apply aR | apply iR | apply CW.ret) | refine wR rfl ?_ | refine RL.nil ?_ | refine CW.condT rfl ?_)
   exact Fin.retP hok rfl aRfl
  | false =>
   rw [idxE_next hy hfy] at hI
   repeat (first | (with_reducible first | apply aN | apply iN | apply CW.skip) | refine wR rfl ?_ | refine RL.nil ?_ | refine CW.condF rfl ?_)
   exact NextL.mk (j + 1) hok ⟨hlt, hI⟩ (by repeat (first | exact trivial | refine ⟨⟨_, rfl, aRfl⟩, ?_⟩ | refine ⟨⟨_, rfl, AVle.of_eq (by (rw [i64_succ (by omega)]))⟩, ?_⟩)) (by repeat (first | exact Sels.nil | (apply Sels.cons; · repeat (first | exact Sel.here | apply Sel.there)))) (by show l.length - (j + 1) < l.length - j; omega)
 ·have hge : j = l.length := by
   have : l.length ≤ j := by simpa using hge
   omega
  subst hge
  rw [idxE_end] at hI
  rw [hI]
  repeat (first | (with_reducible first | apply CW.seq | apply aN | apply aX | apply iH | apply CW.ret | apply CW.exit) | refine wR rfl ?_)
  exact Fin.retP hok rfl aRfl
set_option maxRecDepth 10000 in
theorem hasEv_spec (l : List Ev) (hl : l.length < big) (fv : AV) (f : Ev → Bool) (hf : ∀ x ∈ l, PCallV Try.prog fv [evA x] (.bool (f x))) :
  PCalls Try.prog 20 [.slc 5 (l.map evA) .fro, fv] (.bool (l.any f)) := by
 have h := idxEv_spec l hl fv f hf
 refine PCalls.of_CW tO call20 Try.func20 rfl rfl fun s hok => ?_
 repeat (first | (with_reducible first | apply CW.seq | apply aN) | refine wR rfl ?_ | refine CW.reg ?_ | refine wS rfl ?_)
 refine RL.callPP rfl rfl rfl rfl rfl h ?_
 repeat (first | (with_reducible first | apply aN | apply CW.ret) | refine RL.nil ?_ | refine wS rfl ?_)
 exact Fin.retP hok rfl (AVle.of_eq (by rw [← idxE_any]))
end Go.Proofs.Ytdeiinhccdlfiaa

/- Chapter 19: the law of choices. -/
namespace Go.Proofs.Ytdeiinhccdlfiaa
open Go.AE Go.Cond

theorem idxI_mem (l : List Int) (n : Int) : decide (idxI l n ≥ 0) = decide (n ∈ l) := by
 unfold idxI
 cases h : l.findIdx? (· == n) with
 | none =>
  rw [List.findIdx?_eq_none_iff] at h
  have : n ∉ l := fun hn => by have := h n hn; simp at this
  simp [this]
 | some i =>
  rw [List.findIdx?_eq_some_iff_getElem] at h
  obtain ⟨hi, h1, _⟩ := h
  have : n ∈ l := by
   have e : l[i] = n := by simpa using h1
   rw [← e]; exact List.getElem_mem hi
  simp [this]
theorem runT_spec (p : List CRaw) (hp : CRaw.sizes p + 1 < big) (hand fuel : Int) :
  PCalls Try.prog 31 [.slc 3 (p.map CRaw.av) .fro, .int .i64 hand, .int .i64 fuel] (.tup [runA (driveT p hand [] fuel).1, .int .i64 (driveT p hand [] fuel).2]) := by
 unfold driveT
 split
 ·rename_i h
  obtain ⟨f, h1, h2, h3⟩ := (asked_of h).choose_spec
  generalize (asked_of h).choose = P at h1 h3
  subst h1 h2
  exact h3.fit.run hand f h3.yes
 ·rename_i h
  exact runBad_spec p hp hand fuel (by simpa using h)
theorem errorsT_spec (p : List CRaw) (hp : CRaw.sizes p + 1 < big) : ∃ (l : List (List Int)) (e : Int), PCalls Try.prog 13 [.slc 3 (p.map CRaw.av) .fro] (.tup [.slc 1 (l.map intsA) .fro, .int .i64 e]) := by
 cases hg : goodP p with
 | false => exact ⟨[], 2, errorsBad_spec p hp hg⟩
 | true =>
  obtain ⟨P, rfl, f⟩ := good_fit hg
  exact ⟨P.map (errs P), 0, f.errors⟩
theorem driveT_two (p : List CRaw) (hand : Int) (picks : List Int) (fuel : Int) : (driveT p hand picks fuel).2 = 0 ∨ (driveT p hand picks fuel).2 = 2 := by
 unfold driveT
 split
 ·exact .inl rfl
 ·exact .inr rfl
theorem Asked.none {P : List CExp} {hand : Int} {picks : List Int} {f : Nat} (h : Asked P hand picks f) : Asked P hand [] f := ⟨h.fit, by
 have := h.yes
 unfold askedB at this ⊢
 simp only [Bool.and_eq_true] at this ⊢
 exact ⟨⟨this.1.1, by decide⟩, rfl⟩, h.few⟩
theorem Asked.pos {P : List CExp} {hand : Int} {picks : List Int} {f : Nat} (h : Asked P hand picks f) : ∀ n ∈ picks, 0 ≤ n := fun n hn => by
 have := h.yes
 unfold askedB at this
 simp only [Bool.and_eq_true, Bool.not_eq_true', List.any_eq_false, decide_eq_true_eq] at this
 have := this.2 n hn
 omega
def chF (ls : List (List Int)) : AV := .func 32 [] [.fptr [.slc 1 (ls.map intsA) .fro] 0]
set_option maxRecDepth 10000 in
theorem choice1_spec (l : List Int) (r : List (List Int)) (hl : l.length < big) (e : Ev) : PCallV Try.prog (chF (l :: r)) [evA e] (.bool (e.deed == 2 && decide (e.n ∈ l))) := by
 have hc := slContains_spec l e.n hl
 rw [idxI_mem] at hc
 refine PCallV.of_calls (first := []) (cap := [.fptr [.slc 1 ((l :: r).map intsA) .fro] 0]) ?_
 rw [evA_eq]
 refine PCalls.of_CW tO call32 Try.func32 rfl rfl fun s hok => ?_
 repeat (first | (with_reducible first | apply CW.seq | apply aN) | refine wR rfl ?_)
 refine CW.drw tO mixed rfl (RD.runs (is := [0, 1, 2, 3]) rfl ?_)
 cases hd : e.deed == 2 with
 | true =>
  refine RD.knowT 7 rfl rfl ?_
  refine RD.runs (is := [4, 7, 8]) rfl ?_
  refine RD.idx 5 0 rfl rfl rfl rfl rfl rfl rfl rfl rfl rfl rfl rfl rfl rfl rfl ?_
  refine RD.runs (is := [6]) rfl ?_
  refine RD.calmPP (i := 9) rfl rfl rfl rfl rfl rfl rfl hc ?_
  refine RD.run rfl (RD.done rfl ?_)
  repeat (with_reducible first | apply aN | apply CW.ret)
  exact Fin.retP hok rfl aRfl
 | false =>
  refine RD.knowF 7 rfl rfl ?_
  refine RD.run rfl (RD.done rfl ?_)
  repeat (with_reducible first | apply aN | apply CW.ret)
  exact Fin.retP hok rfl aRfl
theorem drive_mem {P : List CExp} {e : CExp} {r : List CExp} (hP : P = e :: r) (he : OkC P e) {hand : Int} {f : Nat} (h : (drive P hand [] f).fin = 2) : (drive P hand [] f).evs.any (fun x => x.deed == 2 && decide (x.n ∈ errs P e)) = true := by
 obtain ⟨x, hx, h1, a, h2⟩ := drive_lost P hand [] f h
 have hg : P.getD 0 default = e := by rw [hP]; rfl
 rw [hg] at h2
 refine List.any_eq_true.2 ⟨x, hx, ?_⟩
 rw [h1]
 simpa using (mem_errs he x.n).2 ⟨a, h2⟩
set_option maxRecDepth 10000 in
set_option maxHeartbeats 2000000 in
theorem condChoice_spec (g : Giv) (hg : g.weight ≤ 1048576) : PCalls Try.prog 10 [.agg g.cells] (.bool true) := by
 have hb : big = 1099511627776 := rfl
 obtain ⟨p, hand, picks, fuel⟩ := g
 unfold Giv.weight at hg
 simp only at hg
 have h1 := runT_spec p (by omega) hand fuel
 have h2 := driveT_spec p (by omega) hand picks (by omega) fuel
 cases ha : askedB p hand picks fuel with
 | false =>
  obtain ⟨l, e, h3⟩ := errorsT_spec p (by omega)
  have ht := driveT_two p hand [] fuel
  rw [driveT_bad ha] at h2
  generalize driveT p hand [] fuel = dt at h1 ht
  simp only [Giv.cells]
  simp only [intsA, runA, runCells, noRun, List.map_nil] at h1 h2 ⊢
  refine PCalls.of_CW tO call10 Try.func10 rfl rfl fun s hok => ?_
  repeat (first | (with_reducible first | apply CW.seq | apply aN) | refine wR rfl ?_ | refine CW.reg ?_ | refine wS rfl ?_)
  refine RL.callPP rfl rfl rfl rfl rfl h1 ?_
  repeat (first | refine wS rfl ?_)
  refine RL.newBox tO rfl rfl rfl rfl rfl rfl rfl (fun _ => rfl) rfl rfl (fun _ => rfl) rfl rfl rfl rfl ?_
  repeat (first | (with_reducible first | apply CW.seq | apply aN) | refine CW.reg ?_ | refine RL.nil ?_ | refine wS rfl ?_)
  refine RL.callPP rfl rfl rfl rfl rfl h2 ?_
  repeat (first | refine wS rfl ?_)
  refine RL.newBox tO rfl rfl rfl rfl rfl rfl rfl (fun _ => rfl) rfl rfl (fun _ => rfl) rfl rfl rfl rfl ?_
  repeat (first | (with_reducible first | apply CW.seq | apply aN) | refine CW.reg ?_ | refine RL.nil ?_ | refine wS rfl ?_)
  refine RL.callPP rfl rfl rfl rfl rfl h3 ?_
  repeat (first | refine wS rfl ?_)
  refine RL.newBox tO rfl rfl rfl rfl rfl rfl rfl (fun _ => rfl) rfl rfl (fun _ => rfl) rfl rfl rfl rfl ?_
  rcases ht with h | h
  ·rw [h]
   repeat (first | (with_reducible first | apply CW.seq | apply aN) | refine wR rfl ?_ | refine CW.reg ?_ | refine RL.nil ?_ | refine CW.condT rfl ?_ | refine wS rfl ?_)
   refine RL.callPP rfl rfl rfl rfl rfl known_true ?_
   repeat (first | (with_reducible first | apply aN | apply aR | apply CW.ret) | refine RL.nil ?_ | refine wS rfl ?_)
   exact Fin.retP hok rfl aRfl
  ·rw [h]
   repeat (first | (with_reducible first | apply CW.seq | apply aN) | refine wR rfl ?_ | refine CW.reg ?_ | refine RL.nil ?_ | refine CW.condT rfl ?_ | refine wS rfl ?_)
   refine RL.callPP rfl rfl rfl rfl rfl known_true ?_
   repeat (first | (with_reducible first | apply aN | apply aR | apply CW.ret) | refine RL.nil ?_ | refine wS rfl ?_)
   exact Fin.retP hok rfl aRfl
 | true =>
  obtain ⟨P, f, rfl, rfl, A⟩ := asked_of ha
  rw [A.none.drive] at h1
  rw [A.drive] at h2
  have ft := A.fit
  have h3 := ft.errors
  obtain ⟨e, r, hPe⟩ : ∃ e r, P = e :: r := by
   have := ft.one
   match P, this with
   | e :: r, _ => exact ⟨e, r, rfl⟩
  have heC : OkC P e := ft.okC e (by rw [hPe]; exact List.mem_cons_self)
  have hels : P.map (errs P) = errs P e :: r.map (errs P) := by rw [show P.map (errs P) = (e :: r).map (errs P) by rw [← hPe]]; rfl
  have hlen : (errs P e).length < big := by
   have h4 := roundM_len (k := 10) (P := P) (mayL P e) (foldT 10 (rawE e) [])
   have h5 := foldT_len 10 (rawE e) []
   have h6 := mayL_few heC
   have h7 : (mayL P e).length * (sizesE P + 1) ≤ 6 * 81 := Nat.mul_le_mul (by have := ft.six; omega) (by have := ft.sizes; omega)
   rw [← errsR_eq heC, errsR]
   have h8 := mem_sizesE (show e ∈ P by rw [hPe]; exact List.mem_cons_self)
   have h9 := ft.sizes
   rw [size_raw, List.length_nil] at h5
   omega
  rw [hels] at h3
  have hmem := fun h => drive_mem (hand := hand) (f := f) hPe heC h
  have hpos := A.pos
  have hfa := A.none.fair
  have hfb := A.fair
  have hlaw := drive_choice P hand picks f
  generalize drive P hand [] f = a at h1 hfa hlaw hmem
  generalize drive P hand picks f = b at h2 hfb hlaw
  generalize errs P e = l0 at h3 hlen hmem
  generalize r.map (errs P) = ls at h3
  simp only at hlaw
  have hany := hasEv_spec a.evs (by omega) (chF (l0 :: ls)) (fun x => x.deed == 2 && decide (x.n ∈ l0)) fun x _ => choice1_spec l0 ls hlen x
  have hpre : ∃ l, b.evs = a.evs ++ l := by
   rcases hlaw with ⟨_, n, v, hs, rs, l, p, pt, h, _⟩ | h
   ·exact ⟨_, h⟩
   ·exact ⟨[], by rw [h, List.append_nil]⟩
  have hle : a.evs.length ≤ b.evs.length := by
   obtain ⟨l, h⟩ := hpre
   rw [h, List.length_append]; omega
  have hev : PCalls Try.prog 23 [.slc 5 (a.evs.map evA) .fro, .slc 5 (((b.evs.map evA).take (a.evs.map evA).length).drop 0) .fro] (.bool true) := by
   obtain ⟨l, h⟩ := hpre
   have h4 := sameEvents_spec a.evs a.evs (by omega) (by omega) hfa.2 hfa.2
   rw [(evsB_iff _ _).2 rfl] at h4
   rw [h, List.map_append, List.take_left, List.drop_zero]
   exact h4
  have hsame := same_spec a b (by omega) (by omega) hfa.2 hfb.2
  simp only [Giv.cells]
  unfold chF at hany
  simp only [progA, intsA, runA, runCells, List.map_cons] at h1 h2 h3 hsame hany ⊢
  refine PCalls.of_CW tO call10 Try.func10 rfl rfl fun s hok => ?_
  repeat (first | (with_reducible first | apply CW.seq | apply aN) | refine wR rfl ?_ | refine CW.reg ?_ | refine wS rfl ?_)
  refine RL.callPP rfl rfl rfl rfl rfl h1 ?_
  repeat (first | refine wS rfl ?_)
  refine RL.newBox tO rfl rfl rfl rfl rfl rfl rfl (fun _ => rfl) rfl rfl (fun _ => rfl) rfl rfl rfl rfl ?_
  repeat (first | (with_reducible first | apply CW.seq | apply aN) | refine CW.reg ?_ | refine RL.nil ?_ | refine wS rfl ?_)
  refine RL.callPP rfl rfl rfl rfl rfl h2 ?_
  repeat (first | refine wS rfl ?_)
  refine RL.newBox tO rfl rfl rfl rfl rfl rfl rfl (fun _ => rfl) rfl rfl (fun _ => rfl) rfl rfl rfl rfl ?_
  repeat (first | (with_reducible first | apply CW.seq | apply aN) | refine CW.reg ?_ | refine RL.nil ?_ | refine wS rfl ?_)
  refine RL.callPP rfl rfl rfl rfl rfl h3 ?_
  repeat (first | refine wS rfl ?_)
  refine RL.newBox tO rfl rfl rfl rfl rfl rfl rfl (fun _ => rfl) rfl rfl (fun _ => rfl) rfl rfl rfl rfl ?_
  repeat (first | (with_reducible first | apply CW.seq | apply aN | apply CW.skip) | refine wR rfl ?_ | refine RL.nil ?_ | refine CW.condF rfl ?_ | refine wS rfl ?_)
  refine CW.drw tO mixed rfl (RD.runs (is := [0, 1, 2, 3, 4, 5, 6, 7, 8, 9]) rfl ?_)
  refine RD.knowF 55 rfl (decide_eq_false (by simp; omega)) ?_
  refine RD.runs (is := [10, 11, 12, 13, 14, 15, 16, 17, 18]) rfl ?_
  refine RD.slice 19 0 (a.evs.map evA).length rfl rfl rfl rfl rfl rfl rfl rfl rfl rfl (.inr rfl) (.inl ⟨rfl, rfl⟩) (.inr ⟨_, _, rfl, rfl⟩) (.inl ⟨rfl, rfl⟩) (Nat.zero_le _) (by simpa using hle) ?_
  refine RD.calmPP (i := 20) rfl rfl rfl rfl rfl rfl rfl hev ?_; refine RD.run rfl ?_
  refine RD.done rfl ?_
  repeat (first | (with_reducible first | apply CW.seq | apply aN | apply CW.skip) | refine wR rfl ?_ | refine CW.condF rfl ?_)
  refine CW.cond rfl (fun hh => ?_) (fun hh => ?_)
  ·rcases hlaw with ⟨h, _⟩ | h
   ·exact absurd h (by simpa using hh)
   ·have hrb : runB a b = true := by subst h; simp [runB, (evsB_iff _ _).2 rfl]
    rw [hrb] at hsame
    repeat (first | with_reducible apply CW.seq | refine CW.reg ?_ | refine wS rfl ?_)
    refine RL.callPP rfl rfl rfl rfl rfl hsame ?_
    repeat (first | refine wS rfl ?_)
    refine RL.callPP rfl rfl rfl rfl rfl known_true ?_
    repeat (first | (with_reducible first | apply aN | apply aR | apply CW.ret) | refine RL.nil ?_ | refine wS rfl ?_)
    exact Fin.retP hok rfl aRfl
  ·have hlost : a.fin = 2 := by simpa using hh
   rw [hmem hlost] at hany
   repeat (first | (with_reducible first | apply CW.seq | apply aN | apply CW.skip) | refine wR rfl ?_ | refine CW.reg ?_ | refine wS rfl ?_)
   refine RL.knowF 84 rfl (decide_eq_false (by simp; omega)) ?_
   skip
   refine RL.callPP rfl rfl rfl rfl rfl hany ?_
   repeat (first | (with_reducible first | apply CW.seq | apply aN | apply CW.skip) | refine wR rfl ?_ | refine RL.nil ?_ | refine CW.condF rfl ?_ | refine wS rfl ?_)
   rcases hlaw with ⟨_, n, v, hs, rs, l, p, pt, e1, e2, rfl, e4⟩ | h
   ·refine CW.cond rfl (fun hq => ?_) (fun hq => ?_)
    ·have hq : (b.evs.length : Int) = a.evs.length := by simpa using hq
     have : b.evs.length = a.evs.length := by omega
     rw [e1] at this
     simp at this
    ·have hel : (b.evs.map evA)[(a.evs.map evA).length]? = some (.agg [.int .i64 4, .int .i64 n, .int .i64 v, .slc 1 (hs.map intA) .fro, .slc 1 (rs.map intA) .fro]) := by
      rw [List.length_map, List.getElem?_map, e1, List.getElem?_append_right (Nat.le_refl _), Nat.sub_self]; rfl
     have hrl : 0 < rs.length := List.length_pos_iff.2 e2
     have hp0 : 0 ≤ p := hpos p List.mem_cons_self
     have hm1 := Int.emod_lt_of_pos p (show (0 : Int) < rs.length by omega)
     have hm2 := Int.emod_nonneg p (show (rs.length : Int) ≠ 0 by omega)
     have hj : ((p % rs.length).toNat : Int) = p % rs.length := Int.toNat_of_nonneg hm2
     have hrem : p.tmod ((rs.map intA).length : Int) = ((p % rs.length).toNat : Int) := by
      rw [hj, List.length_map, Int.tmod_eq_emod_of_nonneg hp0]
     have hrj : (rs.map intA)[(p % rs.length).toNat]? = some (.int .i64 n) := by
      rw [List.getElem?_map]
      rw [List.getD_eq_getElem?_getD, List.getElem?_eq_getElem (by omega)] at e4
      rw [List.getElem?_eq_getElem (by omega)]
      have e4' : rs[(p % rs.length).toNat] = n := e4
      rw [e4']; rfl
     repeat (first | (with_reducible first | apply CW.seq | apply aN | apply CW.skip) | refine CW.reg ?_ | refine wS rfl ?_ | refine RL.idx tO _ rfl rfl rfl rfl rfl rfl rfl rfl rfl rfl rfl (by assumption) rfl ?_)
     refine RL.newBox tO rfl rfl rfl rfl rfl rfl rfl (fun _ => rfl) rfl rfl (fun _ => rfl) rfl rfl rfl rfl ?_
     repeat (first | (with_reducible first | apply CW.seq | apply aN) | refine RL.nil ?_)
     refine CW.drw tO mixed rfl (RD.runs (is := [0, 1, 2, 3, 4]) rfl ?_)
     refine RD.knowT 111 rfl (decide_eq_true (by simp)) ?_
     refine RD.runs (is := [5, 6]) rfl ?_
     refine RD.idx 7 0 rfl rfl rfl rfl rfl rfl rfl rfl rfl rfl rfl rfl rfl rfl rfl ?_
     refine RD.runs (is := [8, 9, 10, 11]) rfl ?_
     refine RD.knowT 118 rfl (decide_eq_true hp0) ?_
     refine RD.runs (is := [12, 13, 14, 15, 16, 17, 18, 19, 20, 21, 22]) rfl ?_
     refine RD.knowT 129 rfl (decide_eq_true (by simp; omega)) ?_
     refine RD.runs (is := [23, 24, 25, 26]) rfl ?_
     refine RD.idx 27 0 rfl rfl rfl rfl rfl rfl rfl rfl rfl rfl rfl rfl rfl rfl rfl ?_
     refine RD.runs (is := [28, 29, 30, 31]) rfl ?_
     refine RD.calm (i := 32) rfl rfl rfl rfl rfl (fun _ => OW.rem rfl rfl rfl (by simp; omega) hrem) ?_
     refine RD.idx 33 (p % rs.length).toNat rfl rfl rfl rfl rfl rfl rfl rfl rfl rfl rfl rfl rfl hrj rfl ?_
     refine RD.runs (is := [34, 35, 36, 37, 38, 39]) rfl ?_
     refine RD.knowT 146 rfl (decide_eq_true rfl) ?_
     refine RD.calmPP (i := 40) rfl rfl rfl rfl rfl rfl rfl known_true ?_
     refine RD.run rfl (RD.done rfl ?_)
     repeat (with_reducible first | apply aN | apply CW.ret)
     exact Fin.retP hok rfl aRfl
   ·have hrb : runB a b = true := by subst h; simp [runB, (evsB_iff _ _).2 rfl]
    rw [hrb] at hsame
    refine CW.cond rfl (fun hq => ?_) (fun hq => ?_)
    ·repeat (first | with_reducible apply CW.seq | refine CW.reg ?_ | refine wS rfl ?_)
     refine RL.callPP rfl rfl rfl rfl rfl hsame ?_
     repeat (first | refine wS rfl ?_)
     refine RL.callPP rfl rfl rfl rfl rfl known_true ?_
     repeat (first | (with_reducible first | apply aN | apply aR | apply CW.ret) | refine RL.nil ?_ | refine wS rfl ?_)
     exact Fin.retP hok rfl aRfl
    ·exfalso
     subst h
     simp at hq
end Go.Proofs.Ytdeiinhccdlfiaa

/- Chapter 19: the law of events. -/
namespace Go.Proofs.Ytdeiinhccdlfiaa
open Go.AE Go.Cond

def spotK (y x : Ev) : Int := (y.hs.length : Int) - x.hs.length - 1
def tailV (y x : Ev) : Bool := decide (spotK y x ≥ 0) && (y.hs[(spotK y x).toNat]? == some x.n && intsB (y.hs.drop ((spotK y x).toNat + 1)) x.hs)
def askedV (y x : Ev) : Bool := if y.deed = 2 ∧ y.val = x.val ∧ y.rs = x.rs ∧ (x.n = y.n ∨ x.n = -1) then tailV y x else false
theorem askedV_of {y x : Ev} (h : Cond.asked y x) : askedV y x = true := by
 obtain ⟨h1, h2, h3, h4, pre, h5⟩ := h
 unfold askedV
 rw [if_pos ⟨h1, h2, h3, h4⟩]
 have hk : spotK y x = (pre.length : Int) := by
  unfold spotK
  rw [h5, List.length_append, List.length_cons]; omega
 have hd : (pre ++ x.n :: x.hs).drop (pre.length + 1) = x.hs := by
  rw [List.drop_append, List.drop_of_length_le (by omega)]; simp
 unfold tailV
 rw [hk, h5, Int.toNat_natCast, List.getElem?_append_right (Nat.le_refl _), Nat.sub_self, hd, (intsB_iff _ _).2 rfl]
 simp
set_option maxRecDepth 10000 in
set_option maxHeartbeats 1000000 in
theorem asked_spec (y x : Ev) (hy : EvFair y) (hx : EvFair x) : PCalls Try.prog 37 [evA y, evA x] (.bool (askedV y x)) := by
 have hb : big = 1099511627776 := rfl
 have hf1 := hy.1
 have hf2 := hx.1
 have he := slEqual_spec y.rs x.rs hy.2 hx.2
 have hk : IntKind.wrap .i64 (IntKind.wrap .i64 (((y.hs.map intA).length : Int) - ((x.hs.map intA).length : Int)) - 1) = spotK y x := by
  unfold spotK
  rw [List.length_map, List.length_map, i64_wrap (n := (y.hs.length : Int) - x.hs.length) (by omega) (by omega), i64_wrap (by omega) (by omega)]
 unfold evA evCells
 simp only [intsA] at he ⊢
 refine PCalls.of_CW tO call37 Try.func37 rfl rfl fun s hok => ?_
 repeat (first | (with_reducible first | apply CW.seq | apply aN) | refine wR rfl ?_ | refine CW.reg ?_ | refine wS rfl ?_)
 by_cases h1 : y.deed = 2
 rotate_left
 ·refine RL.knowT 9 rfl (by simpa using h1) ?_
  repeat (first | (with_reducible first | apply CW.seq | apply aN | apply aR | apply CW.ret) | refine wR rfl ?_ | refine RL.nil ?_ | refine CW.condT rfl ?_ | refine wS rfl ?_ | refine RL.skip rfl rfl rfl ?_)
  exact Fin.retP hok rfl (AVle.of_eq (by rw [askedV, if_neg (fun h => h1 h.1)]))
 refine RL.knowF 9 rfl (by simpa using h1) ?_
 repeat (first | refine wS rfl ?_)
 by_cases h2 : y.val = x.val
 rotate_left
 ·refine RL.knowT 16 rfl (by simpa using h2) ?_
  repeat (first | (with_reducible first | apply CW.seq | apply aN | apply aR | apply CW.ret) | refine wR rfl ?_ | refine RL.nil ?_ | refine CW.condT rfl ?_ | refine wS rfl ?_ | refine RL.skip rfl rfl rfl ?_)
  exact Fin.retP hok rfl (AVle.of_eq (by rw [askedV, if_neg (fun h => h2 h.2.1)]))
 refine RL.knowF 16 rfl (by simpa using h2) ?_
 repeat (first | refine wS rfl ?_)
 refine RL.callPP rfl rfl rfl rfl rfl he ?_
 by_cases h3 : y.rs = x.rs
 rotate_left
 ·have : intsB y.rs x.rs = false := by
   cases hq : intsB y.rs x.rs with
   | false => rfl
   | true => exact absurd ((intsB_iff _ _).1 hq) h3
  rw [this]
  repeat (first | (with_reducible first | apply CW.seq | apply aN | apply aR | apply CW.ret) | refine wR rfl ?_ | refine RL.nil ?_ | refine CW.condT rfl ?_ | refine wS rfl ?_ | refine RL.skip rfl rfl rfl ?_)
  exact Fin.retP hok rfl (AVle.of_eq (by rw [askedV, if_neg (fun h => h3 h.2.2.1)]))
 rw [(intsB_iff _ _).2 h3]
 repeat (first | refine wS rfl ?_)
 by_cases h4 : x.n = y.n
 ·have hv : askedV y x = tailV y x := by rw [askedV, if_pos ⟨h1, h2, h3, .inl h4⟩]
  refine RL.knowF 30 rfl (by simpa using h4) ?_
  repeat (first | (with_reducible first | apply CW.seq | apply aN | apply CW.skip) | refine wR rfl ?_ | refine RL.nil ?_ | refine CW.condF rfl ?_ | refine wS rfl ?_ | refine RL.skip rfl rfl rfl ?_)
  rw [hk]
  refine CW.drw tO mixed rfl (RD.runs (is := [0, 1, 2]) rfl ?_)
  by_cases h5 : spotK y x ≥ 0
  ·obtain ⟨j, hj⟩ : ∃ j : Nat, spotK y x = (j : Int) := ⟨_, (Int.toNat_of_nonneg h5).symm⟩
   refine RD.knowT 46 rfl (decide_eq_true h5) ?_
   have hjn : (spotK y x).toNat = j := by rw [hj]; rfl
   rw [hj]
   have hjl : j + x.hs.length + 1 = y.hs.length := by unfold spotK at hj; omega
   have hel : (y.hs.map intA)[j]? = some (.int .i64 (y.hs[j]'(by omega))) := by rw [List.getElem?_map, List.getElem?_eq_getElem (by omega)]; rfl
   have hel2 : y.hs[j]? = some (y.hs[j]'(by omega)) := List.getElem?_eq_getElem (by omega)
   generalize y.hs[j]'(by omega) = z at hel hel2
   refine RD.runs (is := [3, 4, 5]) rfl ?_
   refine RD.idx 6 j rfl rfl rfl rfl rfl rfl rfl rfl rfl rfl rfl rfl rfl hel rfl ?_
   refine RD.runs (is := [7, 8, 9, 10, 11, 12]) rfl ?_
   by_cases h6 : z = x.n
   ·refine RD.knowT 56 rfl (decide_eq_true h6) ?_
    refine RD.runs (is := [13, 14, 15, 16]) rfl ?_
    refine RD.slice 17 (j + 1) (y.hs.map intA).length rfl rfl rfl rfl rfl rfl rfl rfl rfl rfl (.inr rfl) (.inr ⟨_, .i64, rfl, congrArg (fun z => some (AV.int .i64 z)) (i64_succ (by omega))⟩) (.inl ⟨rfl, rfl, rfl⟩) (.inl ⟨rfl, rfl⟩) (by simp; omega) (Nat.le_refl _) ?_
    refine RD.runs (is := [18, 19]) rfl ?_
    have heq2 : PCalls Try.prog 35 [.slc 1 (((y.hs.map intA).take (y.hs.map intA).length).drop (j + 1)) .fro, .slc 1 (x.hs.map intA) .fro] (.bool (intsB (y.hs.drop (j + 1)) x.hs)) := by
     rw [List.take_length, ← List.map_drop]
     exact slEqual_spec (y.hs.drop (j + 1)) x.hs (by simp; omega) hf2
    refine RD.calmPP (i := 20) rfl rfl rfl rfl rfl rfl rfl heq2 ?_
    refine RD.run rfl (RD.done rfl ?_)
    repeat (with_reducible first | apply aN | apply CW.ret)
    exact Fin.retP hok rfl (AVle.of_eq (by rw [hv, tailV, decide_eq_true h5, hjn, hel2, h6]; simp))
   ·refine RD.knowF 56 rfl (decide_eq_false h6) ?_
    refine RD.run rfl (RD.done rfl ?_)
    repeat (with_reducible first | apply aN | apply CW.ret)
    exact Fin.retP hok rfl (AVle.of_eq (by rw [hv, tailV, decide_eq_true h5, hjn, hel2]; simp [h6]))
  ·refine RD.knowF 46 rfl (decide_eq_false h5) ?_
   refine RD.run rfl (RD.done rfl ?_)
   repeat (with_reducible first | apply aN | apply CW.ret)
   exact Fin.retP hok rfl (AVle.of_eq (by rw [hv, tailV, decide_eq_false h5]; rfl))
 ·refine RL.knowT 30 rfl (by simpa using h4) ?_
  repeat (first | with_reducible apply aN | refine RL.nil ?_ | refine wS rfl ?_)
  refine CW.cond rfl (fun hh => ?_) (fun hh => ?_)
  ·have h7 : x.n ≠ -1 := by simpa using hh
   repeat (first | (with_reducible first | apply CW.seq | apply aN | apply aR | apply CW.ret) | refine wR rfl ?_)
   exact Fin.retP hok rfl (AVle.of_eq (by rw [askedV, if_neg (fun h => by rcases h.2.2.2 with h | h; exact h4 h; exact h7 h)]))
  ·have h7 : x.n = -1 := by simpa using hh
   have hv : askedV y x = tailV y x := by rw [askedV, if_pos ⟨h1, h2, h3, .inr h7⟩]
   repeat (first | (with_reducible first | apply CW.seq | apply aN | apply CW.skip) | refine wR rfl ?_)
   rw [hk]
   refine CW.drw tO mixed rfl (RD.runs (is := [0, 1, 2]) rfl ?_)
   by_cases h5 : spotK y x ≥ 0
   ·obtain ⟨j, hj⟩ : ∃ j : Nat, spotK y x = (j : Int) := ⟨_, (Int.toNat_of_nonneg h5).symm⟩
    refine RD.knowT 46 rfl (decide_eq_true h5) ?_
    have hjn : (spotK y x).toNat = j := by rw [hj]; rfl
    rw [hj]
    have hjl : j + x.hs.length + 1 = y.hs.length := by unfold spotK at hj; omega
    have hel : (y.hs.map intA)[j]? = some (.int .i64 (y.hs[j]'(by omega))) := by rw [List.getElem?_map, List.getElem?_eq_getElem (by omega)]; rfl
    have hel2 : y.hs[j]? = some (y.hs[j]'(by omega)) := List.getElem?_eq_getElem (by omega)
    generalize y.hs[j]'(by omega) = z at hel hel2
    refine RD.runs (is := [3, 4, 5]) rfl ?_
    refine RD.idx 6 j rfl rfl rfl rfl rfl rfl rfl rfl rfl rfl rfl rfl rfl hel rfl ?_
    refine RD.runs (is := [7, 8, 9, 10, 11, 12]) rfl ?_
    by_cases h6 : z = x.n
    ·refine RD.knowT 56 rfl (decide_eq_true h6) ?_
     refine RD.runs (is := [13, 14, 15, 16]) rfl ?_
     refine RD.slice 17 (j + 1) (y.hs.map intA).length rfl rfl rfl rfl rfl rfl rfl rfl rfl rfl (.inr rfl) (.inr ⟨_, .i64, rfl, congrArg (fun z => some (AV.int .i64 z)) (i64_succ (by omega))⟩) (.inl ⟨rfl, rfl, rfl⟩) (.inl ⟨rfl, rfl⟩) (by simp; omega) (Nat.le_refl _) ?_
     refine RD.runs (is := [18, 19]) rfl ?_
     have heq2 : PCalls Try.prog 35 [.slc 1 (((y.hs.map intA).take (y.hs.map intA).length).drop (j + 1)) .fro, .slc 1 (x.hs.map intA) .fro] (.bool (intsB (y.hs.drop (j + 1)) x.hs)) := by
      rw [List.take_length, ← List.map_drop]
      exact slEqual_spec (y.hs.drop (j + 1)) x.hs (by simp; omega) hf2
     refine RD.calmPP (i := 20) rfl rfl rfl rfl rfl rfl rfl heq2 ?_
     refine RD.run rfl (RD.done rfl ?_)
     repeat (with_reducible first | apply aN | apply CW.ret)
     exact Fin.retP hok rfl (AVle.of_eq (by rw [hv, tailV, decide_eq_true h5, hjn, hel2, h6]; simp))
    ·refine RD.knowF 56 rfl (decide_eq_false h6) ?_
     refine RD.run rfl (RD.done rfl ?_)
     repeat (with_reducible first | apply aN | apply CW.ret)
     exact Fin.retP hok rfl (AVle.of_eq (by rw [hv, tailV, decide_eq_true h5, hjn, hel2]; simp [h6]))
   ·refine RD.knowF 46 rfl (decide_eq_false h5) ?_
    refine RD.run rfl (RD.done rfl ?_)
    repeat (with_reducible first | apply aN | apply CW.ret)
    exact Fin.retP hok rfl (AVle.of_eq (by rw [hv, tailV, decide_eq_false h5]; rfl))
def eventF (x : Ev) : AV := .func 36 [] [.fptr (evCells x) 0]
set_option maxRecDepth 10000 in
theorem events1_spec (x y : Ev) (hx : EvFair x) (hy : EvFair y) : PCallV Try.prog (eventF x) [evA y] (.bool (askedV y x)) := by
 have h := asked_spec y x hy hx
 refine PCallV.of_calls (first := []) (cap := [.fptr (evCells x) 0]) ?_
 unfold evA evCells at h ⊢
 refine PCalls.of_CW tO call36 Try.func36 rfl rfl fun s hok => ?_
 repeat (first | (with_reducible first | apply CW.seq | apply aN) | refine wR rfl ?_ | refine CW.reg ?_ | refine wS rfl ?_)
 refine RL.callPP rfl rfl rfl rfl rfl h ?_
 repeat (first | (with_reducible first | apply aN | apply CW.ret) | refine RL.nil ?_ | refine wS rfl ?_)
 exact Fin.retP hok rfl aRfl
set_option maxRecDepth 10000 in
set_option maxHeartbeats 2000000 in
theorem condEvents_spec (g : Giv) (hg : g.weight ≤ 1048576) : PCalls Try.prog 12 [.agg g.cells] (.bool true) := by
 have hb : big = 1099511627776 := rfl
 obtain ⟨p, hand, picks, fuel⟩ := g
 unfold Giv.weight at hg
 simp only at hg
 have h2 := driveT_spec p (by omega) hand picks (by omega) fuel
 cases ha : askedB p hand picks fuel with
 | false =>
  rw [driveT_bad ha] at h2
  simp only [Giv.cells]
  simp only [intsA, runA, runCells, noRun, List.map_nil] at h2 ⊢
  refine PCalls.of_CW tO call12 Try.func12 rfl rfl fun s hok => ?_
  repeat (first | (with_reducible first | apply CW.seq | apply aN) | refine wR rfl ?_ | refine CW.reg ?_ | refine wS rfl ?_)
  refine RL.callPP rfl rfl rfl rfl rfl h2 ?_
  repeat (first | refine wS rfl ?_)
  refine RL.newBox tO rfl rfl rfl rfl rfl rfl rfl (fun _ => rfl) rfl rfl (fun _ => rfl) rfl rfl rfl rfl ?_
  repeat (first | (with_reducible first | apply CW.seq | apply aN) | refine wR rfl ?_ | refine CW.reg ?_ | refine RL.nil ?_ | refine CW.condT rfl ?_ | refine wS rfl ?_)
  refine RL.callPP rfl rfl rfl rfl rfl known_true ?_
  repeat (first | (with_reducible first | apply aN | apply aR | apply CW.ret) | refine RL.nil ?_ | refine wS rfl ?_)
  exact Fin.retP hok rfl aRfl
 | true =>
  obtain ⟨P, f, rfl, rfl, A⟩ := asked_of ha
  rw [A.drive] at h2
  have hfb := A.fair
  have hfine := drive_events P hand picks f
  generalize drive P hand picks f = b at h2 hfb hfine
  have hpl : ((b.evs.map evA).length : Int) = b.evs.length := by simp
  simp only [Giv.cells]
  simp only [intsA, runA, runCells] at h2 ⊢
  refine PCalls.of_CW tO call12 Try.func12 rfl rfl fun s hok => ?_
  repeat (first | (with_reducible first | apply CW.seq | apply aN) | refine wR rfl ?_ | refine CW.reg ?_ | refine wS rfl ?_)
  refine RL.callPP rfl rfl rfl rfl rfl h2 ?_
  repeat (first | refine wS rfl ?_)
  refine RL.newBox tO rfl rfl rfl rfl rfl rfl rfl (fun _ => rfl) rfl rfl (fun _ => rfl) rfl rfl rfl rfl ?_
  repeat (first | (with_reducible first | apply CW.seq | apply aN | apply CW.skip | apply CW.block) | refine wR rfl ?_ | refine RL.nil ?_ | refine CW.condF rfl ?_ | refine wS rfl ?_)
  refine CW.loopL hok (σ := Nat) (fun j => [(3, .fptr [.int .i64 b.fin, .int .i64 b.val, .slc 5 (b.evs.map evA) .fro, .int .i64 (b.fuel : Int)] 0), (23, .slc 5 (b.evs.map evA) .fro), (24, .int .i64 b.evs.length), (25, .int .i64 (j : Int))]) (fun _ => []) (fun j => j ≤ b.evs.length) (fun j => b.evs.length - j) 0 (Nat.zero_le _) (by repeat (first | exact trivial | refine ⟨⟨_, rfl, aRfl⟩, ?_⟩ | refine ⟨⟨_, rfl, AVle.of_eq (by rw [hpl])⟩, ?_⟩)) (by repeat (first | exact Sels.nil | (apply Sels.cons; · repeat (first | exact Sel.here | apply Sel.there)))) ?_
  intro j hj hok
  repeat (first | (with_reducible first | apply CW.seq | apply aN) | refine wR rfl ?_)
  refine CW.cond rfl (fun hlt => ?_) (fun hge => ?_)
  rotate_left
  ·repeat (first | (with_reducible first | apply CW.seq | apply aN | apply aX | apply iH | apply CW.exit) | refine CW.reg ?_)
   refine RL.callPP rfl rfl rfl rfl rfl known_true ?_
   repeat (first | (with_reducible first | apply aN | apply CW.ret) | refine RL.nil ?_ | refine wS rfl ?_)
   exact Fin.retP hok rfl aRfl
  have hlt : j < b.evs.length := by simpa using hlt
  obtain ⟨x, hx, hx'⟩ := elem_at (f := evA) hlt
  have hxf := hfb.2 x (List.mem_of_getElem? hx)
  have hfx := hfine j x hx
  rw [evA_eq] at hx'
  unfold evCells at hx'
  simp only [intsA] at hx'
  repeat (first | (with_reducible first | apply CW.seq | apply aN | apply CW.skip | apply CW.block) | refine CW.reg ?_ | refine wS rfl ?_ | refine RL.idx tO _ rfl rfl rfl rfl rfl rfl rfl rfl rfl rfl rfl (by assumption) rfl ?_)
  refine RL.allocL tO hok rfl rfl rfl rfl rfl rfl rfl (fun b6 hok => ?_)
  refine wS rfl ?_
  refine RL.storeL tO hok rfl rfl rfl rfl rfl rfl rfl rfl rfl (by repeat (first | exact Sel.here | apply Sel.there)) (by exact rfl) (fun hok => ?_)
  refine RL.freezeL hok 6 b6 rfl (by repeat (first | exact Sel.here | apply Sel.there)) fun hok => ?_
  rcases hfx with ⟨h4, hm⟩ | ⟨h3, hm⟩ | ⟨h1, hn⟩ | h2' | ⟨h5, hn, hv⟩
  ·have hc := slContains_spec x.rs x.n hxf.2
   rw [idxI_mem, decide_eq_true hm] at hc
   rw [h4]
   simp only [intsA] at hc ⊢
   repeat (first | (with_reducible first | apply CW.seq | apply aN | apply CW.block) | refine wR rfl ?_ | refine CW.reg ?_ | refine RL.nil ?_ | refine CW.condT rfl ?_ | refine wS rfl ?_)
   refine RL.callPP rfl rfl rfl rfl rfl hc ?_
   repeat (first | (with_reducible first | apply aN | apply iN | apply CW.skip) | refine wR rfl ?_ | refine RL.nil ?_ | refine CW.condF rfl ?_ | refine wS rfl ?_)
   exact NextL.mk (j + 1) hok hlt (by repeat (first | exact trivial | refine ⟨⟨_, rfl, aRfl⟩, ?_⟩ | refine ⟨⟨_, rfl, AVle.of_eq (by (rw [i64_succ (by omega)]))⟩, ?_⟩)) (by repeat (first | exact Sels.nil | (apply Sels.cons; · repeat (first | exact Sel.here | apply Sel.there)))) (by show b.evs.length - (j + 1) < b.evs.length - j; omega)
  ·obtain ⟨y, hy, hay⟩ := hm
   have hc := hasEv_spec (b.evs.take j) (by rw [List.length_take]; omega) (eventF x) (fun y => askedV y x) fun y hy => events1_spec x y hxf (hfb.2 y (List.mem_of_mem_take hy))
   have hany : ((b.evs.take j).any fun y => askedV y x) = true := List.any_eq_true.2 ⟨y, hy, askedV_of hay⟩
   rw [hany, List.map_take] at hc
   unfold eventF evCells at hc
   simp only [intsA] at hc
   rw [h3] at hc ⊢
   repeat (first | (with_reducible first | apply CW.seq | apply aN | apply CW.block) | refine wR rfl ?_ | refine CW.reg ?_ | refine RL.nil ?_ | refine CW.condT rfl ?_ | refine CW.condF rfl ?_ | refine wS rfl ?_)
   refine RL.slice tO 0 j rfl rfl rfl rfl rfl rfl rfl rfl (.inr rfl) (.inl ⟨rfl, rfl⟩) (.inr ⟨_, _, rfl, rfl⟩) (.inl ⟨rfl, rfl⟩) (Nat.zero_le _) (by simp; omega) ?_
   repeat (first | refine wS rfl ?_)
   refine RL.callPP rfl rfl rfl rfl rfl hc ?_
   repeat (first | (with_reducible first | apply aN | apply iN | apply CW.skip) | refine wR rfl ?_ | refine RL.nil ?_ | refine CW.condF rfl ?_ | refine wS rfl ?_)
   exact NextL.mk (j + 1) hok hlt (by repeat (first | exact trivial | refine ⟨⟨_, rfl, aRfl⟩, ?_⟩ | refine ⟨⟨_, rfl, AVle.of_eq (by (rw [i64_succ (by omega)]))⟩, ?_⟩)) (by repeat (first | exact Sels.nil | (apply Sels.cons; · repeat (first | exact Sel.here | apply Sel.there)))) (by show b.evs.length - (j + 1) < b.evs.length - j; omega)
  ·rw [h1, hn]
   repeat (first | (with_reducible first | apply CW.seq | apply aN | apply iN | apply CW.skip | apply CW.block) | refine wR rfl ?_ | refine RL.nil ?_ | refine CW.condT rfl ?_ | refine CW.condF rfl ?_)
   exact NextL.mk (j + 1) hok (show j + 1 ≤ b.evs.length from hlt) (by repeat (first | exact trivial | refine ⟨⟨_, rfl, aRfl⟩, ?_⟩ | refine ⟨⟨_, rfl, AVle.of_eq (by (rw [i64_succ (by omega)]))⟩, ?_⟩)) (by repeat (first | exact Sels.nil | (apply Sels.cons; · repeat (first | exact Sel.here | apply Sel.there)))) (by show b.evs.length - (j + 1) < b.evs.length - j; omega)
  ·rw [h2']
   repeat (first | (with_reducible first | apply CW.seq | apply aN | apply iN | apply CW.skip | apply CW.block) | refine wR rfl ?_ | refine RL.nil ?_ | refine CW.condT rfl ?_ | refine CW.condF rfl ?_)
   exact NextL.mk (j + 1) hok hlt (by repeat (first | exact trivial | refine ⟨⟨_, rfl, aRfl⟩, ?_⟩ | refine ⟨⟨_, rfl, AVle.of_eq (by (rw [i64_succ (by omega)]))⟩, ?_⟩)) (by repeat (first | exact Sels.nil | (apply Sels.cons; · repeat (first | exact Sel.here | apply Sel.there)))) (by show b.evs.length - (j + 1) < b.evs.length - j; omega)
  ·rw [h5, hn, hv]
   repeat (first | (with_reducible first | apply CW.seq | apply aN | apply iN | apply CW.skip | apply CW.block) | refine wR rfl ?_ | refine RL.nil ?_ | refine CW.condT rfl ?_ | refine CW.condF rfl ?_)
   exact NextL.mk (j + 1) hok hlt (by repeat (first | exact trivial | refine ⟨⟨_, rfl, aRfl⟩, ?_⟩ | refine ⟨⟨_, rfl, AVle.of_eq (by (rw [i64_succ (by omega)]))⟩, ?_⟩)) (by repeat (first | exact Sels.nil | (apply Sels.cons; · repeat (first | exact Sel.here | apply Sel.there)))) (by show b.evs.length - (j + 1) < b.evs.length - j; omega)
end Go.Proofs.Ytdeiinhccdlfiaa

