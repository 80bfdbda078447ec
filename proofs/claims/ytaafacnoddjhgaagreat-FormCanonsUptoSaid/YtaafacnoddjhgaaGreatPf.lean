import Derived.Test.YtaafacnoddjhgaaGreatPe
import Derived.Laws.MakeOwn
import Derived.Laws.StructEq
import Derived.WalkKit
import Derived.OpenShut
import Derived.JoinedCond
/- Contracts of the reference: the functions of a program. -/
namespace Go.Proofs.YtaafacnoddjhgaaGreat
open Go.AE

theorem own_nil2 {X : Nat → Prop} : ∀ b, Own.nil = Own.own b → X b := fun _ h => by cases h
theorem gNotes_cons (st : List (Str × Int) × Bool) (x : Str × Int) (l : List (Str × Int)) : gNotes st (x :: l) = gNotes (gNote st x.1 x.2) l := rfl
theorem callsL_cons (g : FExp) (l : List FExp) : callsL (g :: l) = (if g.op == 5 then [(g.text, (g.kids.length : Int))] else []) ++ callsL l := by
 unfold callsL; rw [List.filter_cons]; cases g.op == 5 <;> simp

def bodies (P : FProg) : List FExp := P.methods.map FMethod.body ++ [P.main]
theorem progNotes_eq (P : FProg) : progNotes P = methodNotes P.methods ++ (bodies P).flatMap fun e => callsL e.allE := rfl

set_option maxRecDepth 10000 in
set_option maxHeartbeats 4000000 in
theorem refFunctions_spec (P : FProg) (s : Store) (hP : P.Fair) :
  ACalls Tryz.prog 59 [P.av] s (fun o s' => o = .ret (.tup [.slc 1 (strs ((progGens P).1.map (·.1))) .fro, .slc 1 (ints ((progGens P).1.map (·.2))) .fro, .bool (progGens P).2]) ∧ s' = s) := by
 have hb : big = 1099511627776 := rfl
 have hml := hP.mlen
 have hnl := hP.notes
 have hpg : progGens P = gNotes ([], true) (methodNotes P.methods ++ (bodies P).flatMap fun e => callsL e.allE) := rfl
 rw [progNotes_eq] at hnl
 generalize hR : (bodies P).flatMap (fun e => callsL e.allE) = R at hpg hnl
 refine ACalls.of_CW tO call59 Tryz.func59 rfl rfl ?_
 refine CW.seqCut [(1, .fptr P.cells 0)] s ?_ ?_
 ·repeat (first | refine CW.reg (RL.run tO rfl (RL.nil ?_)))
  exact ⟨rfl, (by repeat (first | exact trivial | refine ⟨⟨_, rfl, AVle.refl _⟩, ?_⟩)), Store.sub_refl _⟩
 refine CW.seqCutX (σ := Nat × Store) (fun z => [(1, .fptr P.cells 0), (5, .ptr z.1 0)]) (fun z => z.2) (fun z => NoI s z.2 z.1 [] true .nil .nil) ?_ ?_
 ·refine CW.reg ?_
  refine RL.step tO rfl rfl rfl rfl ?_
  refine RL.boxM rfl rfl rfl rfl rfl rfl (fun xb hxb => ?_)
  refine RL.boxWeak xb (noterCells [] .nil .nil false) (Store.set_same _ _ _) ?_ ?_
  ·exact .cons (AVle.nil (by simp)) (.cons (AVle.nil (by simp)) (.one (AVle.refl _)))
  rw [Store.set_set]
  repeat (first | refine RL.nil ?_ | refine RL.step tO rfl rfl rfl rfl ?_)
  exact ⟨rfl, (xb, _), ⟨Store.set_same _ _ _, trivial, trivial, Store.subSet (Store.sub_refl _) hxb, hxb, own_nil2, own_nil2, own_nil2⟩, (by repeat (first | exact trivial | refine ⟨⟨_, rfl, AVle.refl _⟩, ?_⟩)), Store.sub_refl _⟩
 rintro ⟨xb, t0⟩ hI0
 simp only at hI0 ⊢
 refine CW.seqCutX (σ := Store × List (Str × Int) × Bool × Own × Own) (fun _ => [(1, .fptr P.cells 0), (5, .ptr xb 0)]) (fun z => z.1) (fun z => NoI s z.1 xb z.2.1 z.2.2.1 z.2.2.2.1 z.2.2.2.2 ∧ gNotes (z.2.1, z.2.2.1) R = progGens P ∧ z.2.1.length + R.length < big) ?_ ?_
 ·repeat (first | with_reducible refine CW.seq ?_ | with_reducible refine aN ?_ | with_reducible refine CW.block ?_ | refine CW.reg (RL.run tO rfl (RL.nil ?_)))
  refine CW.loop (σ := Nat × Store × List (Str × Int) × Bool × Own × Own) (fun q => [(1, .fptr P.cells 0), (5, .ptr xb 0), (6, .int .i64 (q.1 : Int))]) (fun q => q.2.1)
   (fun q => q.1 ≤ P.methods.length ∧ NoI s q.2.1 xb q.2.2.1 q.2.2.2.1 q.2.2.2.2.1 q.2.2.2.2.2 ∧ gNotes (q.2.2.1, q.2.2.2.1) (methodNotes (P.methods.drop q.1) ++ R) = progGens P ∧ q.2.2.1.length + (methodNotes (P.methods.drop q.1)).length + R.length < big) (fun q => P.methods.length - q.1)
   (0, t0, [], true, .nil, .nil) ⟨by simp, hI0, hpg.symm, by rw [List.length_append] at hnl; simpa using hnl⟩ (by repeat (first | exact trivial | refine ⟨⟨_, rfl, AVle.refl _⟩, ?_⟩)) (Store.sub_refl _) ?_
  rintro ⟨j, t, G, is, o1, o2⟩ ⟨hj, hI, hE, hL⟩
  simp only at hj hI hE hL
  repeat (first | with_reducible refine CW.seq ?_ | with_reducible refine aN ?_ | refine CW.reg (RL.run tO rfl (RL.nil ?_)))
  refine CW.cond rfl (fun h => ?_) (fun h => ?_)
  ·have hlt : j < P.methods.length := by simpa using h
   obtain ⟨m, hm⟩ : ∃ m, P.methods[j]? = some m := ⟨_, List.getElem?_eq_getElem hlt⟩
   have hm' : (P.methods.map FMethod.av)[j]? = some (.agg m.cells) := by rw [List.getElem?_map, hm]; rfl
   rw [drop_cons hm] at hE hL
   simp only [methodNotes, List.map_cons, List.cons_append, List.length_cons] at hE hL
   rw [gNotes_cons] at hE
   have hgl := gNote_length (G, is) m.name (m.params.length : Int)
   have hcall := refNote_spec s t xb G is o1 o2 m.name (m.params.length : Int) hI (by omega)
   generalize gNote (G, is) m.name (m.params.length : Int) = st at hE hgl hcall
   obtain ⟨G', is'⟩ := st
   repeat (first | with_reducible refine CW.seq ?_ | with_reducible refine aN ?_ | with_reducible refine CW.skip ?_ | with_reducible refine CW.block ?_ | refine CW.drw tO mixed rfl (RD.run rfl ?_))
   refine RD.idx 4 j rfl rfl rfl rfl rfl rfl rfl rfl rfl rfl rfl rfl rfl hm' rfl ?_
   refine RD.idx 10 j rfl rfl rfl rfl rfl rfl rfl rfl rfl rfl rfl rfl rfl hm' rfl ?_
   refine RD.run rfl ?_
   rw [strs_length]
   refine RD.call (i := 14) rfl rfl rfl rfl rfl rfl rfl hcall ?_ (fun _ _ ⟨h, _⟩ => by cases h)
   rintro _ t' ⟨⟨⟩, o1', o2', hI'⟩
   refine RD.run rfl (RD.done rfl ?_)
   repeat (first | with_reducible refine aN ?_ | with_reducible refine iN ?_ | refine CW.reg (RL.run tO rfl (RL.nil ?_)))
   exact ⟨(j + 1, t', G', is', o1', o2'), ⟨hlt, hI', hE, by simp only [methodNotes, List.length_map] at hL hgl ⊢; omega⟩, (by repeat (first | exact trivial | refine ⟨⟨_, rfl, AVle.refl _⟩, ?_⟩ | refine ⟨⟨_, rfl, AVle.of_eq (by (show AV.int .i64 (IntKind.wrap .i64 ((j : Int) + 1)) = .int .i64 ((j + 1 : Nat) : Int); rw [i64_succ (by omega)]))⟩, ?_⟩)), Store.sub_refl _, by show P.methods.length - (j + 1) < P.methods.length - j; omega⟩
  ·have hge : P.methods.length ≤ j := by simpa using h
   rw [List.drop_eq_nil_of_le hge] at hE hL
   repeat (first | with_reducible refine aX ?_ | with_reducible refine iH ?_ | with_reducible refine CW.exit ?_)
   exact ⟨rfl, (t, G, is, o1, o2), ⟨hI, hE, by simpa [methodNotes] using hL⟩, (by repeat (first | exact trivial | refine ⟨⟨_, rfl, AVle.refl _⟩, ?_⟩)), Store.sub_refl _⟩
 rintro ⟨t1, G1, is1, p1, p2⟩ ⟨hI1, hE1, hL1⟩
 simp only at hI1 hE1 hL1 ⊢
 have hbl : (bodies P).length = P.methods.length + 1 := by simp [bodies]
 have hbf : ∀ e ∈ bodies P, e.size < big := fun e he => by
  rcases List.mem_append.1 he with he | he
  ·obtain ⟨m, hm, rfl⟩ := List.mem_map.1 he
   exact (hP.mth m hm).body.size
  ·rw [List.mem_singleton.1 he]; exact hP.main.size
 subst hR
 refine CW.seqCutX (σ := Store × Own × Own) (fun _ => [(5, .ptr xb 0)]) (fun z => z.1) (fun z => NoI s z.1 xb (progGens P).1 (progGens P).2 z.2.1 z.2.2) ?_ ?_
 ·repeat (first | with_reducible refine CW.seq ?_ | with_reducible refine aN ?_ | with_reducible refine CW.block ?_ | refine CW.reg (RL.run tO rfl (RL.nil ?_)))
  refine CW.loop (σ := Nat × Store × List (Str × Int) × Bool × Own × Own) (fun q => [(1, .fptr P.cells 0), (5, .ptr xb 0), (7, .int .i64 (q.1 : Int))]) (fun q => q.2.1)
   (fun q => q.1 ≤ (bodies P).length ∧ NoI s q.2.1 xb q.2.2.1 q.2.2.2.1 q.2.2.2.2.1 q.2.2.2.2.2 ∧ gNotes (q.2.2.1, q.2.2.2.1) (((bodies P).drop q.1).flatMap fun e => callsL e.allE) = progGens P ∧ q.2.2.1.length + (((bodies P).drop q.1).flatMap fun e => callsL e.allE).length < big) (fun q => (bodies P).length - q.1)
   (0, t1, G1, is1, p1, p2) ⟨by simp, hI1, hE1, hL1⟩ (by repeat (first | exact trivial | refine ⟨⟨_, rfl, AVle.refl _⟩, ?_⟩)) (Store.sub_refl _) ?_
  rintro ⟨j, t, G, is, o1, o2⟩ ⟨hj, hI, hE, hL⟩
  simp only at hj hI hE hL
  repeat (first | with_reducible refine CW.seq ?_ | with_reducible refine aN ?_ | refine CW.reg (RL.run tO rfl (RL.nil ?_)))
  refine CW.cond rfl (fun h => ?_) (fun h => ?_)
  ·have hlt : j < (bodies P).length := by
    have : (j : Int) ≤ ((P.methods.map FMethod.av).length : Int) := by simpa using h
    rw [List.length_map] at this; omega
   obtain ⟨e, he⟩ : ∃ e, (bodies P)[j]? = some e := ⟨_, List.getElem?_eq_getElem hlt⟩
   have hes := hbf e (List.mem_of_getElem? he)
   rw [drop_cons he, List.flatMap_cons] at hE hL
   rw [List.length_append] at hL
   generalize hR2 : ((bodies P).drop (j + 1)).flatMap (fun e => callsL e.allE) = R2 at hE hL
   refine CW.skip (aN (CW.seq (CW.block ?_)))
   refine CW.seqCutX (σ := Nat) (fun b => [(1, .fptr P.cells 0), (5, .ptr xb 0), (7, .int .i64 (j : Int)), (8, .ptr b 0)]) (fun b => t.set b (.box 27 P.main.cells)) (fun b => t b = none) ?_ ?_
   ·repeat (first | refine CW.reg ?_ | refine RL.step tO rfl rfl rfl rfl ?_)
    refine RL.alloc tO rfl rfl rfl rfl rfl rfl rfl (fun b hb => ?_)
    repeat (first | refine RL.nil ?_ | (refine RL.storeP tO rfl rfl rfl rfl rfl rfl rfl rfl rfl (Store.set_same _ _ _) rfl ?_; try with_reducible rw [Store.set_set]))
    exact ⟨rfl, b, hb, (by repeat (first | exact trivial | refine ⟨⟨_, rfl, AVle.refl _⟩, ?_⟩)), Store.sub_refl _⟩
   intro b8 hb8
   refine CW.seqCut [(1, .fptr P.cells 0), (5, .ptr xb 0), (7, .int .i64 (j : Int)), (8, .ptr b8 0)] (t.set b8 (.box 27 e.cells)) ?_ ?_
   ·repeat (first | with_reducible refine CW.seq ?_ | with_reducible refine aN ?_ | refine CW.reg (RL.run tO rfl (RL.nil ?_)))
    refine CW.cond rfl (fun h => ?_) (fun h => ?_)
    ·have hlm : j < P.methods.length := by simpa using h
     obtain ⟨m, hm⟩ : ∃ m, P.methods[j]? = some m := ⟨_, List.getElem?_eq_getElem hlm⟩
     have hm' : (P.methods.map FMethod.av)[j]? = some (.agg m.cells) := by rw [List.getElem?_map, hm]; rfl
     have hem : e = m.body := by
      rw [bodies, List.getElem?_append_left (by simpa using hlm), List.getElem?_map, hm] at he
      simpa using he.symm
     subst hem
     repeat (first | refine CW.reg ?_ | refine RL.nil ?_ | refine RL.step tO rfl rfl rfl rfl ?_ | (refine RL.storeP tO rfl rfl rfl rfl rfl rfl rfl rfl rfl (Store.set_same _ _ _) rfl ?_; try with_reducible rw [Store.set_set]) | refine RL.idx tO _ rfl rfl rfl rfl rfl rfl rfl rfl rfl rfl rfl (by assumption) rfl ?_)
     exact ⟨rfl, (by repeat (first | exact trivial | refine ⟨⟨_, rfl, AVle.refl _⟩, ?_⟩)), Store.sub_refl _⟩
    ·have hgm : P.methods.length ≤ j := by simpa using h
     have hem : e = P.main := by
      rw [bodies, List.getElem?_append_right (by simpa using hgm), List.length_map] at he
      have : j - P.methods.length = 0 := by omega
      rw [this] at he
      simpa using he.symm
     subst hem
     refine CW.skip ?_
     exact ⟨rfl, (by repeat (first | exact trivial | refine ⟨⟨_, rfl, AVle.refl _⟩, ?_⟩)), Store.sub_refl _⟩
   refine CW.freeze 8 b8 rfl (Store.set_same _ _ _) ?_
   rw [Store.del_set _ _ _ hb8]
   refine CW.seqCut [(1, .fptr P.cells 0), (5, .ptr xb 0), (7, .int .i64 (j : Int)), (9, .slc 4 (e.allE.map FExp.av) .fro)] t ?_ ?_
   ·repeat (first | refine CW.reg ?_ | refine RL.step tO rfl rfl rfl rfl ?_)
    refine RL.callP rfl rfl rfl rfl rfl (refAll_spec _ e t (Nat.le_refl _) (Nat.le_of_lt hes)) ?_
    repeat (first | refine RL.nil ?_ | refine RL.step tO rfl rfl rfl rfl ?_)
    exact ⟨rfl, (by repeat (first | exact trivial | refine ⟨⟨_, rfl, AVle.refl _⟩, ?_⟩)), Store.sub_refl _⟩
   have hall := allE_length e
   generalize e.allE = l at hall hE hL ⊢
   repeat (first | with_reducible refine CW.seq ?_ | with_reducible refine aN ?_ | with_reducible refine CW.block ?_ | refine CW.reg (RL.run tO rfl (RL.nil ?_)))
   refine CW.loop (σ := Nat × Store × List (Str × Int) × Bool × Own × Own) (fun q => [(1, .fptr P.cells 0), (5, .ptr xb 0), (7, .int .i64 (j : Int)), (9, .slc 4 (l.map FExp.av) .fro), (10, .int .i64 (q.1 : Int))]) (fun q => q.2.1)
    (fun q => q.1 ≤ l.length ∧ NoI s q.2.1 xb q.2.2.1 q.2.2.2.1 q.2.2.2.2.1 q.2.2.2.2.2 ∧ gNotes (q.2.2.1, q.2.2.2.1) (callsL (l.drop q.1) ++ R2) = progGens P ∧ q.2.2.1.length + ((callsL (l.drop q.1)).length + R2.length) < big) (fun q => l.length - q.1)
    (0, t, G, is, o1, o2) ⟨by simp, hI, hE, hL⟩ (by repeat (first | exact trivial | refine ⟨⟨_, rfl, AVle.refl _⟩, ?_⟩)) (Store.sub_refl _) ?_
   rintro ⟨k, t2, G2, is2, r1, r2⟩ ⟨hk, hI2, hE2, hL2⟩
   simp only at hk hI2 hE2 hL2
   repeat (first | with_reducible refine CW.seq ?_ | with_reducible refine aN ?_ | refine CW.reg (RL.run tO rfl (RL.nil ?_)))
   refine CW.cond rfl (fun h => ?_) (fun h => ?_)
   ·have hltk : k < l.length := by simpa using h
    obtain ⟨g, hg⟩ : ∃ g, l[k]? = some g := ⟨_, List.getElem?_eq_getElem hltk⟩
    have hg' : (l.map FExp.av)[k]? = some (.agg g.cells) := by rw [List.getElem?_map, hg]; rfl
    rw [drop_cons hg, callsL_cons] at hE2 hL2
    repeat (first | with_reducible refine CW.seq ?_ | with_reducible refine aN ?_ | with_reducible refine CW.skip ?_ | with_reducible refine CW.block ?_ | refine CW.reg ?_ | refine RL.nil ?_ | refine RL.step tO rfl rfl rfl rfl ?_ | refine RL.idx tO _ rfl rfl rfl rfl rfl rfl rfl rfl rfl rfl rfl (by assumption) rfl ?_)
    refine CW.cond rfl (fun hc => ?_) (fun hc => ?_)
    ·have hc' : (g.op == 5) = true := hc
     rw [hc', if_pos rfl] at hE2 hL2
     simp only [List.cons_append, List.nil_append, List.length_cons] at hE2 hL2
     rw [gNotes_cons] at hE2
     have hgl := gNote_length (G2, is2) g.text (g.kids.length : Int)
     have hcall := refNote_spec s t2 xb G2 is2 r1 r2 g.text (g.kids.length : Int) hI2 (by omega)
     rw [← FExp.kav_length] at hcall
     rw [← FExp.kav_length] at hE2 hgl
     generalize gNote (G2, is2) g.text (g.kav.length : Int) = st at hE2 hgl hcall
     obtain ⟨G', is'⟩ := st
     repeat (first | refine CW.drw tO mixed rfl (RD.run rfl ?_))
     refine RD.idx 3 k rfl rfl rfl rfl rfl rfl rfl rfl rfl rfl rfl rfl rfl hg' rfl ?_
     refine RD.idx 8 k rfl rfl rfl rfl rfl rfl rfl rfl rfl rfl rfl rfl rfl hg' rfl ?_
     refine RD.run rfl ?_
     refine RD.call (i := 12) rfl rfl rfl rfl rfl rfl rfl hcall ?_ (fun _ _ ⟨h, _⟩ => by cases h)
     rintro _ t' ⟨⟨⟩, o1', o2', hI'⟩
     refine RD.run rfl (RD.done rfl ?_)
     repeat (first | with_reducible refine aN ?_ | with_reducible refine iN ?_ | refine CW.reg (RL.run tO rfl (RL.nil ?_)))
     exact ⟨(k + 1, t', G', is', o1', o2'), ⟨hltk, hI', hE2, by simp only at hgl ⊢; omega⟩, (by repeat (first | exact trivial | refine ⟨⟨_, rfl, AVle.refl _⟩, ?_⟩ | refine ⟨⟨_, rfl, AVle.of_eq (by (show AV.int .i64 (IntKind.wrap .i64 ((k : Int) + 1)) = .int .i64 ((k + 1 : Nat) : Int); rw [i64_succ (by omega)]))⟩, ?_⟩)), Store.sub_refl _, by show l.length - (k + 1) < l.length - k; omega⟩
    ·have hc' : (g.op == 5) = false := hc
     rw [hc', if_neg (by simp), List.nil_append] at hE2 hL2
     repeat (first | with_reducible refine aN ?_ | with_reducible refine iN ?_ | with_reducible refine CW.skip ?_ | refine CW.reg (RL.run tO rfl (RL.nil ?_)))
     exact ⟨(k + 1, t2, G2, is2, r1, r2), ⟨hltk, hI2, hE2, hL2⟩, (by repeat (first | exact trivial | refine ⟨⟨_, rfl, AVle.refl _⟩, ?_⟩ | refine ⟨⟨_, rfl, AVle.of_eq (by (show AV.int .i64 (IntKind.wrap .i64 ((k : Int) + 1)) = .int .i64 ((k + 1 : Nat) : Int); rw [i64_succ (by omega)]))⟩, ?_⟩)), Store.sub_refl _, by show l.length - (k + 1) < l.length - k; omega⟩
   ·have hge : l.length ≤ k := by simpa using h
    rw [List.drop_eq_nil_of_le hge] at hE2 hL2
    subst hR2
    repeat (first | with_reducible refine aN ?_ | with_reducible refine aX ?_ | with_reducible refine iN ?_ | with_reducible refine iH ?_ | with_reducible refine CW.exit ?_ | refine CW.reg (RL.run tO rfl (RL.nil ?_)))
    exact ⟨(j + 1, t2, G2, is2, r1, r2), ⟨hlt, hI2, hE2, by simpa [callsL] using hL2⟩, (by repeat (first | exact trivial | refine ⟨⟨_, rfl, AVle.refl _⟩, ?_⟩ | refine ⟨⟨_, rfl, AVle.of_eq (by (show AV.int .i64 (IntKind.wrap .i64 ((j : Int) + 1)) = .int .i64 ((j + 1 : Nat) : Int); rw [i64_succ (by omega)]))⟩, ?_⟩)), Store.sub_refl _, by show (bodies P).length - (j + 1) < (bodies P).length - j; omega⟩
  ·have hge : (bodies P).length ≤ j := by
    have : ¬ (j : Int) ≤ ((P.methods.map FMethod.av).length : Int) := by simpa using h
    rw [List.length_map] at this; omega
   rw [List.drop_eq_nil_of_le hge] at hE
   have hE' : (G, is) = progGens P := hE
   repeat (first | with_reducible refine aX ?_ | with_reducible refine iH ?_ | with_reducible refine CW.exit ?_)
   exact ⟨rfl, (t, o1, o2), by rw [← hE']; exact hI, (by repeat (first | exact trivial | refine ⟨⟨_, rfl, AVle.refl _⟩, ?_⟩)), Store.sub_refl _⟩
 rintro ⟨t, o1, o2⟩ hI
 simp only at hI ⊢
 generalize progGens P = pg at hI ⊢
 refine CW.freeze 5 xb rfl hI.hx ?_
 repeat (first | with_reducible refine CW.seq ?_ | with_reducible refine aN ?_ | with_reducible refine CW.ret ?_ | refine CW.drw tO mixed rfl (RD.run rfl (RD.done rfl ?_)))
 refine ⟨_, _, s, rfl, AVle.tup (.cons AVle.fro (.cons AVle.fro (.one (AVle.of_eq ?_)))), Store.subDel hI.sub hI.sn, rfl, rfl⟩
 simp
end Go.Proofs.YtaafacnoddjhgaaGreat

/- Slices that are written: a row of cells of one's own. -/
namespace Go.Proofs.YtaafacnoddjhgaaGreat
open Go.AE

section
variable {P : Program} {Γ : Tys} {N : Nat} {env : Env} {s : Store}

theorem madeCells_one {z : Value} {n : Nat} : (madeCells #[z] n).toList = List.replicate n z := by
 apply List.ext_getElem
 ·simp [madeCells]
 ·intro i h1 h2
  simp [madeCells, Nat.mod_one]

theorem OW.mkSlice (hΓ : TysOk P Γ) {o : Oper} {t e : TypeId} {x y : Operand} {it ie : TI} {k k' : IntKind} {m : Nat} {z : Value} {c : AV} (ho : o.op = .makeSlice t x y) (ht : Γ.get? t = some it) (htd : it.td = .slc e) (hie : Γ.get? e = some ie)
  (hx : ev env x = some (.int k (m : Int))) (hy : ev env y = some (.int k' (m : Int))) (h1 : ie.size = 1) (hz : ie.zero.cells = #[z]) (hc : constAV z = some c) (hb : (ie.bytes : Int) * (m : Int) ≤ 281474976710656) (h63 : (m : Int) ≤ 9223372036854775807) {X : AV → Store → Prop} :
  OW P N o env s (fun r s' => ∃ b, s b = none ∧ r = .mslc b m ∧ s' = s.set b (.box e (List.replicate m c))) X := by
 refine OW.of_run (by simp [noDefer, ho]) fun ro B a w p hst => ?_
 obtain ⟨info, d, g1, g2, g3, -⟩ := hΓ.parts ht
 obtain ⟨infoe, de, k1, k2, k3, k4, k5, k6⟩ := hΓ.parts hie
 have hd : d = .slice e := by rw [htd] at g3; cases d <;> simp [tdOf] at g3; rw [g3]
 subst hd
 have hrx := hst.ev hx
 have hry := hst.ev hy
 generalize hvx : a.eval x = vx at hrx
 generalize hvy : a.eval y = vy at hry
 cases hrx
 cases hry
 obtain ⟨hn, hle, hk, hwf⟩ := new_obj hst.wf (.cells (madeCells ie.zero.cells (m * infoe.size)) e (0, 0)) (.box e (List.replicate m c)) (fun w' hw' hr hrl =>
  ⟨_, hw', hrl _ _ (by
   rw [hz, k4, h1, Nat.mul_one, madeCells_one]
   exact RelL.replicate (constAV_rel hc) m), fun o' hp => absurd (hst.wf.lt _ _ hp) (by omega)⟩)
 refine ⟨.slice (some ⟨w.heap.size, 0, none⟩) m m, _, _, p, _, ?_, hle, hk, hwf, ⟨w.heap.size, hn, rfl, rfl⟩, .mslc _ _ _ (by omega) (Nat.le_refl _)⟩
 unfold execOp
 rw [ho]
 simp only [hvx, hvy]
 refine run_v ?_
 have := run_make (P := P) w t e infoe ie.zero g2 k1 k6 k k' (m : Int) (m : Int) (by omega) (Int.le_refl _) (by rw [k5]; exact hb) h63
 simp only [Int.toNat_natCast] at this
 exact this

theorem OW.idxM (hΓ : TysOk P Γ) {o : Oper} {t e : TypeId} {x y : Operand} {it ie : TI} {b n : Nat} {k : IntKind} {i : Int} {j : Nat} (ho : o.op = .indexAddr t x y)
  (ht : Γ.get? t = some it) (htd : it.td = .slc e) (hie : Γ.get? e = some ie) (hx : ev env x = some (.mslc b n)) (h1 : ie.size = 1) (hy : ev env y = some (.int k i)) (hij : i = (j : Int)) (hj : j < n) {X : AV → Store → Prop} :
  OW P N o env s (fun r s' => r = .ptr b j ∧ s' = s) X := by
 refine OW.of_run (by simp [noDefer, ho]) fun ro B a w p hst => ?_
 obtain ⟨info, d, g1, g2, g3, -⟩ := hΓ.parts ht
 obtain ⟨infoe, de, k1, k2, k3, k4, -⟩ := hΓ.parts hie
 have hd : d = .slice e := by rw [htd] at g3; cases d <;> simp [tdOf] at g3; rw [g3]
 subst hd
 have hr := hst.ev hx
 have hri := hst.ev hy
 generalize hvx : a.eval x = vx at hr
 generalize hvy : a.eval y = vy at hri
 cases hri
 subst hij
 cases hr with
 | mslc _ _ cap hm hk =>
 refine ⟨.pointer (some ⟨b, 0 + j * 1, none⟩), w, s, p, _, ?_, .refl w p, .refl s w p, hst.wf, ⟨rfl, rfl⟩, ?_⟩
 ·unfold execOp
  rw [ho]
  simp only [hvx, hvy]
  refine run_v ?_
  have hlt : (0 : Int) ≤ (j : Int) ∧ (j : Int) < (n : Int) := by omega
  simp [Instr.indexAt, asIntOf, run_underlying g2, hlt.2, sizeOf, typeInfo, k1, k4, h1, add_none]
  intro hge; omega
 ·rw [Nat.zero_add, Nat.mul_one]; exact .ptr _ _

theorem OW.lenM (hΓ : TysOk P Γ) {o : Oper} {x : Operand} {t e : TypeId} {i : TI} {b n : Nat} (ho : o.op = .call { callee := .builtin .len, args := #[x], argTypes := #[t] }) (ht : Γ.get? t = some i) (htd : i.td = .slc e) (hx : ev env x = some (.mslc b n)) {X : AV → Store → Prop} :
  OW P N o env s (fun r s' => r = .int .i64 (n : Int) ∧ s' = s) X := by
 refine OW.of_run (by simp [noDefer, ho]) fun ro B a w p hst => ?_
 obtain ⟨info, d, h1, h2, h3, -⟩ := hΓ.parts ht
 have hr := hst.ev hx
 generalize hv : a.eval x = vx at hr
 have hd : d = .slice e := by rw [htd] at h3; cases d <;> simp [tdOf] at h3; rw [h3]
 subst hd
 cases hr with
 | mslc _ _ cap hm hk =>
 refine ⟨.int .i64 (n : Int), w, s, p, _, ?_, .refl w p, .refl s w p, hst.wf, ⟨rfl, rfl⟩, .int _ _⟩
 unfold execOp
 rw [ho]
 simp only [resolve, invoke, builtin, Sem.run_bind, Sem.run_pure, Result.andThen_ok, List.map_toArray, List.map_cons, List.map_nil, hv]
 simp [Builtin.len_, run_underlying h2, goInt]

variable {ops : Array Oper} {l : List Oper} {Q : AEx → Env → Store → Prop} {o : Oper} {d : Nat}
theorem RL.mkSlice (hΓ : TysOk P Γ) {t e : TypeId} {x y : Operand} {it ie : TI} {k k' : IntKind} {m : Nat} {z : Value} {c : AV} (hg : guardOf ops env o = some true) (hd : o.dst = some d) (hN : Nat.blt d N = true) (ho : o.op = .makeSlice t x y) (ht : Γ.get? t = some it) (htd : it.td = .slc e) (hie : Γ.get? e = some ie)
  (hx : ev env x = some (.int k (m : Int))) (hy : ev env y = some (.int k' (m : Int))) (h1 : ie.size = 1) (hz : ie.zero.cells = #[z]) (hc : constAV z = some c) (hb : (ie.bytes : Int) * (m : Int) ≤ 281474976710656) (h63 : (m : Int) ≤ 9223372036854775807)
  (h : ∀ b, s b = none → RL P N ops l Q ((d, .mslc b m) :: env) (s.set b (.box e (List.replicate m c)))) : RL P N ops (o :: l) Q env s :=
 RL.op hg hd hN (OW.mkSlice hΓ ho ht htd hie hx hy h1 hz hc hb h63 (X := fun _ _ => False)) (fun x s' ⟨b, h1, h2, h3⟩ => by subst h2; subst h3; exact h b h1) (fun _ _ h => h.elim)
theorem RL.idxM (hΓ : TysOk P Γ) {t e : TypeId} {x y : Operand} {it ie : TI} {b n : Nat} {k : IntKind} {i : Int} (j : Nat) (hg : guardOf ops env o = some true) (hd : o.dst = some d) (hN : Nat.blt d N = true) (ho : o.op = .indexAddr t x y)
  (ht : Γ.get? t = some it) (htd : it.td = .slc e) (hie : Γ.get? e = some ie) (hx : ev env x = some (.mslc b n)) (h1 : ie.size = 1) (hy : ev env y = some (.int k i)) (hij : i = (j : Int)) (hj : j < n)
  (h : RL P N ops l Q ((d, .ptr b j) :: env) s) : RL P N ops (o :: l) Q env s :=
 RL.op hg hd hN (OW.idxM hΓ ho ht htd hie hx h1 hy hij hj (X := fun _ _ => False)) (fun x s' ⟨h1, h2⟩ => by subst h1; subst h2; exact h) (fun _ _ h => h.elim)
theorem RL.lenM (hΓ : TysOk P Γ) {x : Operand} {t e : TypeId} {i : TI} {b n : Nat} (hg : guardOf ops env o = some true) (hd : o.dst = some d) (hN : Nat.blt d N = true) (ho : o.op = .call { callee := .builtin .len, args := #[x], argTypes := #[t] }) (ht : Γ.get? t = some i) (htd : i.td = .slc e) (hx : ev env x = some (.mslc b n))
  (h : RL P N ops l Q ((d, .int .i64 (n : Int)) :: env) s) : RL P N ops (o :: l) Q env s :=
 RL.op hg hd hN (OW.lenM hΓ ho ht htd hx (X := fun _ _ => False)) (fun x s' ⟨h1, h2⟩ => by subst h1; subst h2; exact h) (fun _ _ h => h.elim)
end

def bools (l : List Bool) : List AV := l.map .bool
theorem bools_length (l : List Bool) : (bools l).length = l.length := by simp [bools]
theorem bools_set (l : List Bool) (j : Nat) (b : Bool) : (bools l).set j (.bool b) = bools (l.set j b) := by simp [bools, List.map_set]
theorem bools_get {l : List Bool} {j : Nat} {b : Bool} (h : l[j]? = some b) : (bools l)[j]? = some (.bool b) := by simp [bools, h]

end Go.Proofs.YtaafacnoddjhgaaGreat

/- Contracts of the reference: place, above, SlotsOf, classes. -/
namespace Go.Proofs.YtaafacnoddjhgaaGreat
open Go.AE

theorem dropC_get {v : AV} : ∀ {cells : List AV} {j : Nat}, cells[j]? = some v → ∃ r, dropC j cells = some (v :: r)
  | [], j, h => by simp at h
  | x :: r, 0, h => by simp at h; subst h; exact ⟨r, rfl⟩
  | x :: r, j + 1, h => by
    obtain ⟨r', hr⟩ := dropC_get (cells := r) (j := j) (by simpa using h)
    exact ⟨r', hr⟩
theorem loadC_bool {i : TI} (hi : i.td = .bool) {cells : List AV} {j : Nat} {v : AV} (h : cells[j]? = some v) : loadC i cells j = some v := by
 obtain ⟨r, hr⟩ := dropC_get h
 unfold loadC
 rw [hr]
 simp only [hi]

set_option maxRecDepth 10000 in
theorem refPlace_spec (P : FProg) (name : Str) (s : Store) (hl : P.classes.length < big) :
  ACalls Tryz.prog 133 [P.av, .str name] s (fun o s' => o = .ret (.int .i64 (placeOf P.classes name 0)) ∧ s' = s) := by
 have hb : big = 1099511627776 := rfl
 refine ACalls.of_CW tO call133 Tryz.func133 rfl rfl ?_
 repeat (first | with_reducible refine CW.seq ?_ | with_reducible refine aN ?_ | with_reducible refine CW.block ?_ | refine CW.reg (RL.run tO rfl (RL.nil ?_)))
 refine CW.loop (σ := Nat) (fun j => [(1, .str name), (2, .fptr P.cells 0), (5, .int .i64 (j : Int))]) (fun _ => s) (fun j => j ≤ P.classes.length ∧ placeOf P.classes name 0 = placeOf P.classes name j) (fun j => P.classes.length - j) 0 ⟨by omega, rfl⟩ (by repeat (first | exact trivial | refine ⟨⟨_, rfl, AVle.refl _⟩, ?_⟩)) (Store.sub_refl _) ?_
 rintro j ⟨hj, hI⟩
 repeat (first | with_reducible refine CW.seq ?_ | with_reducible refine aN ?_ | refine CW.reg (RL.run tO rfl (RL.nil ?_)))
 refine CW.cond rfl (fun h => ?_) (fun h => ?_)
 ·have hlt : j < P.classes.length := by simpa using h
  obtain ⟨c, hy⟩ : ∃ y, P.classes[j]? = some y := ⟨_, List.getElem?_eq_getElem hlt⟩
  have hy' : (P.classes.map FClass.av)[j]? = some (.agg c.cells) := by rw [List.getElem?_map, hy]; rfl
  repeat (first | with_reducible refine CW.seq ?_ | with_reducible refine aN ?_ | with_reducible refine CW.skip ?_ | with_reducible refine CW.block ?_ | refine CW.reg ?_ | refine RL.nil ?_ | refine RL.step tO rfl rfl rfl rfl ?_ | refine RL.idx tO _ rfl rfl rfl rfl rfl rfl rfl rfl rfl rfl rfl (by assumption) rfl ?_)
  refine CW.cond rfl (fun hc => ?_) (fun hc => ?_)
  ·repeat (first | with_reducible refine CW.seq ?_ | with_reducible refine aN ?_ | with_reducible refine aR ?_ | with_reducible refine iR ?_ | with_reducible refine CW.ret ?_ | refine CW.reg (RL.run tO rfl (RL.nil ?_)))
   exact ⟨_, _, _, rfl, AVle.refl _, Store.sub_refl _, by rw [hI, placeOf_hit hy hc], rfl⟩
  ·repeat (first | with_reducible refine aN ?_ | with_reducible refine iN ?_ | with_reducible refine CW.skip ?_ | refine CW.reg (RL.run tO rfl (RL.nil ?_)))
   exact ⟨j + 1, ⟨hlt, by rw [hI, placeOf_miss hy hc]⟩, (by repeat (first | exact trivial | refine ⟨⟨_, rfl, AVle.refl _⟩, ?_⟩ | refine ⟨⟨_, rfl, AVle.of_eq (by (rw [i64_succ (by omega)]))⟩, ?_⟩)), Store.sub_refl _, by omega⟩
 ·have hge : P.classes.length ≤ j := by simpa using h
  repeat (first | with_reducible refine CW.seq ?_ | with_reducible refine aN ?_ | with_reducible refine aX ?_ | with_reducible refine iH ?_ | with_reducible refine CW.ret ?_ | with_reducible refine CW.exit ?_ | refine CW.reg (RL.run tO rfl (RL.nil ?_)))
  exact ⟨_, _, _, rfl, AVle.refl _, Store.sub_refl _, by rw [hI, placeOf_end hge], rfl⟩

/-! ### The classes above one -/
def at_ (cls : List FClass) (p : Str) : Nat := (cls.findIdx? fun c => c.name == p).getD 0
def upStep (cls : List FClass) (ps : List Str) (out : List Bool) : List Bool := ps.foldl (fun out p => out.set (at_ cls p) true) out
def upGo (cls : List FClass) (n : Nat) : Nat → List Bool → List Bool
 | 0, out => out
 | i + 1, out => upGo cls n i (if i == n || out.getD i false then upStep cls ((cls[i]?.map FClass.parents).getD []) out else out)
def aboveB (cls : List FClass) (n : Nat) : List Bool := upGo cls n (n + 1) (List.replicate cls.length false)

def Known (cls : List FClass) : Prop := ∀ c ∈ cls, ∀ p ∈ c.parents, (cls.findIdx? fun c => c.name == p).isSome = true

theorem placeOf_at {cls : List FClass} {p : Str} (h : (cls.findIdx? fun c => c.name == p).isSome = true) : placeOf cls p 0 = (at_ cls p : Int) ∧ at_ cls p < cls.length := by
 obtain ⟨j, hj⟩ := Option.isSome_iff_exists.1 h
 unfold placeOf at_
 rw [List.drop_zero, hj]
 simp only [Option.getD_some, Nat.zero_add]
 refine ⟨trivial, ?_⟩
 rw [List.findIdx?_eq_some_iff_getElem] at hj
 exact hj.1

theorem upStep_len (cls : List FClass) : ∀ (ps : List Str) (out : List Bool), (upStep cls ps out).length = out.length
  | [], _ => rfl
  | p :: ps, out => by
    show (upStep cls ps (out.set _ true)).length = _
    rw [upStep_len cls ps, List.length_set]

def boolBox (l : List Bool) : AObj := .box 4 (bools l)

set_option maxRecDepth 10000 in
set_option maxHeartbeats 2000000 in
theorem refAbove_spec (P : FProg) (n : Nat) (s : Store) (hl : P.classes.length < big) (hn : n < P.classes.length) (hk : Known P.classes) (hp : ∀ c ∈ P.classes, c.parents.length < big) :
  ACalls Tryz.prog 97 [P.av, .int .i64 (n : Int)] s (fun o s' => ∃ b, s b = none ∧ o = .ret (.mslc b P.classes.length) ∧ s' = s.set b (boolBox (aboveB P.classes n))) := by
 have hb : big = 1099511627776 := rfl
 have hml : (P.classes.map FClass.av).length = P.classes.length := List.length_map ..
 refine ACalls.of_CW tO call97 Tryz.func97 rfl rfl ?_
 refine CW.seqCut [(1, .int .i64 (n : Int)), (2, .fptr P.cells 0)] s ?_ ?_
 ·repeat (first | refine CW.reg (RL.run tO rfl (RL.nil ?_)))
  exact ⟨rfl, (by repeat (first | exact trivial | refine ⟨⟨_, rfl, AVle.refl _⟩, ?_⟩)), Store.sub_refl _⟩
 refine CW.seqCutX (σ := Nat) (fun b => [(1, .int .i64 (n : Int)), (2, .fptr P.cells 0), (5, .mslc b P.classes.length)]) (fun b => s.set b (boolBox (List.replicate P.classes.length false))) (fun b => s b = none) ?_ ?_
 ·repeat (first | refine CW.reg ?_ | refine RL.step tO rfl rfl rfl rfl ?_)
  rw [hml]
  refine RL.mkSlice tO rfl rfl rfl rfl rfl rfl rfl rfl rfl rfl rfl rfl (by show (1 : Int) * _ ≤ _; omega) (by omega) (fun b hb => ?_)
  repeat (first | refine RL.nil ?_ | refine RL.step tO rfl rfl rfl rfl ?_)
  refine ⟨rfl, b, hb, (by repeat (first | exact trivial | refine ⟨⟨_, rfl, AVle.refl _⟩, ?_⟩)), ?_⟩
  have : bools (List.replicate P.classes.length false) = List.replicate P.classes.length (.bool false) := by simp [bools]
  rw [boolBox, this]; exact Store.sub_refl _
 intro b hbn
 repeat (first | with_reducible refine CW.seq ?_ | with_reducible refine aN ?_ | with_reducible refine CW.block ?_ | refine CW.reg (RL.run tO rfl (RL.nil ?_)))
 refine CW.loop (σ := Nat × List Bool) (fun q => [(1, .int .i64 (n : Int)), (2, .fptr P.cells 0), (5, .mslc b P.classes.length), (6, .int .i64 ((n : Int) - (q.1 : Int)))]) (fun q => s.set b (boolBox q.2))
  (fun q => q.1 ≤ n + 1 ∧ q.2.length = P.classes.length ∧ upGo P.classes n (n + 1 - q.1) q.2 = aboveB P.classes n) (fun q => n + 1 - q.1) (0, List.replicate P.classes.length false) ⟨by simp, by simp, rfl⟩ (by repeat (first | exact trivial | refine ⟨⟨_, rfl, AVle.refl _⟩, ?_⟩ | refine ⟨⟨_, rfl, AVle.of_eq (by (simp))⟩, ?_⟩)) (Store.sub_refl _) ?_
 rintro ⟨k, out⟩ ⟨hk1, hol, hI⟩
 simp only at hk1 hol hI
 repeat (first | with_reducible refine CW.seq ?_ | with_reducible refine aN ?_ | refine CW.reg (RL.run tO rfl (RL.nil ?_)))
 refine CW.cond rfl (fun h => ?_) (fun h => ?_)
 ·have hlt : k ≤ n := by simp only [decide_eq_true_eq] at h; omega
  have hin : (n : Int) - (k : Int) = ((n - k : Nat) : Int) := by omega
  have hil : n - k < P.classes.length := by omega
  obtain ⟨c, hc⟩ : ∃ c, P.classes[n - k]? = some c := ⟨_, List.getElem?_eq_getElem hil⟩
  have hc' : (P.classes.map FClass.av)[n - k]? = some (.agg c.cells) := by rw [List.getElem?_map, hc]; rfl
  obtain ⟨v, hv⟩ : ∃ v, out[n - k]? = some v := ⟨_, List.getElem?_eq_getElem (by omega)⟩
  have hgo : upGo P.classes n (n + 1 - k) out = upGo P.classes n (n - k) (if n - k == n || v then upStep P.classes c.parents out else out) := by
   rw [show n + 1 - k = (n - k) + 1 by omega, upGo, hc]
   simp [hv]
  rw [hgo] at hI
  have hcm : c ∈ P.classes := List.mem_of_getElem? hc
  have hcp := hp c hcm
  refine CW.skip (aN (CW.seq (CW.block ?_)))
  refine CW.seq ?_
  refine CW.seqCut [(1, .int .i64 (n : Int)), (2, .fptr P.cells 0), (5, .mslc b P.classes.length), (6, .int .i64 ((n : Int) - (k : Int))), (27, .bool (!(n - k == n || v)))] (s.set b (boolBox out)) ?_ ?_
  ·repeat (first | refine CW.reg ?_ | refine RL.step tO rfl rfl rfl rfl ?_)
   by_cases hk0 : k = 0
   ·subst hk0
    refine RL.knowF 21 rfl (by simp) ?_
    repeat (first | refine RL.nil ?_ | refine RL.step tO rfl rfl rfl rfl ?_ | refine RL.skip rfl rfl rfl ?_)
    exact ⟨rfl, (by repeat (first | exact trivial | refine ⟨⟨_, rfl, AVle.refl _⟩, ?_⟩ | refine ⟨⟨_, rfl, AVle.of_eq (by (simp))⟩, ?_⟩)), Store.sub_refl _⟩
   ·refine RL.knowT 21 rfl (by simp; omega) ?_
    repeat (first | refine RL.step tO rfl rfl rfl rfl ?_)
    refine RL.idxM tO (n - k) rfl rfl rfl rfl rfl rfl rfl rfl rfl rfl hin hil ?_
    refine RL.loadP tO rfl rfl rfl rfl rfl rfl (Store.set_same _ _ _) (loadC_bool rfl (bools_get hv)) ?_
    repeat (first | refine RL.nil ?_ | refine RL.step tO rfl rfl rfl rfl ?_)
    have hne : (n - k == n) = false := by simp; omega
    exact ⟨rfl, (by repeat (first | exact trivial | refine ⟨⟨_, rfl, AVle.refl _⟩, ?_⟩ | refine ⟨⟨_, rfl, AVle.of_eq (by (rw [hne]; rfl))⟩, ?_⟩)), Store.sub_refl _⟩
  cases hu : n - k == n || v with
  | false =>
   rw [hu, if_neg (by simp)] at hI
   repeat (first | with_reducible refine aN ?_ | with_reducible refine aX ?_ | with_reducible refine iH ?_ | with_reducible refine CW.exit ?_ | refine CW.reg (RL.run tO rfl (RL.nil ?_)) | refine CW.condT rfl ?_)
   exact ⟨(k + 1, out), ⟨by show k + 1 ≤ n + 1; omega, hol, by rw [show n + 1 - (k + 1) = n - k by omega]; exact hI⟩, (by repeat (first | exact trivial | refine ⟨⟨_, rfl, AVle.refl _⟩, ?_⟩ | refine ⟨⟨_, rfl, AVle.of_eq (by (rw [i64_wrap (by omega) (by omega)]; congr 1; omega))⟩, ?_⟩)), Store.sub_refl _, by show n + 1 - (k + 1) < n + 1 - k; omega⟩
  | true =>
   rw [hu, if_pos rfl] at hI
   refine CW.condF rfl (CW.skip (aN ?_))
   refine CW.seqCut [(1, .int .i64 (n : Int)), (2, .fptr P.cells 0), (5, .mslc b P.classes.length), (6, .int .i64 ((n : Int) - (k : Int))), (7, .slc 1 (strs c.parents) .fro)] (s.set b (boolBox out)) ?_ ?_
   ·repeat (first | refine CW.reg ?_ | refine RL.step tO rfl rfl rfl rfl ?_)
    refine RL.idx tO (n - k) rfl rfl rfl rfl rfl rfl rfl rfl rfl rfl hin hc' rfl ?_
    repeat (first | refine RL.nil ?_ | refine RL.step tO rfl rfl rfl rfl ?_)
    exact ⟨rfl, (by repeat (first | exact trivial | refine ⟨⟨_, rfl, AVle.refl _⟩, ?_⟩)), Store.sub_refl _⟩
   repeat (first | with_reducible refine CW.seq ?_ | with_reducible refine aN ?_ | with_reducible refine CW.block ?_ | refine CW.reg (RL.run tO rfl (RL.nil ?_)))
   refine CW.loop (σ := Nat × List Bool) (fun q => [(1, .int .i64 (n : Int)), (2, .fptr P.cells 0), (5, .mslc b P.classes.length), (6, .int .i64 ((n : Int) - (k : Int))), (7, .slc 1 (strs c.parents) .fro), (8, .int .i64 (q.1 : Int))]) (fun q => s.set b (boolBox q.2))
    (fun q => q.1 ≤ c.parents.length ∧ q.2.length = P.classes.length ∧ upStep P.classes (c.parents.drop q.1) q.2 = upStep P.classes c.parents out) (fun q => c.parents.length - q.1) (0, out) ⟨by simp, hol, rfl⟩ (by repeat (first | exact trivial | refine ⟨⟨_, rfl, AVle.refl _⟩, ?_⟩)) (Store.sub_refl _) ?_
   rintro ⟨j, out2⟩ ⟨hj, hol2, hJ⟩
   simp only at hj hol2 hJ
   repeat (first | with_reducible refine CW.seq ?_ | with_reducible refine aN ?_ | refine CW.reg (RL.run tO rfl (RL.nil ?_)))
   refine CW.cond rfl (fun h => ?_) (fun h => ?_)
   ·have hltj : j < c.parents.length := by simpa using h
    obtain ⟨p, hpj⟩ : ∃ p, c.parents[j]? = some p := ⟨_, List.getElem?_eq_getElem hltj⟩
    have hpj' : (strs c.parents)[j]? = some (.str p) := by rw [strs_get, hpj]; rfl
    obtain ⟨q1, q2⟩ := placeOf_at (hk c hcm p (List.mem_of_getElem? hpj))
    rw [drop_cons hpj] at hJ
    have hJ' : upStep P.classes (c.parents.drop (j + 1)) (out2.set (at_ P.classes p) true) = upStep P.classes c.parents out := hJ
    repeat (first | with_reducible refine CW.seq ?_ | with_reducible refine aN ?_ | with_reducible refine CW.skip ?_ | with_reducible refine CW.block ?_ | refine CW.drw tO mixed rfl (RD.run rfl ?_))
    refine RD.idx 4 j rfl rfl rfl rfl rfl rfl rfl rfl rfl rfl rfl rfl rfl hpj' rfl ?_
    refine RD.run rfl ?_
    refine RD.callP (i := 6) rfl rfl rfl rfl rfl rfl rfl (refPlace_spec P p _ hl) ?_
    rw [q1]
    refine RD.one (i := 7) rfl rfl rfl rfl rfl (OW.idxM tO rfl rfl rfl rfl rfl rfl rfl rfl q2 (X := fun _ _ => False)) ?_ (fun _ _ h => False.elim h)
    rintro _ s2 ⟨rfl, hs2⟩
    rw [hs2]
    clear hs2 s2
    refine RD.run rfl ?_
    refine RD.oneN (i := 8) rfl rfl rfl rfl (OW.storeP tO rfl rfl rfl rfl rfl rfl rfl (Store.set_same _ _ _) (by rw [Nat.ble_eq, bools_length]; show at_ P.classes p + 1 ≤ out2.length; omega) (X := fun _ _ => False)) ?_ (fun _ _ h => False.elim h)
    rintro _ _ rfl
    refine RD.run rfl (RD.done rfl ?_)
    rw [Store.set_set]
    repeat (first | with_reducible refine aN ?_ | with_reducible refine iN ?_ | refine CW.reg (RL.run tO rfl (RL.nil ?_)))
    refine ⟨(j + 1, out2.set (at_ P.classes p) true), ⟨hltj, by rw [List.length_set]; exact hol2, hJ'⟩, (by repeat (first | exact trivial | refine ⟨⟨_, rfl, AVle.refl _⟩, ?_⟩ | refine ⟨⟨_, rfl, AVle.of_eq (by (show AV.int .i64 (IntKind.wrap .i64 ((j : Int) + 1)) = .int .i64 ((j + 1 : Nat) : Int); rw [i64_succ (by omega)]))⟩, ?_⟩)), ?_, by show c.parents.length - (j + 1) < c.parents.length - j; omega⟩
    show Store.Sub (s.set b (boolBox (out2.set (at_ P.classes p) true))) _
    rw [boolBox, ← bools_set]
    exact Store.sub_refl _
   ·have hge : c.parents.length ≤ j := by simpa using h
    rw [List.drop_eq_nil_of_le hge] at hJ
    have hJ' : out2 = upStep P.classes c.parents out := hJ
    rw [← hJ'] at hI
    repeat (first | with_reducible refine aN ?_ | with_reducible refine aX ?_ | with_reducible refine iN ?_ | with_reducible refine iH ?_ | with_reducible refine CW.exit ?_ | refine CW.reg (RL.run tO rfl (RL.nil ?_)))
    exact ⟨(k + 1, out2), ⟨by show k + 1 ≤ n + 1; omega, hol2, by rw [show n + 1 - (k + 1) = n - k by omega]; exact hI⟩, (by repeat (first | exact trivial | refine ⟨⟨_, rfl, AVle.refl _⟩, ?_⟩ | refine ⟨⟨_, rfl, AVle.of_eq (by (rw [i64_wrap (by omega) (by omega)]; congr 1; omega))⟩, ?_⟩)), Store.sub_refl _, by show n + 1 - (k + 1) < n + 1 - k; omega⟩
 ·have hge : k = n + 1 := by simp only [decide_eq_false_iff_not] at h; omega
  subst hge
  have hI' : out = aboveB P.classes n := by rw [← hI]; simp [upGo]
  repeat (first | with_reducible refine CW.seq ?_ | with_reducible refine aN ?_ | with_reducible refine aX ?_ | with_reducible refine iH ?_ | with_reducible refine CW.ret ?_ | with_reducible refine CW.exit ?_ | refine CW.reg (RL.run tO rfl (RL.nil ?_)))
  exact ⟨_, _, _, rfl, AVle.refl _, Store.sub_refl _, b, hbn, rfl, by rw [hI']⟩

set_option maxRecDepth 10000 in
theorem refSlotsOf_spec (P : FProg) (s : Store) (hl : P.classes.length < big) (hs : (P.classes.flatMap FClass.slots).length < big) :
  ACalls Tryz.prog 56 [P.av] s (fun o s' => o = .ret (.slc 1 (strs (P.classes.flatMap FClass.slots)) .fro) ∧ s' = s) := by
 have hb : big = 1099511627776 := rfl
 refine ACalls.of_CW tO call56 Tryz.func56 rfl rfl ?_
 repeat (first | with_reducible refine CW.seq ?_ | with_reducible refine aN ?_ | with_reducible refine CW.block ?_ | refine CW.reg (RL.run tO rfl (RL.nil ?_)))
 refine CW.loop (σ := Nat × Own) (fun q => [(1, .fptr P.cells 0), (3, .slc 1 (strs ((P.classes.take q.1).flatMap FClass.slots)) q.2), (4, .int .i64 (q.1 : Int))])
  (fun q => rowOf s 9 1 ((P.classes.take q.1).flatMap FClass.slots).length q.2) (fun q => q.1 ≤ P.classes.length ∧ OwnOk s 0 q.2) (fun q => P.classes.length - q.1) (0, .nil) ⟨by simp, trivial⟩ ?_ (Store.sub_refl _) ?_
 ·exact ⟨⟨_, rfl, AVle.refl _⟩, ⟨_, rfl, AVle.nil (by simp)⟩, ⟨_, rfl, AVle.refl _⟩, trivial⟩
 rintro ⟨i, own⟩ ⟨hi, hown⟩
 simp only at hi hown
 repeat (first | with_reducible refine CW.seq ?_ | with_reducible refine aN ?_ | refine CW.reg (RL.run tO rfl (RL.nil ?_)))
 refine CW.cond rfl (fun h => ?_) (fun h => ?_)
 ·have hlt : i < P.classes.length := by simpa using h
  obtain ⟨c, hci⟩ : ∃ c, P.classes[i]? = some c := ⟨_, List.getElem?_eq_getElem hlt⟩
  have hci' : (P.classes.map FClass.av)[i]? = some (.agg c.cells) := by rw [List.getElem?_map, hci]; rfl
  have hle := flatMap_take_le FClass.slots P.classes (i + 1)
  rw [flatMap_take_succ _ hci, List.length_append] at hle
  repeat (first | with_reducible refine CW.seq ?_ | with_reducible refine aN ?_ | with_reducible refine CW.skip ?_ | with_reducible refine CW.block ?_ | refine CW.reg ?_ | refine RL.step tO rfl rfl rfl rfl ?_ | refine RL.idx tO _ rfl rfl rfl rfl rfl rfl rfl rfl rfl rfl rfl (by assumption) rfl ?_)
  refine RL.appendR tO rfl rfl rfl rfl rfl rfl rfl (by intro k; simp) rfl rfl rfl rfl (.inr rfl) rfl (strs_elem _) (n := ((P.classes.take i).flatMap FClass.slots).length) ?_ ?_ (strs_length _).symm rfl (OwnOk.sub' hown) ?_
  ·simp only [strs_length]; show _ * 16 ≤ _; omega
  ·simp only [strs_length]; omega
  rintro own' h1
  repeat (first | with_reducible refine aN ?_ | with_reducible refine iN ?_ | refine CW.reg (RL.run tO rfl (RL.nil ?_)) | refine RL.nil ?_ | refine RL.step tO rfl rfl rfl rfl ?_)
  refine ⟨(i + 1, own'), ⟨hlt, OwnOk.sub' h1⟩, ⟨⟨_, rfl, AVle.refl _⟩, ⟨_, rfl, AVle.of_eq ?_⟩, ⟨_, rfl, AVle.of_eq ?_⟩, trivial⟩, ?_, by show P.classes.length - (i + 1) < P.classes.length - i; omega⟩
  ·rw [flatMap_take_succ _ hci]; simp [strs]
  ·rw [i64_succ (by omega)]
  ·have e : (strs ((P.classes.take i).flatMap FClass.slots)).length + (strs c.slots).length = ((P.classes.take (i + 1)).flatMap FClass.slots).length := by
    rw [flatMap_take_succ _ hci]; simp
   show Store.Sub (rowOf s _ 1 _ own') _
   rw [← e]; exact Store.sub_refl _
 ·have hge : P.classes.length ≤ i := by simpa using h
  rw [List.take_of_length_le hge]
  repeat (first | with_reducible refine CW.seq ?_ | with_reducible refine aN ?_ | with_reducible refine aX ?_ | with_reducible refine iH ?_ | with_reducible refine CW.ret ?_ | with_reducible refine CW.exit ?_ | refine CW.reg (RL.run tO rfl (RL.nil ?_)))
  exact ⟨_, _, s, rfl, AVle.fro, rowOf_sub hown, rfl, rfl⟩

/-! ### Classes -/
def clsOkR (pre : List Str) (c : FClass) : Bool := ((decide (c.parents.length ≤ 3) && decide (c.slots.length ≤ 4)) && decide c.parents.Nodup) && c.parents.all pre.contains
def allPreN : List Str → List FClass → Bool
 | _, [] => true
 | pre, c :: r => clsOkR pre c && allPreN (pre ++ [c.name]) r
def classesR (cls : List FClass) : Bool := decide (cls.length ≤ 10) && (allPreN [] cls && (((cls.map FClass.name).all nameS && decide (cls.map FClass.name).Nodup) && ((cls.flatMap FClass.slots).all nameS && decide (cls.flatMap FClass.slots).Nodup)))

set_option maxRecDepth 10000 in
set_option maxHeartbeats 2000000 in
theorem refClasses_spec (P : FProg) (s : Store) (hP : P.Fair) :
    ACalls Tryz.prog 53 [P.av] s (fun o s' => o = .ret (.bool (classesR P.classes)) ∧ s' = s) := by
  have hb : big = 1099511627776 := rfl
  have hl := hP.clen
  have hsl := hP.slen
  have hml : (P.classes.map FClass.av).length = P.classes.length := List.length_map ..
  refine ACalls.of_CW tO call53 Tryz.func53 rfl rfl ?_
  repeat (first | with_reducible refine CW.seq ?_ | with_reducible refine aN ?_ | refine CW.reg (RL.run tO rfl (RL.nil ?_)))
  refine CW.cond rfl (fun h => ?_) (fun h => ?_)
  · have hgt : ¬ P.classes.length ≤ 10 := by rw [hml] at h; simp at h; omega
    have : classesR P.classes = false := by unfold classesR; rw [decide_eq_false hgt]; rfl
    rw [this]
    repeat (first | with_reducible refine CW.seq ?_ | with_reducible refine aN ?_ | with_reducible refine aR ?_ | with_reducible refine CW.ret ?_ | refine CW.reg (RL.run tO rfl (RL.nil ?_)))
    exact ⟨_, _, _, rfl, AVle.refl _, Store.sub_refl _, rfl, rfl⟩
  have hle : P.classes.length ≤ 10 := by rw [hml] at h; simp at h; omega
  have hdef : classesR P.classes = (allPreN [] P.classes && (((P.classes.map FClass.name).all nameS && decide (P.classes.map FClass.name).Nodup) && ((P.classes.flatMap FClass.slots).all nameS && decide (P.classes.flatMap FClass.slots).Nodup))) := by
    unfold classesR; rw [decide_eq_true hle]; rfl
  repeat (first | with_reducible refine CW.seq ?_ | with_reducible refine aN ?_ | with_reducible refine CW.skip ?_ | with_reducible refine CW.block ?_ | refine CW.reg (RL.run tO rfl (RL.nil ?_)))
  refine CW.loop (σ := Nat × Own) (fun q => [(1, .fptr P.cells 0), (3, .slc 1 (strs ((P.classes.take q.1).map FClass.name)) q.2), (4, .int .i64 (q.1 : Int))])
    (fun q => rowOf s 9 1 q.1 q.2) (fun q => q.1 ≤ P.classes.length ∧ OwnOk s 0 q.2 ∧ allPreN [] P.classes = allPreN ((P.classes.take q.1).map FClass.name) (P.classes.drop q.1)) (fun q => P.classes.length - q.1) (0, .nil) ⟨by simp, trivial, rfl⟩ ?_ (Store.sub_refl _) ?_
  · exact ⟨⟨_, rfl, AVle.refl _⟩, ⟨_, rfl, AVle.nil (by simp)⟩, ⟨_, rfl, AVle.refl _⟩, trivial⟩
  rintro ⟨i, own⟩ ⟨hi, hown, hI⟩
  simp only at hi hown hI
  have hln : ((P.classes.take i).map FClass.name).length = i := by simp; omega
  repeat (first | with_reducible refine CW.seq ?_ | with_reducible refine aN ?_ | refine CW.reg (RL.run tO rfl (RL.nil ?_)))
  refine CW.cond rfl (fun h => ?_) (fun h => ?_)
  · have hlt : i < P.classes.length := by rw [hml] at h; simpa using h
    obtain ⟨c, hci⟩ : ∃ c, P.classes[i]? = some c := ⟨_, List.getElem?_eq_getElem hlt⟩
    have hci' : (P.classes.map FClass.av)[i]? = some (.agg c.cells) := by rw [List.getElem?_map, hci]; rfl
    have hcf := hP.cls c (List.mem_of_getElem? hci)
    have hpl := hcf.parents.len
    rw [drop_cons hci, allPreN] at hI
    have hbad : clsOkR ((P.classes.take i).map FClass.name) c = false → classesR P.classes = false := fun hc => by rw [hdef, hI, hc]; rfl
    have hnx : (P.classes.take i).map FClass.name ++ [c.name] = (P.classes.take (i + 1)).map FClass.name := by rw [← take_snoc hci]; simp
    rw [hnx] at hI
    refine CW.skip (aN (CW.seq (CW.block ?_)))
    refine CW.seqCut [(1, .fptr P.cells 0), (3, .slc 1 (strs ((P.classes.take i).map FClass.name)) own), (4, .int .i64 (i : Int)), (5, .fptr c.cells 0)] (rowOf s 9 1 i own) ?_ ?_
    · repeat (first | refine CW.reg ?_ | refine RL.step tO rfl rfl rfl rfl ?_ | refine RL.idx tO _ rfl rfl rfl rfl rfl rfl rfl rfl rfl rfl rfl (by assumption) rfl ?_)
      refine RL.newBox tO rfl rfl rfl rfl rfl rfl rfl (fun _ => rfl) rfl rfl (fun _ => rfl) rfl rfl rfl rfl ?_
      repeat (first | refine RL.nil ?_)
      exact ⟨rfl, (by repeat (first | exact trivial | refine ⟨⟨_, rfl, AVle.refl _⟩, ?_⟩)), Store.sub_refl _⟩
    refine CW.seqCutX (σ := Own) (fun o' => [(1, .fptr P.cells 0), (3, .slc 1 (strs ((P.classes.take (i + 1)).map FClass.name)) o'), (4, .int .i64 (i : Int)), (5, .fptr c.cells 0)]) (fun o' => rowOf s 9 1 (i + 1) o') (fun o' => OwnOk s 0 o') ?_ ?_
    · repeat (first | refine CW.reg ?_ | refine RL.step tO rfl rfl rfl rfl ?_)
      refine RL.append1 tO rfl rfl rfl rfl rfl rfl rfl (by intro k; simp) rfl rfl rfl rfl rfl rfl rfl (n := i) (by rw [strs_length, hln]) (by show (i + 1) * 16 ≤ _; omega) (by omega) (s := s) rfl (OwnOk.sub' hown) (fun rb hrb => ?_)
      repeat (first | refine RL.nil ?_ | refine RL.step tO rfl rfl rfl rfl ?_)
      exact ⟨rfl, .own rb, hrb, (by repeat (first | exact trivial | refine ⟨⟨_, rfl, AVle.refl _⟩, ?_⟩ | refine ⟨⟨_, rfl, AVle.of_eq (by (rw [← hnx]; simp [strs]))⟩, ?_⟩)), Store.sub_refl _⟩
    intro o' ho'
    have hln2 : ((P.classes.take (i + 1)).map FClass.name).length = i + 1 := by simp; omega
    have hdf := fun s => differ_spec c.parents .fro s (by omega)
    refine CW.seq ?_
    refine CW.seqCut [(1, .fptr P.cells 0), (3, .slc 1 (strs ((P.classes.take (i + 1)).map FClass.name)) o'), (4, .int .i64 (i : Int)), (5, .fptr c.cells 0), (43, .bool (!((decide (c.parents.length ≤ 3) && decide (c.slots.length ≤ 4)) && decide c.parents.Nodup)))] (rowOf s 9 1 (i + 1) o') ?_ ?_
    · generalize decide c.parents.Nodup = nd at hdf
      repeat' (first | refine CW.reg ?_ | refine RL.nil ?_ | refine RL.step tO rfl rfl rfl rfl ?_ | refine RL.skip rfl rfl rfl ?_ | refine RL.gstepF tO rfl rfl rfl rfl rfl rfl rfl (fun _ => ?_) (fun _ => ?_) | refine RL.callP rfl rfl rfl rfl rfl (hdf _) ?_)
      all_goals refine ⟨rfl, (by repeat (first | exact trivial | refine ⟨⟨_, rfl, AVle.refl _⟩, ?_⟩ | refine ⟨⟨_, rfl, AVle.of_eq (by (simp_all; (try (rw [Bool.eq_iff_iff]; simp; omega)); (try omega)))⟩, ?_⟩)), Store.sub_refl _⟩
    cases hc1 : (decide (c.parents.length ≤ 3) && decide (c.slots.length ≤ 4)) && decide c.parents.Nodup with
    | false =>
      rw [hbad (by unfold clsOkR; rw [hc1]; rfl)]
      repeat (first | with_reducible refine CW.seq ?_ | with_reducible refine aN ?_ | with_reducible refine aR ?_ | with_reducible refine iR ?_ | with_reducible refine CW.ret ?_ | refine CW.reg (RL.run tO rfl (RL.nil ?_)) | refine CW.condT rfl ?_)
      exact ⟨_, _, s, rfl, AVle.refl _, rowOf_sub ho', rfl, rfl⟩
    | true =>
    have hck : clsOkR ((P.classes.take i).map FClass.name) c = c.parents.all ((P.classes.take i).map FClass.name).contains := by unfold clsOkR; rw [hc1]; rfl
    refine CW.condF rfl (CW.skip (aN ?_))
    have htk : ((strs ((P.classes.take (i + 1)).map FClass.name)).take i).drop 0 = strs ((P.classes.take i).map FClass.name) := by
      rw [← hnx]
      have : strs ((P.classes.take i).map FClass.name ++ [c.name]) = strs ((P.classes.take i).map FClass.name) ++ [.str c.name] := by simp [strs]
      rw [this, List.drop_zero]
      exact List.take_left' (by rw [strs_length, hln])
    generalize (P.classes.take i).map FClass.name = pre at hln hck hI hbad htk
    repeat (first | with_reducible refine CW.seq ?_ | with_reducible refine aN ?_ | with_reducible refine CW.block ?_ | refine CW.reg (RL.run tO rfl (RL.nil ?_)))
    refine CW.loop (σ := Nat) (fun j => [(1, .fptr P.cells 0), (3, .slc 1 (strs ((P.classes.take (i + 1)).map FClass.name)) o'), (4, .int .i64 (i : Int)), (5, .fptr c.cells 0), (6, .int .i64 (j : Int))]) (fun _ => rowOf s 9 1 (i + 1) o')
      (fun j => j ≤ c.parents.length ∧ c.parents.all pre.contains = (c.parents.drop j).all pre.contains) (fun j => c.parents.length - j) 0 ⟨by omega, rfl⟩ (by repeat (first | exact trivial | refine ⟨⟨_, rfl, AVle.refl _⟩, ?_⟩)) (Store.sub_refl _) ?_
    rintro j ⟨hj, hJ⟩
    repeat (first | with_reducible refine CW.seq ?_ | with_reducible refine aN ?_ | refine CW.reg (RL.run tO rfl (RL.nil ?_)))
    refine CW.cond rfl (fun h => ?_) (fun h => ?_)
    · have hltj : j < c.parents.length := by simpa using h
      obtain ⟨p, hpj⟩ : ∃ p, c.parents[j]? = some p := ⟨_, List.getElem?_eq_getElem hltj⟩
      have hpj' : (strs c.parents)[j]? = some (.str p) := by rw [strs_get, hpj]; rfl
      repeat (first | with_reducible refine CW.seq ?_ | with_reducible refine aN ?_ | with_reducible refine CW.skip ?_ | with_reducible refine CW.block ?_ | refine CW.drw tO mixed rfl (RD.run rfl ?_))
      refine RD.slice 2 0 i rfl rfl rfl rfl rfl rfl rfl rfl rfl rfl (.inr rfl) (.inl ⟨rfl, rfl⟩) (.inr ⟨_, _, rfl, rfl⟩) (.inl ⟨rfl, rfl⟩) (by omega) (by rw [strs_length, hln2]; omega) ?_
      rw [htk]
      refine RD.idx 6 j rfl rfl rfl rfl rfl rfl rfl rfl rfl rfl rfl rfl rfl hpj' rfl ?_
      refine RD.run rfl ?_
      refine RD.callP (i := 8) rfl rfl rfl rfl rfl rfl rfl (refHas_spec pre .fro p _ (by omega)) ?_
      refine RD.run rfl (RD.done rfl ?_)
      cases hpc : pre.contains p with
      | true =>
        repeat (first | with_reducible refine aN ?_ | with_reducible refine iN ?_ | with_reducible refine CW.skip ?_ | refine CW.reg (RL.run tO rfl (RL.nil ?_)) | refine CW.condF rfl ?_)
        exact ⟨j + 1, ⟨hltj, all_take hpj hJ hpc⟩, (by repeat (first | exact trivial | refine ⟨⟨_, rfl, AVle.refl _⟩, ?_⟩ | refine ⟨⟨_, rfl, AVle.of_eq (by (rw [i64_succ (by omega)]))⟩, ?_⟩)), Store.sub_refl _, by omega⟩
      | false =>
        rw [hbad (by rw [hck]; exact all_miss hpj hpc)]
        repeat (first | with_reducible refine CW.seq ?_ | with_reducible refine aN ?_ | with_reducible refine aR ?_ | with_reducible refine iR ?_ | with_reducible refine CW.ret ?_ | refine CW.reg (RL.run tO rfl (RL.nil ?_)) | refine CW.condT rfl ?_)
        exact ⟨_, _, s, rfl, AVle.refl _, rowOf_sub ho', rfl, rfl⟩
    · have hge : c.parents.length ≤ j := by simpa using h
      rw [List.drop_eq_nil_of_le hge] at hJ
      rw [hck, hJ] at hI
      repeat (first | with_reducible refine aN ?_ | with_reducible refine aX ?_ | with_reducible refine iN ?_ | with_reducible refine iH ?_ | with_reducible refine CW.exit ?_ | refine CW.reg (RL.run tO rfl (RL.nil ?_)))
      exact ⟨(i + 1, o'), ⟨hlt, ho', hI⟩, (by repeat (first | exact trivial | refine ⟨⟨_, rfl, AVle.refl _⟩, ?_⟩ | refine ⟨⟨_, rfl, AVle.of_eq (by (show AV.int .i64 (IntKind.wrap .i64 ((i : Int) + 1)) = .int .i64 ((i + 1 : Nat) : Int); rw [i64_succ (by omega)]))⟩, ?_⟩)), Store.sub_refl _, by show P.classes.length - (i + 1) < P.classes.length - i; omega⟩
  · have hge : P.classes.length ≤ i := by rw [hml] at h; simpa using h
    rw [List.drop_eq_nil_of_le hge, allPreN] at hI
    rw [hI, Bool.true_and] at hdef
    rw [List.take_of_length_le hge] at hln ⊢
    have hn1 := fun s => refNames_spec (P.classes.map FClass.name) own s (by rw [List.length_map]; omega) (by
      intro x hx
      obtain ⟨c, hc, rfl⟩ := List.mem_map.1 hx
      exact (hP.cls c hc).name)
    have hn2 := fun s => refNames_spec (P.classes.flatMap FClass.slots) .fro s (by omega) (by
      intro x hx
      obtain ⟨c, hc, hx⟩ := List.mem_flatMap.1 hx
      exact (hP.cls c hc).slots.sh x hx)
    rw [hdef]
    generalize ((P.classes.map FClass.name).all nameS && decide (P.classes.map FClass.name).Nodup) = n1 at hn1 ⊢
    generalize ((P.classes.flatMap FClass.slots).all nameS && decide (P.classes.flatMap FClass.slots).Nodup) = n2 at hn2 ⊢
    repeat (first | with_reducible refine CW.seq ?_ | with_reducible refine aN ?_ | with_reducible refine aX ?_ | with_reducible refine iH ?_ | with_reducible refine CW.exit ?_ | refine CW.reg ?_ | refine RL.step tO rfl rfl rfl rfl ?_)
    refine RL.callP rfl rfl rfl rfl rfl (hn1 _) ?_
    cases n1 with
    | false =>
      repeat (first | with_reducible refine aN ?_ | with_reducible refine CW.ret ?_ | refine RL.nil ?_ | refine RL.step tO rfl rfl rfl rfl ?_ | refine RL.skip rfl rfl rfl ?_)
      exact ⟨_, _, s, rfl, AVle.refl _, rowOf_sub hown, rfl, rfl⟩
    | true =>
      repeat (first | refine RL.step tO rfl rfl rfl rfl ?_)
      refine RL.callP rfl rfl rfl rfl rfl (refSlotsOf_spec P _ hl hsl) ?_
      skip
      refine RL.callP rfl rfl rfl rfl rfl (hn2 _) ?_
      repeat (first | with_reducible refine aN ?_ | with_reducible refine CW.ret ?_ | refine RL.nil ?_ | refine RL.step tO rfl rfl rfl rfl ?_)
      exact ⟨_, _, s, rfl, AVle.refl _, rowOf_sub hown, rfl, rfl⟩
end Go.Proofs.YtaafacnoddjhgaaGreat

/- Contracts of the reference: inits. -/
namespace Go.Proofs.YtaafacnoddjhgaaGreat
open Go.AE

def slotsAt (cls : List FClass) (j : Nat) : List Str := (cls[j]?.map FClass.slots).getD []
def initsAt (cls : List FClass) (j : Nat) : List FInit := (cls[j]?.map FClass.inits).getD []
def mineUpto (cls : List FClass) (up : List Bool) (k : Nat) : List Str := (List.range k).flatMap fun j => if up.getD j false then slotsAt cls j else []
def initsOkR (mine : List Str) : List Str → List FInit → Bool
 | _, [] => true
 | set, x :: r => ((mine.contains x.slot && !set.contains x.slot) && between x.n) && initsOkR mine (set ++ [x.slot]) r
def initsI (cls : List FClass) (i : Nat) : Bool := initsOkR (mineUpto cls ((aboveB cls i).set i true) cls.length) [] (initsAt cls i)
def initsR (cls : List FClass) : Bool := (List.range cls.length).all (initsI cls)

theorem mineUpto_succ (cls : List FClass) (up : List Bool) (k : Nat) : mineUpto cls up (k + 1) = mineUpto cls up k ++ (if up.getD k false then slotsAt cls k else []) := by
 unfold mineUpto; rw [List.range_succ, List.flatMap_append]; simp
theorem mineUpto_len {cls : List FClass} {up : List Bool} : ∀ {k : Nat}, k ≤ cls.length → (mineUpto cls up k).length ≤ ((cls.take k).flatMap FClass.slots).length
  | 0, _ => by simp [mineUpto]
  | k + 1, hk => by
    obtain ⟨c, hc⟩ : ∃ c, cls[k]? = some c := ⟨_, List.getElem?_eq_getElem (by omega)⟩
    rw [mineUpto_succ, flatMap_take_succ _ hc, List.length_append, List.length_append]
    have h1 := mineUpto_len (cls := cls) (up := up) (k := k) (by omega)
    have h2 : slotsAt cls k = c.slots := by simp [slotsAt, hc]
    rw [h2]
    have h3 : (if up.getD k false then c.slots else []).length ≤ c.slots.length := by split <;> simp
    omega

theorem upGo_len (cls : List FClass) (n : Nat) : ∀ (i : Nat) (out : List Bool), (upGo cls n i out).length = out.length
  | 0, _ => rfl
  | i + 1, out => by
    rw [upGo, upGo_len cls n i]
    split
    · exact upStep_len _ _ _
    · rfl
theorem aboveB_len (cls : List FClass) (n : Nat) : (aboveB cls n).length = cls.length := by unfold aboveB; rw [upGo_len, List.length_replicate]

set_option maxRecDepth 10000 in
set_option maxHeartbeats 4000000 in
theorem refInits_spec (P : FProg) (s : Store) (hP : P.Fair) (hk : Known P.classes) :
  ACalls Tryz.prog 54 [P.av] s (fun o s' => o = .ret (.bool (initsR P.classes)) ∧ s' = s) := by
 have hb : big = 1099511627776 := rfl
 have hl := hP.clen
 have hsl := hP.slen
 have hml : (P.classes.map FClass.av).length = P.classes.length := List.length_map ..
 have hpar : ∀ c ∈ P.classes, c.parents.length < big := fun c hc => (hP.cls c hc).parents.len
 refine ACalls.of_CW tO call54 Tryz.func54 rfl rfl ?_
 repeat (first | with_reducible refine CW.seq ?_ | with_reducible refine aN ?_ | with_reducible refine CW.block ?_ | refine CW.reg (RL.run tO rfl (RL.nil ?_)))
 refine CW.loop (σ := Nat) (fun i => [(1, .fptr P.cells 0), (3, .int .i64 (i : Int))]) (fun _ => s) (fun i => i ≤ P.classes.length ∧ initsR P.classes = ((List.range P.classes.length).drop i).all (initsI P.classes)) (fun i => P.classes.length - i) 0 ⟨by omega, rfl⟩ (by repeat (first | exact trivial | refine ⟨⟨_, rfl, AVle.refl _⟩, ?_⟩)) (Store.sub_refl _) ?_
 rintro i ⟨hi, hI⟩
 repeat (first | with_reducible refine CW.seq ?_ | with_reducible refine aN ?_ | refine CW.reg (RL.run tO rfl (RL.nil ?_)))
 refine CW.cond rfl (fun h => ?_) (fun h => ?_)
 ·have hlt : i < P.classes.length := by rw [hml] at h; simpa using h
  obtain ⟨c, hci⟩ : ∃ c, P.classes[i]? = some c := ⟨_, List.getElem?_eq_getElem hlt⟩
  have hci' : (P.classes.map FClass.av)[i]? = some (.agg c.cells) := by rw [List.getElem?_map, hci]; rfl
  have hcf := hP.cls c (List.mem_of_getElem? hci)
  have hri : (List.range P.classes.length)[i]? = some i := by rw [List.getElem?_range hlt]
  rw [drop_cons hri, List.all_cons] at hI
  have hii : initsI P.classes i = initsOkR (mineUpto P.classes ((aboveB P.classes i).set i true) P.classes.length) [] c.inits := by simp [initsI, initsAt, hci]
  rw [hii] at hI
  have hul : ((aboveB P.classes i).set i true).length = P.classes.length := by rw [List.length_set, aboveB_len]
  have hal := aboveB_len P.classes i
  refine CW.skip (aN (CW.seq (CW.block ?_)))
  refine CW.seqCutX (σ := Nat) (fun b => [(1, .fptr P.cells 0), (3, .int .i64 (i : Int)), (4, .mslc b P.classes.length)]) (fun b => s.set b (boolBox (aboveB P.classes i))) (fun b => s b = none) ?_ ?_
  ·repeat (first | refine CW.reg ?_ | refine RL.step tO rfl rfl rfl rfl ?_)
   refine RL.call rfl rfl rfl rfl rfl (refAbove_spec P i s hl hlt hk hpar) ?_ (fun _ _ ⟨_, _, h, _⟩ => by cases h)
   rintro _ _ ⟨b, hbn, ⟨⟩, rfl⟩
   repeat (first | refine RL.nil ?_ | refine RL.step tO rfl rfl rfl rfl ?_)
   exact ⟨rfl, b, hbn, (by repeat (first | exact trivial | refine ⟨⟨_, rfl, AVle.refl _⟩, ?_⟩)), Store.sub_refl _⟩
  intro b hbn
  refine CW.seqCut [(1, .fptr P.cells 0), (3, .int .i64 (i : Int)), (4, .mslc b P.classes.length)] (s.set b (boolBox ((aboveB P.classes i).set i true))) ?_ ?_
  ·repeat (first | refine CW.reg ?_ | refine RL.step tO rfl rfl rfl rfl ?_)
   refine RL.idxM tO i rfl rfl rfl rfl rfl rfl rfl rfl rfl rfl rfl hlt ?_
   refine RL.storeP tO rfl rfl rfl rfl rfl rfl rfl rfl rfl (Store.set_same _ _ _) (by rw [Nat.ble_eq, bools_length]; show _ + 1 ≤ _; omega) ?_
   rw [Store.set_set]
   repeat (first | refine RL.nil ?_)
   refine ⟨rfl, (by repeat (first | exact trivial | refine ⟨⟨_, rfl, AVle.refl _⟩, ?_⟩)), ?_⟩
   rw [boolBox, ← bools_set]
   exact Store.sub_refl _
  generalize (aboveB P.classes i).set i true = up at hul hI ⊢
  clear hal hii
  refine CW.seqCut [(1, .fptr P.cells 0), (3, .int .i64 (i : Int)), (4, .mslc b P.classes.length), (5, .slc 1 (strs []) .nil), (6, .slc 1 (strs []) .nil)] (s.set b (boolBox up)) ?_ ?_
  ·repeat (first | refine CW.reg (RL.run tO rfl (RL.nil ?_)))
   exact ⟨rfl, ⟨⟨_, rfl, AVle.refl _⟩, ⟨_, rfl, AVle.refl _⟩, ⟨_, rfl, AVle.refl _⟩, ⟨_, rfl, AVle.nil (by simp)⟩, ⟨_, rfl, AVle.nil (by simp)⟩, trivial⟩, Store.sub_refl _⟩
  refine CW.seqCut [(1, .fptr P.cells 0), (3, .int .i64 (i : Int)), (5, .slc 1 (strs (mineUpto P.classes up P.classes.length)) .fro), (6, .slc 1 (strs []) .nil)] s ?_ ?_
  ·repeat (first | with_reducible refine CW.seq ?_ | with_reducible refine aN ?_ | with_reducible refine CW.block ?_ | refine CW.reg (RL.run tO rfl (RL.nil ?_)))
   refine CW.loop (σ := Nat × Own) (fun q => [(1, .fptr P.cells 0), (3, .int .i64 (i : Int)), (4, .mslc b P.classes.length), (5, .slc 1 (strs (mineUpto P.classes up q.1)) q.2), (6, .slc 1 (strs []) .nil), (7, .int .i64 (q.1 : Int))])
    (fun q => rowOf (s.set b (boolBox up)) 9 1 (mineUpto P.classes up q.1).length q.2) (fun q => q.1 ≤ P.classes.length ∧ OwnOk (s.set b (boolBox up)) 0 q.2) (fun q => P.classes.length - q.1) (0, .nil) ⟨by simp, trivial⟩ (by repeat (first | exact trivial | refine ⟨⟨_, rfl, AVle.refl _⟩, ?_⟩)) (Store.sub_refl _) ?_
   rintro ⟨k, ow⟩ ⟨hk1, hok⟩
   simp only at hk1 hok
   have hbx : rowOf (s.set b (boolBox up)) 9 1 (mineUpto P.classes up k).length ow b = some (boolBox up) := rowOf_get (m := 0) hok (Store.set_same _ _ _)
   repeat (first | with_reducible refine CW.seq ?_ | refine CW.reg ?_ | refine RL.step tO rfl rfl rfl rfl ?_)
   refine RL.lenM tO rfl rfl rfl rfl rfl rfl rfl ?_
   repeat (first | with_reducible refine aN ?_ | refine RL.nil ?_ | refine RL.step tO rfl rfl rfl rfl ?_)
   refine CW.cond rfl (fun h => ?_) (fun h => ?_)
   ·have hltk : k < P.classes.length := by simpa using h
    obtain ⟨d, hdk⟩ : ∃ d, P.classes[k]? = some d := ⟨_, List.getElem?_eq_getElem hltk⟩
    have hdk' : (P.classes.map FClass.av)[k]? = some (.agg d.cells) := by rw [List.getElem?_map, hdk]; rfl
    obtain ⟨v, hv⟩ : ∃ v, up[k]? = some v := ⟨_, List.getElem?_eq_getElem (by omega)⟩
    have hsa : slotsAt P.classes k = d.slots := by simp [slotsAt, hdk]
    have hms := mineUpto_succ P.classes up k
    have hgd : up.getD k false = v := by simp [hv]
    rw [hgd, hsa] at hms
    have hmlen := mineUpto_len (cls := P.classes) (up := up) (k := k + 1) (by omega)
    have hfl := flatMap_take_le FClass.slots P.classes (k + 1)
    repeat (first | with_reducible refine CW.seq ?_ | with_reducible refine aN ?_ | with_reducible refine CW.skip ?_ | with_reducible refine CW.block ?_ | refine CW.reg ?_ | refine RL.step tO rfl rfl rfl rfl ?_)
    refine RL.idxM tO k rfl rfl rfl rfl rfl rfl rfl rfl rfl rfl rfl hltk ?_
    refine RL.loadP tO rfl rfl rfl rfl rfl rfl hbx (loadC_bool rfl (bools_get hv)) ?_
    cases v with
    | true =>
     rw [if_pos rfl] at hms
     rw [hms, List.length_append] at hmlen
     repeat (first | with_reducible refine aN ?_ | refine CW.reg ?_ | refine RL.nil ?_ | refine CW.condT rfl ?_ | refine RL.step tO rfl rfl rfl rfl ?_ | refine RL.idx tO _ rfl rfl rfl rfl rfl rfl rfl rfl rfl rfl rfl (by assumption) rfl ?_)
     refine RL.appendR tO rfl rfl rfl rfl rfl rfl rfl (by intro k; simp) rfl rfl rfl rfl (.inr rfl) rfl (strs_elem _) (n := (mineUpto P.classes up k).length) ?_ ?_ (strs_length _).symm rfl (OwnOk.sub' hok) ?_
     ·simp only [strs_length]; show _ * 16 ≤ _; omega
     ·simp only [strs_length]; omega
     rintro own' h1
     repeat (first | with_reducible refine aN ?_ | with_reducible refine iN ?_ | refine CW.reg (RL.run tO rfl (RL.nil ?_)) | refine RL.nil ?_ | refine RL.step tO rfl rfl rfl rfl ?_)
     refine ⟨(k + 1, own'), ⟨hltk, OwnOk.sub' h1⟩, (by repeat (first | exact trivial | refine ⟨⟨_, rfl, AVle.refl _⟩, ?_⟩ | refine ⟨⟨_, rfl, AVle.of_eq (by (first | (show AV.int .i64 (IntKind.wrap .i64 ((k : Int) + 1)) = .int .i64 ((k + 1 : Nat) : Int); rw [i64_succ (by omega)]) | (simp only [hms]; simp [strs])))⟩, ?_⟩)), ?_, by show P.classes.length - (k + 1) < P.classes.length - k; omega⟩
     show Store.Sub (rowOf _ _ 1 (mineUpto P.classes up (k + 1)).length own') _
     rw [hms, List.length_append, strs_length, strs_length]
     exact Store.sub_refl _
    | false =>
     rw [if_neg (by simp), List.append_nil] at hms
     repeat (first | with_reducible refine aN ?_ | with_reducible refine iN ?_ | with_reducible refine CW.skip ?_ | refine CW.reg (RL.run tO rfl (RL.nil ?_)) | refine RL.nil ?_ | refine CW.condF rfl ?_)
     refine ⟨(k + 1, ow), ⟨hltk, hok⟩, (by repeat (first | exact trivial | refine ⟨⟨_, rfl, AVle.refl _⟩, ?_⟩ | refine ⟨⟨_, rfl, AVle.of_eq (by (first | (show AV.int .i64 (IntKind.wrap .i64 ((k : Int) + 1)) = .int .i64 ((k + 1 : Nat) : Int); rw [i64_succ (by omega)]) | (simp only [hms])))⟩, ?_⟩)), ?_, by show P.classes.length - (k + 1) < P.classes.length - k; omega⟩
     show Store.Sub (rowOf _ _ 1 (mineUpto P.classes up (k + 1)).length ow) _
     rw [hms]; exact Store.sub_refl _
   ·have hge : k = P.classes.length := by
     have : P.classes.length ≤ k := by simpa using h
     omega
    subst hge
    repeat (first | with_reducible refine aX ?_ | with_reducible refine iH ?_ | with_reducible refine CW.exit ?_)
    exact ⟨rfl, ⟨⟨_, rfl, AVle.refl _⟩, ⟨_, rfl, AVle.refl _⟩, ⟨_, rfl, AVle.fro⟩, ⟨_, rfl, AVle.refl _⟩, trivial⟩, (Store.sub_set _ _ _ hbn).trans (rowOf_sub hok)⟩
  have hmfin := mineUpto_len (cls := P.classes) (up := up) (k := P.classes.length) (Nat.le_refl _)
  rw [List.take_length] at hmfin
  generalize mineUpto P.classes up P.classes.length = mine at hI hmfin ⊢
  refine CW.seqCut [(1, .fptr P.cells 0), (3, .int .i64 (i : Int)), (5, .slc 1 (strs mine) .fro), (6, .slc 1 (strs []) .nil), (8, .slc 2 (c.inits.map FInit.av) .fro)] s ?_ ?_
  ·repeat (first | refine CW.reg ?_ | refine RL.nil ?_ | refine RL.step tO rfl rfl rfl rfl ?_ | refine RL.idx tO _ rfl rfl rfl rfl rfl rfl rfl rfl rfl rfl rfl (by assumption) rfl ?_)
   exact ⟨rfl, (by repeat (first | exact trivial | refine ⟨⟨_, rfl, AVle.refl _⟩, ?_⟩)), Store.sub_refl _⟩
  have hil := hcf.ilen
  repeat (first | with_reducible refine CW.seq ?_ | with_reducible refine aN ?_ | with_reducible refine CW.block ?_ | refine CW.reg (RL.run tO rfl (RL.nil ?_)))
  refine CW.loop (σ := Nat × Own) (fun q => [(1, .fptr P.cells 0), (3, .int .i64 (i : Int)), (5, .slc 1 (strs mine) .fro), (6, .slc 1 (strs ((c.inits.take q.1).map FInit.slot)) q.2), (8, .slc 2 (c.inits.map FInit.av) .fro), (9, .int .i64 (q.1 : Int))])
   (fun q => rowOf s 9 1 q.1 q.2) (fun q => q.1 ≤ c.inits.length ∧ OwnOk s 0 q.2 ∧ initsOkR mine [] c.inits = initsOkR mine ((c.inits.take q.1).map FInit.slot) (c.inits.drop q.1)) (fun q => c.inits.length - q.1) (0, .nil) ⟨by simp, trivial, rfl⟩ (by repeat (first | exact trivial | refine ⟨⟨_, rfl, AVle.refl _⟩, ?_⟩)) (Store.sub_refl _) ?_
  rintro ⟨j, ow⟩ ⟨hj, hok, hJ⟩
  simp only at hj hok hJ
  have hln : ((c.inits.take j).map FInit.slot).length = j := by simp; omega
  repeat (first | with_reducible refine CW.seq ?_ | with_reducible refine aN ?_ | refine CW.reg (RL.run tO rfl (RL.nil ?_)))
  refine CW.cond rfl (fun h => ?_) (fun h => ?_)
  ·have hltj : j < c.inits.length := by simpa using h
   obtain ⟨x, hxj⟩ : ∃ x, c.inits[j]? = some x := ⟨_, List.getElem?_eq_getElem hltj⟩
   have hxj' : (c.inits.map FInit.av)[j]? = some (.agg x.cells) := by rw [List.getElem?_map, hxj]; rfl
   rw [drop_cons hxj, initsOkR] at hJ
   have hnx : (c.inits.take j).map FInit.slot ++ [x.slot] = (c.inits.take (j + 1)).map FInit.slot := by rw [← take_snoc hxj]; simp
   rw [hnx] at hJ
   have k1 := fun s => refHas_spec mine .fro x.slot s (by omega)
   have k2 := fun s => refHas_spec ((c.inits.take j).map FInit.slot) ow x.slot s (by omega)
   have k3 := fun s => refIn_spec x.n s
   refine CW.skip (aN (CW.seq (CW.block ?_)))
   refine CW.seq ?_
   refine CW.seqCut [(1, .fptr P.cells 0), (3, .int .i64 (i : Int)), (5, .slc 1 (strs mine) .fro), (6, .slc 1 (strs ((c.inits.take j).map FInit.slot)) ow), (8, .slc 2 (c.inits.map FInit.av) .fro), (9, .int .i64 (j : Int)), (78, .bool (!((mine.contains x.slot && !((c.inits.take j).map FInit.slot).contains x.slot) && between x.n)))] (rowOf s 9 1 j ow) ?_ ?_
   ·generalize mine.contains x.slot = m1 at k1
    generalize ((c.inits.take j).map FInit.slot).contains x.slot = m2 at k2
    generalize between x.n = m3 at k3
    repeat' (first | refine CW.reg ?_ | refine RL.nil ?_ | refine RL.step tO rfl rfl rfl rfl ?_ | refine RL.skip rfl rfl rfl ?_ | refine RL.gstepF tO rfl rfl rfl rfl rfl rfl rfl (fun _ => ?_) (fun _ => ?_) | refine RL.idx tO j rfl rfl rfl rfl rfl rfl rfl rfl rfl rfl rfl hxj' rfl ?_ | refine RL.callP rfl rfl rfl rfl rfl (k1 _) ?_ | refine RL.callP rfl rfl rfl rfl rfl (k2 _) ?_ | refine RL.callP rfl rfl rfl rfl rfl (k3 _) ?_)
    all_goals refine ⟨rfl, (by repeat (first | exact trivial | refine ⟨⟨_, rfl, AVle.refl _⟩, ?_⟩ | refine ⟨⟨_, rfl, AVle.of_eq (by (simp_all))⟩, ?_⟩)), Store.sub_refl _⟩
   cases hc1 : (mine.contains x.slot && !((c.inits.take j).map FInit.slot).contains x.slot) && between x.n with
   | false =>
    rw [hc1, Bool.false_and] at hJ
    rw [hI, hJ, Bool.false_and]
    repeat (first | with_reducible refine CW.seq ?_ | with_reducible refine aN ?_ | with_reducible refine aR ?_ | with_reducible refine iR ?_ | with_reducible refine CW.ret ?_ | refine CW.reg (RL.run tO rfl (RL.nil ?_)) | refine CW.condT rfl ?_)
    exact ⟨_, _, s, rfl, AVle.refl _, rowOf_sub hok, rfl, rfl⟩
   | true =>
    rw [hc1, Bool.true_and] at hJ
    refine CW.condF rfl (CW.skip (aN ?_))
    repeat (first | refine CW.reg ?_ | refine RL.step tO rfl rfl rfl rfl ?_ | refine RL.idx tO _ rfl rfl rfl rfl rfl rfl rfl rfl rfl rfl rfl (by assumption) rfl ?_)
    refine RL.append1 tO rfl rfl rfl rfl rfl rfl rfl (by intro k; simp) rfl rfl rfl rfl rfl rfl rfl (n := j) (by rw [strs_length, hln]) (by show (j + 1) * 16 ≤ _; omega) (by omega) (s := s) rfl (OwnOk.sub' hok) (fun rb hrb => ?_)
    repeat (first | with_reducible refine aN ?_ | with_reducible refine iN ?_ | refine CW.reg (RL.run tO rfl (RL.nil ?_)) | refine RL.nil ?_ | refine RL.step tO rfl rfl rfl rfl ?_)
    exact ⟨(j + 1, .own rb), ⟨hltj, hrb, hJ⟩, (by repeat (first | exact trivial | refine ⟨⟨_, rfl, AVle.refl _⟩, ?_⟩ | refine ⟨⟨_, rfl, AVle.of_eq (by (first | (show AV.int .i64 (IntKind.wrap .i64 ((j : Int) + 1)) = .int .i64 ((j + 1 : Nat) : Int); rw [i64_succ (by omega)]) | (simp only [← hnx]; simp [strs])))⟩, ?_⟩)), Store.sub_refl _, by show c.inits.length - (j + 1) < c.inits.length - j; omega⟩
  ·have hge : c.inits.length ≤ j := by simpa using h
   rw [List.drop_eq_nil_of_le hge, initsOkR] at hJ
   rw [hJ, Bool.true_and] at hI
   repeat (first | with_reducible refine aN ?_ | with_reducible refine aX ?_ | with_reducible refine iN ?_ | with_reducible refine iH ?_ | with_reducible refine CW.exit ?_ | refine CW.reg (RL.run tO rfl (RL.nil ?_)))
   exact ⟨i + 1, ⟨hlt, hI⟩, (by repeat (first | exact trivial | refine ⟨⟨_, rfl, AVle.refl _⟩, ?_⟩ | refine ⟨⟨_, rfl, AVle.of_eq (by (rw [i64_succ (by omega)]))⟩, ?_⟩)), rowOf_sub hok, by omega⟩
 ·have hge : P.classes.length ≤ i := by rw [hml] at h; simpa using h
  rw [List.drop_eq_nil_of_le (by simpa using hge), List.all_nil] at hI
  rw [hI]
  repeat (first | with_reducible refine CW.seq ?_ | with_reducible refine aN ?_ | with_reducible refine aX ?_ | with_reducible refine iH ?_ | with_reducible refine CW.ret ?_ | with_reducible refine CW.exit ?_ | refine CW.reg (RL.run tO rfl (RL.nil ?_)))
  exact ⟨_, _, _, rfl, AVle.refl _, Store.sub_refl _, rfl, rfl⟩
end Go.Proofs.YtaafacnoddjhgaaGreat

/- Contracts of the reference: methods and programs that are formed. -/
namespace Go.Proofs.YtaafacnoddjhgaaGreat
open Go.AE

section
variable {P : Program} {Γ : Tys} {N : Nat} {env : Env} {s : Store}
theorem OW.appendF (hΓ : TysOk P Γ) {o : Oper} {t t' e : TypeId} {x y : Operand} {it it' ie : TI} {sx sy n : Nat} {xs ys : List AV} {own oy : Own} (S : Store) {S' : Store}
  (ho : o.op = .call { callee := .builtin .append, args := #[x, y], argTypes := #[t, t'] }) (ht : Γ.get? t = some it) (htd : it.td = .slc e) (ht' : Γ.get? t' = some it') (htd' : ∀ k, it'.td ≠ .int k)
  (hie : Γ.get? e = some ie) (hx : ev env x = some (.slc sx xs own)) (hy : ev env y = some (.slc sy ys oy)) (hsx : sx = ie.size) (hsy : ys = [] ∨ sy = ie.size)
  (hzs' : Nat.beq ie.zero.cells.size ie.size = true) (hel : ∀ y ∈ ys, elemOk ie.size y = true) (hn : n = xs.length) (hb : (n + ys.length) * ie.bytes ≤ 140737488355328) (h63 : n + ys.length ≤ 9223372036854775807)
  (hs : s = rowOf S' e ie.size n own) (hok : OwnOk S' n own) (hsub : Store.Sub S S') {X : AV → Store → Prop} :
  OW P N o env s (fun r s' => r = .slc ie.size (xs ++ ys) .fro ∧ s' = S) X := by
 subst hs
 subst hn
 have h := OW.appendR (N := N) (own := own) (s := S') hΓ ho ht htd ht' htd' hie hx hy hsx hsy hzs' hel hb h63 rfl hok (X := X)
 refine ⟨h.1, fun ro B a w p hst => ?_⟩
 refine ResDoes.mono (h.2 ro B a w p hst) ?_
 rintro e' w' ⟨s', p', h1, h2, h3, h4⟩
 cases e' with
 | returned v =>
  obtain ⟨r, ⟨own', k1, -, -, rfl, rfl⟩, k3⟩ := h4
  have hs2 : Store.Sub S (rowOf S' e ie.size (xs.length + ys.length) own') := hsub.trans (rowOf_sub (m := xs.length + 1) k1)
  exact ⟨S, p', h1, h2.sub hs2, h3.sub hs2, _, ⟨rfl, rfl⟩, AVle.fro _ _ _ k3⟩
 | panicked ch =>
  obtain ⟨v, x, e1, hX, hr⟩ := h4
  exact ⟨s', p', h1, h2, h3, v, x, e1, hX, hr⟩
 | outgrown => exact h4.elim
end

theorem own_plus {s : Store} {n b : Nat} {own : Own} (h : OwnOk s n own) (hb : ∀ c, own = .own c → c ≠ b) (o : AObj) : OwnOk (s.set b o) n own := by
 cases own with
 | own c => exact (Store.set_ne _ _ (hb c rfl)).trans h
 | nil => trivial
 | clip => trivial
 | fro => exact h

def boxK0 : AObj := .box 149 [.slc 0 [] .nil, .slc 0 [] .nil, .slc 0 [] .nil]
def others3 : List Str := [anyS, intS, noneS]
def headR (m : FMethod) : Bool := ((((decide (m.kind ≥ 1) && decide (m.kind ≤ 4)) && nameS m.name) && decide ((m.params.length : Int) ≥ 1)) && decide ((m.params.length : Int) ≤ 3)) && (m.params.all nameS && decide m.params.Nodup)
def methodR (slots own : List Str) (k : Int) (m : FMethod) : Bool × Int :=
 if !headR m then (false, k)
 else if !((FFact.cnt m.params slots (own ++ others3) 1 k m.fact).1 && goodB m.body) then (false, (FFact.cnt m.params slots (own ++ others3) 1 k m.fact).2)
 else (decide ((FFact.cnt m.params slots (own ++ others3) 1 k m.fact).2 - m.body.size ≥ 0) && saysB m.body m.params slots own (m.kind == 1 || m.kind == 4), (FFact.cnt m.params slots (own ++ others3) 1 k m.fact).2 - m.body.size)
def methodsR (slots own : List Str) : Int → List FMethod → Bool
 | _, [] => true
 | k, m :: r => (methodR slots own k m).1 && methodsR slots own (methodR slots own k m).2 r

set_option maxRecDepth 10000 in
set_option maxHeartbeats 4000000 in
theorem refMethod_spec (lb : Nat) (m : FMethod) (slots own : List Str) (o2 o3 : Own) (k : Int) (s : Store) (hm : m.Fair) (hsl : slots.length < big) (hol : own.length < big) (hk0 : 0 ≤ k) (hk : k ≤ 120) (hs : s lb = some (leftO k)) :
  ACalls Tryz.prog 58 [m.av, .slc 1 (strs slots) o2, .slc 1 (strs own) o3, .ptr lb 0] s (fun o s' => o = .ret (.bool (methodR slots own k m).1) ∧ s' = s.set lb (leftO (methodR slots own k m).2)) := by
 have hb : big = 1099511627776 := rfl
 have hpl := hm.params.len
 have hbs := hm.body.size
 have hst : s.set lb (leftO k) = s := Store.set_eq _ _ _ hs
 refine ACalls.of_CW tO call58 Tryz.func58 rfl rfl ?_
 refine CW.seqCut [(1, .slc 1 (strs slots) o2), (2, .slc 1 (strs own) o3), (3, .ptr lb 0), (4, .fptr m.cells 0)] s ?_ ?_
 ·repeat (first | refine CW.reg (RL.run tO rfl (RL.nil ?_)))
  exact ⟨rfl, (by repeat (first | exact trivial | refine ⟨⟨_, rfl, AVle.refl _⟩, ?_⟩)), Store.sub_refl _⟩
 refine CW.seq ?_
 refine CW.seqCut [(1, .slc 1 (strs slots) o2), (2, .slc 1 (strs own) o3), (3, .ptr lb 0), (4, .fptr m.cells 0), (41, .bool (!headR m))] s ?_ ?_
 ·have k1 := fun s => refName_spec m.name s hm.name
  have k2 := fun s => refNames_spec m.params .fro s (by omega) (fun x hx => hm.params.sh x hx)
  have hh : headR m = (((((decide (m.kind ≥ 1) && decide (m.kind ≤ 4)) && nameS m.name) && decide ((m.params.length : Int) ≥ 1)) && decide ((m.params.length : Int) ≤ 3)) && (m.params.all nameS && decide m.params.Nodup)) := rfl
  rw [hh]
  generalize nameS m.name = n1 at k1
  generalize (m.params.all nameS && decide m.params.Nodup) = n2 at k2
  repeat' (first | refine CW.reg ?_ | refine RL.nil ?_ | refine RL.step tO rfl rfl rfl rfl ?_ | refine RL.skip rfl rfl rfl ?_ | refine RL.gstepF tO rfl rfl rfl rfl rfl rfl rfl (fun _ => ?_) (fun _ => ?_) | refine RL.callP rfl rfl rfl rfl rfl (k1 _) ?_ | refine RL.callP rfl rfl rfl rfl rfl (k2 _) ?_)
  all_goals refine ⟨rfl, (by repeat (first | exact trivial | refine ⟨⟨_, rfl, AVle.refl _⟩, ?_⟩ | refine ⟨⟨_, rfl, AVle.of_eq (by (first | (simp_all; done) | (simp_all; rw [Bool.eq_iff_iff]; simp; omega) | (simp_all; omega) | (simp_all; trace_state)))⟩, ?_⟩)), Store.sub_refl _⟩
 have hd : methodR slots own k m = if !headR m then (false, k)
   else if !((FFact.cnt m.params slots (own ++ others3) 1 k m.fact).1 && goodB m.body) then (false, (FFact.cnt m.params slots (own ++ others3) 1 k m.fact).2)
   else (decide ((FFact.cnt m.params slots (own ++ others3) 1 k m.fact).2 - m.body.size ≥ 0) && saysB m.body m.params slots own (m.kind == 1 || m.kind == 4), (FFact.cnt m.params slots (own ++ others3) 1 k m.fact).2 - m.body.size) := rfl
 cases hh : headR m with
 | false =>
  rw [hh, if_pos (by rfl)] at hd
  rw [hd, hst]
  repeat (first | with_reducible refine CW.seq ?_ | with_reducible refine aN ?_ | with_reducible refine aR ?_ | with_reducible refine CW.ret ?_ | refine CW.reg (RL.run tO rfl (RL.nil ?_)) | refine CW.condT rfl ?_)
  exact ⟨_, _, _, rfl, AVle.refl _, Store.sub_refl _, rfl, rfl⟩
 | true =>
 rw [hh, if_neg (by simp)] at hd
 refine CW.condF rfl (CW.skip (aN ?_))
 have a1 : (strs own).length = own.length := strs_length _
 refine CW.seqCutX (σ := Nat) (fun b => [(1, .slc 1 (strs slots) o2), (2, .slc 1 (strs own) o3), (3, .ptr lb 0), (4, .fptr m.cells 0), (9, .ptr b 0)]) (fun b => s.set b (.box 149 (knownCells m.params slots (own ++ others3) .fro o2 .fro))) (fun b => s b = none) ?_ ?_
 ·have e3 : strs own ++ [.str anyS, .str intS, .str noneS] = strs (own ++ others3) := by simp [strs, others3]
  have a3 : ((strs own).length + [AV.str anyS, .str intS, .str noneS].length) * 16 ≤ 140737488355328 := by simp only [List.length_cons, List.length_nil]; omega
  have a5 : (strs own).length + [AV.str anyS, .str intS, .str noneS].length ≤ 9223372036854775807 := by simp only [List.length_cons, List.length_nil]; omega
  have a7 : (strs own).length * 16 ≤ 140737488355328 := by omega
  have a9 : (strs own).length ≤ 9223372036854775807 := by omega
  have hel3 : ∀ y ∈ [AV.str anyS, .str intS, .str noneS], elemOk 1 y = true := by intro y hy; simp at hy; rcases hy with rfl | rfl | rfl <;> rfl
  repeat (first | refine CW.drw tO mixed rfl (RD.run rfl ?_))
  refine RD.many rfl (RDAll.c (RDStep.mk (i := 4) rfl rfl rfl rfl (OW.appendN tO rfl rfl rfl rfl (by intro k h; cases h) rfl rfl rfl (.inr rfl) rfl (strs_elem _) a7 a9 (X := fun _ _ => False)) ?_ (fun _ _ h => False.elim h)) (RDAll.c (RDStep.mk (i := 8) rfl rfl rfl rfl (OW.alloc tO rfl rfl rfl rfl (X := fun _ _ => False)) ?_ (fun _ _ h => False.elim h)) RDAll.n))
  ·rintro _ _ ⟨p1, hp1, rfl, rfl⟩
   refine RD.run rfl ?_
   refine RD.many rfl (RDAll.c (RDStep.mk (i := 6) rfl rfl rfl rfl (OW.appendF tO s rfl rfl rfl rfl (by intro k h; cases h) rfl rfl rfl rfl (.inr rfl) rfl hel3 rfl a3 a5 rfl hp1 (Store.sub_refl _) (X := fun _ _ => False)) ?_ (fun _ _ h => False.elim h)) (RDAll.c (RDStep.mk (i := 8) rfl rfl rfl rfl (OW.alloc tO rfl rfl rfl rfl (X := fun _ _ => False)) ?_ (fun _ _ h => False.elim h)) RDAll.n))
   ·rintro _ _ ⟨rfl, hs2⟩
    rw [hs2]
    clear hs2
    refine RD.run rfl ?_
    refine RD.many rfl (RDAll.c (RDStep.mk (i := 8) rfl rfl rfl rfl (OW.alloc tO rfl rfl rfl rfl (X := fun _ _ => False)) ?_ (fun _ _ h => False.elim h)) RDAll.n)
    ·rintro _ _ ⟨b9, hf9, rfl, hs2⟩
     rw [hs2]
     clear hs2
     skip
     refine RD.run rfl ?_
     refine RD.oneN (i := 9) rfl rfl rfl rfl (OW.storeP tO rfl rfl rfl rfl rfl rfl rfl (Store.set_same _ _ _) rfl (X := fun _ _ => False)) ?_ (fun _ _ h => False.elim h)
     rintro _ _ rfl
     refine RD.run rfl (RD.done rfl ?_)
     rw [Store.set_set]
     refine ⟨rfl, b9, hf9, (by repeat (first | exact trivial | refine ⟨⟨_, rfl, AVle.refl _⟩, ?_⟩)), ?_⟩
     rw [knownCells, ← e3]
     exact Store.sub_refl _
   ·rintro _ _ ⟨b9, hf9, rfl, hs2⟩
    rw [hs2]
    clear hs2
    obtain ⟨hpn, hf9⟩ := rowOf_none hf9
    rw [rowOf_set hpn]
    have hp1 := own_plus hp1 hpn boxK0
    refine RD.run rfl ?_
    refine RD.many rfl (RDAll.c (RDStep.mk (i := 6) rfl rfl rfl rfl (OW.appendF tO (s.set b9 boxK0) rfl rfl rfl rfl (by intro k h; cases h) rfl rfl rfl rfl (.inr rfl) rfl hel3 rfl a3 a5 rfl hp1 (Store.sub_refl _) (X := fun _ _ => False)) ?_ (fun _ _ h => False.elim h)) RDAll.n)
    ·rintro _ _ ⟨rfl, hs2⟩
     rw [hs2]
     clear hs2
     refine RD.run rfl ?_
     refine RD.oneN (i := 9) rfl rfl rfl rfl (OW.storeP tO rfl rfl rfl rfl rfl rfl rfl (Store.set_same _ _ _) rfl (X := fun _ _ => False)) ?_ (fun _ _ h => False.elim h)
     rintro _ _ rfl
     refine RD.run rfl (RD.done rfl ?_)
     rw [Store.set_set]
     refine ⟨rfl, b9, hf9, (by repeat (first | exact trivial | refine ⟨⟨_, rfl, AVle.refl _⟩, ?_⟩)), ?_⟩
     rw [knownCells, ← e3]
     exact Store.sub_refl _
  ·rintro _ _ ⟨b9, hf9, rfl, hs2⟩
   rw [hs2]
   clear hs2
   skip
   refine RD.run rfl ?_
   refine RD.many rfl (RDAll.c (RDStep.mk (i := 4) rfl rfl rfl rfl (OW.appendN tO rfl rfl rfl rfl (by intro k h; cases h) rfl rfl rfl (.inr rfl) rfl (strs_elem _) a7 a9 (X := fun _ _ => False)) ?_ (fun _ _ h => False.elim h)) RDAll.n)
   ·rintro _ _ ⟨p1, hp1, rfl, rfl⟩
    refine RD.run rfl ?_
    refine RD.many rfl (RDAll.c (RDStep.mk (i := 6) rfl rfl rfl rfl (OW.appendF tO (s.set b9 boxK0) rfl rfl rfl rfl (by intro k h; cases h) rfl rfl rfl rfl (.inr rfl) rfl hel3 rfl a3 a5 rfl hp1 (Store.sub_refl _) (X := fun _ _ => False)) ?_ (fun _ _ h => False.elim h)) RDAll.n)
    ·rintro _ _ ⟨rfl, hs2⟩
     rw [hs2]
     clear hs2
     refine RD.run rfl ?_
     refine RD.oneN (i := 9) rfl rfl rfl rfl (OW.storeP tO rfl rfl rfl rfl rfl rfl rfl (Store.set_same _ _ _) rfl (X := fun _ _ => False)) ?_ (fun _ _ h => False.elim h)
     rintro _ _ rfl
     refine RD.run rfl (RD.done rfl ?_)
     rw [Store.set_set]
     refine ⟨rfl, b9, hf9, (by repeat (first | exact trivial | refine ⟨⟨_, rfl, AVle.refl _⟩, ?_⟩)), ?_⟩
     rw [knownCells, ← e3]
     exact Store.sub_refl _
 intro b9 hb9
 have hne : lb ≠ b9 := fun e => by subst e; rw [hs] at hb9; cases hb9
 refine CW.freeze 9 b9 rfl (Store.set_same _ _ _) ?_
 rw [Store.del_set _ _ _ hb9]
 have hle := FFact.cnt_le m.params slots (own ++ others3) m.fact 1 k
 have hcall := refKFact_spec lb m.params slots (own ++ others3) .fro o2 .fro (by omega) (by omega) (by rw [List.length_append]; simp [others3]; omega) m.fact.size m.fact 1 1 k s (Nat.le_refl _) (Nat.le_of_lt hm.fact.size) hm.fact.texts hk0 hk (by omega) hs
 generalize FFact.cnt m.params slots (own ++ others3) 1 k m.fact = fc at hle hcall hd
 obtain ⟨f1, k1⟩ := fc
 simp only at hle hd
 have hF := fun s => refFormed_spec m.body s hm.body
 repeat (first | with_reducible refine CW.seq ?_ | refine CW.reg ?_ | refine RL.step tO rfl rfl rfl rfl ?_)
 refine RL.call rfl rfl rfl rfl rfl hcall ?_ (fun _ _ ⟨h, _⟩ => by cases h)
 rintro _ _ ⟨⟨⟩, rfl⟩
 cases f1 with
 | false =>
  rw [Bool.false_and, if_pos (by rfl)] at hd
  rw [hd]
  repeat (first | with_reducible refine CW.seq ?_ | with_reducible refine aN ?_ | with_reducible refine aR ?_ | with_reducible refine CW.ret ?_ | refine CW.reg (RL.run tO rfl (RL.nil ?_)) | refine RL.nil ?_ | refine CW.condT rfl ?_ | refine RL.step tO rfl rfl rfl rfl ?_ | refine RL.skip rfl rfl rfl ?_)
  exact ⟨_, _, _, rfl, AVle.refl _, Store.sub_refl _, rfl, rfl⟩
 | true =>
 obtain ⟨h1, h2⟩ := hle rfl
 rw [Bool.true_and] at hd
 repeat (first | refine RL.step tO rfl rfl rfl rfl ?_)
 refine RL.callP rfl rfl rfl rfl rfl (hF _) ?_
 cases hg : goodB m.body with
 | false =>
  rw [hg, if_pos (by rfl)] at hd
  rw [hd]
  repeat (first | with_reducible refine CW.seq ?_ | with_reducible refine aN ?_ | with_reducible refine aR ?_ | with_reducible refine CW.ret ?_ | refine CW.reg (RL.run tO rfl (RL.nil ?_)) | refine RL.nil ?_ | refine CW.condT rfl ?_ | refine RL.step tO rfl rfl rfl rfl ?_)
  exact ⟨_, _, _, rfl, AVle.refl _, Store.sub_refl _, rfl, rfl⟩
 | true =>
 rw [hg, if_neg (by simp)] at hd
 have hbz := goodB_size hg
 have hal := allE_length m.body
 repeat (first | with_reducible refine CW.seq ?_ | with_reducible refine aN ?_ | with_reducible refine CW.skip ?_ | refine RL.nil ?_ | refine CW.condF rfl ?_ | refine RL.step tO rfl rfl rfl rfl ?_ | refine CW.drw tO mixed rfl (RD.run rfl ?_))
 refine RD.calmP (i := 6) rfl rfl rfl rfl rfl rfl rfl (fun s => refAll_spec _ m.body s (Nat.le_refl _) (Nat.le_of_lt hbs)) ?_
 refine RD.run rfl ?_
 refine RD.one (i := 3) rfl rfl rfl rfl rfl (OW.loadP tO rfl rfl rfl (Store.set_same _ _ _) rfl (X := fun _ _ => False)) ?_ (fun _ _ h => False.elim h)
 rintro _ s2 ⟨rfl, hs2⟩
 rw [hs2]
 clear hs2 s2
 refine RD.run rfl ?_
 refine RD.oneN (i := 10) rfl rfl rfl rfl (OW.storeP tO rfl rfl rfl rfl rfl rfl rfl (Store.set_same _ _ _) rfl (X := fun _ _ => False)) ?_ (fun _ _ h => False.elim h)
 rintro _ _ rfl
 refine RD.run rfl (RD.done rfl ?_)
 rw [Store.set_set, List.length_map, hal]
 have hkw : IntKind.wrap .i64 (k1 - (m.body.size : Int)) = k1 - (m.body.size : Int) := i64_wrap (by omega) (by omega)
 have hs2 : Store.set s lb (.box 3 (setL (0 + 0) [.int .i64 (IntKind.wrap .i64 (k1 - (m.body.size : Int)))] [.int .i64 k1])) = s.set lb (leftO (k1 - (m.body.size : Int))) := by
  rw [hkw]; rfl
 rw [hd]
 have hS := fun s => refSays_spec m.body m.params slots own .fro o2 o3 (m.kind == 1 || m.kind == 4) s hbs (by omega) (by omega) (by omega)
 refine aN ?_
 refine CW.drop (s.set lb (leftO (k1 - (m.body.size : Int)))) (by rw [← hs2]; exact Store.sub_refl _) ?_
 clear hs2 hkw hcall hd
 generalize k1 - (m.body.size : Int) = k2
 simp only
 cases hk2 : decide (k2 ≥ 0) with
 | false =>
  repeat (first | with_reducible refine CW.seq ?_ | refine CW.reg ?_ | refine RL.step tO rfl rfl rfl rfl ?_ | refine RL.loadP tO rfl rfl rfl rfl rfl rfl (Store.set_same _ _ _) rfl ?_)
  refine RL.knowF 76 rfl hk2 ?_
  repeat (first | with_reducible refine aN ?_ | with_reducible refine CW.ret ?_ | refine RL.nil ?_ | refine RL.step tO rfl rfl rfl rfl ?_ | refine RL.skip rfl rfl rfl ?_)
  exact ⟨_, _, _, rfl, AVle.refl _, Store.sub_refl _, rfl, rfl⟩
 | true =>
  cases q1 : m.kind == 1 with
  | true =>
   rw [q1] at hS
   repeat (first | with_reducible refine CW.seq ?_ | refine CW.reg ?_ | refine RL.step tO rfl rfl rfl rfl ?_ | refine RL.loadP tO rfl rfl rfl rfl rfl rfl (Store.set_same _ _ _) rfl ?_)
   refine RL.knowT 76 rfl hk2 ?_
   repeat (first | refine RL.step tO rfl rfl rfl rfl ?_)
   refine RL.knowT 86 rfl q1 ?_
   repeat (first | refine RL.step tO rfl rfl rfl rfl ?_ | refine RL.skip rfl rfl rfl ?_)
   refine RL.callP rfl rfl rfl rfl rfl (hS _) ?_
   repeat (first | with_reducible refine aN ?_ | with_reducible refine CW.ret ?_ | refine RL.nil ?_ | refine RL.step tO rfl rfl rfl rfl ?_)
   exact ⟨_, _, _, rfl, AVle.refl _, Store.sub_refl _, rfl, rfl⟩
  | false =>
   rw [q1] at hS
   repeat (first | with_reducible refine CW.seq ?_ | refine CW.reg ?_ | refine RL.step tO rfl rfl rfl rfl ?_ | refine RL.loadP tO rfl rfl rfl rfl rfl rfl (Store.set_same _ _ _) rfl ?_)
   refine RL.knowT 76 rfl hk2 ?_
   repeat (first | refine RL.step tO rfl rfl rfl rfl ?_)
   refine RL.knowF 86 rfl q1 ?_
   repeat (first | refine RL.step tO rfl rfl rfl rfl ?_)
   refine RL.callP rfl rfl rfl rfl rfl (hS _) ?_
   repeat (first | with_reducible refine aN ?_ | with_reducible refine CW.ret ?_ | refine RL.nil ?_ | refine RL.step tO rfl rfl rfl rfl ?_)
   exact ⟨_, _, _, rfl, AVle.refl _, Store.sub_refl _, rfl, rfl⟩
end Go.Proofs.YtaafacnoddjhgaaGreat

/- Contracts of the reference: Prog, Check, Nodes, Gens, Slots, Above. -/
namespace Go.Proofs.YtaafacnoddjhgaaGreat
open Go.AE

theorem allPreN_known : ∀ {l : List FClass} {pre : List Str}, allPreN pre l = true → ∀ c ∈ l, ∀ p ∈ c.parents, p ∈ pre ++ l.map FClass.name
  | [], _, _, c, hc => by cases hc
  | d :: r, pre, h, c, hc => by
    rw [allPreN, Bool.and_eq_true] at h
    intro p hp
    rcases List.mem_cons.1 hc with rfl | hc
    · have h1 := h.1
      simp only [clsOkR, Bool.and_eq_true, List.all_eq_true] at h1
      exact List.mem_append_left _ (List.contains_iff_mem.1 (h1.2 p hp))
    · have := allPreN_known h.2 c hc p hp
      rw [List.append_assoc] at this
      exact this
theorem known_of {cls : List FClass} (h : classesR cls = true) : Known cls := by
 simp only [classesR, Bool.and_eq_true] at h
 intro c hc p hp
 have := allPreN_known h.2.1 c hc p hp
 rw [List.nil_append] at this
 obtain ⟨d, hd, rfl⟩ := List.mem_map.1 this
 rw [List.findIdx?_isSome, List.any_eq_true]
 exact ⟨d, hd, by simp⟩

def namesOf (P : FProg) : List Str := P.classes.map FClass.name
def slotsOfP (P : FProg) : List Str := P.classes.flatMap FClass.slots
def left0 (P : FProg) : Int := 120 - (P.classes.length : Int) - (P.main.size : Int)
def progR (P : FProg) : Bool :=
 decide (P.methods.length ≤ 16) && (classesR P.classes && (initsR P.classes && (goodB P.main && (decide (left0 P ≥ 0) && (saysB P.main [] (slotsOfP P) (namesOf P) false && (methodsR (slotsOfP P) (namesOf P) (left0 P) P.methods && ((progGens P).2 && decide ((progGens P).1.length ≤ 8))))))))

theorem methodR_le {slots own : List Str} {k : Int} {m : FMethod} (h : (methodR slots own k m).1 = true) : 0 ≤ (methodR slots own k m).2 ∧ (methodR slots own k m).2 ≤ k := by
 unfold methodR at h ⊢
 split at h
 ·cases h
 ·rename_i h1
  rw [if_neg h1]
  split at h
  ·cases h
  ·rename_i h2
   rw [if_neg h2]
   simp only [Bool.and_eq_true, decide_eq_true_eq] at h ⊢
   simp only [Bool.not_eq_true', Bool.not_eq_false, Bool.and_eq_true] at h2
   have := FFact.cnt_le m.params slots (own ++ others3) m.fact 1 k h2.1
   omega

set_option maxRecDepth 10000 in
set_option maxHeartbeats 4000000 in
theorem refProg_spec (P : FProg) (s : Store) (hP : P.Fair) : ACalls Tryz.prog 17 [P.av] s (fun o s' => o = .ret (.bool (progR P)) ∧ s' = s) := by
 have hb : big = 1099511627776 := rfl
 have hl := hP.clen
 have hsl := hP.slen
 have hmm := hP.mlen
 have hml : (P.classes.map FClass.av).length = P.classes.length := List.length_map ..
 have hmm2 : (P.methods.map FMethod.av).length = P.methods.length := List.length_map ..
 have hms := hP.main.size
 have hal := allE_length P.main
 have hpr : progR P = (decide (P.methods.length ≤ 16) && (classesR P.classes && (initsR P.classes && (goodB P.main && (decide (left0 P ≥ 0) && (saysB P.main [] (slotsOfP P) (namesOf P) false && (methodsR (slotsOfP P) (namesOf P) (left0 P) P.methods && ((progGens P).2 && decide ((progGens P).1.length ≤ 8)))))))) ) := rfl
 refine ACalls.of_CW tO call17 Tryz.func17 rfl rfl ?_
 refine CW.seqCut [(1, .fptr P.cells 0)] s ?_ ?_
 ·repeat (first | refine CW.reg (RL.run tO rfl (RL.nil ?_)))
  exact ⟨rfl, (by repeat (first | exact trivial | refine ⟨⟨_, rfl, AVle.refl _⟩, ?_⟩)), Store.sub_refl _⟩
 by_cases h16 : P.methods.length ≤ 16
 case neg =>
  have : progR P = false := by rw [hpr, decide_eq_false h16]; rfl
  rw [this]
  repeat (first | with_reducible refine CW.seq ?_ | refine CW.reg ?_ | refine RL.step tO rfl rfl rfl rfl ?_)
  refine RL.knowT 15 rfl (by rw [hmm2]; simp; omega) ?_
  repeat (first | with_reducible refine CW.seq ?_ | with_reducible refine aN ?_ | with_reducible refine aR ?_ | with_reducible refine CW.ret ?_ | refine CW.reg (RL.run tO rfl (RL.nil ?_)) | refine RL.nil ?_ | refine CW.condT rfl ?_ | refine RL.step tO rfl rfl rfl rfl ?_ | refine RL.skip rfl rfl rfl ?_)
  exact ⟨_, _, _, rfl, AVle.refl _, Store.sub_refl _, rfl, rfl⟩
 rw [decide_eq_true h16, Bool.true_and] at hpr
 have k1 := fun s => refClasses_spec P s hP
 cases hc : classesR P.classes with
 | false =>
  rw [hc] at k1 hpr
  rw [hpr]
  repeat (first | with_reducible refine CW.seq ?_ | refine CW.reg ?_ | refine RL.step tO rfl rfl rfl rfl ?_)
  refine RL.knowF 15 rfl (by rw [hmm2]; simp; omega) ?_
  repeat (first | refine RL.step tO rfl rfl rfl rfl ?_)
  refine RL.callP rfl rfl rfl rfl rfl (k1 _) ?_
  repeat (first | with_reducible refine CW.seq ?_ | with_reducible refine aN ?_ | with_reducible refine aR ?_ | with_reducible refine CW.ret ?_ | refine CW.reg (RL.run tO rfl (RL.nil ?_)) | refine RL.nil ?_ | refine CW.condT rfl ?_ | refine RL.step tO rfl rfl rfl rfl ?_ | refine RL.skip rfl rfl rfl ?_)
  exact ⟨_, _, _, rfl, AVle.refl _, Store.sub_refl _, rfl, rfl⟩
 | true =>
 have k2 := fun s => refInits_spec P s hP (known_of hc)
 rw [hc, Bool.true_and] at hpr
 rw [hc] at k1
 cases hi : initsR P.classes with
 | false =>
  rw [hi] at k2 hpr
  rw [hpr]
  repeat (first | with_reducible refine CW.seq ?_ | refine CW.reg ?_ | refine RL.step tO rfl rfl rfl rfl ?_)
  refine RL.knowF 15 rfl (by rw [hmm2]; simp; omega) ?_
  repeat (first | refine RL.step tO rfl rfl rfl rfl ?_)
  refine RL.callP rfl rfl rfl rfl rfl (k1 _) ?_
  repeat (first | refine RL.step tO rfl rfl rfl rfl ?_)
  refine RL.callP rfl rfl rfl rfl rfl (k2 _) ?_
  repeat (first | with_reducible refine CW.seq ?_ | with_reducible refine aN ?_ | with_reducible refine aR ?_ | with_reducible refine CW.ret ?_ | refine CW.reg (RL.run tO rfl (RL.nil ?_)) | refine RL.nil ?_ | refine CW.condT rfl ?_ | refine RL.step tO rfl rfl rfl rfl ?_ | refine RL.skip rfl rfl rfl ?_)
  exact ⟨_, _, _, rfl, AVle.refl _, Store.sub_refl _, rfl, rfl⟩
 | true =>
 rw [hi, Bool.true_and] at hpr
 rw [hi] at k2
 have k3 := fun s => refFormed_spec P.main s hP.main
 cases hg : goodB P.main with
 | false =>
  rw [hg] at k3 hpr
  rw [hpr]
  repeat (first | with_reducible refine CW.seq ?_ | refine CW.reg ?_ | refine RL.step tO rfl rfl rfl rfl ?_)
  refine RL.knowF 15 rfl (by rw [hmm2]; simp; omega) ?_
  repeat (first | refine RL.step tO rfl rfl rfl rfl ?_)
  refine RL.callP rfl rfl rfl rfl rfl (k1 _) ?_
  repeat (first | refine RL.step tO rfl rfl rfl rfl ?_)
  refine RL.callP rfl rfl rfl rfl rfl (k2 _) ?_
  repeat (first | refine RL.step tO rfl rfl rfl rfl ?_)
  refine RL.callP rfl rfl rfl rfl rfl (k3 _) ?_
  repeat (first | with_reducible refine CW.seq ?_ | with_reducible refine aN ?_ | with_reducible refine aR ?_ | with_reducible refine CW.ret ?_ | refine CW.reg (RL.run tO rfl (RL.nil ?_)) | refine RL.nil ?_ | refine CW.condT rfl ?_ | refine RL.step tO rfl rfl rfl rfl ?_)
  exact ⟨_, _, _, rfl, AVle.refl _, Store.sub_refl _, rfl, rfl⟩
 | true =>
 rw [hg, Bool.true_and] at hpr
 rw [hg] at k3
 have hgs := goodB_size hg
 have h10 : P.classes.length ≤ 10 := by
  simp only [classesR, Bool.and_eq_true, decide_eq_true_eq] at hc
  exact hc.1
 have hl0 : left0 P = 120 - (P.classes.length : Int) - (P.main.size : Int) := rfl
 repeat (first | with_reducible refine CW.seq ?_ | refine CW.reg ?_ | refine RL.step tO rfl rfl rfl rfl ?_)
 refine RL.knowF 15 rfl (by rw [hmm2]; simp; omega) ?_
 repeat (first | refine RL.step tO rfl rfl rfl rfl ?_)
 refine RL.callP rfl rfl rfl rfl rfl (k1 _) ?_
 repeat (first | refine RL.step tO rfl rfl rfl rfl ?_)
 refine RL.callP rfl rfl rfl rfl rfl (k2 _) ?_
 repeat (first | refine RL.step tO rfl rfl rfl rfl ?_)
 refine RL.callP rfl rfl rfl rfl rfl (k3 _) ?_
 repeat (first | with_reducible refine CW.seq ?_ | with_reducible refine aN ?_ | with_reducible refine CW.skip ?_ | refine RL.nil ?_ | refine CW.condF rfl ?_ | refine RL.step tO rfl rfl rfl rfl ?_)
 refine CW.drw tO mixed rfl (RD.run rfl ?_)
 refine RD.calmP (i := 6) rfl rfl rfl rfl rfl rfl rfl (fun s => refAll_spec _ P.main s (Nat.le_refl _) (Nat.le_of_lt hms)) ?_
 refine RD.run rfl ?_
 refine RD.one (i := 9) rfl rfl rfl rfl rfl (OW.alloc tO rfl rfl rfl rfl (X := fun _ _ => False)) ?_ (fun _ _ h => False.elim h)
 rintro _ _ ⟨lb, hlb, rfl, rfl⟩
 refine RD.run rfl ?_
 refine RD.oneN (i := 10) rfl rfl rfl rfl (OW.storeP tO rfl rfl rfl rfl rfl rfl rfl (Store.set_same _ _ _) rfl (X := fun _ _ => False)) ?_ (fun _ _ h => False.elim h)
 rintro _ _ rfl
 refine RD.run rfl (RD.done rfl (aN ?_))
 rw [Store.set_set]
 have hkw : IntKind.wrap .i64 (IntKind.wrap .i64 (120 - ((P.classes.map FClass.av).length : Int)) - ((P.main.allE.map FExp.av).length : Int)) = left0 P := by
  rw [List.length_map, List.length_map, hal, i64_wrap (n := 120 - _) (by omega) (by omega), i64_wrap (by omega) (by omega)]; rfl
 refine CW.sub [(1, .fptr P.cells 0), (3, .ptr lb 0)] (by repeat (first | exact trivial | refine ⟨⟨_, rfl, AVle.refl _⟩, ?_⟩)) ?_
 refine CW.drop (s.set lb (leftO (left0 P))) (by rw [← hkw]; exact Store.sub_refl _) ?_
 have hk120 : left0 P ≤ 120 := by omega
 have hk40 : -1000 ≤ left0 P := by omega
 generalize left0 P = k0 at hpr hk120 hk40 ⊢
 clear hkw hl0
 refine CW.seqCut [(1, .fptr P.cells 0), (3, .ptr lb 0), (4, .slc 1 (strs (slotsOfP P)) .fro)] (s.set lb (leftO k0)) ?_ ?_
 ·repeat (first | refine CW.reg ?_ | refine RL.step tO rfl rfl rfl rfl ?_)
  refine RL.callP rfl rfl rfl rfl rfl (refSlotsOf_spec P _ hl hsl) ?_
  repeat (first | refine RL.nil ?_ | refine RL.step tO rfl rfl rfl rfl ?_)
  exact ⟨rfl, (by repeat (first | exact trivial | refine ⟨⟨_, rfl, AVle.refl _⟩, ?_⟩)), Store.sub_refl _⟩
 have hso : (slotsOfP P).length < big := hsl
 have hno : (namesOf P).length = P.classes.length := by simp [namesOf]
 generalize slotsOfP P = slots at hpr hso ⊢
 refine CW.seqCut [(1, .fptr P.cells 0), (3, .ptr lb 0), (4, .slc 1 (strs slots) .fro), (5, .slc 1 (strs []) .nil)] (s.set lb (leftO k0)) ?_ ?_
 ·repeat (first | refine CW.reg (RL.run tO rfl (RL.nil ?_)))
  exact ⟨rfl, ⟨⟨_, rfl, AVle.refl _⟩, ⟨_, rfl, AVle.refl _⟩, ⟨_, rfl, AVle.refl _⟩, ⟨_, rfl, AVle.nil (by simp)⟩, trivial⟩, Store.sub_refl _⟩
 refine CW.seqCut [(1, .fptr P.cells 0), (3, .ptr lb 0), (4, .slc 1 (strs slots) .fro), (5, .slc 1 (strs (namesOf P)) .fro)] (s.set lb (leftO k0)) ?_ ?_
 ·repeat (first | with_reducible refine CW.seq ?_ | with_reducible refine aN ?_ | with_reducible refine CW.block ?_ | refine CW.reg (RL.run tO rfl (RL.nil ?_)))
  refine CW.loop (σ := Nat × Own) (fun q => [(1, .fptr P.cells 0), (3, .ptr lb 0), (4, .slc 1 (strs slots) .fro), (5, .slc 1 (strs ((P.classes.take q.1).map FClass.name)) q.2), (6, .int .i64 (q.1 : Int))])
   (fun q => rowOf (s.set lb (leftO k0)) 9 1 q.1 q.2) (fun q => q.1 ≤ P.classes.length ∧ OwnOk (s.set lb (leftO k0)) 0 q.2) (fun q => P.classes.length - q.1) (0, .nil) ⟨by simp, trivial⟩ (by repeat (first | exact trivial | refine ⟨⟨_, rfl, AVle.refl _⟩, ?_⟩)) (Store.sub_refl _) ?_
  rintro ⟨i, own⟩ ⟨hi', hown⟩
  simp only at hi' hown
  have hln : ((P.classes.take i).map FClass.name).length = i := by simp; omega
  repeat (first | with_reducible refine CW.seq ?_ | with_reducible refine aN ?_ | refine CW.reg (RL.run tO rfl (RL.nil ?_)))
  refine CW.cond rfl (fun h => ?_) (fun h => ?_)
  ·have hlt : i < P.classes.length := by rw [hml] at h; simpa using h
   obtain ⟨c, hci⟩ : ∃ c, P.classes[i]? = some c := ⟨_, List.getElem?_eq_getElem hlt⟩
   have hci' : (P.classes.map FClass.av)[i]? = some (.agg c.cells) := by rw [List.getElem?_map, hci]; rfl
   have hnx : (P.classes.take i).map FClass.name ++ [c.name] = (P.classes.take (i + 1)).map FClass.name := by rw [← take_snoc hci]; simp
   repeat (first | with_reducible refine CW.seq ?_ | with_reducible refine aN ?_ | with_reducible refine CW.skip ?_ | with_reducible refine CW.block ?_ | refine CW.reg ?_ | refine RL.step tO rfl rfl rfl rfl ?_ | refine RL.idx tO _ rfl rfl rfl rfl rfl rfl rfl rfl rfl rfl rfl (by assumption) rfl ?_)
   refine RL.append1 tO rfl rfl rfl rfl rfl rfl rfl (by intro k; simp) rfl rfl rfl rfl rfl rfl rfl (n := i) (by rw [strs_length, hln]) (by show (i + 1) * 16 ≤ _; omega) (by omega) (s := s.set lb (leftO k0)) rfl (OwnOk.sub' hown) (fun rb hrb => ?_)
   repeat (first | with_reducible refine aN ?_ | with_reducible refine iN ?_ | refine CW.reg (RL.run tO rfl (RL.nil ?_)) | refine RL.nil ?_ | refine RL.step tO rfl rfl rfl rfl ?_)
   exact ⟨(i + 1, .own rb), ⟨hlt, hrb⟩, (by repeat (first | exact trivial | refine ⟨⟨_, rfl, AVle.refl _⟩, ?_⟩ | refine ⟨⟨_, rfl, AVle.of_eq (by (first | (show AV.int .i64 (IntKind.wrap .i64 ((i : Int) + 1)) = .int .i64 ((i + 1 : Nat) : Int); rw [i64_succ (by omega)]) | (simp only [← hnx]; simp [strs])))⟩, ?_⟩)), Store.sub_refl _, by show P.classes.length - (i + 1) < P.classes.length - i; omega⟩
  ·have hge : P.classes.length ≤ i := by rw [hml] at h; simpa using h
   rw [List.take_of_length_le hge]
   repeat (first | with_reducible refine aX ?_ | with_reducible refine iH ?_ | with_reducible refine CW.exit ?_)
   exact ⟨rfl, ⟨⟨_, rfl, AVle.refl _⟩, ⟨_, rfl, AVle.refl _⟩, ⟨_, rfl, AVle.refl _⟩, ⟨_, rfl, AVle.fro⟩, trivial⟩, rowOf_sub hown⟩
 generalize namesOf P = own at hpr hno ⊢
 cases hk0 : decide (k0 ≥ 0) with
 | false =>
  rw [hk0] at hpr
  rw [hpr]
  have hk0' : decide (k0 < 0) = true := by simp at hk0 ⊢; omega
  repeat (first | with_reducible refine CW.seq ?_ | refine CW.reg ?_ | refine RL.step tO rfl rfl rfl rfl ?_ | refine RL.loadP tO rfl rfl rfl rfl rfl rfl (Store.set_same _ _ _) rfl ?_)
  refine RL.knowT 60 rfl hk0' ?_
  repeat (first | with_reducible refine CW.seq ?_ | with_reducible refine aN ?_ | with_reducible refine aR ?_ | with_reducible refine CW.ret ?_ | refine CW.reg (RL.run tO rfl (RL.nil ?_)) | refine RL.nil ?_ | refine CW.condT rfl ?_ | refine RL.step tO rfl rfl rfl rfl ?_ | refine RL.skip rfl rfl rfl ?_)
  exact ⟨_, _, s, rfl, AVle.refl _, Store.sub_set _ _ _ hlb, rfl, rfl⟩
 | true =>
 rw [hk0, Bool.true_and] at hpr
 have hk0' : decide (k0 < 0) = false := by simp at hk0 ⊢; omega
 have k4 := fun s => ACalls.weakArgs (.cons (AVle.refl _) (.cons (AVle.nil (sz := 0) (sz' := 1) (own := .nil) (by simp)) (.cons (AVle.refl _) (.cons (AVle.refl _) (.one (AVle.refl _)))))) (refSays_spec P.main [] slots own .nil .fro .fro false s hms (by simp) (by omega) (by omega))
 cases hsy : saysB P.main [] slots own false with
 | false =>
  rw [hsy] at k4 hpr
  rw [hpr]
  repeat (first | with_reducible refine CW.seq ?_ | refine CW.reg ?_ | refine RL.step tO rfl rfl rfl rfl ?_ | refine RL.loadP tO rfl rfl rfl rfl rfl rfl (Store.set_same _ _ _) rfl ?_)
  refine RL.knowF 60 rfl hk0' ?_
  repeat (first | refine RL.step tO rfl rfl rfl rfl ?_)
  refine RL.callP rfl rfl rfl rfl rfl (k4 _) ?_
  repeat (first | with_reducible refine CW.seq ?_ | with_reducible refine aN ?_ | with_reducible refine aR ?_ | with_reducible refine CW.ret ?_ | refine CW.reg (RL.run tO rfl (RL.nil ?_)) | refine RL.nil ?_ | refine CW.condT rfl ?_ | refine RL.step tO rfl rfl rfl rfl ?_)
  exact ⟨_, _, s, rfl, AVle.refl _, Store.sub_set _ _ _ hlb, rfl, rfl⟩
 | true =>
 rw [hsy] at k4
 rw [hsy, Bool.true_and] at hpr
 have hk00 : 0 ≤ k0 := by simpa using hk0
 repeat (first | with_reducible refine CW.seq ?_ | refine CW.reg ?_ | refine RL.step tO rfl rfl rfl rfl ?_ | refine RL.loadP tO rfl rfl rfl rfl rfl rfl (Store.set_same _ _ _) rfl ?_)
 refine RL.knowF 60 rfl hk0' ?_
 repeat (first | refine RL.step tO rfl rfl rfl rfl ?_)
 refine RL.callP rfl rfl rfl rfl rfl (k4 _) ?_
 repeat (first | with_reducible refine CW.seq ?_ | with_reducible refine aN ?_ | with_reducible refine CW.skip ?_ | with_reducible refine CW.block ?_ | refine CW.reg (RL.run tO rfl (RL.nil ?_)) | refine RL.nil ?_ | refine CW.condF rfl ?_ | refine RL.step tO rfl rfl rfl rfl ?_)
 refine CW.loop (σ := Nat × Int) (fun q => [(1, .fptr P.cells 0), (3, .ptr lb 0), (4, .slc 1 (strs slots) .fro), (5, .slc 1 (strs own) .fro), (7, .int .i64 (q.1 : Int))]) (fun q => s.set lb (leftO q.2))
  (fun q => q.1 ≤ P.methods.length ∧ 0 ≤ q.2 ∧ q.2 ≤ 120 ∧ methodsR slots own k0 P.methods = methodsR slots own q.2 (P.methods.drop q.1)) (fun q => P.methods.length - q.1) (0, k0) ⟨by simp, hk00, hk120, rfl⟩ (by repeat (first | exact trivial | refine ⟨⟨_, rfl, AVle.refl _⟩, ?_⟩)) (Store.sub_refl _) ?_
 rintro ⟨j, k⟩ ⟨hj, hq0, hq1, hI⟩
 simp only at hj hq0 hq1 hI
 repeat (first | with_reducible refine CW.seq ?_ | with_reducible refine aN ?_ | refine CW.reg (RL.run tO rfl (RL.nil ?_)))
 refine CW.cond rfl (fun h => ?_) (fun h => ?_)
 ·have hlt : j < P.methods.length := by rw [hmm2] at h; simpa using h
  obtain ⟨m, hm⟩ : ∃ m, P.methods[j]? = some m := ⟨_, List.getElem?_eq_getElem hlt⟩
  have hm' : (P.methods.map FMethod.av)[j]? = some (.agg m.cells) := by rw [List.getElem?_map, hm]; rfl
  have hmf := hP.mth m (List.mem_of_getElem? hm)
  rw [drop_cons hm, methodsR] at hI
  have hcall := refMethod_spec lb m slots own .fro .fro k (s.set lb (leftO k)) hmf (by omega) (by omega) hq0 hq1 (Store.set_same _ _ _)
  rw [Store.set_set] at hcall
  have hle := @methodR_le slots own k m
  generalize methodR slots own k m = r at hcall hle hI
  obtain ⟨b, k'⟩ := r
  simp only at hle hI
  repeat (first | with_reducible refine CW.seq ?_ | with_reducible refine aN ?_ | with_reducible refine CW.skip ?_ | with_reducible refine CW.block ?_ | refine CW.reg ?_ | refine RL.step tO rfl rfl rfl rfl ?_ | refine RL.idx tO _ rfl rfl rfl rfl rfl rfl rfl rfl rfl rfl rfl (by assumption) rfl ?_)
  refine RL.call rfl rfl rfl rfl rfl hcall ?_ (fun _ _ ⟨h, _⟩ => by cases h)
  rintro _ _ ⟨⟨⟩, rfl⟩
  cases b with
  | true =>
   obtain ⟨g0, g1⟩ := hle rfl
   rw [Bool.true_and] at hI
   repeat (first | with_reducible refine aN ?_ | with_reducible refine iN ?_ | with_reducible refine CW.skip ?_ | refine CW.reg (RL.run tO rfl (RL.nil ?_)) | refine RL.nil ?_ | refine CW.condF rfl ?_ | refine RL.step tO rfl rfl rfl rfl ?_)
   exact ⟨(j + 1, k'), ⟨hlt, g0, by show k' ≤ 120; omega, hI⟩, (by repeat (first | exact trivial | refine ⟨⟨_, rfl, AVle.refl _⟩, ?_⟩ | refine ⟨⟨_, rfl, AVle.of_eq (by (show AV.int .i64 (IntKind.wrap .i64 ((j : Int) + 1)) = .int .i64 ((j + 1 : Nat) : Int); rw [i64_succ (by omega)]))⟩, ?_⟩)), Store.sub_refl _, by show P.methods.length - (j + 1) < P.methods.length - j; omega⟩
  | false =>
   rw [Bool.false_and] at hI
   rw [hI] at hpr
   rw [hpr]
   repeat (first | with_reducible refine CW.seq ?_ | with_reducible refine aN ?_ | with_reducible refine aR ?_ | with_reducible refine iR ?_ | with_reducible refine CW.ret ?_ | refine CW.reg (RL.run tO rfl (RL.nil ?_)) | refine RL.nil ?_ | refine CW.condT rfl ?_ | refine RL.step tO rfl rfl rfl rfl ?_)
   exact ⟨_, _, s, rfl, AVle.refl _, Store.sub_set _ _ _ hlb, rfl, rfl⟩
 ·have hge : P.methods.length ≤ j := by rw [hmm2] at h; simpa using h
  rw [List.drop_eq_nil_of_le hge, methodsR] at hI
  rw [hI, Bool.true_and] at hpr
  have k5 := fun s => refFunctions_spec P s hP
  rw [hpr]
  generalize progGens P = pg at k5 ⊢
  obtain ⟨G, is⟩ := pg
  simp only at k5 ⊢
  repeat (first | with_reducible refine CW.seq ?_ | with_reducible refine aN ?_ | with_reducible refine aX ?_ | with_reducible refine iH ?_ | with_reducible refine CW.exit ?_ | refine CW.reg ?_ | refine RL.step tO rfl rfl rfl rfl ?_)
  refine RL.callP rfl rfl rfl rfl rfl (k5 _) ?_
  repeat (first | with_reducible refine CW.seq ?_ | with_reducible refine aN ?_ | refine CW.reg ?_ | refine RL.nil ?_ | refine RL.step tO rfl rfl rfl rfl ?_)
  cases is with
  | true =>
   repeat (first | with_reducible refine aN ?_ | with_reducible refine CW.ret ?_ | refine RL.nil ?_ | refine RL.step tO rfl rfl rfl rfl ?_)
   refine ⟨_, _, s, rfl, AVle.of_eq ?_, Store.sub_set _ _ _ hlb, rfl, rfl⟩
   congr 1
   rw [strs_length, List.length_map, Bool.eq_iff_iff]; simp; omega
  | false =>
   repeat (first | with_reducible refine aN ?_ | with_reducible refine CW.ret ?_ | refine RL.nil ?_ | refine RL.step tO rfl rfl rfl rfl ?_ | refine RL.skip rfl rfl rfl ?_)
   exact ⟨_, _, s, rfl, AVle.refl _, Store.sub_set _ _ _ hlb, rfl, rfl⟩

end Go.Proofs.YtaafacnoddjhgaaGreat

/- The plain law of FormChecks, part 1: facts, expressions and methods. -/
namespace Go.Proofs.YtaafacnoddjhgaaGreat
open Go.AE

theorem ok_known {ps ss own : List Str} {g : FFact} (hp : ps.contains [] = false) : okK ps ss (own ++ others3) g = (nodeF g && spokenF own ss ps (.fact g)) := by
 have hn : g.name = [] → ps.contains g.name = false := fun h => by rw [h]; exact hp
 have hb0 : between 0 = true := by decide
 have ho : (own ++ others3).contains g.cls = (((own.contains g.cls || g.cls == anyS) || g.cls == intS) || g.cls == noneS) := by
  rw [Bool.eq_iff_iff]; simp [others3, or_assoc]
 have hkl : g.kav.length = g.kids.length := FFact.kav_length g
 have hpl : (g.path.length = 0) → g.path.all ss.contains = true := fun h => by rw [List.length_eq_zero_iff.1 h]; rfl
 rw [okK, badK1, badK2, badK3, nodeF, nodeF1, nodeF2, spokenF, ho, opF, hkl, strs_length]
 generalize g.path.all ss.contains = pa at hpl
 generalize hnm : ps.contains g.name = nm at hn
 generalize own.contains g.cls = nc
 have hen : (g.name == []) = true → nm = false := fun h => hn (by simpa using h)
 have hea : (g.cls == []) = true → (g.cls == anyS) = false ∧ (g.cls == intS) = false ∧ (g.cls == noneS) = false := fun h => by rw [(by simpa using h : g.cls = [])]; decide
 generalize (g.name == []) = en at hen
 generalize (g.cls == []) = ec at hea
 generalize (g.cls == anyS) = ca at hea
 generalize (g.cls == intS) = ci at hea
 generalize (g.cls == noneS) = cn at hea
 generalize ((g.kids.length : Int) == kidsF g.op) = kk
 have hat : atomF g = ((g.op == 2 || g.op == 3) || g.op == 4) := rfl
 rw [hat]
 have hcc : (((nc || ca) || ci) || cn) = (nc || ((ca || ci) || cn)) := by cases nc <;> cases ca <;> cases ci <;> cases cn <;> rfl
 have hcc2 : ((((nc || ec) || ca) || ci) || cn) = ((nc || ((ca || ci) || cn)) || ec) := by cases nc <;> cases ec <;> cases ca <;> cases ci <;> cases cn <;> rfl
 rw [hcc, hcc2]
 generalize (nc || ((ca || ci) || cn)) = kc
 clear hea
 by_cases hn0 : g.n = 0
 ·rw [hn0, hb0]
  rw [Bool.eq_iff_iff]
  simp only [Bool.and_eq_true, Bool.or_eq_true, Bool.not_eq_true', Bool.or_eq_false_iff, Bool.and_eq_false_iff, beq_iff_eq, decide_eq_true_eq, decide_eq_false_iff_not, Bool.not_eq_false']
  cases en <;> cases ec <;> cases kk <;> cases pa <;> cases nm <;> cases kc <;> simp_all <;> first | omega | grind
 ·rw [Bool.eq_iff_iff]
  have : (g.n == 0) = false := by simpa using hn0
  rw [this]
  generalize between g.n = bn
  cases en <;> cases ec <;> cases kk <;> cases pa <;> cases nm <;> cases kc <;> cases bn <;> simp_all <;> omega

theorem fact_known {ps ss own : List Str} (hp : ps.contains [] = false) (f : FFact) (cnt : Nat) (k : Int) (hk : k = 120 - (cnt : Int)) (h0 : 0 ≤ k) :
  (FFact.cnt ps ss (own ++ others3) 1 k f).1 = factB own ss cnt f ps := by
 rw [(cntF_nodes _ _ _ f 1 k h0).1, factB, lookB]
 have hsz : ((Part.fact f).nodes 1).length = f.size := Part.nodes_size _ _ _ (Nat.le_refl _)
 rw [hsz]
 by_cases h : cnt + f.size ≤ 120
 ·rw [decide_eq_true (by omega : (f.size : Int) ≤ k), decide_eq_true h, decide_eq_true (by omega : f.size ≤ 120), Bool.true_and, Bool.true_and, Bool.and_true]
  rw [Bool.eq_iff_iff, Bool.and_eq_true, List.all_eq_true, List.all_eq_true, List.all_eq_true]
  have key : ∀ x ∈ (Part.fact f).nodes 1, okKP ps ss (own ++ others3) x = (nodeOk x && spokenF own ss ps x.2) := by
   intro x hx
   obtain ⟨g, hg, hxg⟩ := mem_allF f 1 x hx
   obtain ⟨d, p⟩ := x
   simp only at hxg
   subst hxg
   show (decide (d ≤ 12) && okK _ _ _ g) = ((decide (d ≤ 12) && nodeF g) && spokenF own ss ps (.fact g))
   rw [ok_known hp, Bool.and_assoc]
  constructor
  ·intro h
   refine ⟨fun x hx => ?_, fun x hx => ?_⟩
   ·have := h x hx
    rw [key x hx, Bool.and_eq_true] at this; exact this.1
   ·have := h x hx
    rw [key x hx, Bool.and_eq_true] at this; exact this.2
  ·rintro ⟨h1, h2⟩ x hx
   rw [key x hx, h1 x hx, h2 x hx]; rfl
 ·rw [decide_eq_false (by omega : ¬ (f.size : Int) ≤ k), decide_eq_false h]; simp

theorem says_frees {e : FExp} (h : e.neat = true) (free slots own : List Str) (next : Bool) : saysB e free slots own next = (e.allE.all (spokenE own slots next) && e.frees.all free.contains) := by
 unfold saysB
 congr 1
 rw [Bool.eq_iff_iff, List.all_eq_true, List.all_eq_true]
 have hz : ∀ z, z ∈ sortS (e.looseR []) ↔ z ∈ e.frees := fun z => by rw [mem_sortS, mem_frees, looseR_eq e [] [] h (fun _ => Iff.rfl)]
 exact ⟨fun g x hx => g x ((hz x).2 hx), fun g x hx => g x ((hz x).1 hx)⟩

theorem exp_known (names slots : List Str) (cnt : Nat) (e : FExp) (params : List Str) (next : Bool) (k : Int) (hk : k = 120 - (cnt : Int)) :
  (goodB e && (decide (k - e.size ≥ 0) && saysB e params slots names next)) = knownB names slots cnt e params next := by
 unfold knownB
 show _ = ((goodB e && _) && _)
 cases hg : goodB e with
 | false => rfl
 | true =>
  rw [says_frees (good_neat hg)]
  have : decide (k - e.size ≥ 0) = decide (cnt + e.size ≤ 120) := by rw [Bool.eq_iff_iff]; simp; omega
  rw [this]; rfl

/-! ### Lists whose elements are asked one after the other -/
theorem allPre_iff {α : Type} (f : List α → α → Bool) : ∀ (l pre : List α), allPre f pre l = true ↔ ∀ i x, l[i]? = some x → f (pre ++ l.take i) x = true
  | [], pre => by simp [allPre]
  | y :: r, pre => by
    rw [allPre, Bool.and_eq_true, allPre_iff f r (pre ++ [y])]
    constructor
    · rintro ⟨h1, h2⟩ i x hx
      cases i with
      | zero => simp at hx; subst hx; simpa using h1
      | succ i => have := h2 i x (by simpa using hx); simpa using this
    · intro h
      refine ⟨by simpa using h 0 y rfl, fun i x hx => ?_⟩
      have := h (i + 1) x (by simpa using hx)
      simpa using this

theorem nodup_pre {α : Type} (f : α → List Str) : ∀ (r pre : List α), (pre.flatMap f).Nodup → (((pre ++ r).flatMap f).Nodup ↔ allPre (fun pre x => decide (f x).Nodup && (f x).all fun y => !(pre.flatMap f).contains y) pre r = true)
  | [], pre, h => by simpa [allPre] using h
  | c :: r, pre, h => by
    have e : pre ++ c :: r = (pre ++ [c]) ++ r := by simp
    rw [allPre, Bool.and_eq_true, e]
    have hc : ((pre ++ [c]).flatMap f).Nodup ↔ (decide (f c).Nodup && (f c).all fun y => !(pre.flatMap f).contains y) = true := by
      rw [List.flatMap_append, List.nodup_append, Bool.and_eq_true, decide_eq_true_eq, List.all_eq_true]
      simp only [List.flatMap_cons, List.flatMap_nil, List.append_nil, Bool.not_eq_true', List.contains_eq_mem, decide_eq_false_iff_not]
      constructor
      · rintro ⟨-, h2, h3⟩
        exact ⟨h2, fun x hx hx' => h3 x hx' x hx rfl⟩
      · rintro ⟨h2, h3⟩
        exact ⟨h, h2, fun x hx y hy e => by subst e; exact h3 x hy hx⟩
    by_cases hg : ((pre ++ [c]).flatMap f).Nodup
    · rw [nodup_pre f r (pre ++ [c]) hg]
      exact ⟨fun h => ⟨hc.1 hg, h⟩, fun h => h.2⟩
    · constructor
      · intro h2
        rw [List.flatMap_append] at h2
        exact absurd (List.nodup_append.1 h2).1 hg
      · rintro ⟨h1, -⟩
        exact absurd (hc.2 h1) hg

theorem params_known (l : List Str) : allPre okParam [] l = (l.all nameS && decide l.Nodup) := by
 rw [Bool.eq_iff_iff, Bool.and_eq_true, decide_eq_true_eq, List.all_eq_true]
 have h1 := nodup_pre (fun x : Str => [x]) l [] (by simp)
 simp only [List.nil_append, List.flatMap_singleton'] at h1
 rw [h1, allPre_iff, allPre_iff]
 constructor
 ·intro h
  refine ⟨fun x hx => ?_, fun i x hx => ?_⟩
  ·obtain ⟨i, hi⟩ := List.getElem?_of_mem hx
   have := h i x hi
   unfold okParam at this
   simp only [Bool.and_eq_true] at this; exact this.1
  ·have := h i x hx
   unfold okParam at this
   simp only [Bool.and_eq_true] at this
   simp; simpa using this.2
 ·rintro ⟨h2, h3⟩ i x hx
  have := h3 i x hx
  unfold okParam
  rw [Bool.and_eq_true]
  refine ⟨h2 x (List.mem_of_getElem? hx), ?_⟩
  simp at this ⊢; exact this

theorem nameS_nil : nameS [] = false := by decide
theorem method_known (names slots : List Str) (m : FMethod) (cnt : Nat) (k : Int) (hk : k = 120 - (cnt : Int)) (h0 : 0 ≤ k) :
  (methodR slots names k m).1 = methodOk names slots cnt m ∧ ((methodR slots names k m).1 = true → (methodR slots names k m).2 = k - m.fact.size - m.body.size) := by
 unfold methodR methodOk
 have hh : headR m = (mB1 m && allPre okParam [] m.params) := by rw [params_known]; rfl
 rw [hh]
 cases h1 : mB1 m with
 | false => exact ⟨rfl, fun h => by cases h⟩
 | true =>
 cases h2 : allPre okParam [] m.params with
 | false => exact ⟨rfl, fun h => by cases h⟩
 | true =>
 have hp : m.params.contains [] = false := by
  rw [params_known, Bool.and_eq_true, List.all_eq_true] at h2
  rw [Bool.eq_false_iff]
  intro hc
  have := h2.1 [] (List.contains_iff_mem.1 hc)
  rw [nameS_nil] at this; cases this
 have hf := fact_known (ss := slots) (own := names) hp m.fact cnt k hk h0
 have hf2 := (cntF_nodes m.params slots (names ++ others3) m.fact 1 k h0).2
 rw [← hf]
 cases h3 : (FFact.cnt m.params slots (names ++ others3) 1 k m.fact).1 with
 | false => exact ⟨rfl, fun h => by simp at h⟩
 | true =>
 have hk2 := hf2 h3
 have he := exp_known names slots (cnt + m.fact.size) m.body m.params (m.kind == 1 || m.kind == 4) (k - m.fact.size) (by omega)
 simp only [Bool.true_and, Bool.and_self, Bool.not_true, Bool.false_eq_true, if_false, hk2]
 rw [← he]
 cases h4 : goodB m.body with
 | false => exact ⟨rfl, fun h => by simp at h⟩
 | true => exact ⟨rfl, fun _ => rfl⟩

theorem methods_known (names slots : List Str) : ∀ (l : List FMethod) (cnt : Nat) (k : Int), k = 120 - (cnt : Int) → 0 ≤ k → methodsR slots names k l = methodsOk names slots cnt l
  | [], _, _, _, _ => rfl
  | m :: r, cnt, k, hk, h0 => by
    rw [methodsR, methodsOk]
    obtain ⟨g1, g2⟩ := method_known names slots m cnt k hk h0
    rw [← g1]
    cases h : (methodR slots names k m).1 with
    | false => rfl
    | true =>
      have hl := (methodR_le h).1
      rw [g2 h] at hl ⊢
      rw [Bool.true_and, Bool.true_and]
      exact methods_known names slots r _ _ (by omega) (by omega)
end Go.Proofs.YtaafacnoddjhgaaGreat

/- The plain law of FormChecks, part 2: classes, and what stands above a class. -/
namespace Go.Proofs.YtaafacnoddjhgaaGreat
open Go.AE

def stateOf (l : List FClass) : CSt := l.foldl CSt.next .zero
theorem stateOf_snoc (l : List FClass) (c : FClass) : stateOf (l ++ [c]) = (stateOf l).next c := by unfold stateOf; rw [List.foldl_append]; rfl
theorem state_list (f : List FClass → Prop) (h0 : f []) (h1 : ∀ l c, f l → f (l ++ [c])) : ∀ n (l : List FClass), l.length = n → f l
  | 0, l, h => by rw [List.length_eq_zero_iff.1 h]; exact h0
  | n + 1, l, h => by
    have hne : l ≠ [] := by rintro rfl; cases h
    rw [← List.dropLast_concat_getLast hne]
    exact h1 _ _ (state_list f h0 h1 n _ (by simp; omega))
theorem stateOf_names (l : List FClass) : (stateOf l).names = l.map FClass.name :=
 state_list (fun l => (stateOf l).names = l.map FClass.name) rfl (fun l c h => by rw [stateOf_snoc, CSt.next, h]; simp) _ l rfl
theorem stateOf_slots (l : List FClass) : (stateOf l).slots = l.flatMap FClass.slots :=
 state_list (fun l => (stateOf l).slots = l.flatMap FClass.slots) rfl (fun l c h => by rw [stateOf_snoc, CSt.next, h]; simp) _ l rfl

theorem clsRest_pre : ∀ (r pre : List FClass), clsRest (stateOf pre) r = if allPre (fun pre c => classOk (stateOf pre) c) pre r then some (stateOf (pre ++ r)) else none
  | [], pre => by simp [clsRest, allPre]
  | c :: r, pre => by
    rw [clsRest, allPre]
    cases h : classOk (stateOf pre) c with
    | false => simp
    | true =>
      rw [← stateOf_snoc, clsRest_pre r (pre ++ [c])]
      simp
theorem clsAll_pre (l : List FClass) : clsAll l = if decide (l.length ≤ 10) && allPre (fun pre c => classOk (stateOf pre) c) [] l then some (stateOf l) else none := by
 unfold clsAll
 by_cases h : l.length ≤ 10
 ·rw [if_pos h, decide_eq_true h, Bool.true_and]
  exact clsRest_pre l []
 ·rw [if_neg h, decide_eq_false h]; rfl

theorem allPreN_pre : ∀ (r pre : List FClass), allPreN (pre.map FClass.name) r = allPre (fun pre c => clsOkR (pre.map FClass.name) c) pre r
  | [], _ => rfl
  | c :: r, pre => by
    rw [allPreN, allPre, ← allPreN_pre r (pre ++ [c])]
    simp

/-! ### What stands above -/
def parsAt (cls : List FClass) (j : Nat) : List Str := (cls[j]?.map FClass.parents).getD []
inductive Up (cls : List FClass) (i : Nat) : Nat → Prop
 | self : Up cls i i
 | step {m : Nat} {p : Str} : Up cls i m → p ∈ parsAt cls m → Up cls i (at_ cls p)
def Ahead (cls : List FClass) : Prop := ∀ j p, p ∈ parsAt cls j → at_ cls p < j

theorem Up.le {cls : List FClass} {i j : Nat} (ha : Ahead cls) (h : Up cls i j) : j ≤ i := by
 induction h with
 | self => exact Nat.le_refl _
 | step _ hp ih => have := ha _ _ hp; omega
theorem Up.trans {cls : List FClass} {i j k : Nat} (h1 : Up cls i j) (h2 : Up cls j k) : Up cls i k := by
 induction h2 with
 | self => exact h1
 | step _ hp ih => exact ih.step hp
theorem Up.tail {cls : List FClass} {i j : Nat} (h : Up cls i j) : j = i ∨ ∃ m, Up cls i m ∧ ∃ p ∈ parsAt cls m, j = at_ cls p := by
 cases h with
 | self => exact .inl rfl
 | step h hp => exact .inr ⟨_, h, _, hp, rfl⟩
theorem Up.head {cls : List FClass} {i j : Nat} (h : Up cls i j) : j = i ∨ ∃ p ∈ parsAt cls i, Up cls (at_ cls p) j := by
 induction h with
 | self => exact .inl rfl
 | step h hp ih =>
  rcases ih with rfl | ⟨q, hq, hu⟩
  ·exact .inr ⟨_, hp, .self⟩
  ·exact .inr ⟨q, hq, hu.step hp⟩
theorem up_iff {cls : List FClass} {i j : Nat} : Up cls i j ↔ j = i ∨ ∃ p ∈ parsAt cls i, Up cls (at_ cls p) j := by
 refine ⟨Up.head, ?_⟩
 rintro (rfl | ⟨p, hp, hu⟩)
 ·exact .self
 ·exact (Up.self.step hp).trans hu

theorem getD_set (out : List Bool) (k j : Nat) (hk : k < out.length) : (out.set k true).getD j false = true ↔ j = k ∨ out.getD j false = true := by
 rw [List.getD_eq_getElem?_getD, List.getD_eq_getElem?_getD, List.getElem?_set]
 by_cases h : k = j
 ·subst h; simp [hk]
 ·rw [if_neg h]
  constructor
  ·exact .inr
  ·rintro (h' | h')
   ·exact absurd h'.symm h
   ·exact h'
theorem upStep_getD (cls : List FClass) (j : Nat) : ∀ (ps : List Str) (out : List Bool), (∀ p ∈ ps, at_ cls p < out.length) → ((upStep cls ps out).getD j false = true ↔ (∃ p ∈ ps, j = at_ cls p) ∨ out.getD j false = true)
  | [], out, _ => by simp [upStep]
  | p :: ps, out, h => by
    show ((upStep cls ps (out.set (at_ cls p) true)).getD j false = true ↔ _)
    rw [upStep_getD cls j ps _ (fun q hq => by rw [List.length_set]; exact h q (List.mem_cons_of_mem _ hq)), getD_set _ _ _ (h p (List.mem_cons_self ..))]
    constructor
    · rintro (⟨q, hq, e⟩ | e | e)
      · exact .inl ⟨q, List.mem_cons_of_mem _ hq, e⟩
      · exact .inl ⟨p, List.mem_cons_self .., e⟩
      · exact .inr e
    · rintro (⟨q, hq, e⟩ | e)
      · rcases List.mem_cons.1 hq with rfl | hq
        · exact .inr (.inl e)
        · exact .inl ⟨q, hq, e⟩
      · exact .inr (.inr e)

theorem upGo_up {cls : List FClass} {n : Nat} (ha : Ahead cls) (hn : n < cls.length) : ∀ (k : Nat) (out : List Bool), k ≤ n + 1 → out.length = cls.length →
    (∀ j, out.getD j false = true ↔ ∃ m, k ≤ m ∧ Up cls n m ∧ ∃ p ∈ parsAt cls m, j = at_ cls p) →
    ∀ j, ((upGo cls n k out).getD j false = true ↔ ∃ m, Up cls n m ∧ ∃ p ∈ parsAt cls m, j = at_ cls p)
  | 0, out, _, _, h, j => by
    rw [upGo, h j]
    exact ⟨fun ⟨m, _, h⟩ => ⟨m, h⟩, fun ⟨m, h⟩ => ⟨m, Nat.zero_le _, h⟩⟩
  | k + 1, out, hk, hl, h, j => by
    have hup : (k == n || out.getD k false) = true ↔ Up cls n k := by
      rw [Bool.or_eq_true, h k, beq_iff_eq]
      constructor
      · rintro (rfl | ⟨m, _, hu, p, hp, rfl⟩)
        · exact .self
        · exact hu.step hp
      · intro hu
        rcases hu.tail with rfl | ⟨m, hu', p, hp, e⟩
        · exact .inl rfl
        · exact .inr ⟨m, by have := ha _ _ hp; omega, hu', p, hp, e⟩
    rw [upGo]
    have hin : ∀ p ∈ parsAt cls k, at_ cls p < out.length := fun p hp => by have := ha _ _ hp; omega
    refine upGo_up ha hn k _ (by omega) ?_ ?_ j
    · split
      · rw [upStep_len]; exact hl
      · exact hl
    · intro j
      have hg : (∃ m, k ≤ m ∧ Up cls n m ∧ ∃ p ∈ parsAt cls m, j = at_ cls p) ↔ (Up cls n k ∧ ∃ p ∈ parsAt cls k, j = at_ cls p) ∨ out.getD j false = true := by
        rw [h j]
        constructor
        · rintro ⟨m, hm, hu, hp⟩
          by_cases e : m = k
          · subst e; exact .inl ⟨hu, hp⟩
          · exact .inr ⟨m, by omega, hu, hp⟩
        · rintro (⟨hu, hp⟩ | ⟨m, hm, hu, hp⟩)
          · exact ⟨k, Nat.le_refl _, hu, hp⟩
          · exact ⟨m, by omega, hu, hp⟩
      rw [hg]
      by_cases hu : Up cls n k
      · rw [if_pos (hup.2 hu)]
        show ((upStep cls (parsAt cls k) out).getD j false = true ↔ _)
        rw [upStep_getD cls j _ _ hin]
        simp [hu]
      · rw [if_neg (fun h' => hu (hup.1 h'))]
        simp [hu]

theorem aboveB_up {cls : List FClass} {n : Nat} (ha : Ahead cls) (hn : n < cls.length) (j : Nat) : (aboveB cls n).getD j false = true ↔ ∃ m, Up cls n m ∧ ∃ p ∈ parsAt cls m, j = at_ cls p := by
 unfold aboveB
 refine upGo_up ha hn (n + 1) _ (Nat.le_refl _) (by simp) (fun j => ?_) j
 constructor
 ·intro h
  rw [List.getD_eq_getElem?_getD, List.getElem?_replicate] at h
  split at h <;> simp at h
 ·rintro ⟨m, hm, hu, -⟩
  have := hu.le ha
  omega
theorem above_self {cls : List FClass} {n : Nat} (ha : Ahead cls) (hn : n < cls.length) (j : Nat) : ((aboveB cls n).set n true).getD j false = true ↔ Up cls n j := by
 rw [getD_set _ _ _ (by rw [aboveB_len]; exact hn), aboveB_up ha hn]
 constructor
 ·rintro (rfl | ⟨m, hu, p, hp, rfl⟩)
  ·exact .self
  ·exact hu.step hp
 ·intro h; exact h.tail

theorem mem_mineUpto {cls : List FClass} {up : List Bool} {k : Nat} {x : Str} : x ∈ mineUpto cls up k ↔ ∃ j, j < k ∧ up.getD j false = true ∧ x ∈ slotsAt cls j := by
 unfold mineUpto
 rw [List.mem_flatMap]
 constructor
 ·rintro ⟨j, hj, hx⟩
  split at hx
  ·exact ⟨j, List.mem_range.1 hj, by assumption, hx⟩
  ·cases hx
 ·rintro ⟨j, hj, hu, hx⟩
  exact ⟨j, List.mem_range.2 hj, by rw [if_pos hu]; exact hx⟩

/-! ### The slots of a class, as the layer counts them -/
def mineOf (cls : List FClass) (i : Nat) : List Str := match cls[i]? with
 | some c => (stateOf (cls.take i)).mine c
 | none => []

theorem stateOf_has (cls : List FClass) : ∀ i, i ≤ cls.length → (stateOf (cls.take i)).has = (List.range i).map (mineOf cls)
  | 0, _ => rfl
  | i + 1, h => by
    obtain ⟨c, hc⟩ : ∃ c, cls[i]? = some c := ⟨_, List.getElem?_eq_getElem (by omega)⟩
    have ht : cls.take (i + 1) = cls.take i ++ [c] := by rw [take_snoc hc]
    rw [ht, stateOf_snoc, CSt.next, stateOf_has cls i (by omega), List.range_succ, List.map_append]
    simp [mineOf, hc]

theorem findIdx_take {α : Type} {f : α → Bool} {l : List α} {i j : Nat} (h : l.findIdx? f = some j) (hj : j < i) : (l.take i).findIdx? f = some j := by
 rw [List.findIdx?_eq_some_iff_getElem] at h ⊢
 obtain ⟨h1, h2, h3⟩ := h
 refine ⟨by rw [List.length_take]; omega, by rw [List.getElem_take]; exact h2, fun k hk => by rw [List.getElem_take]; exact h3 k hk⟩

def Tidy (cls : List FClass) : Prop := ∀ j c, cls[j]? = some c → ∀ p ∈ c.parents, p ∈ (cls.take j).map FClass.name

theorem Tidy.find {cls : List FClass} (h : Tidy cls) {j : Nat} {p : Str} (hp : p ∈ parsAt cls j) : (cls.findIdx? fun c => c.name == p) = some (at_ cls p) ∧ at_ cls p < j ∧ j < cls.length := by
 unfold parsAt at hp
 cases hc : cls[j]? with
 | none => rw [hc] at hp; cases hp
 | some c =>
  rw [hc] at hp
  have hm := h j c hc p hp
  obtain ⟨d, hd, rfl⟩ := List.mem_map.1 hm
  obtain ⟨k, hk⟩ := List.getElem?_of_mem hd
  have hkj : k < j := by
   have := (List.getElem?_eq_some_iff.1 hk).1
   rw [List.length_take] at this; omega
  have hk' : cls[k]? = some d := by rw [List.getElem?_take] at hk; rw [if_pos hkj] at hk; exact hk
  have hjl := (List.getElem?_eq_some_iff.1 hc).1
  have hs : (cls.findIdx? fun c => c.name == d.name).isSome = true := by
   rw [List.findIdx?_isSome, List.any_eq_true]
   exact ⟨d, List.mem_of_getElem? hk', by simp⟩
  obtain ⟨q, hq⟩ := Option.isSome_iff_exists.1 hs
  have : at_ cls d.name = q := by unfold at_; rw [hq]; rfl
  refine ⟨by rw [this]; exact hq, ?_, hjl⟩
  rw [this]
  rw [List.findIdx?_eq_some_iff_getElem] at hq
  obtain ⟨q1, q2, q3⟩ := hq
  refine Nat.lt_of_not_le fun hle => ?_
  have := q3 k (by omega)
  obtain ⟨e1, e2⟩ := List.getElem?_eq_some_iff.1 hk'
  rw [e2] at this
  simp at this
theorem Tidy.ahead {cls : List FClass} (h : Tidy cls) : Ahead cls := fun _ _ hp => (h.find hp).2.1

theorem slotsOf_at {cls : List FClass} (h : Tidy cls) {i : Nat} {p : Str} (hp : p ∈ parsAt cls i) : (stateOf (cls.take i)).slotsOf p = mineOf cls (at_ cls p) := by
 obtain ⟨h1, h2, h3⟩ := h.find hp
 have hf : ((cls.take i).map FClass.name).findIdx? (· == p) = some (at_ cls p) := by
  rw [List.findIdx?_map]
  exact findIdx_take h1 h2
 unfold CSt.slotsOf
 rw [stateOf_names, hf]
 simp only
 rw [stateOf_has cls i (by omega), List.getD_eq_getElem?_getD, List.getElem?_map, List.getElem?_range (by omega)]
 rfl

theorem mem_mineOf {cls : List FClass} (h : Tidy cls) (x : Str) : ∀ (n i : Nat), i < n → (x ∈ mineOf cls i ↔ ∃ j, Up cls i j ∧ x ∈ slotsAt cls j)
  | 0, _, hn => by omega
  | n + 1, i, hn => by
    have key : x ∈ mineOf cls i ↔ x ∈ slotsAt cls i ∨ ∃ p ∈ parsAt cls i, x ∈ mineOf cls (at_ cls p) := by
      cases hc : cls[i]? with
      | none => simp [mineOf, slotsAt, parsAt, hc]
      | some c =>
        have hp : parsAt cls i = c.parents := by simp [parsAt, hc]
        have hs : slotsAt cls i = c.slots := by simp [slotsAt, hc]
        have hm : mineOf cls i = c.parents.flatMap (stateOf (cls.take i)).slotsOf ++ c.slots := by simp [mineOf, hc, CSt.mine]
        rw [hm, hs, List.mem_append, List.mem_flatMap, or_comm]
        refine or_congr Iff.rfl ?_
        constructor
        · rintro ⟨p, hq, hx⟩
          rw [slotsOf_at h (by rw [hp]; exact hq)] at hx
          exact ⟨p, by rw [hp]; exact hq, hx⟩
        · rintro ⟨p, hq, hx⟩
          rw [← slotsOf_at h hq] at hx
          exact ⟨p, by rw [← hp]; exact hq, hx⟩
    rw [key]
    constructor
    · rintro (hx | ⟨p, hp, hx⟩)
      · exact ⟨i, .self, hx⟩
      · obtain ⟨j, hu, hx⟩ := (mem_mineOf h x n _ (by have := h.ahead _ _ hp; omega)).1 hx
        exact ⟨j, up_iff.2 (.inr ⟨p, hp, hu⟩), hx⟩
    · rintro ⟨j, hu, hx⟩
      rcases up_iff.1 hu with rfl | ⟨p, hp, hu⟩
      · exact .inl hx
      · exact .inr ⟨p, hp, (mem_mineOf h x n _ (by have := h.ahead _ _ hp; omega)).2 ⟨j, hu, hx⟩⟩

theorem mine_same {cls : List FClass} (h : Tidy cls) {i : Nat} (hi : i < cls.length) (x : Str) : x ∈ mineOf cls i ↔ x ∈ mineUpto cls ((aboveB cls i).set i true) cls.length := by
 rw [mem_mineOf h x (i + 1) i (Nat.lt_succ_self _), mem_mineUpto]
 constructor
 ·rintro ⟨j, hu, hx⟩
  have := hu.le h.ahead
  exact ⟨j, by omega, (above_self h.ahead hi j).2 hu, hx⟩
 ·rintro ⟨j, -, hu, hx⟩
  exact ⟨j, (above_self h.ahead hi j).1 hu, hx⟩
end Go.Proofs.YtaafacnoddjhgaaGreat

/- The plain law of FormChecks, part 3: both looks at a program agree. -/
namespace Go.Proofs.YtaafacnoddjhgaaGreat
open Go.AE

theorem initsOkR_iff (mine : List Str) : ∀ (l : List FInit) (set : List Str), initsOkR mine set l = true ↔ ∀ i x, l[i]? = some x → mine.contains x.slot = true ∧ between x.n = true ∧ x.slot ∉ set ++ (l.take i).map FInit.slot
  | [], set => by simp [initsOkR]
  | y :: r, set => by
    rw [initsOkR, Bool.and_eq_true, initsOkR_iff mine r]
    constructor
    · rintro ⟨h1, h2⟩ i x hx
      cases i with
      | zero => simp at hx; subst hx; simp at h1 ⊢; exact ⟨h1.1.1, h1.2, h1.1.2⟩
      | succ i => have := h2 i x (by simpa using hx); simpa [or_assoc] using this
    · intro h
      refine ⟨?_, fun i x hx => ?_⟩
      · have := h 0 y rfl; simp at this ⊢; exact ⟨⟨this.1, this.2.2⟩, this.2.1⟩
      · have := h (i + 1) x (by simpa using hx)
        simpa [or_assoc] using this

theorem inits_same {mine mine' : List Str} (hm : ∀ x, x ∈ mine ↔ x ∈ mine') (hn : ∀ x ∈ mine, nameS x = true) (l : List FInit) : allPre (okInit mine) [] l = initsOkR mine' [] l := by
 rw [Bool.eq_iff_iff, allPre_iff, initsOkR_iff]
 refine forall_congr' fun i => forall_congr' fun x => imp_congr Iff.rfl ?_
 unfold okInit
 simp only [Bool.and_eq_true, List.nil_append, Bool.not_eq_true', List.contains_eq_mem, decide_eq_true_eq, decide_eq_false_iff_not]
 rw [hm]
 constructor
 ·rintro ⟨⟨h1, h2⟩, h3, h4⟩; exact ⟨h1, h2, h4⟩
 ·rintro ⟨h1, h2, h4⟩; exact ⟨⟨h1, h2⟩, hn _ ((hm _).2 h1), h4⟩

theorem parents_iff (names : List Str) (l : List Str) : allPre (okParent names) [] l = true ↔ (∀ x ∈ l, names.contains x = true ∧ nameS x = true) ∧ l.Nodup := by
 have h1 := nodup_pre (fun x : Str => [x]) l [] (by simp)
 simp only [List.nil_append, List.flatMap_singleton'] at h1
 rw [h1, allPre_iff, allPre_iff]
 constructor
 ·intro h
  refine ⟨fun x hx => ?_, fun i x hx => ?_⟩
  ·obtain ⟨i, hi⟩ := List.getElem?_of_mem hx
   have := h i x hi
   unfold okParent at this
   simp only [Bool.and_eq_true] at this; exact ⟨this.1, this.2.1⟩
  ·have := h i x hx
   unfold okParent at this
   simp only [Bool.and_eq_true] at this
   simp; simpa using this.2.2
 ·rintro ⟨h2, h3⟩ i x hx
  have := h3 i x hx
  obtain ⟨g1, g2⟩ := h2 x (List.mem_of_getElem? hx)
  unfold okParent
  rw [Bool.and_eq_true, Bool.and_eq_true]
  refine ⟨g1, g2, ?_⟩
  simp at this ⊢; exact this

theorem slots_iff (slots : List Str) (l : List Str) : allPre (okSlot slots) [] l = true ↔ (∀ x ∈ l, nameS x = true ∧ x ∉ slots) ∧ l.Nodup := by
 have h1 := nodup_pre (fun x : Str => [x]) l [] (by simp)
 simp only [List.nil_append, List.flatMap_singleton'] at h1
 rw [h1, allPre_iff, allPre_iff]
 constructor
 ·intro h
  refine ⟨fun x hx => ?_, fun i x hx => ?_⟩
  ·obtain ⟨i, hi⟩ := List.getElem?_of_mem hx
   have := h i x hi
   unfold okSlot at this
   simp at this
   exact ⟨this.1, this.2.1⟩
  ·have := h i x hx
   unfold okSlot at this
   simp at this
   simp; exact this.2.2
 ·rintro ⟨h2, h3⟩ i x hx
  have := h3 i x hx
  obtain ⟨g1, g2⟩ := h2 x (List.mem_of_getElem? hx)
  unfold okSlot
  simp at this ⊢; exact ⟨g1, g2, this⟩

theorem classOk_iff (st : CSt) (c : FClass) : classOk st c = true ↔
  (c.parents.length ≤ 3 ∧ c.slots.length ≤ 4) ∧ ((∀ x ∈ c.parents, st.names.contains x = true ∧ nameS x = true) ∧ c.parents.Nodup) ∧ ((∀ x ∈ c.slots, nameS x = true ∧ x ∉ st.slots) ∧ c.slots.Nodup) ∧ allPre (okInit (st.mine c)) [] c.inits = true ∧ nameS c.name = true ∧ c.name ∉ st.names := by
 unfold classOk
 simp only [Bool.and_eq_true, decide_eq_true_eq, parents_iff, slots_iff, Bool.not_eq_true', List.contains_eq_mem, decide_eq_false_iff_not]

theorem clsOkR_iff (pre : List Str) (c : FClass) : clsOkR pre c = true ↔ ((c.parents.length ≤ 3 ∧ c.slots.length ≤ 4) ∧ c.parents.Nodup) ∧ ∀ p ∈ c.parents, p ∈ pre := by
 unfold clsOkR
 simp only [Bool.and_eq_true, decide_eq_true_eq, List.all_eq_true, List.contains_iff_mem]

def Plain (cls : List FClass) : Prop := ∀ i c, cls[i]? = some c → ((c.parents.length ≤ 3 ∧ c.slots.length ≤ 4) ∧ c.parents.Nodup ∧ ∀ p ∈ c.parents, p ∈ (cls.take i).map FClass.name) ∧
 (nameS c.name = true ∧ c.name ∉ (cls.take i).map FClass.name) ∧ (∀ x ∈ c.slots, nameS x = true ∧ x ∉ (cls.take i).flatMap FClass.slots) ∧ c.slots.Nodup

theorem Plain.tidy {cls : List FClass} (h : Plain cls) : Tidy cls := fun j c hc => (h j c hc).1.2.2

theorem classesR_iff (cls : List FClass) : classesR cls = true ↔ cls.length ≤ 10 ∧ Plain cls := by
 have e1 := allPreN_pre cls []
 have e2 := nodup_pre (fun c : FClass => [c.name]) cls [] (by simp)
 have e3 := nodup_pre FClass.slots cls [] (by simp)
 have e4 : ∀ l : List FClass, (l.flatMap fun c => [c.name]) = l.map FClass.name := fun l => by induction l with | nil => rfl | cons c r ih => rw [List.flatMap_cons, ih]; rfl
 simp only [List.nil_append, e4] at e1 e2 e3
 unfold classesR
 rw [show allPreN [] cls = _ from e1]
 simp only [Bool.and_eq_true, decide_eq_true_eq, e2, e3, allPre_iff, List.all_eq_true, clsOkR_iff, List.nil_append]
 refine and_congr Iff.rfl ?_
 constructor
 ·rintro ⟨h1, ⟨h2, h3⟩, h4, h5⟩ i c hc
  have a1 := h1 i c hc
  have a3 := h3 i c hc
  have a5 := h5 i c hc
  have hm := List.mem_of_getElem? hc
  refine ⟨⟨a1.1.1, a1.1.2, a1.2⟩, ⟨h2 _ (List.mem_map_of_mem hm), ?_⟩, fun x hx => ⟨h4 x (List.mem_flatMap.2 ⟨c, hm, hx⟩), ?_⟩, a5.1⟩
  ·have := a3.2 c.name (List.mem_singleton.2 rfl)
   simpa using this
  ·have := a5.2 x hx
   simpa using this
 ·intro h
  refine ⟨fun i c hc => ⟨⟨(h i c hc).1.1, (h i c hc).1.2.1⟩, (h i c hc).1.2.2⟩, ⟨fun x hx => ?_, fun i c hc => ⟨by simp, fun x hx => ?_⟩⟩, fun x hx => ?_, fun i c hc => ⟨(h i c hc).2.2.2, fun x hx => ?_⟩⟩
  ·obtain ⟨c, hc, rfl⟩ := List.mem_map.1 hx
   obtain ⟨i, hi⟩ := List.getElem?_of_mem hc
   exact (h i c hi).2.1.1
  ·rw [List.mem_singleton.1 hx]
   have := (h i c hc).2.1.2
   simpa using this
  ·obtain ⟨c, hc, hx⟩ := List.mem_flatMap.1 hx
   obtain ⟨i, hi⟩ := List.getElem?_of_mem hc
   exact ((h i c hi).2.2.1 x hx).1
  ·have := ((h i c hc).2.2.1 x hx).2
   simpa using this

theorem initsR_iff (cls : List FClass) : initsR cls = true ↔ ∀ i c, cls[i]? = some c → initsOkR (mineUpto cls ((aboveB cls i).set i true) cls.length) [] c.inits = true := by
 unfold initsR
 rw [List.all_eq_true]
 constructor
 ·intro h i c hc
  have := h i (List.mem_range.2 (List.getElem?_eq_some_iff.1 hc).1)
  unfold initsI initsAt at this
  rw [hc] at this
  exact this
 ·intro h i hi
  obtain ⟨c, hc⟩ : ∃ c, cls[i]? = some c := ⟨_, List.getElem?_eq_getElem (List.mem_range.1 hi)⟩
  unfold initsI initsAt
  rw [hc]
  exact h i c hc

theorem Plain.mine_name {cls : List FClass} (h : Plain cls) {i : Nat} {x : Str} (hx : x ∈ mineOf cls i) : nameS x = true := by
 obtain ⟨j, -, hx⟩ := (mem_mineOf h.tidy x (i + 1) i (Nat.lt_succ_self _)).1 hx
 unfold slotsAt at hx
 cases hc : cls[j]? with
 | none => rw [hc] at hx; cases hx
 | some c => rw [hc] at hx; exact ((h j c hc).2.2.1 x hx).1

theorem classOk_plain {cls : List FClass} : (∀ i c, cls[i]? = some c → classOk (stateOf (cls.take i)) c = true) ↔ Plain cls ∧ initsR cls = true := by
 have hini : Plain cls → ∀ i c, cls[i]? = some c → allPre (okInit ((stateOf (cls.take i)).mine c)) [] c.inits = initsOkR (mineUpto cls ((aboveB cls i).set i true) cls.length) [] c.inits := by
  intro hp i c hc
  have hm : (stateOf (cls.take i)).mine c = mineOf cls i := by simp [mineOf, hc]
  rw [hm]
  exact inits_same (mine_same hp.tidy (List.getElem?_eq_some_iff.1 hc).1) (fun x hx => hp.mine_name hx) _
 rw [initsR_iff]
 constructor
 ·intro h
  have hp : Plain cls := by
   intro i c hc
   have := (classOk_iff _ _).1 (h i c hc)
   rw [stateOf_names, stateOf_slots] at this
   obtain ⟨h1, ⟨h2, h3⟩, ⟨h4, h5⟩, -, h7, h8⟩ := this
   exact ⟨⟨h1, h3, fun p hp => List.contains_iff_mem.1 (h2 p hp).1⟩, ⟨h7, h8⟩, h4, h5⟩
  refine ⟨hp, fun i c hc => ?_⟩
  rw [← hini hp i c hc]
  exact ((classOk_iff _ _).1 (h i c hc)).2.2.2.1
 ·rintro ⟨hp, hi⟩ i c hc
  obtain ⟨⟨h1, h3, h2⟩, ⟨h7, h8⟩, h4, h5⟩ := hp i c hc
  rw [classOk_iff, stateOf_names, stateOf_slots, hini hp i c hc]
  refine ⟨h1, ⟨fun p hq => ⟨List.contains_iff_mem.2 (h2 p hq), ?_⟩, h3⟩, ⟨h4, h5⟩, hi i c hc, h7, h8⟩
  obtain ⟨d, hd, rfl⟩ := List.mem_map.1 (h2 p hq)
  obtain ⟨k, hk⟩ := List.getElem?_of_mem (List.mem_of_mem_take hd)
  exact (hp k d hk).2.1.1

theorem classes_known (cls : List FClass) : clsAll cls = if classesR cls && initsR cls then some (stateOf cls) else none := by
 rw [clsAll_pre]
 congr 1
 rw [eq_iff_iff, Bool.and_eq_true, Bool.and_eq_true, decide_eq_true_eq, classesR_iff, allPre_iff]
 simp only [List.nil_append]
 rw [classOk_plain, and_assoc]

theorem prog_known (P : FProg) : progR P = progOk P := by
 unfold progR progOk
 rw [classes_known]
 cases h1 : classesR P.classes with
 | false => simp
 | true =>
 cases h2 : initsR P.classes with
 | false => simp
 | true =>
 simp only [Bool.true_and, Bool.and_self, if_true]
 rw [stateOf_names, stateOf_slots]
 congr 1
 have hl : P.classes.length ≤ 10 := ((classesR_iff _).1 h1).1
 rw [← exp_known (P.classes.map FClass.name) (P.classes.flatMap FClass.slots) P.classes.length P.main [] false (120 - (P.classes.length : Int)) rfl]
 have e : (120 - (P.classes.length : Int)) - P.main.size = left0 P := rfl
 rw [e]
 show (_ && (_ && (saysB P.main [] (P.classes.flatMap FClass.slots) (P.classes.map FClass.name) false && (methodsR (P.classes.flatMap FClass.slots) (P.classes.map FClass.name) (left0 P) P.methods && _)))) = _
 cases h3 : decide (left0 P ≥ 0) with
 | false => simp
 | true =>
 have h3' : 0 ≤ left0 P := by simpa using h3
 rw [methods_known (P.classes.map FClass.name) (P.classes.flatMap FClass.slots) P.methods (P.classes.length + P.main.size) (left0 P) (by unfold left0; omega) h3']
 simp only [Bool.true_and, Bool.and_assoc]
end Go.Proofs.YtaafacnoddjhgaaGreat

/- Contracts of the reference: SameFact, SameClass, SameMethod, Same; and of 'shape': whether lists, expressions, facts are equal. -/
namespace Go.Proofs.YtaafacnoddjhgaaGreat
open Go.AE

mutual
def FFact.beq : FFact → FFact → Bool
 | .mk o x p c n ks, .mk o' x' p' c' n' ks' => (o == o' && x == x' && p == p' && c == c' && n == n') && FFact.beqs ks ks'
def FFact.beqs : List FFact → List FFact → Bool
 | [], [] => true
 | k :: r, k' :: r' => FFact.beq k k' && FFact.beqs r r'
 | _, _ => false
end
theorem FFact.beqs_length : ∀ {a b : List FFact}, FFact.beqs a b = true → a.length = b.length
  | [], [], _ => rfl
  | k :: r, k' :: r', h => by
    simp only [FFact.beqs, Bool.and_eq_true] at h
    simp [FFact.beqs_length h.2]
  | [], _ :: _, h => by simp [FFact.beqs] at h
  | _ :: _, [], h => by simp [FFact.beqs] at h
mutual
theorem FFact.beq_eq : ∀ {a b : FFact}, FFact.beq a b = true → a = b
  | .mk o x p c n ks, .mk o' x' p' c' n' ks', h => by
    simp only [FFact.beq, Bool.and_eq_true, beq_iff_eq] at h
    obtain ⟨⟨⟨⟨⟨rfl, rfl⟩, rfl⟩, rfl⟩, rfl⟩, h⟩ := h
    rw [FFact.beqs_eq h]
theorem FFact.beqs_eq : ∀ {a b : List FFact}, FFact.beqs a b = true → a = b
  | [], [], _ => rfl
  | k :: r, k' :: r', h => by
    simp only [FFact.beqs, Bool.and_eq_true] at h
    rw [FFact.beq_eq h.1, FFact.beqs_eq h.2]
  | [], _ :: _, h => by simp [FFact.beqs] at h
  | _ :: _, [], h => by simp [FFact.beqs] at h
end
mutual
theorem FFact.beq_refl : ∀ (a : FFact), FFact.beq a a = true
 | .mk o x p c n ks => by simp [FFact.beq, FFact.beqs_refl ks]
theorem FFact.beqs_refl : ∀ (a : List FFact), FFact.beqs a a = true
 | [] => rfl
 | k :: r => by simp [FFact.beqs, FFact.beq_refl k, FFact.beqs_refl r]
end
theorem FFact.beqs_drop {a b : List FFact} {j : Nat} {x y : FFact} (hx : a[j]? = some x) (hy : b[j]? = some y) : FFact.beqs (a.drop j) (b.drop j) = (FFact.beq x y && FFact.beqs (a.drop (j + 1)) (b.drop (j + 1))) := by
 rw [drop_cons hx, drop_cons hy, FFact.beqs]
theorem FFact.beq_def (a b : FFact) : FFact.beq a b = ((a.op == b.op && a.name == b.name && a.path == b.path && a.cls == b.cls && a.n == b.n) && FFact.beqs a.kids b.kids) := by cases a; cases b; rfl

theorem pls_mem : ∀ {l : List FFact} {k : FFact}, k ∈ l → k.pl ≤ FFact.pls l
  | x :: r, k, h => by
    rw [FFact.pls]
    rcases List.mem_cons.1 h with rfl | h
    · omega
    · have := pls_mem h; omega

set_option maxRecDepth 10000 in
set_option maxHeartbeats 2000000 in
theorem refSameFact_spec : ∀ (n : Nat) (a b : FFact) (s : Store), a.size ≤ n → a.size ≤ big → b.size ≤ big → a.pl ≤ big → ACalls Tryz.prog 64 [a.av, b.av] s (fun o s' => o = .ret (.bool (FFact.beq a b)) ∧ s' = s) := by
 intro n
 induction n with
 | zero => intro a b s h; have := a.size_pos; omega
 | succ n ih =>
  intro a b s hn hbig hbig2 hpl
  have hlen := a.kids_length
  have hkl := a.kav_length
  have hkl2 := b.kav_length
  have hb : big = 1099511627776 := rfl
  have hpd := a.pl_def
  have ht := fun s => sameTexts_spec a.path b.path .fro .fro s (by omega)
  refine ACalls.of_CW tO call64 Tryz.func64 rfl rfl ?_
  refine CW.seqCut [(2, .fptr a.cells 0), (3, .fptr b.cells 0)] s ?_ ?_
  ·repeat (first | refine CW.reg (RL.run tO rfl (RL.nil ?_)))
   exact ⟨rfl, (by repeat (first | exact trivial | refine ⟨⟨_, rfl, AVle.refl _⟩, ?_⟩)), Store.sub_refl _⟩
  refine CW.seq ?_
  refine CW.seqCut [(2, .fptr a.cells 0), (3, .fptr b.cells 0), (48, .bool (!((a.op == b.op && a.name == b.name && a.path == b.path && a.cls == b.cls && a.n == b.n) && decide (a.kids.length = b.kids.length))))] s ?_ ?_
  ·generalize (a.path == b.path) = pp at ht ⊢
   repeat' (first | refine CW.reg ?_ | refine RL.nil ?_ | refine RL.step tO rfl rfl rfl rfl ?_ | refine RL.skip rfl rfl rfl ?_ | refine RL.gstepF tO rfl rfl rfl rfl rfl rfl rfl (fun _ => ?_) (fun _ => ?_) | refine RL.callP rfl rfl rfl rfl rfl (ht _) ?_)
   all_goals refine ⟨rfl, (by repeat (first | exact trivial | refine ⟨⟨_, rfl, AVle.refl _⟩, ?_⟩ | refine ⟨⟨_, rfl, AVle.of_eq (by (simp_all; (try (rw [Bool.eq_iff_iff]; simp; omega)); (try omega)))⟩, ?_⟩)), Store.sub_refl _⟩
  refine CW.cond rfl (fun h => ?_) (fun h => ?_)
  ·repeat (first | with_reducible refine CW.seq ?_ | with_reducible refine aN ?_ | with_reducible refine aR ?_ | with_reducible refine CW.ret ?_ | refine CW.reg (RL.run tO rfl (RL.nil ?_)))
   refine ⟨_, _, _, rfl, AVle.refl _, Store.sub_refl _, ?_, rfl⟩
   have : FFact.beq a b = false := by
    rw [FFact.beq_def]
    cases hq : FFact.beqs a.kids b.kids with
    | false => simp
    | true =>
     rw [FFact.beqs_length hq] at h
     simp only [decide_true, Bool.and_true] at h
     rw [Bool.and_true]; rw [Bool.not_eq_true'] at h; exact h
   rw [this]
  ·have hl : a.kids.length = b.kids.length := by simp at h; exact h.2
   have hh : (a.op == b.op && a.name == b.name && a.path == b.path && a.cls == b.cls && a.n == b.n) = true := by simp at h; simp [h]
   repeat (first | with_reducible refine CW.seq ?_ | with_reducible refine aN ?_ | with_reducible refine CW.skip ?_ | with_reducible refine CW.block ?_ | refine CW.reg (RL.run tO rfl (RL.nil ?_)))
   refine CW.loop (σ := Nat) (fun j => [(2, .fptr a.cells 0), (3, .fptr b.cells 0), (5, .int .i64 (j : Int))]) (fun _ => s) (fun j => j ≤ a.kids.length ∧ FFact.beq a b = FFact.beqs (a.kids.drop j) (b.kids.drop j)) (fun j => a.kids.length - j) 0 ⟨by omega, by rw [FFact.beq_def, hh]; rfl⟩ (by repeat (first | exact trivial | refine ⟨⟨_, rfl, AVle.refl _⟩, ?_⟩)) (Store.sub_refl _) ?_
   rintro j ⟨hj, hI⟩
   repeat (first | with_reducible refine CW.seq ?_ | with_reducible refine aN ?_ | refine CW.reg (RL.run tO rfl (RL.nil ?_)))
   refine CW.cond rfl (fun h => ?_) (fun h => ?_)
   ·have hlt : j < a.kids.length := by rw [hkl] at h; simpa using h
    obtain ⟨x, hx, hx', hxs⟩ := FFact.kid_at hlt
    obtain ⟨y, hy, hy', hys⟩ := FFact.kid_at (f := b) (by omega : j < b.kids.length)
    have hxp := pls_mem (List.mem_of_getElem? hx)
    rw [FFact.beqs_drop hx hy] at hI
    repeat (first | with_reducible refine CW.seq ?_ | with_reducible refine aN ?_ | with_reducible refine CW.skip ?_ | with_reducible refine CW.block ?_ | refine CW.drw tO mixed rfl (RD.run rfl ?_))
    refine RD.idx 3 j rfl rfl rfl rfl rfl rfl rfl rfl rfl rfl rfl rfl rfl hx' rfl ?_
    refine RD.idx 8 j rfl rfl rfl rfl rfl rfl rfl rfl rfl rfl rfl rfl rfl hy' rfl ?_
    refine RD.run rfl ?_
    refine RD.callP (i := 10) rfl rfl rfl rfl rfl rfl rfl (ih x y s (by omega) (by omega) (by omega) (by omega)) ?_
    refine RD.run rfl (RD.done rfl ?_)
    cases hxy : FFact.beq x y with
    | true =>
     repeat (first | with_reducible refine aN ?_ | with_reducible refine iN ?_ | with_reducible refine CW.skip ?_ | refine CW.reg (RL.run tO rfl (RL.nil ?_)) | refine CW.condF rfl ?_)
     exact ⟨j + 1, ⟨hlt, by rw [hI, hxy, Bool.true_and]⟩, (by repeat (first | exact trivial | refine ⟨⟨_, rfl, AVle.refl _⟩, ?_⟩ | refine ⟨⟨_, rfl, AVle.of_eq (by (rw [i64_succ (by omega)]))⟩, ?_⟩)), Store.sub_refl _, by omega⟩
    | false =>
     repeat (first | with_reducible refine CW.seq ?_ | with_reducible refine aN ?_ | with_reducible refine aR ?_ | with_reducible refine iR ?_ | with_reducible refine CW.ret ?_ | refine CW.reg (RL.run tO rfl (RL.nil ?_)) | refine CW.condT rfl ?_)
     exact ⟨_, _, _, rfl, AVle.refl _, Store.sub_refl _, by rw [hI, hxy]; rfl, rfl⟩
   ·have hge : a.kids.length ≤ j := by rw [hkl] at h; simpa using h
    rw [List.drop_eq_nil_of_le hge, List.drop_eq_nil_of_le (by omega : b.kids.length ≤ j)] at hI
    repeat (first | with_reducible refine CW.seq ?_ | with_reducible refine aN ?_ | with_reducible refine aX ?_ | with_reducible refine iH ?_ | with_reducible refine CW.ret ?_ | with_reducible refine CW.exit ?_ | refine CW.reg (RL.run tO rfl (RL.nil ?_)))
    exact ⟨_, _, _, rfl, AVle.refl _, Store.sub_refl _, by rw [hI]; rfl, rfl⟩

/-! ### Lists that are equal -/
def listB {α : Type} (f : α → α → Bool) : List α → List α → Bool
 | [], [] => true
 | x :: r, y :: q => f x y && listB f r q
 | _, _ => false
theorem listB_length {α : Type} {f : α → α → Bool} : ∀ {a b : List α}, listB f a b = true → a.length = b.length
  | [], [], _ => rfl
  | x :: r, y :: q, h => by
    simp only [listB, Bool.and_eq_true] at h
    simp [listB_length h.2]
  | [], _ :: _, h => by simp [listB] at h
  | _ :: _, [], h => by simp [listB] at h
theorem listB_iff {α : Type} {f : α → α → Bool} (hf : ∀ x y, f x y = true ↔ x = y) : ∀ {a b : List α}, listB f a b = true ↔ a = b
 | [], [] => by simp [listB]
 | x :: r, y :: q => by simp [listB, hf, listB_iff hf]
 | [], _ :: _ => by simp [listB]
 | _ :: _, [] => by simp [listB]
theorem listB_drop {α : Type} {f : α → α → Bool} {a b : List α} {j : Nat} {x y : α} (hx : a[j]? = some x) (hy : b[j]? = some y) : listB f (a.drop j) (b.drop j) = (f x y && listB f (a.drop (j + 1)) (b.drop (j + 1))) := by
 rw [drop_cons hx, drop_cons hy, listB]
theorem listB_ends {α : Type} {f : α → α → Bool} {a b : List α} {j : Nat} (ha : a.length ≤ j) (hb : b.length ≤ j) : listB f (a.drop j) (b.drop j) = true := by
 rw [List.drop_eq_nil_of_le ha, List.drop_eq_nil_of_le hb]; rfl

def FInit.beq (a b : FInit) : Bool := a.slot == b.slot && a.n == b.n
def FClass.beq (a b : FClass) : Bool := ((a.name == b.name && a.parents == b.parents) && a.slots == b.slots) && listB FInit.beq a.inits b.inits
def FMethod.beq (a b : FMethod) : Bool := (((a.kind == b.kind && a.name == b.name) && a.params == b.params) && FFact.beq a.fact b.fact) && FExp.beq a.body b.body
def FProg.beq (a b : FProg) : Bool := FExp.beq a.main b.main && (listB FClass.beq a.classes b.classes && listB FMethod.beq a.methods b.methods)
theorem FInit.beq_iff (a b : FInit) : FInit.beq a b = true ↔ a = b := by
 cases a; cases b; simp [FInit.beq]
theorem FFact.beq_iff (a b : FFact) : FFact.beq a b = true ↔ a = b := ⟨FFact.beq_eq, fun h => h ▸ FFact.beq_refl a⟩
theorem FExp.beq_iff (a b : FExp) : FExp.beq a b = true ↔ a = b := ⟨FExp.beq_eq, fun h => h ▸ FExp.beq_refl a⟩
theorem FClass.beq_iff (a b : FClass) : FClass.beq a b = true ↔ a = b := by
 cases a; cases b; simp [FClass.beq, listB_iff FInit.beq_iff, and_assoc]
theorem FMethod.beq_iff (a b : FMethod) : FMethod.beq a b = true ↔ a = b := by
 cases a; cases b; simp [FMethod.beq, FFact.beq_iff, FExp.beq_iff, and_assoc]
theorem FProg.beq_iff (a b : FProg) : FProg.beq a b = true ↔ a = b := by
 cases a; cases b; simp [FProg.beq, listB_iff FClass.beq_iff, listB_iff FMethod.beq_iff, FExp.beq_iff]
 constructor
 ·rintro ⟨h1, h2, h3⟩; exact ⟨h2, h3, h1⟩
 ·rintro ⟨h1, h2, h3⟩; exact ⟨h3, h1, h2⟩

theorem run_initEq (a b : ByteArray) (m n : Int) (w : World) : (Op.equalIn 10000 73 (.agg #[.string a, .int .i64 m]) (.agg #[.string b, .int .i64 n])).run Tryz.prog w = .ok (a.data.toList == b.data.toList && m == n) w := by
 have u3 := Tryz.underlying3
 have a3 := Tryz.isAgg3
 have z3 := Tryz.sizeOf3
 have u9 := Tryz.underlying9
 have a9 := Tryz.isAgg9
 have z9 := Tryz.sizeOf9
 have hS : Tryz.prog.underlying 73 = some (.struct (Tryz.prog.fieldsOf 73)) := by kernel_rfl
 have hp : Tryz.prog.stoodInHeld 73 = false := by kernel_rfl
 rw [← bl_eq, show (10000 : Nat) = 9999 + 1 from rfl, run_equalIn_agg w 9999 73 _ _ hS hp]
 simp only [Program.fieldsOf, Tryz.underlying73]
 go_simp
 by_cases h1 : a.toList = b.toList <;> by_cases h2 : m = n <;> simp [h1, h2]

theorem OW.initNe {N : Nat} {env : Env} {s : Store} {o : Oper} {x y : Operand} {yt : TypeId} {u v : FInit} (ho : o.op = .binOp .neq 73 x y yt) (hx : ev env x = some (.agg u.cells)) (hy : ev env y = some (.agg v.cells)) {X : AV → Store → Prop} :
  OW Tryz.prog N o env s (fun r s' => r = .bool (!FInit.beq u v) ∧ s' = s) X := by
 refine OW.of_run (by simp [AE.noDefer, ho]) fun ro B a w p hst => ?_
 have h1 := hst.ev hx
 have h2 := hst.ev hy
 generalize hvx : a.eval x = vx at h1
 generalize hvy : a.eval y = vy at h2
 cases h1 with
 | agg cx _ h1 =>
 cases h2 with
 | agg cy _ h2 =>
 obtain ⟨cx⟩ := cx
 obtain ⟨cy⟩ := cy
 cases h1 with
 | cons a1 _ a2 _ e1 e2 =>
 cases e2 with
 | cons a3 _ a4 _ e3 e4 =>
 cases e4
 cases h2 with
 | cons b1 _ b2 _ f1 f2 =>
 cases f2 with
 | cons b3 _ b4 _ f3 f4 =>
 cases f4
 cases e1 with
 | str s1 _ g1 =>
 cases e3
 cases f1 with
 | str s2 _ g2 =>
 cases f3
 refine ⟨.bool (!FInit.beq u v), w, s, p, _, ?_, .refl w p, .refl s w p, hst.wf, ⟨rfl, rfl⟩, .bool _⟩
 unfold execOp
 rw [ho]
 simp only [hvx, hvy]
 refine run_v ?_
 rw [Sem.run_bind, run_eqGuard_agg w _ _ _ _ _ _ (by kernel_rfl), Result.andThen_ok, run_neq_struct]
 show ((Op.equalIn 10000 73 (.agg #[.string s1, .int .i64 u.n]) (.agg #[.string s2, .int .i64 v.n])).run Tryz.prog w).andThen _ = _
 rw [run_initEq, Result.andThen_ok, FInit.beq, g1, g2]

theorem elem_at {α : Type} {f : α → AV} {l : List α} {j : Nat} (h : j < l.length) : ∃ x, l[j]? = some x ∧ (l.map f)[j]? = some (f x) := ⟨_, List.getElem?_eq_getElem h, by simp [h]⟩
set_option maxRecDepth 10000 in
set_option maxHeartbeats 2000000 in
theorem refSameClass_spec (a b : FClass) (ha : a.parents.length < big) (hs : a.slots.length < big) (hi : a.inits.length < big) (hi2 : b.inits.length < big) : PCalls Tryz.prog 20 [a.av, b.av] (.bool (FClass.beq a b)) := by
 have hb : big = 1099511627776 := rfl
 refine PCalls.of_CW tO call20 Tryz.func20 rfl rfl fun s hok => ?_
 have t1 := fun s => sameTexts_spec a.parents b.parents .fro .fro s (by omega)
 have t2 := fun s => sameTexts_spec a.slots b.slots .fro .fro s (by omega)
 have hdef : FClass.beq a b = (((a.name == b.name && a.parents == b.parents) && a.slots == b.slots) && listB FInit.beq a.inits b.inits) := rfl
 refine CW.seqCutS [(2, .fptr a.cells 0), (3, .fptr b.cells 0)] ?_ ?_
 ·repeat (first | refine CW.reg (RL.run tO rfl (RL.nil ?_)))
  exact ⟨rfl, (by repeat (first | exact trivial | refine ⟨⟨_, rfl, AVle.refl _⟩, ?_⟩)), Store.sub_refl _⟩
 refine CW.seq ?_
 refine CW.seqCutS [(2, .fptr a.cells 0), (3, .fptr b.cells 0), (35, .bool (!(((a.name == b.name && a.parents == b.parents) && a.slots == b.slots) && decide (a.inits.length = b.inits.length))))] ?_ ?_
 ·generalize (a.parents == b.parents) = p1 at t1 ⊢
  generalize (a.slots == b.slots) = p2 at t2 ⊢
  repeat' (first | refine CW.reg ?_ | refine RL.nil ?_ | refine RL.step tO rfl rfl rfl rfl ?_ | refine RL.skip rfl rfl rfl ?_ | refine RL.gstepF tO rfl rfl rfl rfl rfl rfl rfl (fun _ => ?_) (fun _ => ?_) | refine RL.callP rfl rfl rfl rfl rfl (t1 _) ?_ | refine RL.callP rfl rfl rfl rfl rfl (t2 _) ?_)
  all_goals refine ⟨rfl, (by repeat (first | exact trivial | refine ⟨⟨_, rfl, AVle.refl _⟩, ?_⟩ | refine ⟨⟨_, rfl, AVle.of_eq (by (simp_all; (try (rw [Bool.eq_iff_iff]; simp; omega)); (try omega)))⟩, ?_⟩)), Store.sub_refl _⟩
 refine CW.cond rfl (fun h => ?_) (fun h => ?_)
 ·repeat (first | with_reducible refine CW.seq ?_ | with_reducible refine aN ?_ | with_reducible refine aR ?_ | with_reducible refine CW.ret ?_ | refine CW.reg (RL.run tO rfl (RL.nil ?_)))
  have : FClass.beq a b = false := by
   rw [hdef]
   cases hq : listB FInit.beq a.inits b.inits with
   | false => simp
   | true =>
    rw [listB_length hq] at h
    cases h1 : ((a.name == b.name && a.parents == b.parents) && a.slots == b.slots) with
    | false => rfl
    | true => rw [h1] at h; simp at h
  rw [this]
  exact Fin.retP hok rfl (AVle.refl _)
 ·have hl : a.inits.length = b.inits.length := by simp at h; exact h.2
  have hh : (((a.name == b.name && a.parents == b.parents) && a.slots == b.slots)) = true := by simp at h; simp [h]
  repeat (first | with_reducible refine CW.seq ?_ | with_reducible refine aN ?_ | with_reducible refine CW.skip ?_ | with_reducible refine CW.block ?_ | refine CW.reg (RL.run tO rfl (RL.nil ?_)))
  refine CW.loop (σ := Nat) (fun j => [(2, .fptr a.cells 0), (3, .fptr b.cells 0), (5, .int .i64 (j : Int))]) (fun _ => sto s []) (fun j => j ≤ a.inits.length ∧ FClass.beq a b = listB FInit.beq (a.inits.drop j) (b.inits.drop j)) (fun j => a.inits.length - j) 0 ⟨by omega, by rw [hdef, hh]; rfl⟩ (by repeat (first | exact trivial | refine ⟨⟨_, rfl, AVle.refl _⟩, ?_⟩)) (Store.sub_refl _) ?_
  rintro j ⟨hj, hI⟩
  repeat (first | with_reducible refine CW.seq ?_ | with_reducible refine aN ?_ | refine CW.reg (RL.run tO rfl (RL.nil ?_)))
  refine CW.cond rfl (fun h => ?_) (fun h => ?_)
  ·have hlt : j < a.inits.length := by simpa using h
   obtain ⟨x, hx, hx'⟩ := elem_at (f := FInit.av) hlt
   obtain ⟨y, hy, hy'⟩ := elem_at (f := FInit.av) (by omega : j < b.inits.length)
   rw [listB_drop hx hy] at hI
   repeat (first | with_reducible refine CW.seq ?_ | with_reducible refine aN ?_ | with_reducible refine CW.skip ?_ | with_reducible refine CW.block ?_ | refine CW.drw tO mixed rfl (RD.run rfl ?_))
   refine RD.idx 3 j rfl rfl rfl rfl rfl rfl rfl rfl rfl rfl rfl rfl rfl hx' rfl ?_
   refine RD.idx 8 j rfl rfl rfl rfl rfl rfl rfl rfl rfl rfl rfl rfl rfl hy' rfl ?_
   refine RD.run rfl ?_
   refine RD.one (i := 10) rfl rfl rfl rfl rfl (OW.initNe rfl rfl rfl (u := x) (v := y) (X := fun _ _ => False)) ?_ (fun _ _ h => h.elim)
   rintro _ _ ⟨rfl, rfl⟩
   refine RD.run rfl (RD.done rfl ?_)
   cases hxy : FInit.beq x y with
   | true =>
    repeat (first | with_reducible refine aN ?_ | with_reducible refine iN ?_ | with_reducible refine CW.skip ?_ | refine CW.reg (RL.run tO rfl (RL.nil ?_)) | refine CW.condF rfl ?_)
    exact ⟨j + 1, ⟨hlt, by rw [hI, hxy, Bool.true_and]⟩, (by repeat (first | exact trivial | refine ⟨⟨_, rfl, AVle.refl _⟩, ?_⟩ | refine ⟨⟨_, rfl, AVle.of_eq (by (rw [i64_succ (by omega)]))⟩, ?_⟩)), Store.sub_refl _, by omega⟩
   | false =>
    repeat (first | with_reducible refine CW.seq ?_ | with_reducible refine aN ?_ | with_reducible refine aR ?_ | with_reducible refine iR ?_ | with_reducible refine CW.ret ?_ | refine CW.reg (RL.run tO rfl (RL.nil ?_)) | refine CW.condT rfl ?_)
    rw [hI, hxy]
    exact Fin.retP hok rfl (AVle.refl _)
  ·have hge : a.inits.length ≤ j := by simpa using h
   rw [listB_ends hge (by omega)] at hI
   repeat (first | with_reducible refine CW.seq ?_ | with_reducible refine aN ?_ | with_reducible refine aX ?_ | with_reducible refine iH ?_ | with_reducible refine CW.ret ?_ | with_reducible refine CW.exit ?_ | refine CW.reg (RL.run tO rfl (RL.nil ?_)))
   rw [hI]
   exact Fin.retP hok rfl (AVle.refl _)

set_option maxRecDepth 10000 in
set_option maxHeartbeats 2000000 in
theorem refSameMethod_spec (a b : FMethod) (hp : a.params.length < big) (hf : a.fact.size ≤ big) (hf2 : b.fact.size ≤ big) (hpl : a.fact.pl ≤ big) (he : a.body.size ≤ big) (he2 : b.body.size ≤ big) :
  PCalls Tryz.prog 21 [a.av, b.av] (.bool (FMethod.beq a b)) := by
 have hb : big = 1099511627776 := rfl
 refine PCalls.of_CW tO call21 Tryz.func21 rfl rfl fun s hok => ?_
 have t1 := fun s => sameTexts_spec a.params b.params .fro .fro s (by omega)
 have t2 := fun s => refSameFact_spec a.fact.size a.fact b.fact s (Nat.le_refl _) hf hf2 hpl
 have t3 := fun s => refSameExp_spec a.body.size a.body b.body s (Nat.le_refl _) he he2
 rw [FMethod.beq]
 generalize (a.params == b.params) = p1 at t1 ⊢
 generalize FFact.beq a.fact b.fact = p2 at t2 ⊢
 generalize FExp.beq a.body b.body = p3 at t3 ⊢
 rw [FMethod.av, FMethod.av, FMethod.cellsG, FMethod.cellsG]
 repeat' (first | with_reducible refine CW.seq ?_ | with_reducible refine aN ?_ | with_reducible refine CW.ret ?_ | refine CW.reg (RL.run tO rfl (RL.nil ?_)) | refine CW.reg ?_ | refine RL.nil ?_ | refine RL.step tO rfl rfl rfl rfl ?_ | refine RL.skip rfl rfl rfl ?_ | refine RL.gstepT tO rfl rfl rfl rfl rfl rfl rfl (fun _ => ?_) (fun _ => ?_) | refine RL.callP rfl rfl rfl rfl rfl (t1 _) ?_ | refine RL.callP rfl rfl rfl rfl rfl (t2 _) ?_ | refine RL.callP rfl rfl rfl rfl rfl (t3 _) ?_)
 all_goals exact Fin.retP hok rfl (AVle.of_eq (by simp_all))
end Go.Proofs.YtaafacnoddjhgaaGreat

/- Contracts of the reference: copies of classes and facts; the names one after the other. -/
namespace Go.Proofs.YtaafacnoddjhgaaGreat
open Go.AE

def firstN : Nat → List Str
 | 0 => []
 | n + 1 => firstN n ++ [freshS (firstN n)]
theorem firstN_length : ∀ n, (firstN n).length = n
 | 0 => rfl
 | n + 1 => by rw [firstN, List.length_append, firstN_length n]; rfl
theorem firstN_get : ∀ (n k : Nat), k < n → (firstN n)[k]? = some (freshS (firstN k))
  | n + 1, k, h => by
    rw [firstN]
    by_cases e : k = n
    · subst e
      rw [List.getElem?_append_right (by rw [firstN_length]; omega), firstN_length]; simp
    · rw [List.getElem?_append_left (by rw [firstN_length]; omega)]
      exact firstN_get n k (by omega)
theorem freshS_not_mem {l : List Str} (h : HasFree l) : l.contains (freshS l) = false := by
 have := (freshK_spec h).2.1
 unfold free1 at this
 simp only [Bool.and_eq_true, Bool.not_eq_true'] at this
 exact this.2
theorem insS_firstN {k : Nat} (h : k < 698) : insS (firstN k) (freshS (firstN k)) = firstN (k + 1) := by
 rw [insS, if_neg (by rw [freshS_not_mem (hasFree_of (by rw [firstN_length]; exact h))]; simp), firstN]

set_option maxRecDepth 10000 in
theorem refCopyClass_spec (c : FClass) (h1 : c.parents.length < big) (h2 : c.slots.length < big) (h3 : c.inits.length < big) : PCalls Tryz.prog 60 [c.av] c.av := by
 have hb : big = 1099511627776 := rfl
 refine PCalls.of_CW tO call60 Tryz.func60 rfl rfl fun s hok => ?_
 repeat (first | with_reducible refine CW.seq ?_ | refine CW.reg ?_ | refine RL.step tO rfl rfl rfl rfl ?_)
 refine RL.allocL tO hok rfl rfl rfl rfl rfl rfl rfl (fun b2 hok => ?_)
 repeat (first | with_reducible refine CW.seq ?_ | with_reducible refine aN ?_ | refine RL.nil ?_)
 refine CW.drw tO mixed rfl (RD.run rfl ?_)
 refine RD.appendF 4 tO rfl rfl rfl rfl rfl rfl rfl rfl rfl (by intro k; simp) rfl rfl rfl (.inl rfl) (.inr rfl) rfl (strs_elem _) (by simp only [List.length_nil, Nat.zero_add, strs_length]; show _ * 16 ≤ _; omega) (by simp only [List.length_nil, Nat.zero_add, strs_length]; omega) (.inl rfl) ?_; refine RD.run rfl ?_
 refine RD.appendF 7 tO rfl rfl rfl rfl rfl rfl rfl rfl rfl (by intro k; simp) rfl rfl rfl (.inl rfl) (.inr rfl) rfl (strs_elem _) (by simp only [List.length_nil, Nat.zero_add, strs_length]; show _ * 16 ≤ _; omega) (by simp only [List.length_nil, Nat.zero_add, strs_length]; omega) (.inl rfl) ?_; refine RD.run rfl ?_
 refine RD.appendF 10 tO rfl rfl rfl rfl rfl rfl rfl rfl rfl (by intro k; simp) rfl rfl rfl (.inl rfl) (.inr rfl) rfl (inits_elem _) (by simp only [List.length_nil, Nat.zero_add, List.length_map]; show _ * 24 ≤ _; omega) (by simp only [List.length_nil, Nat.zero_add, List.length_map]; omega) (.inl rfl) ?_; refine RD.run rfl ?_
 refine RD.storeL 12 tO hok rfl rfl rfl rfl rfl rfl rfl rfl rfl rfl rfl (by repeat (first | exact Sel.here | apply Sel.there)) (by exact rfl) (fun hok => ?_); refine RD.run rfl ?_
 refine RD.done rfl ?_
 repeat (first | with_reducible refine aN ?_ | with_reducible refine CW.ret ?_)
 exact Fin.retP hok (resA_cell rfl rfl (Sel.get Sel.here hok) rfl) (AVle.refl _)

theorem RL.phantom {P : Program} {N : Nat} {ops : Array Oper} {Q : AEx → Env → Store → Prop} {env : Env} {s : Store} {l : List Oper} {L : LS} (hok : Ok s L) (e : TypeId) (sz n : Nat) (h : Ok s ((.nil, .row e sz n) :: L) → RL P N ops l Q env (sto s ((.nil, .row e sz n) :: L))) : RL P N ops l Q env (sto s L) := h ⟨trivial, hok⟩
theorem CW.phantom {P : Program} {N : Nat} {Q : AEx → Env → Store → Prop} {env : Env} {s : Store} {c : Code} {L : LS} (hok : Ok s L) (e : TypeId) (sz n : Nat) (h : Ok s ((.nil, .row e sz n) :: L) → CW P N c Q env (sto s ((.nil, .row e sz n) :: L))) : CW P N c Q env (sto s L) := h ⟨trivial, hok⟩

set_option maxRecDepth 10000 in
set_option maxHeartbeats 1000000 in
theorem refFreshMany_spec (n : Nat) (hn : n < 698) : PCalls Tryz.prog 61 [.slc 0 [] .nil, .int .i64 (n : Int)] (.slc 1 (strs (firstN n)) .fro) := by
  refine PCalls.of_CW tO call61 Tryz.func61 rfl rfl fun s hok => ?_
  repeat (first | with_reducible refine CW.seq ?_ | with_reducible refine aN ?_ | refine CW.reg (RL.run tO rfl (RL.nil ?_)) | refine CW.reg ?_ | refine RL.step tO rfl rfl rfl rfl ?_)
  refine RL.appendNL tO hok rfl rfl rfl rfl rfl rfl rfl (by intro k; simp) rfl rfl rfl (.inl rfl) rfl (by intro y h; cases h) rfl rfl (by decide) (by decide) (fun o0 hok => ?_)
  repeat (first | with_reducible refine CW.seq ?_ | with_reducible refine aN ?_ | with_reducible refine CW.block ?_ | refine CW.reg (RL.run tO rfl (RL.nil ?_)) | refine RL.nil ?_ | refine RL.step tO rfl rfl rfl rfl ?_)
  refine CW.phantom hok 9 1 0 fun hok => ?_
  refine CW.loopL hok (σ := Nat × Own × Own) (fun q => [(0, .slc 1 (strs (firstN q.1)) q.2.1), (1, .int .i64 (n : Int)), (5, .slc 1 (strs (firstN q.1)) q.2.2), (6, .int .i64 (q.1 : Int))])
    (fun q => [(q.2.1, .row 9 1 q.1), (q.2.2, .row 9 1 q.1)]) (fun q => q.1 ≤ n) (fun q => n - q.1) (0, o0, .nil) (Nat.zero_le _) ⟨⟨_, rfl, AVle.refl _⟩, ⟨_, rfl, AVle.refl _⟩, ⟨_, rfl, AVle.nil (by intro b h; cases h)⟩, ⟨_, rfl, AVle.refl _⟩, trivial⟩ (by repeat (first | exact Sels.nil | (apply Sels.cons; · repeat (first | exact Sel.here | apply Sel.there)))) ?_
  rintro ⟨j, o1, o2⟩ hj hok
  simp only at hj hok ⊢
  repeat (first | with_reducible refine CW.seq ?_ | with_reducible refine aN ?_ | refine CW.reg (RL.run tO rfl (RL.nil ?_)))
  refine CW.cond rfl (fun h => ?_) (fun h => ?_)
  · have hlt : j < n := by simpa using h
    repeat (first | with_reducible refine CW.seq ?_ | with_reducible refine aN ?_ | with_reducible refine CW.skip ?_ | with_reducible refine CW.block ?_ | refine CW.reg ?_ | refine RL.step tO rfl rfl rfl rfl ?_)
    refine RL.callP rfl rfl rfl rfl rfl (refFresh_spec (firstN j) o1 _ (by rw [firstN_length]; omega) (hasFree_of (by rw [firstN_length]; omega))) ?_
    repeat (first | with_reducible refine CW.seq ?_ | with_reducible refine aN ?_ | refine CW.reg ?_ | refine RL.nil ?_ | refine RL.step tO rfl rfl rfl rfl ?_)
    refine RL.append1L tO hok rfl rfl rfl rfl rfl rfl rfl (by intro k; simp) rfl rfl rfl rfl rfl rfl rfl rfl (by repeat (first | exact Sel.here | apply Sel.there)) (by rw [strs_length, firstN_length]) (by show (_ + 1) * 16 ≤ _; omega) (by omega) (fun b1 hok => ?_)
    repeat (first | with_reducible refine aN ?_ | refine CW.reg ?_ | refine RL.nil ?_ | refine RL.step tO rfl rfl rfl rfl ?_)
    refine RL.append1L tO hok rfl rfl rfl rfl rfl rfl rfl (by intro k; simp) rfl rfl rfl rfl rfl rfl rfl rfl (by repeat (first | exact Sel.here | apply Sel.there)) (by rw [strs_length, firstN_length]) (by show (_ + 1) * 16 ≤ _; omega) (by omega) (fun b2 hok => ?_)
    repeat (first | with_reducible refine aN ?_ | with_reducible refine iN ?_ | refine CW.reg (RL.run tO rfl (RL.nil ?_)) | refine RL.nil ?_ | refine RL.step tO rfl rfl rfl rfl ?_)
    exact NextL.mk (j + 1, .own b1, .own b2) hok hlt (by repeat (first | exact trivial | refine ⟨⟨_, rfl, AVle.refl _⟩, ?_⟩ | refine ⟨⟨_, rfl, AVle.of_eq (by first | (rw [i64_succ (by omega)]) | simp [strs, firstN])⟩, ?_⟩)) (by repeat (first | exact Sels.nil | (apply Sels.cons; · repeat (first | exact Sel.here | apply Sel.there)))) (by show n - (j + 1) < n - j; omega)
  · have hge : j = n := by have : n ≤ j := by simpa using h
                           omega
    subst hge
    repeat (first | with_reducible refine CW.seq ?_ | with_reducible refine aN ?_ | with_reducible refine aX ?_ | with_reducible refine iH ?_ | with_reducible refine CW.ret ?_ | with_reducible refine CW.exit ?_ | refine CW.reg (RL.run tO rfl (RL.nil ?_)))
    exact Fin.retP hok rfl AVle.fro

set_option maxRecDepth 10000 in
theorem refNamed_spec (k : Nat) (hk : k < 697) : PCalls Tryz.prog 104 [.int .i64 (k : Int)] (.str (freshS (firstN k))) := by
 refine PCalls.of_CW tO call104 Tryz.func104 rfl rfl fun s hok => ?_
 repeat (first | with_reducible refine CW.seq ?_ | with_reducible refine aN ?_ | refine CW.reg (RL.run tO rfl (RL.nil ?_)) | refine CW.reg ?_ | refine RL.step tO rfl rfl rfl rfl ?_)
 refine RL.callPP rfl rfl rfl rfl (by rw [i64_succ (by omega)]; rfl) (refFreshMany_spec (k + 1) (by omega)) ?_
 have hg : (strs (firstN (k + 1)))[k]? = some (.str (freshS (firstN k))) := by rw [strs, List.getElem?_map, firstN_get _ _ (by omega)]; rfl
 repeat (first | with_reducible refine CW.seq ?_ | with_reducible refine aN ?_ | with_reducible refine CW.ret ?_ | refine CW.reg ?_ | refine RL.nil ?_ | refine RL.step tO rfl rfl rfl rfl ?_ | refine RL.idx tO _ rfl rfl rfl rfl rfl rfl rfl rfl rfl rfl rfl (by assumption) rfl ?_)
 exact Fin.retP hok rfl (AVle.refl _)
end Go.Proofs.YtaafacnoddjhgaaGreat

/- Contracts of the reference: CopyFact. -/
namespace Go.Proofs.YtaafacnoddjhgaaGreat
open Go.AE

def swapN (old now : List Str) (x : Str) : Str := match old.findIdx? (· == x) with
 | some i => now.getD i []
 | none => x
mutual
def FFact.swap (old now : List Str) : FFact → FFact
 | .mk o x p c n ks => .mk o (swapN old now x) p c n (FFact.swaps old now ks)
def FFact.swaps (old now : List Str) : List FFact → List FFact
 | [] => []
 | k :: r => FFact.swap old now k :: FFact.swaps old now r
end
theorem FFact.swaps_eq (old now : List Str) : ∀ l : List FFact, FFact.swaps old now l = l.map (FFact.swap old now)
 | [] => rfl
 | k :: r => by rw [FFact.swaps, FFact.swaps_eq old now r]; rfl
theorem FFact.swap_def (old now : List Str) (f : FFact) : f.swap old now = .mk f.op (swapN old now f.name) f.path f.cls f.n (f.kids.map (FFact.swap old now)) := by
 cases f; rw [FFact.swap, FFact.swaps_eq]; rfl

theorem part6_nil' (op : Int) (name : Str) (path : List Str) (cls : Str) (n : Int) : AVleL [.int .i64 op, .str name, .slc 1 (strs path) .fro, .str cls, .int .i64 n, .slc 0 [] .nil] (part6 op name path cls n [] .nil) :=
 .cons (AVle.refl _) (.cons (AVle.refl _) (.cons (AVle.refl _) (.cons (AVle.refl _) (.cons (AVle.refl _) (.one (AVle.nil (by simp)))))))

set_option maxRecDepth 10000 in
set_option maxHeartbeats 1000000 in
theorem refCopyFact_spec (old now : List Str) (hlo : old.length < big) (hon : old.length ≤ now.length) : ∀ (n : Nat) (f : FFact) (d : Nat), f.size ≤ n → f.size ≤ big → f.Slim d →
  PCalls Tryz.prog 62 [f.av, .slc 1 (strs old) .fro, .slc 1 (strs now) .fro] (f.swap old now).av := by
 intro n
 induction n with
 | zero => intro e d h; have := e.size_pos; omega
 | succ n ih =>
  intro f d hn hbig htx
  have hlen := f.kids_length
  have hkl := f.kav_length
  have hb : big = 1099511627776 := rfl
  have hpl : f.path.length < big := htx d f (by rw [Part.nodes_eq]; exact List.mem_cons_self)
  refine PCalls.of_CW tO call62 Tryz.func62 rfl rfl fun s hok => ?_
  repeat (first | with_reducible refine CW.seq ?_ | refine CW.reg ?_ | refine RL.step tO rfl rfl rfl rfl ?_)
  refine RL.allocL tO hok rfl rfl rfl rfl rfl rfl rfl (fun b6 hok => ?_)
  repeat (first | with_reducible refine CW.seq ?_ | with_reducible refine aN ?_ | refine RL.nil ?_)
  refine CW.drw tO mixed rfl (RD.run rfl ?_)
  refine RD.appendF 6 tO rfl rfl rfl rfl rfl rfl rfl rfl rfl (by intro k; simp) rfl rfl rfl (.inl rfl) (.inr rfl) rfl (strs_elem _) (by simp only [List.length_nil, Nat.zero_add, strs_length]; show _ * 16 ≤ _; omega) (by simp only [List.length_nil, Nat.zero_add, strs_length]; omega) (.inl rfl) ?_; refine RD.run rfl ?_
  refine RD.allocL 12 tO hok rfl rfl rfl rfl rfl rfl rfl rfl rfl (fun b7 hok => ?_); refine RD.run rfl ?_
  refine RD.storeL 13 tO hok rfl rfl rfl rfl rfl rfl rfl rfl rfl rfl rfl (by repeat (first | exact Sel.here | apply Sel.there)) (by exact rfl) (fun hok => ?_); refine RD.run rfl ?_
  refine RD.done rfl ?_
  refine aN ?_
  refine CW.boxWeakL hok b7 (part6 f.op f.name f.path f.cls f.n [] .nil) (by repeat (first | exact Sel.here | apply Sel.there)) (part6_nil' _ _ _ _ _) fun hok => ?_
  repeat (first | with_reducible refine CW.seq ?_ | refine CW.reg ?_ | refine RL.step tO rfl rfl rfl rfl ?_)
  refine RL.callP rfl rfl rfl rfl rfl (refIndex_spec old .fro f.name _ (by omega)) ?_
  have hsd := FFact.swap_def old now f
  repeat (first | with_reducible refine CW.seq ?_ | with_reducible refine aN ?_ | refine CW.reg (RL.run tO rfl (RL.nil ?_)) | refine RL.nil ?_ | refine RL.step tO rfl rfl rfl rfl ?_)
  refine CW.atCutL (σ := Unit) (fun _ => [(1, .slc 1 (strs old) .fro), (2, .slc 1 (strs now) .fro), (3, .fptr f.cells 0), (6, .ptr b6 0), (7, .ptr b7 0)]) (fun _ => [(.own b6, .box 55 [.int .i64 0, .str [], .slc 0 [] .nil, .str [], .int .i64 0, .slc 0 [] .nil]), (.own b7, .box 55 (part6 f.op (swapN old now f.name) f.path f.cls f.n [] .nil))]) (fun _ => True) ?_ ?_
  ·cases hi : old.findIdx? (· == f.name) with
   | none =>
    have h0 : idxFrom old f.name 0 = -1 := by simp [idxFrom, hi]
    have h1 : swapN old now f.name = f.name := by simp [swapN, hi]
    rw [h0, h1]
    refine CW.condF rfl ?_
    repeat (first | with_reducible refine CW.skip ?_)
    exact CutL.mk () hok trivial (by repeat (first | exact trivial | refine ⟨⟨_, rfl, AVle.refl _⟩, ?_⟩)) (by repeat (first | exact Sels.nil | (apply Sels.cons; · repeat (first | exact Sel.here | apply Sel.there))))
   | some i =>
    have h0 : idxFrom old f.name 0 = (i : Int) := by simp [idxFrom, hi]
    have hil : i < old.length := by rw [List.findIdx?_eq_some_iff_getElem] at hi; exact hi.1
    have hg : (strs now)[i]? = some (.str (swapN old now f.name)) := by simp [strs, swapN, hi, List.getElem?_eq_getElem (by omega : i < now.length)]
    rw [h0]
    refine CW.cond rfl (fun h => ?_) (fun h => by simp at h)
    repeat (first | refine CW.reg ?_ | refine RL.nil ?_ | refine RL.step tO rfl rfl rfl rfl ?_ | refine RL.idx tO _ rfl rfl rfl rfl rfl rfl rfl rfl rfl rfl rfl (by assumption) rfl ?_ | refine RL.storeL tO hok rfl rfl rfl rfl rfl rfl rfl rfl rfl (by repeat (first | exact Sel.here | apply Sel.there)) (by exact rfl) (fun hok => ?_))
    exact CutL.mk () hok trivial (by repeat (first | exact trivial | refine ⟨⟨_, rfl, AVle.refl _⟩, ?_⟩)) (by repeat (first | exact Sels.nil | (apply Sels.cons; · repeat (first | exact Sel.here | apply Sel.there))))
  intro _ _ hok
  generalize swapN old now f.name = nm at hsd hok ⊢
  repeat (first | with_reducible refine CW.seq ?_ | with_reducible refine aN ?_ | with_reducible refine CW.block ?_ | refine CW.reg (RL.run tO rfl (RL.nil ?_)))
  refine CW.phantom hok 55 6 0 fun hok => ?_
  refine CW.loopL hok (σ := Nat × Own) (fun q => [(1, .slc 1 (strs old) .fro), (2, .slc 1 (strs now) .fro), (3, .fptr f.cells 0), (6, .ptr b6 0), (7, .ptr b7 0), (9, .int .i64 (q.1 : Int))])
   (fun q => [(.own b6, .box 55 [.int .i64 0, .str [], .slc 0 [] .nil, .str [], .int .i64 0, .slc 0 [] .nil]), (.own b7, .box 55 (part6 f.op nm f.path f.cls f.n ((f.kids.take q.1).map (FFact.swap old now)) q.2)), (q.2, .row 55 6 q.1)])
   (fun q => q.1 ≤ f.kids.length) (fun q => f.kids.length - q.1) (0, .nil) (Nat.zero_le _) (by repeat (first | exact trivial | refine ⟨⟨_, rfl, AVle.refl _⟩, ?_⟩)) (by repeat (first | exact Sels.nil | (apply Sels.cons; · repeat (first | exact Sel.here | apply Sel.there)))) ?_
  rintro ⟨j, own⟩ hj hok
  simp only at hj hok ⊢
  repeat (first | with_reducible refine CW.seq ?_ | with_reducible refine aN ?_ | refine CW.reg (RL.run tO rfl (RL.nil ?_)))
  refine CW.cond rfl (fun h => ?_) (fun h => ?_)
  ·have hlt : j < f.kids.length := by rw [hkl] at h; simpa using h
   obtain ⟨k, hk, hk', hks⟩ := FFact.kid_at hlt
   repeat (first | with_reducible refine CW.seq ?_ | with_reducible refine aN ?_ | with_reducible refine CW.skip ?_ | with_reducible refine CW.block ?_)
   refine CW.drw tO mixed rfl (RD.run rfl ?_)
   refine RD.idx 5 j rfl rfl rfl rfl rfl rfl rfl rfl rfl rfl rfl rfl rfl hk' rfl ?_
   refine RD.run rfl ?_
   refine RD.calmPP (i := 9) rfl rfl rfl rfl rfl rfl rfl (ih k (d + 1) (by omega) (by omega) (htx.kid (List.mem_of_getElem? hk))) ?_; refine RD.run rfl ?_
   refine RD.loadL 1 tO hok rfl rfl rfl rfl rfl rfl rfl rfl (by repeat (first | exact Sel.here | apply Sel.there)) (by exact rfl) ?_; refine RD.run rfl ?_
   refine RD.append1L 11 tO hok rfl rfl rfl rfl rfl rfl rfl rfl rfl (by intro k; simp) rfl rfl rfl rfl rfl rfl rfl rfl (by repeat (first | exact Sel.here | apply Sel.there)) (by simp <;> omega) (by show (_ + 1) * 96 ≤ _; omega) (by omega) (fun b1 hok => ?_)
   refine RD.run rfl ?_
   refine RD.storeL 13 tO hok rfl rfl rfl rfl rfl rfl rfl rfl rfl rfl rfl (by repeat (first | exact Sel.here | apply Sel.there)) (by exact rfl) (fun hok => ?_); refine RD.run rfl ?_
   refine RD.done rfl ?_
   repeat (first | with_reducible refine aN ?_ | with_reducible refine iN ?_ | refine CW.reg (RL.run tO rfl (RL.nil ?_)))
   exact NextL.mk (j + 1, .own b1) hok hlt (by repeat (first | exact trivial | refine ⟨⟨_, rfl, AVle.refl _⟩, ?_⟩ | refine ⟨⟨_, rfl, AVle.of_eq (by (rw [i64_succ (by omega)]))⟩, ?_⟩)) (by simp only [← map_take_succ (FFact.swap old now) hk, part6, List.map_append, List.map_cons, List.map_nil]; repeat (first | exact Sels.nil | (apply Sels.cons; · repeat (first | exact Sel.here | apply Sel.there)))) (by show f.kids.length - (j + 1) < f.kids.length - j; omega)
  ·have hge : f.kids.length ≤ j := by rw [hkl] at h; simpa using h
   have hje : j = f.kids.length := by omega
   subst hje
   rw [List.take_length] at hok ⊢
   repeat (first | with_reducible refine CW.seq ?_ | with_reducible refine aN ?_ | with_reducible refine aX ?_ | with_reducible refine iH ?_ | with_reducible refine CW.ret ?_ | with_reducible refine CW.exit ?_ | refine CW.reg ?_ | refine RL.nil ?_ | refine RL.loadL tO hok rfl rfl rfl rfl rfl rfl (by repeat (first | exact Sel.here | apply Sel.there)) (by exact rfl) ?_ | refine RL.storeL tO hok rfl rfl rfl rfl rfl rfl rfl rfl rfl (by repeat (first | exact Sel.here | apply Sel.there)) (by exact rfl) (fun hok => ?_))
   rw [hsd]
   exact Fin.retP hok (resA_cell rfl rfl (Sel.get Sel.here hok) rfl) (part6_le _ _ _ _ _ _ own)
end Go.Proofs.YtaafacnoddjhgaaGreat

/- Contracts of the reference: anew. -/
namespace Go.Proofs.YtaafacnoddjhgaaGreat
open Go.AE

mutual
def FExp.lets : FExp → Nat
 | .mk o _ _ ks => (if o == 9 then 1 else 0) + FExp.letsL ks
def FExp.letsL : List FExp → Nat
 | [] => 0
 | k :: r => k.lets + FExp.letsL r
end
mutual
theorem FExp.lets_le : ∀ e : FExp, e.lets ≤ e.size
  | .mk o n t ks => by
    rw [FExp.lets, FExp.size]
    have := FExp.letsL_le ks
    split <;> omega
theorem FExp.letsL_le : ∀ l : List FExp, FExp.letsL l ≤ FExp.sizes l
  | [] => Nat.le_refl _
  | k :: r => by
    rw [FExp.letsL, FExp.sizes]
    have := FExp.lets_le k
    have := FExp.letsL_le r
    omega
end
theorem FExp.lets_def (e : FExp) : e.lets = (if e.op == 9 then 1 else 0) + FExp.letsL e.kids := by cases e; rfl

mutual
theorem renam_next : ∀ (e : FExp) (sc : List (Str × Str)) (k : Nat), k + e.size < 698 → (FExp.renam sc (firstN k) e).2 = firstN (k + e.lets)
  | .mk o n t ks, sc, k, h => by
    rw [FExp.size] at h
    rw [FExp.renam, FExp.lets]
    simp only [textN]
    by_cases h3 : o = 3
    · subst h3
      simp only [show ((3 : Int) == 3) = true from rfl, show ((3 : Int) == 9) = false from rfl, if_true, Bool.false_eq_true, if_false, Nat.zero_add]
      exact renams_next ks false t _ sc 0 k (by omega)
    · have h3' : (o == 3) = false := by simpa using h3
      by_cases h9 : o = 9
      · subst h9
        simp only [h3', show ((9 : Int) == 9) = true from rfl, Bool.false_eq_true, if_false, if_true]
        rw [insS_firstN (by omega), renams_next ks true t _ sc 0 (k + 1) (by omega), Nat.add_assoc]
      · have h9' : (o == 9) = false := by simpa using h9
        simp only [h3', h9', Bool.false_eq_true, if_false, Nat.zero_add]
        exact renams_next ks false t _ sc 0 k (by omega)
theorem renams_next : ∀ (ks : List FExp) (isLet : Bool) (t t' : Str) (sc : List (Str × Str)) (i k : Nat), k + FExp.sizes ks < 698 → (FExp.renams isLet t t' sc i (firstN k) ks).2 = firstN (k + FExp.letsL ks)
  | [], _, _, _, _, _, _, _ => rfl
  | e :: r, isLet, t, t', sc, i, k, h => by
    rw [FExp.sizes] at h
    rw [FExp.renams, FExp.letsL]
    simp only []
    rw [renam_next e _ k (by omega), renams_next r isLet t t' sc (i + 1) (k + e.lets) (by have := FExp.lets_le e; omega), Nat.add_assoc]
end

def pairs (old now : List Str) : List (Str × Str) := (old.zip now).reverse
theorem pairs_snoc {old now : List Str} (h : old.length = now.length) (a b : Str) : pairs (old ++ [a]) (now ++ [b]) = (a, b) :: pairs old now := by
 rw [pairs, List.zip_append h]; simp [pairs]
theorem pairs_take {old now : List Str} {j : Nat} {a b : Str} (ha : old[j]? = some a) (hb : now[j]? = some b) : pairs (old.take (j + 1)) (now.take (j + 1)) = (a, b) :: pairs (old.take j) (now.take j) := by
 rw [← take_snoc ha, ← take_snoc hb, pairs_snoc]
 have h1 := (List.getElem?_eq_some_iff.1 ha).1
 have h2 := (List.getElem?_eq_some_iff.1 hb).1
 simp [List.length_take]; omega
theorem neat_kids3 {e : FExp} (h : e.neat = true) (h3 : (e.op == 3) = true) : e.kids = [] := by
 rw [neat_name h h3]; rfl

def kbox (k : Nat) : AObj := .box 3 [.int .i64 (k : Int)]
def ebox (e : FExp) (t : Str) (ks : List FExp) (own : Own) : AObj := .box 27 (part4 e.op e.n t ks own)

set_option maxRecDepth 10000 in
set_option maxHeartbeats 2000000 in
theorem refAnew_spec : ∀ (n : Nat) (e : FExp) (old now : List Str) (oo on : Own) (nb k : Nat), e.size ≤ n → e.neat = true → k + e.size < 698 → old.length = now.length → old.length + n < 1000 →
    LCalls Tryz.prog 63 [e.av, .slc 1 (strs old) oo, .slc 1 (strs now) on, .ptr nb 0] [(.own nb, kbox k)]
      (fun o K => o = .ret (FExp.renam (pairs old now) (firstN k) e).1.av ∧ K = [(.own nb, kbox (k + e.lets))]) := by
  intro n
  induction n with
  | zero => intro e _ _ _ _ _ _ h; have := e.size_pos; omega
  | succ n ih =>
    intro e old now oo on nb k hn hneat hk hon ho
    have hlen := e.kids_length
    have hkl := e.kav_length
    have hb : big = 1099511627776 := rfl
    have hput := renam_def e (pairs old now) (firstN k)
    have hlets := FExp.lets_def e
    have hsz := e.size_def
    refine LCalls.of_CW tO call63 Tryz.func63 rfl rfl fun s hok => ?_
    repeat (first | with_reducible refine CW.seq ?_ | refine CW.reg ?_ | refine RL.step tO rfl rfl rfl rfl ?_)
    refine RL.allocL tO hok rfl rfl rfl rfl rfl rfl rfl (fun b8 hok => ?_)
    repeat (first | with_reducible refine CW.seq ?_ | with_reducible refine aN ?_ | refine CW.reg ?_ | refine RL.nil ?_ | refine RL.step tO rfl rfl rfl rfl ?_)
    refine RL.allocL tO hok rfl rfl rfl rfl rfl rfl rfl (fun b9 hok => ?_)
    repeat (first | with_reducible refine CW.seq ?_ | with_reducible refine aN ?_ | refine CW.reg (RL.run tO rfl (RL.nil ?_)) | refine RL.nil ?_ | refine RL.storeL tO hok rfl rfl rfl rfl rfl rfl rfl rfl rfl (by repeat (first | exact Sel.here | apply Sel.there)) (by exact rfl) (fun hok => ?_))
    refine CW.boxWeakL hok b9 (part4 e.op e.n e.text [] .nil) (by repeat (first | exact Sel.here | apply Sel.there)) (part4_nil _ _ _) fun hok => ?_
    generalize hZ : (AV.int .i64 0) = z0
    refine CW.cond rfl (fun h3 => ?_) (fun h3 => ?_)
    · -- a name
      have h3' : (e.op == 3) = true := h3
      have hks := neat_kids3 hneat h3'
      have h9 : (e.op == 9) = false := by have : e.op = 3 := by simpa using h3'
                                          rw [this]; rfl
      have hres : (FExp.renam (pairs old now) (firstN k) e).1 = .mk e.op e.n ((stands (pairs old now) e.text).getD e.text) [] := by
        rw [hput, hks]; simp [textN, h3', FExp.renams]
      have hl0 : e.lets = 0 := by rw [hlets, hks, h9]; rfl
      rw [hres, hl0]
      subst hZ
      repeat (first | with_reducible refine CW.seq ?_ | with_reducible refine aN ?_ | with_reducible refine CW.block ?_ | refine CW.reg (RL.run tO rfl (RL.nil ?_)))
      refine CW.loopL hok (σ := Nat) (fun j => [(1, .slc 1 (strs old) oo), (2, .slc 1 (strs now) on), (4, .fptr e.cells 0), (8, .ptr b8 0), (9, .ptr b9 0), (10, .int .i64 (j : Int))])
        (fun j => [(.own nb, kbox k), (.own b8, .box 27 [.int .i64 0, .int .i64 0, .str [], .slc 0 [] .nil]), (.own b9, ebox e ((stands (pairs (old.take j) (now.take j)) e.text).getD e.text) [] .nil)])
        (fun j => j ≤ old.length) (fun j => old.length - j) 0 (Nat.zero_le _) (by repeat (first | exact trivial | refine ⟨⟨_, rfl, AVle.refl _⟩, ?_⟩)) (by repeat (first | exact Sels.nil | (apply Sels.cons; · repeat (first | exact Sel.here | apply Sel.there)))) ?_
      rintro j hj hok
      repeat (first | with_reducible refine CW.seq ?_ | with_reducible refine aN ?_ | refine CW.reg (RL.run tO rfl (RL.nil ?_)))
      refine CW.cond rfl (fun h => ?_) (fun h => ?_)
      · have hlt : j < old.length := by simpa using h
        obtain ⟨a, ha, ha'⟩ := elem_at (f := AV.str) hlt
        obtain ⟨b, hb1, hb'⟩ := elem_at (f := AV.str) (by omega : j < now.length)
        have hpt := pairs_take ha hb1
        repeat (first | with_reducible refine CW.seq ?_ | with_reducible refine aN ?_ | with_reducible refine CW.skip ?_ | with_reducible refine CW.block ?_)
        refine CW.drw tO mixed rfl (RD.run rfl ?_)
        refine RD.idx 2 j rfl rfl rfl rfl rfl rfl rfl rfl rfl rfl rfl rfl rfl ha' rfl ?_
        refine RD.run rfl (RD.done rfl ?_)
        with_reducible refine aN ?_
        cases hat : (a == e.text) with
        | true =>
          refine CW.condT rfl ?_
          have hT : (stands (pairs (old.take (j + 1)) (now.take (j + 1))) e.text).getD e.text = b := by rw [hpt, stands, if_pos hat]; rfl
          repeat (first | with_reducible refine aN ?_ | with_reducible refine iN ?_ | refine CW.reg (RL.run tO rfl (RL.nil ?_)) | refine CW.reg ?_ | refine RL.nil ?_ | refine RL.step tO rfl rfl rfl rfl ?_ | refine RL.idx tO _ rfl rfl rfl rfl rfl rfl rfl rfl rfl rfl rfl (by assumption) rfl ?_ | refine RL.storeL tO hok rfl rfl rfl rfl rfl rfl rfl rfl rfl (by repeat (first | exact Sel.here | apply Sel.there)) (by exact rfl) (fun hok => ?_))
          exact NextL.mk (j + 1) hok hlt (by repeat (first | exact trivial | refine ⟨⟨_, rfl, AVle.refl _⟩, ?_⟩ | refine ⟨⟨_, rfl, AVle.of_eq (by (rw [i64_succ (by omega)]))⟩, ?_⟩)) (by simp only [hT]; repeat (first | exact Sels.nil | (apply Sels.cons; · repeat (first | exact Sel.here | apply Sel.there)))) (by show old.length - (j + 1) < old.length - j; omega)
        | false =>
          refine CW.condF rfl ?_
          have hT : (stands (pairs (old.take (j + 1)) (now.take (j + 1))) e.text).getD e.text = (stands (pairs (old.take j) (now.take j)) e.text).getD e.text := by rw [hpt, stands, if_neg (by rw [hat]; simp)]
          repeat (first | with_reducible refine aN ?_ | with_reducible refine iN ?_ | with_reducible refine CW.skip ?_ | refine CW.reg (RL.run tO rfl (RL.nil ?_)))
          exact NextL.mk (j + 1) hok hlt (by repeat (first | exact trivial | refine ⟨⟨_, rfl, AVle.refl _⟩, ?_⟩ | refine ⟨⟨_, rfl, AVle.of_eq (by (rw [i64_succ (by omega)]))⟩, ?_⟩)) (by simp only [hT]; repeat (first | exact Sels.nil | (apply Sels.cons; · repeat (first | exact Sel.here | apply Sel.there)))) (by show old.length - (j + 1) < old.length - j; omega)
      · have hge : j = old.length := by have : old.length ≤ j := by simpa using h
                                        omega
        subst hge
        rw [List.take_length, hon, List.take_length] at hok ⊢
        repeat (first | with_reducible refine CW.seq ?_ | with_reducible refine aN ?_ | with_reducible refine aX ?_ | with_reducible refine aR ?_ | with_reducible refine iH ?_ | with_reducible refine CW.ret ?_ | with_reducible refine CW.exit ?_ | refine CW.reg ?_ | refine RL.nil ?_ | refine RL.loadL tO hok rfl rfl rfl rfl rfl rfl (by repeat (first | exact Sel.here | apply Sel.there)) (by exact rfl) ?_ | refine RL.storeL tO hok rfl rfl rfl rfl rfl rfl rfl rfl rfl (by repeat (first | exact Sel.here | apply Sel.there)) (by exact rfl) (fun hok => ?_))
        exact Fin.retL hok (resA_cell rfl rfl (Sel.get Sel.here hok) rfl) (part4_le e.op e.n _ [] .nil) (by repeat (first | exact Sels.nil | (apply Sels.cons; · repeat (first | exact Sel.here | apply Sel.there)))) ⟨rfl, rfl⟩
    · have h3' : (e.op == 3) = false := h3
      subst hZ
      have hneat9 : (e.op == 9) = true → e.kids.length = 2 := fun h => neat_let hneat h
      have hT : textN (pairs old now) (firstN k) e.op e.text = (if e.op == 9 then freshS (firstN k) else e.text, firstN (k + (if e.op == 9 then 1 else 0))) := by
        rw [textN, if_neg (by rw [h3']; simp)]
        cases h9 : e.op == 9 with
        | true => simp only [if_true]; rw [insS_firstN (by omega)]
        | false => simp
      rw [hT] at hput
      simp only at hput
      generalize hk1 : k + (if e.op == 9 then 1 else 0) = k1 at hput
      generalize ht1 : (if e.op == 9 then freshS (firstN k) else e.text) = t1 at hput
      have hput1 := congrArg Prod.fst hput
      simp only at hput1
      have e1 : (if (e.op == 9 && (0 : Nat) == 0) = true then k else k1) = k := by rw [← hk1]; cases e.op == 9 <;> simp
      have e2 : (if (e.op == 9 && (0 : Nat) == 0) = true then e.text else t1) = e.text := by rw [← ht1]; cases e.op == 9 <;> simp
      repeat (first | with_reducible refine CW.seq ?_ | with_reducible refine aN ?_ | with_reducible refine CW.skip ?_ | with_reducible refine CW.block ?_ | refine CW.reg (RL.run tO rfl (RL.nil ?_)))
      refine CW.phantom hok 27 4 0 fun hok => ?_
      refine CW.loopL hok (σ := Nat × Own × List FExp × Nat) (fun q => [(1, .slc 1 (strs old) oo), (2, .slc 1 (strs now) on), (3, .ptr nb 0), (4, .fptr e.cells 0), (8, .ptr b8 0), (9, .ptr b9 0), (11, .int .i64 (q.1 : Int))])
        (fun q => [(.own nb, kbox (if e.op == 9 && q.1 == 0 then k else q.2.2.2)), (.own b8, .box 27 [.int .i64 0, .int .i64 0, .str [], .slc 0 [] .nil]), (.own b9, ebox e (if e.op == 9 && q.1 == 0 then e.text else t1) q.2.2.1 q.2.1), (q.2.1, .row 27 4 q.1)])
        (fun q => q.1 ≤ e.kids.length ∧ q.2.2.1.length = q.1 ∧ (FExp.renam (pairs old now) (firstN k) e).1 = .mk e.op e.n t1 (q.2.2.1 ++ (FExp.renams (e.op == 9) e.text t1 (pairs old now) q.1 (firstN q.2.2.2) (e.kids.drop q.1)).1) ∧ k + e.lets = q.2.2.2 + FExp.letsL (e.kids.drop q.1) ∧ q.2.2.2 + FExp.sizes (e.kids.drop q.1) < 698)
        (fun q => e.kids.length - q.1) (0, .nil, [], k1) ⟨Nat.zero_le _, rfl, hput1, by show k + e.lets = k1 + _; rw [List.drop_zero]; omega, by show k1 + _ < 698; rw [List.drop_zero]; split at hk1 <;> omega⟩ (by repeat (first | exact trivial | refine ⟨⟨_, rfl, AVle.refl _⟩, ?_⟩)) (by simp only [e1, e2, ebox, List.map_nil]; repeat (first | exact Sels.nil | (apply Sels.cons; · repeat (first | exact Sel.here | apply Sel.there)))) ?_
      rintro ⟨j, own, rs, kj⟩ ⟨hj, hrs, hI, hL, hS⟩ hok
      simp only at hj hrs hI hL hS hok ⊢
      have hw : ∀ m : Nat, m < 1000 → IntKind.wrap .i64 ((m : Int) + 1) = ((m + 1 : Nat) : Int) := fun m hm => i64_succ (by omega)
      repeat (first | with_reducible refine CW.seq ?_ | with_reducible refine aN ?_ | refine CW.reg (RL.run tO rfl (RL.nil ?_)))
      refine CW.cond rfl (fun h => ?_) (fun h => ?_)
      · have hlt : j < e.kids.length := by rw [hkl] at h; simpa using h
        obtain ⟨x, hx, hx', hxs⟩ := FExp.kid_at hlt
        have hL0 := hL
        rw [drop_cons hx, FExp.renams] at hI
        rw [drop_cons hx, FExp.letsL] at hL
        rw [FExp.sizes_drop hx] at hS
        simp only at hI
        have hxn := neat_kid hneat (List.mem_of_getElem? hx)
        have hxl := x.lets_le
        have hj1 : ∀ i : Nat, (e.op == 9 && (i + 1 == 0)) = false := by simp
        cases h9 : (e.op == 9) with
        | false =>
          have hc : ¬ ((e.op == 9 && j == 0) = true) := by rw [h9]; simp
          rw [h9] at hok
          simp only [Bool.false_and, Bool.false_eq_true, if_false] at hok ⊢
          repeat (first | with_reducible refine CW.seq ?_ | with_reducible refine aN ?_ | with_reducible refine CW.skip ?_ | with_reducible refine CW.block ?_ | refine CW.reg ?_ | refine RL.step tO rfl rfl rfl rfl ?_)
          refine RL.knowF 51 rfl h9 ?_
          repeat (first | with_reducible refine CW.seq ?_ | with_reducible refine aN ?_ | with_reducible refine CW.skip ?_ | refine CW.reg ?_ | refine RL.nil ?_ | refine CW.condF rfl ?_ | refine RL.step tO rfl rfl rfl rfl ?_ | refine RL.skip rfl rfl rfl ?_)
          refine RL.knowF 69 rfl h9 ?_
          repeat (first | with_reducible refine aN ?_ | with_reducible refine CW.skip ?_ | refine RL.nil ?_ | refine CW.condF rfl ?_ | refine RL.step tO rfl rfl rfl rfl ?_ | refine RL.skip rfl rfl rfl ?_)
          have hnx := renam_next x (pairs old now) kj (by omega)
          rw [show (e.op == 9 && j == 1) = false from (by rw [h9]; rfl), if_neg (by simp), hnx] at hI
          refine CW.drwJ (JS [(b9, _)]) tO mixed rfl (RJ.run (JS.one (Sel.get (by repeat (first | exact Sel.here | apply Sel.there)) hok)) rfl ?_)
          refine RJ.idx (JS.one (Sel.get (by repeat (first | exact Sel.here | apply Sel.there)) hok)) 5 j rfl rfl rfl rfl rfl rfl rfl rfl rfl rfl rfl rfl rfl hx' rfl ?_
          refine RJ.run (JS.one (Sel.get (by repeat (first | exact Sel.here | apply Sel.there)) hok)) rfl ?_
          refine RJ.loadA 1 tO (JS.one (Sel.get (by repeat (first | exact Sel.here | apply Sel.there)) hok)) rfl rfl rfl rfl rfl rfl rfl rfl (fun _ h => JS.fst h) (by exact rfl) ?_
          refine RJ.run (JS.one (Sel.get (by repeat (first | exact Sel.here | apply Sel.there)) hok)) rfl ?_
          refine RJ.callL (i := 10) rfl rfl rfl rfl rfl rfl rfl (ih x old now oo on nb kj (by omega) hxn (by omega) hon (by omega)) hok (by repeat (first | exact Sels.nil | (apply Sels.cons; · repeat (first | exact Sel.here | apply Sel.there)))) (fun _ _ ⟨_, hK⟩ hok => by subst hK; exact .inl (JS.one (Sel.get (by repeat (first | exact Sel.here | apply Sel.there)) hok))) ?_ (fun _ _ ⟨h, _⟩ _ => by cases h)
          rintro _ _ ⟨⟨⟩, rfl⟩ hok
          refine RJ.run (JS.one (Sel.get (by repeat (first | exact Sel.here | apply Sel.there)) hok)) rfl ?_
          refine RJ.append1L 12 tO hok rfl rfl rfl rfl rfl rfl rfl rfl rfl (by intro k; simp) rfl rfl rfl rfl rfl rfl rfl rfl (by repeat (first | exact Sel.here | apply Sel.there)) (by simp [hrs]) (by show (_ + 1) * 56 ≤ _; omega) (by omega) (fun _ hok => .inl (JS.one (Sel.get (by repeat (first | exact Sel.here | apply Sel.there)) hok))) (fun o2 hok => ?_)
          refine RJ.run (JS.one (Sel.get (by repeat (first | exact Sel.here | apply Sel.there)) hok)) rfl ?_
          refine RJ.storeL 14 tO hok rfl rfl rfl rfl rfl rfl rfl rfl rfl rfl rfl (by repeat (first | exact Sel.here | apply Sel.there)) (by exact rfl) (fun _ => .inr rfl) (fun hok => ?_)
          refine RD.done rfl ?_
          repeat (first | with_reducible refine aN ?_ | with_reducible refine iN ?_ | refine CW.reg (RL.run tO rfl (RL.nil ?_)))
          exact NextL.mk (j + 1, o2, rs ++ [(FExp.renam (pairs old now) (firstN kj) x).1], kj + x.lets) hok ⟨hlt, by simp [hrs], by rw [hI, List.append_assoc]; first | rfl | (rw [h9]; rfl), by show k + e.lets = kj + x.lets + FExp.letsL (e.kids.drop (j + 1)); omega, by show kj + x.lets + FExp.sizes (e.kids.drop (j + 1)) < 698; omega⟩ (by repeat (first | exact trivial | refine ⟨⟨_, rfl, AVle.refl _⟩, ?_⟩ | refine ⟨⟨_, rfl, AVle.of_eq (by (rw [hw j (by omega)]))⟩, ?_⟩))
            (by simp only [hj1, Bool.false_eq_true, if_false, ebox, part4, List.map_append, List.map_cons, List.map_nil]; repeat (first | exact Sels.nil | (apply Sels.cons; · repeat (first | exact Sel.here | apply Sel.there)))) (by show e.kids.length - (j + 1) < e.kids.length - j; omega)
        | true =>
          have hk2 := hneat9 h9
          rw [h9] at hok
          by_cases hj0 : j = 0
          · subst hj0
            simp only [beq_self_eq_true, Bool.and_self, if_true] at hok ⊢
            rw [h9] at ht1 hlets
            simp only [if_true] at ht1 hlets
            have hkj : kj = k + 1 := by rw [List.drop_zero] at hL0; omega
            subst hkj; subst ht1
            repeat (first | with_reducible refine CW.seq ?_ | with_reducible refine aN ?_ | with_reducible refine CW.skip ?_ | with_reducible refine CW.block ?_ | refine CW.reg ?_ | refine RL.step tO rfl rfl rfl rfl ?_)
            refine RL.knowT 51 rfl h9 ?_
            repeat (first | with_reducible refine CW.seq ?_ | with_reducible refine aN ?_ | refine CW.reg ?_ | refine RL.nil ?_ | refine CW.condT rfl ?_ | refine RL.step tO rfl rfl rfl rfl ?_ | refine RL.loadL tO hok rfl rfl rfl rfl rfl rfl (by repeat (first | exact Sel.here | apply Sel.there)) (by exact rfl) ?_)
            refine RL.callPP rfl rfl rfl rfl rfl (refNamed_spec k (by omega)) ?_
            repeat (first | with_reducible refine CW.seq ?_ | with_reducible refine aN ?_ | refine CW.reg ?_ | refine RL.nil ?_ | refine RL.step tO rfl rfl rfl rfl ?_ | refine RL.loadL tO hok rfl rfl rfl rfl rfl rfl (by repeat (first | exact Sel.here | apply Sel.there)) (by exact rfl) ?_ | refine RL.storeL tO hok rfl rfl rfl rfl rfl rfl rfl rfl rfl (by repeat (first | exact Sel.here | apply Sel.there)) (by exact rfl) (fun hok => ?_))
            rw [hw k (by omega)] at hok ⊢
            refine RL.knowT 69 rfl h9 ?_
            repeat (first | with_reducible refine aN ?_ | with_reducible refine CW.skip ?_ | refine RL.nil ?_ | refine CW.condF rfl ?_ | refine RL.step tO rfl rfl rfl rfl ?_)
            have hnx := renam_next x (pairs old now) (k + 1) (by omega)
            rw [show (e.op == 9 && 0 == 1) = false from (by simp), if_neg (by simp), hnx] at hI
            refine CW.drwJ (JS [(b9, _)]) tO mixed rfl (RJ.run (JS.one (Sel.get (by repeat (first | exact Sel.here | apply Sel.there)) hok)) rfl ?_)
            refine RJ.idx (JS.one (Sel.get (by repeat (first | exact Sel.here | apply Sel.there)) hok)) 5 0 rfl rfl rfl rfl rfl rfl rfl rfl rfl rfl rfl rfl rfl hx' rfl ?_
            refine RJ.run (JS.one (Sel.get (by repeat (first | exact Sel.here | apply Sel.there)) hok)) rfl ?_
            refine RJ.loadA 1 tO (JS.one (Sel.get (by repeat (first | exact Sel.here | apply Sel.there)) hok)) rfl rfl rfl rfl rfl rfl rfl rfl (fun _ h => JS.fst h) (by exact rfl) ?_
            refine RJ.run (JS.one (Sel.get (by repeat (first | exact Sel.here | apply Sel.there)) hok)) rfl ?_
            refine RJ.callL (i := 10) rfl rfl rfl rfl rfl rfl rfl (ih x old now oo on nb (k + 1) (by omega) hxn (by omega) hon (by omega)) hok (by repeat (first | exact Sels.nil | (apply Sels.cons; · repeat (first | exact Sel.here | apply Sel.there)))) (fun _ _ ⟨_, hK⟩ hok => by subst hK; exact .inl (JS.one (Sel.get (by repeat (first | exact Sel.here | apply Sel.there)) hok))) ?_ (fun _ _ ⟨h, _⟩ _ => by cases h)
            rintro _ _ ⟨⟨⟩, rfl⟩ hok
            refine RJ.run (JS.one (Sel.get (by repeat (first | exact Sel.here | apply Sel.there)) hok)) rfl ?_
            refine RJ.append1L 12 tO hok rfl rfl rfl rfl rfl rfl rfl rfl rfl (by intro k; simp) rfl rfl rfl rfl rfl rfl rfl rfl (by repeat (first | exact Sel.here | apply Sel.there)) (by simp [hrs]) (by show (_ + 1) * 56 ≤ _; omega) (by omega) (fun _ hok => .inl (JS.one (Sel.get (by repeat (first | exact Sel.here | apply Sel.there)) hok))) (fun o2 hok => ?_)
            refine RJ.run (JS.one (Sel.get (by repeat (first | exact Sel.here | apply Sel.there)) hok)) rfl ?_
            refine RJ.storeL 14 tO hok rfl rfl rfl rfl rfl rfl rfl rfl rfl rfl rfl (by repeat (first | exact Sel.here | apply Sel.there)) (by exact rfl) (fun _ => .inr rfl) (fun hok => ?_)
            refine RD.done rfl ?_
            repeat (first | with_reducible refine aN ?_ | with_reducible refine iN ?_ | refine CW.reg (RL.run tO rfl (RL.nil ?_)))
            exact NextL.mk (0 + 1, o2, rs ++ [(FExp.renam (pairs old now) (firstN (k + 1)) x).1], (k + 1) + x.lets) hok ⟨hlt, by simp [hrs], by rw [hI, List.append_assoc]; first | rfl | (rw [h9]; rfl), by show k + e.lets = (k + 1) + x.lets + FExp.letsL (e.kids.drop (0 + 1)); omega, by show (k + 1) + x.lets + FExp.sizes (e.kids.drop (0 + 1)) < 698; omega⟩ (by repeat (first | exact trivial | refine ⟨⟨_, rfl, AVle.refl _⟩, ?_⟩ | refine ⟨⟨_, rfl, AVle.of_eq (by (rw [hw 0 (by omega)]))⟩, ?_⟩))
              (by simp only [hj1, Bool.false_eq_true, if_false, ebox, part4, List.map_append, List.map_cons, List.map_nil]; repeat (first | exact Sels.nil | (apply Sels.cons; · repeat (first | exact Sel.here | apply Sel.there)))) (by show e.kids.length - (0 + 1) < e.kids.length - 0; omega)
          · have hj1' : j = 1 := by omega
            subst hj1'
            simp only [show ((1 : Nat) == 0) = false from rfl, Bool.and_false, Bool.false_eq_true, if_false] at hok ⊢
            repeat (first | with_reducible refine CW.seq ?_ | with_reducible refine aN ?_ | with_reducible refine CW.skip ?_ | with_reducible refine CW.block ?_ | refine CW.reg ?_ | refine RL.step tO rfl rfl rfl rfl ?_)
            refine RL.knowT 51 rfl h9 ?_
            repeat (first | with_reducible refine CW.seq ?_ | with_reducible refine aN ?_ | with_reducible refine CW.skip ?_ | refine CW.reg ?_ | refine RL.nil ?_ | refine CW.condF rfl ?_ | refine RL.step tO rfl rfl rfl rfl ?_)
            refine RL.knowT 69 rfl h9 ?_
            repeat (first | with_reducible refine CW.seq ?_ | with_reducible refine aN ?_ | refine RL.nil ?_ | refine CW.condT rfl ?_ | refine RL.step tO rfl rfl rfl rfl ?_)
            have hsa : ∀ (l : List Str) (a : Str), strs (l ++ [a]) = strs l ++ [.str a] := fun l a => by simp [strs]
            have hnx := renam_next x ((e.text, t1) :: pairs old now) kj (by omega)
            rw [show (e.op == 9 && (1 : Nat) == 1) = true by rw [h9]; rfl, if_pos rfl, hnx] at hI
            refine CW.drwJ (JS [(b9, _)]) tO mixed rfl (RJ.run (JS.one (Sel.get (by repeat (first | exact Sel.here | apply Sel.there)) hok)) rfl ?_)
            refine RJ.idx (JS.one (Sel.get (by repeat (first | exact Sel.here | apply Sel.there)) hok)) 4 1 rfl rfl rfl rfl rfl rfl rfl rfl rfl rfl rfl rfl rfl hx' rfl ?_
            refine RJ.run (JS.one (Sel.get (by repeat (first | exact Sel.here | apply Sel.there)) hok)) rfl ?_
            refine RJ.loadA 1 tO (JS.one (Sel.get (by repeat (first | exact Sel.here | apply Sel.there)) hok)) rfl rfl rfl rfl rfl rfl rfl rfl (fun _ h => JS.fst h) (by exact rfl) ?_
            refine RJ.loadA 15 tO (JS.one (Sel.get (by repeat (first | exact Sel.here | apply Sel.there)) hok)) rfl rfl rfl rfl rfl rfl rfl rfl (fun _ h => JS.fst h) (by exact rfl) ?_
            refine RJ.run (JS.one (Sel.get (by repeat (first | exact Sel.here | apply Sel.there)) hok)) rfl ?_
            refine RJ.appendNL 7 tO hok rfl rfl rfl rfl rfl rfl rfl rfl rfl (by intro k; simp) rfl rfl rfl (.inr rfl) rfl (strs_elem _) rfl (strs_length _).symm (by show old.length * 16 ≤ _; omega) (by omega) (fun _ hok => .inl (JS.one (Sel.get (by repeat (first | exact Sel.here | apply Sel.there)) hok))) (fun q1 hok => ?_)
            refine RJ.run (JS.one (Sel.get (by repeat (first | exact Sel.here | apply Sel.there)) hok)) rfl ?_
            refine RJ.append1L 11 tO hok rfl rfl rfl rfl rfl rfl rfl rfl rfl (by intro k; simp) rfl rfl rfl rfl rfl rfl rfl rfl (by repeat (first | exact Sel.here | apply Sel.there)) (strs_length _).symm (by show (_ + 1) * 16 ≤ _; omega) (by omega) (fun _ hok => .inl (JS.one (Sel.get (by repeat (first | exact Sel.here | apply Sel.there)) hok))) (fun q2 hok => ?_)
            refine RJ.run (JS.one (Sel.get (by repeat (first | exact Sel.here | apply Sel.there)) hok)) rfl ?_
            refine RJ.appendNL 13 tO hok rfl rfl rfl rfl rfl rfl rfl rfl rfl (by intro k; simp) rfl rfl rfl (.inr rfl) rfl (strs_elem _) rfl (strs_length _).symm (by show now.length * 16 ≤ _; omega) (by omega) (fun _ hok => .inl (JS.one (Sel.get (by repeat (first | exact Sel.here | apply Sel.there)) hok))) (fun q3 hok => ?_)
            refine RJ.run (JS.one (Sel.get (by repeat (first | exact Sel.here | apply Sel.there)) hok)) rfl ?_
            refine RJ.append1L 17 tO hok rfl rfl rfl rfl rfl rfl rfl rfl rfl (by intro k; simp) rfl rfl rfl rfl rfl rfl rfl rfl (by repeat (first | exact Sel.here | apply Sel.there)) (strs_length _).symm (by show (_ + 1) * 16 ≤ _; omega) (by omega) (fun _ hok => .inl (JS.one (Sel.get (by repeat (first | exact Sel.here | apply Sel.there)) hok))) (fun q4 hok => ?_)
            refine RJ.run (JS.one (Sel.get (by repeat (first | exact Sel.here | apply Sel.there)) hok)) rfl ?_
            have hcall := ih x (old ++ [e.text]) (now ++ [t1]) q2 q4 nb kj (by omega) hxn (by omega) (by simp [hon]) (by simp; omega)
            rw [hsa, hsa, pairs_snoc hon] at hcall
            refine RJ.callL (i := 19) rfl rfl rfl rfl rfl rfl rfl hcall hok (by repeat (first | exact Sels.nil | (apply Sels.cons; · repeat (first | exact Sel.here | apply Sel.there)))) (fun _ _ ⟨_, hK⟩ hok => by subst hK; exact .inl (JS.one (Sel.get (by repeat (first | exact Sel.here | apply Sel.there)) hok))) ?_ (fun _ _ ⟨h, _⟩ _ => by cases h)
            rintro _ _ ⟨⟨⟩, rfl⟩ hok
            refine RJ.run (JS.one (Sel.get (by repeat (first | exact Sel.here | apply Sel.there)) hok)) rfl ?_
            refine RJ.append1L 21 tO hok rfl rfl rfl rfl rfl rfl rfl rfl rfl (by intro k; simp) rfl rfl rfl rfl rfl rfl rfl rfl (by repeat (first | exact Sel.here | apply Sel.there)) (by simp [hrs]) (by show (_ + 1) * 56 ≤ _; omega) (by omega) (fun _ hok => .inl (JS.one (Sel.get (by repeat (first | exact Sel.here | apply Sel.there)) hok))) (fun o2 hok => ?_)
            refine RJ.run (JS.one (Sel.get (by repeat (first | exact Sel.here | apply Sel.there)) hok)) rfl ?_
            refine RJ.storeL 23 tO hok rfl rfl rfl rfl rfl rfl rfl rfl rfl rfl rfl (by repeat (first | exact Sel.here | apply Sel.there)) (by exact rfl) (fun _ => .inr rfl) (fun hok => ?_)
            refine RD.done rfl ?_
            repeat (first | with_reducible refine aN ?_ | with_reducible refine aX ?_ | with_reducible refine iH ?_ | with_reducible refine CW.exit ?_ | refine CW.reg (RL.run tO rfl (RL.nil ?_)))
            exact NextL.mk (1 + 1, o2, rs ++ [(FExp.renam ((e.text, t1) :: pairs old now) (firstN kj) x).1], kj + x.lets) hok ⟨hlt, by simp [hrs], by rw [hI, List.append_assoc]; first | rfl | (rw [h9]; rfl), by show k + e.lets = kj + x.lets + FExp.letsL (e.kids.drop (1 + 1)); omega, by show kj + x.lets + FExp.sizes (e.kids.drop (1 + 1)) < 698; omega⟩ (by repeat (first | exact trivial | refine ⟨⟨_, rfl, AVle.refl _⟩, ?_⟩ | refine ⟨⟨_, rfl, AVle.of_eq (by (rw [hw 1 (by omega)]))⟩, ?_⟩))
              (by simp only [hj1, Bool.false_eq_true, if_false, ebox, part4, List.map_append, List.map_cons, List.map_nil]; repeat (first | exact Sels.nil | (apply Sels.cons; · repeat (first | exact Sel.here | apply Sel.there)))) (by show e.kids.length - (1 + 1) < e.kids.length - 1; omega)
      · have hge : e.kids.length ≤ j := by rw [hkl] at h; simpa using h
        have hje : j = e.kids.length := by omega
        subst hje
        have hc : (e.op == 9 && e.kids.length == 0) = false := by
          cases h9 : (e.op == 9) with
          | false => rfl
          | true => rw [hneat9 h9]; rfl
        rw [List.drop_length, FExp.renams, List.append_nil] at hI
        rw [List.drop_length, FExp.letsL] at hL
        rw [hc] at hok ⊢
        simp only [Bool.false_eq_true, if_false] at hok ⊢
        rw [hI, hL, Nat.add_zero]
        repeat (first | with_reducible refine CW.seq ?_ | with_reducible refine aN ?_ | with_reducible refine aX ?_ | with_reducible refine iH ?_ | with_reducible refine CW.ret ?_ | with_reducible refine CW.exit ?_ | refine CW.reg ?_ | refine RL.nil ?_ | refine RL.loadL tO hok rfl rfl rfl rfl rfl rfl (by repeat (first | exact Sel.here | apply Sel.there)) (by exact rfl) ?_ | refine RL.storeL tO hok rfl rfl rfl rfl rfl rfl rfl rfl rfl (by repeat (first | exact Sel.here | apply Sel.there)) (by exact rfl) (fun hok => ?_))
        exact Fin.retL hok (resA_cell rfl rfl (Sel.get Sel.here hok) rfl) (part4_le e.op e.n _ _ own) (by repeat (first | exact Sels.nil | (apply Sels.cons; · repeat (first | exact Sel.here | apply Sel.there)))) ⟨rfl, rfl⟩
end Go.Proofs.YtaafacnoddjhgaaGreat

/- Contracts of the reference: CanonOf, Canon, Same, Alike. -/
namespace Go.Proofs.YtaafacnoddjhgaaGreat
open Go.AE

theorem ACalls.args {P : Program} {f : FuncId} {xs ys : List AV} {s : Store} {R : AOut → Store → Prop} (h : AVleL xs ys) (k : ACalls P f ys s R) : ACalls P f xs s R := ⟨k.1, fun w p vs hwf hr => k.2 w p vs hwf (h.rel hr)⟩
theorem LCalls.args {P : Program} {f : FuncId} {xs ys : List AV} {K : LS} {C : AOut → LS → Prop} (h : AVleL xs ys) (k : LCalls P f ys K C) : LCalls P f xs K C := fun s hok => ACalls.args h (k s hok)

def FMethod.canonR (m : FMethod) : FMethod :=
 { kind := m.kind, name := m.name, params := firstN m.params.length, fact := m.fact.swap m.params (firstN m.params.length), body := (FExp.renam (pairs m.params (firstN m.params.length)) (firstN m.params.length) m.body).1 }
def FProg.canonR (P : FProg) : FProg := { classes := P.classes, methods := P.methods.map FMethod.canonR, main := (FExp.renam (pairs [] []) (firstN 0) P.main).1 }

structure FProg.CanonR (P : FProg) : Prop where
 clen : P.classes.length < big
 cls : ∀ c ∈ P.classes, c.parents.length < big ∧ c.slots.length < big ∧ c.inits.length < big
 mlen : P.methods.length < 1048577
 mth : ∀ m ∈ P.methods, m.params.length + m.body.size < 490 ∧ m.body.neat = true ∧ m.fact.size ≤ big ∧ m.fact.Slim 1
 main : P.main.size < 490 ∧ P.main.neat = true

set_option maxRecDepth 10000 in
set_option maxHeartbeats 2000000 in
theorem refCanonOf_spec (P : FProg) (hP : P.CanonR) : PCalls Tryz.prog 18 [P.av] P.canonR.av := by
 have hb : big = 1099511627776 := rfl
 have hcl := hP.clen
 have hml := hP.mlen
 refine PCalls.of_CW tO call18 Tryz.func18 rfl rfl fun s hok => ?_
 repeat (first | with_reducible refine CW.seq ?_ | refine CW.reg ?_ | refine RL.step tO rfl rfl rfl rfl ?_)
 refine RL.allocL tO hok rfl rfl rfl rfl rfl rfl rfl (fun b2 hok => ?_)
 repeat (first | with_reducible refine CW.seq ?_ | with_reducible refine aN ?_ | refine CW.reg ?_ | refine RL.nil ?_)
 refine RL.allocL tO hok rfl rfl rfl rfl rfl rfl rfl (fun b3 hok => ?_)
 refine RL.boxWeakL hok b3 (newProg [] .nil [] .nil) (by repeat (first | exact Sel.here | apply Sel.there)) newProg_nil fun hok => ?_
 repeat (first | with_reducible refine CW.seq ?_ | with_reducible refine aN ?_ | with_reducible refine CW.block ?_ | refine CW.reg (RL.run tO rfl (RL.nil ?_)) | refine RL.nil ?_)
 refine CW.phantom hok 49 4 0 fun hok => ?_
 refine CW.loopL hok (σ := Nat × Own) (fun q => [(1, .fptr P.cells 0), (2, .ptr b2 0), (3, .ptr b3 0), (4, .int .i64 (q.1 : Int))])
  (fun q => [(.own b2, .box 29 [.slc 0 [] .nil, .slc 0 [] .nil, .int .i64 0, .int .i64 0, .str [], .slc 0 [] .nil]), (.own b3, .box 29 (newProg (P.classes.take q.1) q.2 [] .nil)), (q.2, .row 49 4 q.1)])
  (fun q => q.1 ≤ P.classes.length) (fun q => P.classes.length - q.1) (0, .nil) (Nat.zero_le _) (by repeat (first | exact trivial | refine ⟨⟨_, rfl, AVle.refl _⟩, ?_⟩)) (by repeat (first | exact Sels.nil | (apply Sels.cons; · repeat (first | exact Sel.here | apply Sel.there)))) ?_
 rintro ⟨j, own⟩ hj hok
 simp only at hj hok ⊢
 repeat (first | with_reducible refine CW.seq ?_ | with_reducible refine aN ?_ | refine CW.reg (RL.run tO rfl (RL.nil ?_)))
 refine CW.cond rfl (fun h => ?_) (fun h => ?_)
 ·have hlt : j < P.classes.length := by simpa using h
  obtain ⟨c, hc, hc'⟩ := elem_at (f := FClass.av) hlt
  obtain ⟨q1, q2, q3⟩ := hP.cls c (List.mem_of_getElem? hc)
  have htk : P.classes.take j ++ [c] = P.classes.take (j + 1) := take_snoc hc
  repeat (first | with_reducible refine CW.seq ?_ | with_reducible refine aN ?_ | with_reducible refine CW.skip ?_ | with_reducible refine CW.block ?_)
  refine CW.drw tO mixed rfl (RD.run rfl ?_)
  refine RD.idx 5 j rfl rfl rfl rfl rfl rfl rfl rfl rfl rfl rfl rfl rfl hc' rfl ?_
  refine RD.run rfl ?_
  refine RD.calmPP (i := 7) rfl rfl rfl rfl rfl rfl rfl (refCopyClass_spec c q1 q2 q3) ?_; refine RD.run rfl ?_
  refine RD.loadL 1 tO hok rfl rfl rfl rfl rfl rfl rfl rfl (by repeat (first | exact Sel.here | apply Sel.there)) (by exact rfl) ?_; refine RD.run rfl ?_
  refine RD.append1L 9 tO hok rfl rfl rfl rfl rfl rfl rfl rfl rfl (by intro k; simp) rfl rfl rfl rfl rfl rfl rfl rfl (by repeat (first | exact Sel.here | apply Sel.there)) (by simp <;> omega) (by show (_ + 1) * 88 ≤ _; omega) (by omega) (fun b1 hok => ?_)
  refine RD.run rfl ?_
  refine RD.storeL 11 tO hok rfl rfl rfl rfl rfl rfl rfl rfl rfl rfl rfl (by repeat (first | exact Sel.here | apply Sel.there)) (by exact rfl) (fun hok => ?_); refine RD.run rfl ?_
  refine RD.done rfl ?_
  repeat (first | with_reducible refine aN ?_ | with_reducible refine iN ?_ | refine CW.reg (RL.run tO rfl (RL.nil ?_)))
  exact NextL.mk (j + 1, .own b1) hok hlt (by repeat (first | exact trivial | refine ⟨⟨_, rfl, AVle.refl _⟩, ?_⟩ | refine ⟨⟨_, rfl, AVle.of_eq (by (rw [i64_succ (by omega)]))⟩, ?_⟩)) (by simp only [← htk, newProg, List.map_append, List.map_cons, List.map_nil]; repeat (first | exact Sels.nil | (apply Sels.cons; · repeat (first | exact Sel.here | apply Sel.there)))) (by show P.classes.length - (j + 1) < P.classes.length - j; omega)
 have hje : j = P.classes.length := by
  have : P.classes.length ≤ j := by simpa using h
  omega
 subst hje
 rw [List.take_length] at hok ⊢
 repeat (first | with_reducible refine CW.seq ?_ | with_reducible refine aN ?_ | with_reducible refine aX ?_ | with_reducible refine iH ?_ | with_reducible refine CW.exit ?_ | with_reducible refine CW.block ?_ | refine CW.reg (RL.run tO rfl (RL.nil ?_)))
 refine CW.boxWeakL hok b3 (newProg P.classes .fro [] .nil) (by repeat (first | exact Sel.here | apply Sel.there)) (.cons AVle.fro (AVleL.refl _)) fun hok => ?_
 refine CW.phantom hok 57 13 0 fun hok => ?_
 refine CW.loopL hok (σ := Nat × Own) (fun q => [(1, .fptr P.cells 0), (2, .ptr b2 0), (3, .ptr b3 0), (5, .int .i64 (q.1 : Int))])
  (fun q => [(.own b2, .box 29 [.slc 0 [] .nil, .slc 0 [] .nil, .int .i64 0, .int .i64 0, .str [], .slc 0 [] .nil]), (.own b3, .box 29 (newProg P.classes .fro ((P.methods.take q.1).map FMethod.canonR) q.2)), (q.2, .row 57 13 q.1)])
  (fun q => q.1 ≤ P.methods.length) (fun q => P.methods.length - q.1) (0, .nil) (Nat.zero_le _) (by repeat (first | exact trivial | refine ⟨⟨_, rfl, AVle.refl _⟩, ?_⟩)) (by repeat (first | exact Sels.nil | (apply Sels.cons; · repeat (first | exact Sel.here | apply Sel.there)))) ?_
 rintro ⟨j, own⟩ hj hok
 simp only at hj hok ⊢
 repeat (first | with_reducible refine CW.seq ?_ | with_reducible refine aN ?_ | refine CW.reg (RL.run tO rfl (RL.nil ?_)))
 refine CW.cond rfl (fun h => ?_) (fun h => ?_)
 ·have hlt : j < P.methods.length := by simpa using h
  obtain ⟨m, hm, hm'⟩ := elem_at (f := FMethod.av) hlt
  obtain ⟨q1, q2, q3, q4⟩ := hP.mth m (List.mem_of_getElem? hm)
  have htk : (P.methods.take j).map FMethod.canonR ++ [m.canonR] = (P.methods.take (j + 1)).map FMethod.canonR := map_take_succ FMethod.canonR hm
  rw [FMethod.av, FMethod.cellsG] at hm'
  repeat (first | with_reducible refine CW.seq ?_ | with_reducible refine aN ?_ | with_reducible refine CW.skip ?_ | with_reducible refine CW.block ?_ | refine CW.reg ?_ | refine RL.step tO rfl rfl rfl rfl ?_ | refine RL.idx tO _ rfl rfl rfl rfl rfl rfl rfl rfl rfl rfl rfl (by assumption) rfl ?_)
  refine RL.newBox tO rfl rfl rfl rfl rfl rfl rfl (fun _ => rfl) rfl rfl (fun _ => rfl) rfl rfl rfl rfl ?_
  repeat (first | with_reducible refine CW.seq ?_ | with_reducible refine aN ?_ | refine CW.reg ?_ | refine RL.nil ?_ | refine RL.step tO rfl rfl rfl rfl ?_)
  refine RL.allocL tO hok rfl rfl rfl rfl rfl rfl rfl (fun b7 hok => ?_)
  repeat (first | with_reducible refine CW.seq ?_ | with_reducible refine aN ?_ | refine CW.reg ?_ | refine RL.nil ?_ | refine RL.loadL tO hok rfl rfl rfl rfl rfl rfl (by repeat (first | exact Sel.here | apply Sel.there)) (by exact rfl) ?_ | refine RL.storeL tO hok rfl rfl rfl rfl rfl rfl rfl rfl rfl (by repeat (first | exact Sel.here | apply Sel.there)) (by exact rfl) (fun hok => ?_))
  rw [strs_length] at hok ⊢
  refine RL.callPP rfl rfl rfl rfl rfl (refFreshMany_spec m.params.length (by omega)) ?_
  repeat (first | with_reducible refine aN ?_ | refine RL.nil ?_ | refine RL.step tO rfl rfl rfl rfl ?_)
  refine CW.drwJ (JS [(b3, _)]) tO mixed rfl (RJ.run (JS.one (Sel.get (by repeat (first | exact Sel.here | apply Sel.there)) hok)) rfl ?_)
  refine RJ.calmPP (i := 12) (JS.one (Sel.get (by repeat (first | exact Sel.here | apply Sel.there)) hok)) rfl rfl rfl rfl rfl rfl rfl (refCopyFact_spec m.params (firstN m.params.length) (by omega) (by rw [firstN_length]; omega) m.fact.size m.fact 1 (Nat.le_refl _) q3 q4) ?_
  refine RJ.loadA 1 tO (JS.one (Sel.get (by repeat (first | exact Sel.here | apply Sel.there)) hok)) rfl rfl rfl rfl rfl rfl rfl rfl (fun _ h => JS.fst h) (by exact rfl) ?_
  refine RJ.run (JS.one (Sel.get (by repeat (first | exact Sel.here | apply Sel.there)) hok)) rfl ?_
  refine RJ.callL (i := 18) rfl rfl rfl rfl rfl rfl rfl (refAnew_spec m.body.size m.body m.params (firstN m.params.length) .fro .fro b7 m.params.length (Nat.le_refl _) q2 (by omega) (by rw [firstN_length]) (by omega)) hok (by repeat (first | exact Sels.nil | (apply Sels.cons; · repeat (first | exact Sel.here | apply Sel.there)))) (fun _ _ ⟨_, hK⟩ hok => by subst hK; exact .inl (JS.one (Sel.get (by repeat (first | exact Sel.here | apply Sel.there)) hok))) ?_ (fun _ _ ⟨h, _⟩ _ => by cases h)
  rintro _ _ ⟨⟨⟩, rfl⟩ hok
  refine RJ.run (JS.one (Sel.get (by repeat (first | exact Sel.here | apply Sel.there)) hok)) rfl ?_
  refine RJ.append1L 21 tO hok rfl rfl rfl rfl rfl rfl rfl rfl rfl (by intro k; simp) rfl rfl rfl rfl rfl rfl rfl rfl (by repeat (first | exact Sel.here | apply Sel.there)) (by simp <;> omega) (by show (_ + 1) * 200 ≤ _; omega) (by omega) (fun _ hok => .inl (JS.one (Sel.get (by repeat (first | exact Sel.here | apply Sel.there)) hok))) (fun o2 hok => ?_)
  refine RJ.run (JS.one (Sel.get (by repeat (first | exact Sel.here | apply Sel.there)) hok)) rfl ?_
  refine RJ.storeL 23 tO hok rfl rfl rfl rfl rfl rfl rfl rfl rfl rfl rfl (by repeat (first | exact Sel.here | apply Sel.there)) (by exact rfl) (fun _ => .inr rfl) (fun hok => ?_)
  refine RD.done rfl ?_
  repeat (first | with_reducible refine aN ?_ | with_reducible refine iN ?_ | refine CW.reg (RL.run tO rfl (RL.nil ?_)))
  exact NextL.mk (j + 1, o2) hok hlt (by repeat (first | exact trivial | refine ⟨⟨_, rfl, AVle.refl _⟩, ?_⟩ | refine ⟨⟨_, rfl, AVle.of_eq (by (rw [i64_succ (by omega)]))⟩, ?_⟩)) (by simp only [← htk, newProg, List.map_append, List.map_cons, List.map_nil]; repeat (first | exact Sels.nil | (apply Sels.cons; · repeat (first | exact Sel.here | apply Sel.there)))) (by show P.methods.length - (j + 1) < P.methods.length - j; omega)
 have hje : j = P.methods.length := by
  have : P.methods.length ≤ j := by simpa using h
  omega
 subst hje
 rw [List.take_length] at hok ⊢
 obtain ⟨q1, q2⟩ := hP.main
 repeat (first | with_reducible refine CW.seq ?_ | with_reducible refine aN ?_ | with_reducible refine aX ?_ | with_reducible refine iH ?_ | with_reducible refine CW.exit ?_ | refine CW.reg ?_)
 refine RL.allocL tO hok rfl rfl rfl rfl rfl rfl rfl (fun b9 hok => ?_)
 repeat (first | with_reducible refine CW.seq ?_ | with_reducible refine aN ?_ | refine CW.reg ?_ | refine RL.nil ?_ | refine RL.step tO rfl rfl rfl rfl ?_ | refine RL.storeL tO hok rfl rfl rfl rfl rfl rfl rfl rfl rfl (by repeat (first | exact Sel.here | apply Sel.there)) (by exact rfl) (fun hok => ?_))
 refine RL.callL rfl rfl rfl rfl rfl (LCalls.args (.cons (AVle.refl _) (.cons (AVle.nil (by intro b h; cases h)) (.cons (AVle.nil (by intro b h; cases h)) (AVleL.refl _)))) (refAnew_spec P.main.size P.main [] [] .nil .nil b9 0 (Nat.le_refl _) q2 (by omega) rfl (by simp; omega))) hok (by repeat (first | exact Sels.nil | (apply Sels.cons; · repeat (first | exact Sel.here | apply Sel.there)))) ?_ (fun _ _ ⟨h, _⟩ _ => by cases h)
 rintro _ _ ⟨⟨⟩, rfl⟩ hok
 repeat (first | with_reducible refine CW.seq ?_ | with_reducible refine aN ?_ | with_reducible refine CW.ret ?_ | refine CW.reg ?_ | refine RL.nil ?_ | refine RL.step tO rfl rfl rfl rfl ?_ | refine RL.loadL tO hok rfl rfl rfl rfl rfl rfl (by repeat (first | exact Sel.here | apply Sel.there)) (by exact rfl) ?_ | refine RL.storeL tO hok rfl rfl rfl rfl rfl rfl rfl rfl rfl (by repeat (first | exact Sel.here | apply Sel.there)) (by exact rfl) (fun hok => ?_))
 exact Fin.retP hok (resA_cell rfl rfl (Sel.get Sel.here hok) rfl) (AVle.agg (.cons (AVle.refl _) (.cons AVle.fro (AVleL.refl _))))
end Go.Proofs.YtaafacnoddjhgaaGreat

/- The reference's canonical program is the one of 'shape'; contracts of the reference: Canon, Same; the law FormCanons. -/
namespace Go.Proofs.YtaafacnoddjhgaaGreat
open Go.AE

theorem findIdx_snoc (l : List Str) (a x : Str) : (l ++ [a]).findIdx? (· == x) = ((l.findIdx? (· == x)).or (if a == x then some l.length else none)) := by
 rw [List.findIdx?_append]
 cases l.findIdx? (· == x) with
 | some i => rfl
 | none => cases h : (a == x) <;> simp [List.findIdx?_cons, h]

theorem stands_pairs : ∀ (n : Nat) (old now : List Str) (x : Str), old.length = n → old.length = now.length → old.Nodup → (stands (pairs old now) x).getD x = swapN old now x
  | 0, old, now, x, hn, hl, _ => by
    have e1 : old = [] := List.eq_nil_of_length_eq_zero hn
    have e2 : now = [] := List.eq_nil_of_length_eq_zero (by omega)
    subst e1; subst e2; rfl
  | n + 1, old, now, x, hn, hl, hnd => by
    obtain ⟨old', a, rfl⟩ : ∃ l a, old = l ++ [a] := ⟨old.dropLast, old.getLast (by intro e; rw [e] at hn; cases hn), (List.dropLast_concat_getLast _).symm⟩
    obtain ⟨now', b, rfl⟩ : ∃ l a, now = l ++ [a] := ⟨now.dropLast, now.getLast (by intro e; rw [e] at hl; rw [hl] at hn; cases hn), (List.dropLast_concat_getLast _).symm⟩
    simp only [List.length_append, List.length_singleton] at hn hl
    have hl' : old'.length = now'.length := by omega
    rw [pairs_snoc hl', stands]
    have hnd' := (List.nodup_append.1 hnd).1
    have ih := stands_pairs n old' now' x (by omega) hl' hnd'
    have hdis : ∀ y ∈ old', y ≠ a := fun y hy => (List.nodup_append.1 hnd).2.2 y hy a (by simp)
    unfold swapN at ih ⊢
    rw [findIdx_snoc]
    cases hf : old'.findIdx? (· == x) with
    | some i =>
      rw [hf] at ih
      rw [List.findIdx?_eq_some_iff_getElem] at hf
      obtain ⟨q1, q2, -⟩ := hf
      have hax : (a == x) = false := by
        have : old'[i] = x := by simpa using q2
        have h3 := hdis _ (List.getElem_mem q1)
        rw [this] at h3
        cases hq : (a == x) with
        | false => rfl
        | true => exact absurd (by simpa using hq) (Ne.symm h3)
      simp only [hax, Bool.false_eq_true, if_false, Option.some_or]
      rw [ih]
      simp only [List.getD_eq_getElem?_getD]
      rw [List.getElem?_append_left (by omega)]
    | none =>
      rw [hf] at ih
      cases hax : (a == x) with
      | true =>
        simp only [if_true, Option.none_or, Option.getD_some, List.getD_eq_getElem?_getD]
        rw [List.getElem?_append_right (by omega), hl']; simp
      | false => simpa using ih

mutual
theorem renam_swap {ps ns : List Str} (hl : ps.length = ns.length) (hnd : ps.Nodup) (h0 : [] ∉ ps) : ∀ f : FFact, f.renam (pairs ps ns) = f.swap ps ns
  | .mk o x p c n ks => by
    rw [FFact.renam, FFact.swap, renams_swap hl hnd h0 ks]
    congr 1
    by_cases hx : x = []
    · subst hx
      have : ps.findIdx? (· == []) = none := by
        rw [List.findIdx?_eq_none_iff]
        intro y hy
        cases hq : (y == ([] : Str)) with
        | false => rfl
        | true =>
          have : y = [] := by simpa using hq
          rw [this] at hy; exact absurd hy h0
      rw [swapN, this]; rfl
    · rw [if_neg (by simpa using hx)]
      exact stands_pairs _ ps ns x rfl hl hnd
theorem renams_swap {ps ns : List Str} (hl : ps.length = ns.length) (hnd : ps.Nodup) (h0 : [] ∉ ps) : ∀ l : List FFact, FFact.renams (pairs ps ns) l = FFact.swaps ps ns l
 | [] => rfl
 | k :: r => by rw [FFact.renams, FFact.swaps, renam_swap hl hnd h0 k, renams_swap hl hnd h0 r]
end

theorem paramsN_pairs : ∀ (r pre : List Str), pre.length + r.length < 698 →
    paramsN r (firstN pre.length) (pairs pre (firstN pre.length)) (firstN pre.length) = (firstN (pre ++ r).length, pairs (pre ++ r) (firstN (pre ++ r).length), firstN (pre ++ r).length)
  | [], pre, _ => by rw [paramsN, List.append_nil]
  | x :: r, pre, h => by
    simp only [List.length_cons] at h
    have hl : (pre ++ [x]).length = pre.length + 1 := by simp
    have h1 : firstN pre.length ++ [freshS (firstN pre.length)] = firstN (pre ++ [x]).length := by rw [hl, firstN]
    rw [paramsN, insS_firstN (by omega), ← pairs_snoc (by rw [firstN_length]), h1, ← hl, paramsN_pairs r (pre ++ [x]) (by rw [hl]; omega), List.append_assoc]; rfl

structure FMethod.Nice (m : FMethod) : Prop where
 plen : m.params.length ≤ 3
 names : m.params.all nameS = true
 nodup : m.params.Nodup
 body : goodB m.body = true
 size : m.body.size ≤ 120

theorem methodsOk_nice {names slots : List Str} : ∀ {l : List FMethod} {cnt : Nat} {m : FMethod}, methodsOk names slots cnt l = true → m ∈ l → m.Nice
  | [], _, _, _, h => by cases h
  | a :: l, cnt, m, h, hm => by
    simp only [methodsOk, Bool.and_eq_true] at h
    rcases List.mem_cons.1 hm with rfl | hm
    · have h1 := h.1
      simp only [methodOk, mB1, params_known, knownB, Bool.and_eq_true, decide_eq_true_eq] at h1
      obtain ⟨⟨-, h2⟩, ⟨h3, h4⟩, -, ⟨h5, h6⟩, -⟩ := h1
      exact ⟨by omega, h3, h4, h5, by omega⟩
    · exact methodsOk_nice h.2 hm

structure FProg.Nice (P : FProg) : Prop where
 mlen : P.methods.length ≤ 16
 mth : ∀ m ∈ P.methods, m.Nice
 main : goodB P.main = true
 size : P.main.size ≤ 120
theorem progOk_nice {P : FProg} (h : progOk P = true) : P.Nice := by
 unfold progOk at h
 cases hc : clsAll P.classes with
 | none => rw [hc] at h; cases h
 | some st =>
  rw [hc] at h
  simp only [Bool.and_eq_true, decide_eq_true_eq] at h
  obtain ⟨h1, h2, h3, h4⟩ := h
  have h5 := knownB_size h2
  simp only [knownB, Bool.and_eq_true] at h2
  exact ⟨by omega, fun m hm => methodsOk_nice h3 hm, h2.1.1, h5⟩

theorem nil_no_name : nameS [] = false := rfl
theorem FMethod.Nice.canon {m : FMethod} (h : m.Nice) : m.canonR = m.canon := by
 have h0 : [] ∉ m.params := fun hm => by
  have := List.all_eq_true.1 h.names _ hm
  rw [nil_no_name] at this; cases this
 have hp := paramsN_pairs m.params [] (by have := h.plen; simp; omega)
 simp only [List.length_nil, List.nil_append] at hp
 have hp' : paramsN m.params [] [] [] = (firstN m.params.length, pairs m.params (firstN m.params.length), firstN m.params.length) := hp
 unfold FMethod.canonR FMethod.canon
 rw [hp']
 simp only
 rw [renam_swap (by rw [firstN_length]) h.nodup h0]
theorem FProg.Nice.canon {P : FProg} (h : P.Nice) : P.canonR = P.canon := by
 unfold FProg.canonR FProg.canon
 congr 1
 exact List.map_congr_left fun m hm => (h.mth m hm).canon

theorem canonR_of {P : FProg} (hP : P.Fair) (hs : P.Slim) (h : P.Nice) : P.CanonR := by
 refine ⟨hP.clen, fun c hcm => ⟨(hP.cls c hcm).parents.1, (hP.cls c hcm).slots.1, (hP.cls c hcm).ilen⟩, by have := h.mlen; omega, fun m hm => ?_, ⟨by have := h.size; omega, good_neat h.main⟩⟩
 have := (h.mth m hm).plen
 have := (h.mth m hm).size
 exact ⟨by omega, good_neat (h.mth m hm).body, Nat.le_of_lt (hP.mth m hm).fact.size, hs m hm⟩

/-! ### Sizes stay -/
mutual
theorem renam_size : ∀ (e : FExp) (sc : List (Str × Str)) (tk : List Str), (FExp.renam sc tk e).1.size = e.size
  | .mk o n t ks, sc, tk => by
    rw [FExp.renam]
    simp only [FExp.size]
    rw [renams_size]
theorem renams_size : ∀ (ks : List FExp) (isLet : Bool) (t t' : Str) (sc : List (Str × Str)) (i : Nat) (tk : List Str), FExp.sizes (FExp.renams isLet t t' sc i tk ks).1 = FExp.sizes ks
  | [], _, _, _, _, _, _ => rfl
  | k :: r, isLet, t, t', sc, i, tk => by
    rw [FExp.renams]
    simp only [FExp.sizes]
    rw [renam_size, renams_size]
end
mutual
theorem frenam_size (sc : List (Str × Str)) : ∀ f : FFact, (f.renam sc).size = f.size ∧ (f.renam sc).pl = f.pl
  | .mk o x p c n ks => by
    obtain ⟨h1, h2⟩ := frenams_size sc ks
    rw [FFact.renam]
    simp only [FFact.size, FFact.pl]
    rw [h1, h2]; exact ⟨rfl, rfl⟩
theorem frenams_size (sc : List (Str × Str)) : ∀ l : List FFact, FFact.sizes (FFact.renams sc l) = FFact.sizes l ∧ FFact.pls (FFact.renams sc l) = FFact.pls l
  | [] => ⟨rfl, rfl⟩
  | k :: r => by
    obtain ⟨h1, h2⟩ := frenam_size sc k
    obtain ⟨h3, h4⟩ := frenams_size sc r
    rw [FFact.renams]
    simp only [FFact.sizes, FFact.pls]
    rw [h1, h2, h3, h4]; exact ⟨rfl, rfl⟩
end
structure FProg.Sm (P : FProg) : Prop where
 clen : P.classes.length < big
 cls : ∀ c ∈ P.classes, c.parents.length < big ∧ c.slots.length < big ∧ c.inits.length < big
 mlen : P.methods.length < big
 mth : ∀ m ∈ P.methods, m.params.length < big ∧ m.fact.size ≤ big ∧ m.fact.pl < big ∧ m.body.size ≤ big
 main : P.main.size ≤ big

theorem sm_of {P : FProg} (h : P.weight ≤ 1048576) : P.Sm := by
 have hf := (prog_fair h).1
 refine ⟨hf.clen, fun c hc => ⟨(hf.cls c hc).parents.1, (hf.cls c hc).slots.1, (hf.cls c hc).ilen⟩, hf.mlen, fun m hm => ?_, Nat.le_of_lt hf.main.size⟩
 have hw : m.fact.weight ≤ 1048576 := by
  have h1 := map_sum_mem (f := FMethod.weight) hm
  unfold FProg.weight at h
  have h2 : m.weight = m.name.length + sumS m.params + m.fact.weight + m.body.weight + 4 := rfl
  omega
 exact ⟨(hf.mth m hm).params.1, Nat.le_of_lt (hf.mth m hm).fact.size, (fact_fair hw).2.1, Nat.le_of_lt (hf.mth m hm).body.size⟩
theorem sm_zero : zeroP.Sm := ⟨by decide, (fun _ h => by cases h), by decide, (fun _ h => by cases h), by decide⟩
theorem sm_canon {P : FProg} (h : P.Sm) (hn : P.Nice) : P.canon.Sm := by
 refine ⟨h.clen, h.cls, by simpa [FProg.canon] using h.mlen, fun m hm => ?_, by show (FExp.renam [] [] P.main).1.size ≤ big; rw [renam_size]; exact h.main⟩
 obtain ⟨m0, hm0, rfl⟩ := List.mem_map.1 hm
 obtain ⟨h1, h2, h3, h4⟩ := h.mth m0 hm0
 rw [← (hn.mth m0 hm0).canon]
 have h0 : [] ∉ m0.params := fun hm => by
  have := List.all_eq_true.1 (hn.mth m0 hm0).names _ hm
  rw [nil_no_name] at this; cases this
 obtain ⟨g1, g2⟩ := frenam_size (pairs m0.params (firstN m0.params.length)) m0.fact
 rw [renam_swap (by rw [firstN_length]) (hn.mth m0 hm0).nodup h0] at g1 g2
 refine ⟨?_, ?_, ?_, ?_⟩
 ·show (firstN m0.params.length).length < big; rw [firstN_length]; exact h1
 ·show (m0.fact.swap m0.params (firstN m0.params.length)).size ≤ big; rw [g1]; exact h2
 ·show (m0.fact.swap m0.params (firstN m0.params.length)).pl < big; rw [g2]; exact h3
 ·show (FExp.renam _ _ m0.body).1.size ≤ big; rw [renam_size]; exact h4
end Go.Proofs.YtaafacnoddjhgaaGreat

/- Contracts of the reference: Canon, Same; the law FormCanons. -/
namespace Go.Proofs.YtaafacnoddjhgaaGreat
open Go.AE

set_option maxRecDepth 10000 in
set_option maxHeartbeats 2000000 in
theorem refSame_spec (a b : FProg) (ha : a.Sm) (hb2 : b.Sm) : PCalls Tryz.prog 8 [a.av, b.av] (.bool (FProg.beq a b)) := by
 have hb : big = 1099511627776 := rfl
 have hcl := ha.clen
 have hcl2 := hb2.clen
 have hml := ha.mlen
 have hml2 := hb2.mlen
 refine PCalls.of_CW tO call8 Tryz.func8 rfl rfl fun s hok => ?_
 have t1 := fun s => refSameExp_spec a.main.size a.main b.main s (Nat.le_refl _) ha.main hb2.main
 have hdef : FProg.beq a b = (FExp.beq a.main b.main && (listB FClass.beq a.classes b.classes && listB FMethod.beq a.methods b.methods)) := rfl
 refine CW.seqCutS [(2, .fptr a.cells 0), (3, .fptr b.cells 0)] ?_ ?_
 ·repeat (first | refine CW.reg (RL.run tO rfl (RL.nil ?_)))
  exact ⟨rfl, (by repeat (first | exact trivial | refine ⟨⟨_, rfl, AVle.refl _⟩, ?_⟩)), Store.sub_refl _⟩
 refine CW.seq ?_
 refine CW.seqCutS [(2, .fptr a.cells 0), (3, .fptr b.cells 0), (30, .bool (!((decide (a.classes.length = b.classes.length) && decide (a.methods.length = b.methods.length)) && FExp.beq a.main b.main)))] ?_ ?_
 ·generalize FExp.beq a.main b.main = p1 at t1 ⊢
  repeat' (first | refine CW.reg ?_ | refine RL.nil ?_ | refine RL.step tO rfl rfl rfl rfl ?_ | refine RL.skip rfl rfl rfl ?_ | refine RL.gstepF tO rfl rfl rfl rfl rfl rfl rfl (fun _ => ?_) (fun _ => ?_) | refine RL.callP rfl rfl rfl rfl rfl (t1 _) ?_)
  all_goals refine ⟨rfl, (by repeat (first | exact trivial | refine ⟨⟨_, rfl, AVle.refl _⟩, ?_⟩ | refine ⟨⟨_, rfl, AVle.of_eq (by (simp_all; (try (rw [Bool.eq_iff_iff]; simp; omega)); (try omega)))⟩, ?_⟩)), Store.sub_refl _⟩
 refine CW.cond rfl (fun h => ?_) (fun h => ?_)
 ·repeat (first | with_reducible refine CW.seq ?_ | with_reducible refine aN ?_ | with_reducible refine aR ?_ | with_reducible refine CW.ret ?_ | refine CW.reg (RL.run tO rfl (RL.nil ?_)))
  have : FProg.beq a b = false := by
   rw [hdef]
   cases h1 : FExp.beq a.main b.main with
   | false => rfl
   | true =>
    cases h2 : listB FClass.beq a.classes b.classes with
    | false => rfl
    | true =>
     cases h3 : listB FMethod.beq a.methods b.methods with
     | false => rfl
     | true => rw [listB_length h2, listB_length h3, h1] at h; simp at h
  rw [this]
  exact Fin.retP hok rfl (AVle.refl _)
 ·have hl : a.classes.length = b.classes.length ∧ a.methods.length = b.methods.length ∧ FExp.beq a.main b.main = true := by
   simp at h; exact ⟨h.1.1, h.1.2, h.2⟩
  obtain ⟨hl1, hl2, hh⟩ := hl
  repeat (first | with_reducible refine CW.seq ?_ | with_reducible refine aN ?_ | with_reducible refine CW.skip ?_ | with_reducible refine CW.block ?_ | refine CW.reg (RL.run tO rfl (RL.nil ?_)))
  refine CW.loop (σ := Nat) (fun j => [(2, .fptr a.cells 0), (3, .fptr b.cells 0), (5, .int .i64 (j : Int))]) (fun _ => sto s []) (fun j => j ≤ a.classes.length ∧ FProg.beq a b = (listB FClass.beq (a.classes.drop j) (b.classes.drop j) && listB FMethod.beq a.methods b.methods)) (fun j => a.classes.length - j) 0 ⟨by omega, by rw [hdef, hh]; rfl⟩ (by repeat (first | exact trivial | refine ⟨⟨_, rfl, AVle.refl _⟩, ?_⟩)) (Store.sub_refl _) ?_
  rintro j ⟨hj, hI⟩
  repeat (first | with_reducible refine CW.seq ?_ | with_reducible refine aN ?_ | refine CW.reg (RL.run tO rfl (RL.nil ?_)))
  refine CW.cond rfl (fun h => ?_) (fun h => ?_)
  ·have hlt : j < a.classes.length := by simpa using h
   obtain ⟨x, hx, hx'⟩ := elem_at (f := FClass.av) hlt
   obtain ⟨y, hy, hy'⟩ := elem_at (f := FClass.av) (by omega : j < b.classes.length)
   obtain ⟨x1, x2, x3⟩ := ha.cls x (List.mem_of_getElem? hx)
   obtain ⟨y1, y2, y3⟩ := hb2.cls y (List.mem_of_getElem? hy)
   rw [listB_drop hx hy] at hI
   repeat (first | with_reducible refine CW.seq ?_ | with_reducible refine aN ?_ | with_reducible refine CW.skip ?_ | with_reducible refine CW.block ?_ | refine CW.drw tO mixed rfl (RD.run rfl ?_))
   refine RD.idx 3 j rfl rfl rfl rfl rfl rfl rfl rfl rfl rfl rfl rfl rfl hx' rfl ?_
   refine RD.idx 8 j rfl rfl rfl rfl rfl rfl rfl rfl rfl rfl rfl rfl rfl hy' rfl ?_
   refine RD.run rfl ?_
   refine RD.calmPP (i := 10) rfl rfl rfl rfl rfl rfl rfl (refSameClass_spec x y x1 x2 x3 y3) ?_; refine RD.run rfl ?_
   refine RD.done rfl ?_
   cases hxy : FClass.beq x y with
   | true =>
    repeat (first | with_reducible refine aN ?_ | with_reducible refine iN ?_ | with_reducible refine CW.skip ?_ | refine CW.reg (RL.run tO rfl (RL.nil ?_)) | refine CW.condF rfl ?_)
    exact ⟨j + 1, ⟨hlt, by rw [hI, hxy, Bool.true_and]⟩, (by repeat (first | exact trivial | refine ⟨⟨_, rfl, AVle.refl _⟩, ?_⟩ | refine ⟨⟨_, rfl, AVle.of_eq (by (rw [i64_succ (by omega)]))⟩, ?_⟩)), Store.sub_refl _, by omega⟩
   | false =>
    repeat (first | with_reducible refine CW.seq ?_ | with_reducible refine aN ?_ | with_reducible refine aR ?_ | with_reducible refine iR ?_ | with_reducible refine CW.ret ?_ | refine CW.reg (RL.run tO rfl (RL.nil ?_)) | refine CW.condT rfl ?_)
    rw [hI, hxy]
    exact Fin.retP hok rfl (AVle.refl _)
  ·have hge : a.classes.length ≤ j := by simpa using h
   rw [listB_ends hge (by omega), Bool.true_and] at hI
   repeat (first | with_reducible refine CW.seq ?_ | with_reducible refine aN ?_ | with_reducible refine aX ?_ | with_reducible refine iH ?_ | with_reducible refine CW.exit ?_ | with_reducible refine CW.block ?_ | refine CW.reg (RL.run tO rfl (RL.nil ?_)))
   refine CW.loop (σ := Nat) (fun j => [(2, .fptr a.cells 0), (3, .fptr b.cells 0), (6, .int .i64 (j : Int))]) (fun _ => sto s []) (fun j => j ≤ a.methods.length ∧ FProg.beq a b = listB FMethod.beq (a.methods.drop j) (b.methods.drop j)) (fun j => a.methods.length - j) 0 ⟨by omega, hI⟩ (by repeat (first | exact trivial | refine ⟨⟨_, rfl, AVle.refl _⟩, ?_⟩)) (Store.sub_refl _) ?_
   rintro j ⟨hj, hI⟩
   repeat (first | with_reducible refine CW.seq ?_ | with_reducible refine aN ?_ | refine CW.reg (RL.run tO rfl (RL.nil ?_)))
   refine CW.cond rfl (fun h => ?_) (fun h => ?_)
   ·have hlt : j < a.methods.length := by simpa using h
    obtain ⟨x, hx, hx'⟩ := elem_at (f := FMethod.av) hlt
    obtain ⟨y, hy, hy'⟩ := elem_at (f := FMethod.av) (by omega : j < b.methods.length)
    obtain ⟨x1, x2, x3, x4⟩ := ha.mth x (List.mem_of_getElem? hx)
    obtain ⟨y1, y2, y3, y4⟩ := hb2.mth y (List.mem_of_getElem? hy)
    rw [listB_drop hx hy] at hI
    rw [FMethod.av, FMethod.cellsG] at hx' hy'
    repeat (first | with_reducible refine CW.seq ?_ | with_reducible refine aN ?_ | with_reducible refine CW.skip ?_ | with_reducible refine CW.block ?_ | refine CW.drw tO mixed rfl (RD.run rfl ?_))
    refine RD.idx 3 j rfl rfl rfl rfl rfl rfl rfl rfl rfl rfl rfl rfl rfl hx' rfl ?_
    refine RD.idx 8 j rfl rfl rfl rfl rfl rfl rfl rfl rfl rfl rfl rfl rfl hy' rfl ?_
    refine RD.run rfl ?_
    refine RD.calmPP (i := 10) rfl rfl rfl rfl rfl rfl rfl (refSameMethod_spec x y x1 x2 y2 (Nat.le_of_lt x3) x4 y4) ?_; refine RD.run rfl ?_
    refine RD.done rfl ?_
    cases hxy : FMethod.beq x y with
    | true =>
     repeat (first | with_reducible refine aN ?_ | with_reducible refine iN ?_ | with_reducible refine CW.skip ?_ | refine CW.reg (RL.run tO rfl (RL.nil ?_)) | refine CW.condF rfl ?_)
     exact ⟨j + 1, ⟨hlt, by rw [hI, hxy, Bool.true_and]⟩, (by repeat (first | exact trivial | refine ⟨⟨_, rfl, AVle.refl _⟩, ?_⟩ | refine ⟨⟨_, rfl, AVle.of_eq (by (rw [i64_succ (by omega)]))⟩, ?_⟩)), Store.sub_refl _, by omega⟩
    | false =>
     repeat (first | with_reducible refine CW.seq ?_ | with_reducible refine aN ?_ | with_reducible refine aR ?_ | with_reducible refine iR ?_ | with_reducible refine CW.ret ?_ | refine CW.reg (RL.run tO rfl (RL.nil ?_)) | refine CW.condT rfl ?_)
     rw [hI, hxy]
     exact Fin.retP hok rfl (AVle.refl _)
   ·have hge : a.methods.length ≤ j := by simpa using h
    rw [listB_ends hge (by omega)] at hI
    repeat (first | with_reducible refine CW.seq ?_ | with_reducible refine aN ?_ | with_reducible refine aX ?_ | with_reducible refine iH ?_ | with_reducible refine CW.ret ?_ | with_reducible refine CW.exit ?_ | refine CW.reg (RL.run tO rfl (RL.nil ?_)))
    rw [hI]
    exact Fin.retP hok rfl (AVle.refl _)

def FProg.canonE (P : FProg) : FProg := if progOk P then P.canon else zeroP
theorem sm_canonE {P : FProg} (h : P.Sm) : P.canonE.Sm := by
 unfold FProg.canonE
 split
 ·rename_i hok; exact sm_canon h (progOk_nice hok)
 ·exact sm_zero

set_option maxRecDepth 10000 in
theorem refCanon_spec (P : FProg) (hP : P.Fair) (hs : P.Slim) : PCalls Tryz.prog 7 [P.av] (.tup [P.canonE.av, err (progOk P)]) := by
 refine PCalls.of_CW tO call7 Tryz.func7 rfl rfl fun s hok => ?_
 have hp := fun s => refProg_spec P s hP
 rw [prog_known] at hp
 unfold FProg.canonE
 cases hq : progOk P with
 | true =>
  rw [hq] at hp
  have hn := progOk_nice hq
  have hc := refCanonOf_spec P (canonR_of hP hs hn)
  rw [hn.canon] at hc
  repeat (first | with_reducible refine CW.seq ?_ | refine CW.reg ?_ | refine RL.step tO rfl rfl rfl rfl ?_)
  refine RL.allocL tO hok rfl rfl rfl rfl rfl rfl rfl (fun b2 hok => ?_)
  repeat (first | with_reducible refine CW.seq ?_ | with_reducible refine aN ?_ | refine CW.reg ?_ | refine RL.nil ?_ | refine RL.step tO rfl rfl rfl rfl ?_)
  refine RL.callP rfl rfl rfl rfl rfl (hp _) ?_
  repeat (first | with_reducible refine CW.seq ?_ | with_reducible refine aN ?_ | with_reducible refine CW.skip ?_ | refine CW.reg ?_ | refine RL.nil ?_ | refine CW.condF rfl ?_ | refine RL.step tO rfl rfl rfl rfl ?_)
  refine RL.callPP rfl rfl rfl rfl rfl hc ?_
  repeat (first | with_reducible refine aN ?_ | with_reducible refine CW.ret ?_ | refine RL.nil ?_ | refine RL.step tO rfl rfl rfl rfl ?_ | refine RL.storeL tO hok rfl rfl rfl rfl rfl rfl rfl rfl rfl (by repeat (first | exact Sel.here | apply Sel.there)) (by exact rfl) (fun hok => ?_))
  exact Fin.retP hok (resA_cellT rfl rfl (Sel.get Sel.here hok) rfl rfl) (AVle.refl _)
 | false =>
  rw [hq] at hp
  repeat (first | with_reducible refine CW.seq ?_ | refine CW.reg ?_ | refine RL.step tO rfl rfl rfl rfl ?_)
  refine RL.allocL tO hok rfl rfl rfl rfl rfl rfl rfl (fun b2 hok => ?_)
  repeat (first | with_reducible refine CW.seq ?_ | with_reducible refine aN ?_ | refine CW.reg ?_ | refine RL.nil ?_ | refine RL.step tO rfl rfl rfl rfl ?_)
  refine RL.callP rfl rfl rfl rfl rfl (hp _) ?_
  repeat (first | with_reducible refine CW.seq ?_ | with_reducible refine aN ?_ | with_reducible refine aR ?_ | with_reducible refine CW.ret ?_ | refine CW.reg ?_ | refine RL.nil ?_ | refine CW.condT rfl ?_ | refine RL.step tO rfl rfl rfl rfl ?_ | refine RL.storeL tO hok rfl rfl rfl rfl rfl rfl rfl rfl rfl (by repeat (first | exact Sel.here | apply Sel.there)) (by exact rfl) (fun hok => ?_))
  exact Fin.retP hok (resA_cellT rfl rfl (Sel.get Sel.here hok) rfl rfl) (AVle.tup (.cons zeroP_le (.one (AVle.refl _))))

theorem shapeCanon_spec' (P : FProg) (hP : P.Fair) (hs : P.Slim) : PCalls Tryz.prog 6 [P.av] (.tup [P.canonE.av, err (progOk P)]) := fun s => shapeCanon_spec P s hP hs

set_option maxRecDepth 10000 in
set_option maxHeartbeats 1000000 in
theorem formCanons_spec (P : FProg) (hP : P.Fair) (hs : P.Slim) (hm : P.Sm) : PCalls Tryz.prog 3 [P.av] (.bool true) := by
 refine PCalls.of_CW tO call3 Tryz.func3 rfl rfl fun s hok => ?_
 have c1 := shapeCanon_spec' P hP hs
 have c2 := refCanon_spec P hP hs
 have c3 := refSame_spec P.canonE P.canonE (sm_canonE hm) (sm_canonE hm)
 rw [(FProg.beq_iff _ _).2 rfl] at c3
 generalize P.canonE = C at c1 c2 c3
 cases hq : progOk P
 all_goals
  rw [hq] at c1 c2
  repeat (first | with_reducible refine CW.seq ?_ | with_reducible refine aN ?_ | refine CW.reg (RL.run tO rfl (RL.nil ?_)) | refine CW.reg ?_ | refine RL.step tO rfl rfl rfl rfl ?_)
 all_goals
  refine RL.callPP rfl rfl rfl rfl rfl c1 ?_
  repeat (first | refine RL.step tO rfl rfl rfl rfl ?_)
 all_goals
  refine RL.newBox tO rfl rfl rfl rfl rfl rfl rfl (fun _ => rfl) rfl rfl (fun _ => rfl) rfl rfl rfl rfl ?_
  repeat (first | with_reducible refine CW.seq ?_ | with_reducible refine aN ?_ | refine CW.reg ?_ | refine RL.nil ?_ | refine RL.step tO rfl rfl rfl rfl ?_)
 all_goals
  refine RL.callPP rfl rfl rfl rfl rfl c2 ?_
  repeat (first | refine RL.step tO rfl rfl rfl rfl ?_)
 all_goals
  refine RL.newBox tO rfl rfl rfl rfl rfl rfl rfl (fun _ => rfl) rfl rfl (fun _ => rfl) rfl rfl rfl rfl ?_
  repeat (first | with_reducible refine CW.seq ?_ | with_reducible refine aN ?_ | refine CW.reg ?_ | refine RL.nil ?_ | refine RL.step tO rfl rfl rfl rfl ?_)
 all_goals
  refine RL.callPP rfl rfl rfl rfl rfl c3 ?_
  repeat (first | refine RL.step tO rfl rfl rfl rfl ?_)
 all_goals
  refine RL.callP rfl rfl rfl rfl rfl (known_true _) ?_
  repeat (first | with_reducible refine aN ?_ | with_reducible refine CW.ret ?_ | refine RL.nil ?_ | refine RL.step tO rfl rfl rfl rfl ?_)
 all_goals exact Fin.retP hok rfl (AVle.refl _)
end Go.Proofs.YtaafacnoddjhgaaGreat

/- The law FormCanons, closed: it returns true for every input of bulk at most 2^20. -/
namespace Go.Proofs.YtaafacnoddjhgaaGreat
open Go.AE Go.ChangeShapes Go.WideShapes Go.ChangeAt Go.RowKit

namespace formCanons

theorem own : ownKnob Tryz.prog.godebug = none := by kernel_rfl

set_option maxRecDepth 100000 in
theorem contract (H : Type) (enc : TypeId × Value → H) (W : World) (base : Nat) (args : Array Value) (ds gs : List (DataW H)) (before : List MemPlace)
    (hval : ∀ (j : Nat) t v, Tryz.f3.params[j]? = some t → args[j]? = some v → Value.okWide Tryz.prog W .any base t v)
    (hW : DataW.Whole enc Tryz.prog Tryz.f3.params.toList Rows.formCanonsSpec.vars false W args.toList ds gs before) (hk : Rows.uptoSmall H (ds ++ gs) = true) :
    Calls Tryz.prog 3 args W fun e W' => ∃ v, e = .returned v ∧ Rows.formCanonsSpec.post enc Tryz.prog Tryz.f3 false true false false W args v W' := by
  have hW' := hW
  obtain ⟨p, q, hA0, hV, rfl, hfz, hnd⟩ := hW
  have hA : DataW.TrodAll enc Tryz.prog W 0 (fun _ => true) true Tryz.f3.params.toList args.toList ds p := hA0
  rw [Tryz.params3] at hA hval
  obtain ⟨v0, vs0, d0, ds0, p0, q0, hargs, rfl, rfl, h0, r0⟩ := trodAll_cons hA
  obtain ⟨rfl, rfl, rfl⟩ := trodAll_nil r0
  obtain rfl : args = #[v0] := by cases args; simp_all
  obtain ⟨n0, h0⟩ := h0
  obtain ⟨x0, g0, b0⟩ := trod_prog _ _ _ h0
  have hb : Rows.uptoBulkAll ([d0] ++ gs) ≤ 1048576 := of_decide_eq_true hk
  simp only [List.cons_append, List.nil_append, Rows.uptoBulkAll] at hb
  simp only at b0
  have hw0 : x0.weight ≤ 1048576 := by omega
  have hr0 := rel_agg (val_agg Tryz.underlying29 (hval 0 29 v0 rfl rfl)) g0
  exact close_true laidOut (by rw [Tryz.params3]; decide +kernel) rfl rfl (fun hg => by subst hg; rfl) hW'
    (.cons _ _ _ _ hr0 .nil)
    (formCanons_spec x0 (prog_fair hw0).1 (prog_fair hw0).2 (sm_of hw0) _)

set_option maxRecDepth 100000 in
theorem lifted (os : Os) (started : os.Started) (H : Type) (enc : TypeId × Value → H) (F : Stop.Interp) :
    ReturnsInHanded {} Tryz.checked os 3 .any ((Rows.OpenSpec.upto Rows.formCanonsSpec).pre6 enc Tryz.prog Tryz.f3 Rows.formCanonsUptoRow.domain false) (((Rows.OpenSpec.upto Rows.formCanonsSpec).at F).post enc Tryz.prog Tryz.f3 false true false false) := by
  refine returnsInHanded_of_cond (C := Tryz.checked) (s := Rows.OpenSpec.upto Rows.formCanonsSpec) (k := Rows.uptoSmall) rfl own started (by kernel_rfl) Tryz.func3
    (OpenSpec.witness (enc := enc) (C := Tryz.checked) (s := Rows.OpenSpec.upto Rows.formCanonsSpec) (k := Rows.uptoSmall) rfl false ⟨#[], #[.agg #[.slice none 0 0, .slice none 0 0, .int .i64 0, .int .i64 0, .string ByteArray.empty, .slice none 0 0]], []⟩ 8 (by kernel_rfl) (by kernel_rfl) (by kernel_rfl)
      (x := ([.agg [.nil, .nil, .agg [.lit (.int .i64 0), .lit (.int .i64 0), .lit (.string []), .nil]]], [], [])) (by kernel_rfl) rfl (by kernel_rfl)) ?_
  intro W base args ds gs before hval hW _ hk _
  exact contract H enc W base args ds gs before hval hW hk

theorem over : Rows.formCanonsUptoRow.holds Tryz.pinned (Rows.OpenSpec.upto Rows.formCanonsSpec) :=
  OpenClaim.holds_of_cond 3 Tryz.f3 rfl rfl rfl rfl rfl rfl rfl ⟨rfl, rfl, rfl, rfl, rfl⟩ rfl rfl rfl rfl rfl (by kernel_rfl) Tryz.func3 (by kernel_rfl)
    (of_decide_eq_true (by kernel_rfl)) (by unfold Func.isWrapper; first | (rw [if_pos (by decide +kernel)]; kernel_rfl) | (rw [if_neg (by decide +kernel)]; exact ⟨rfl, rfl⟩))
    (fun os started H enc _ F => lifted os started H enc F)

theorem proved : Rows.FormCanonsUptoSaid :=
 over
end formCanons
end Go.Proofs.YtaafacnoddjhgaaGreat

