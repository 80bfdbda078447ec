import Derived.Test.YtdeiinhccdlfiaaGreatVd
import Derived.WalkKit
import Derived.Defers
import Derived.Recover
set_option linter.unusedVariables false
set_option linter.unusedSimpArgs false
/- Chapter 19: contracts of cond: what is left is caught (held). -/
namespace Go.Proofs.YtdeiinhccdlfiaaGreat
open Go.AE Go.Cond

def inBlockS (id : Nat) (Q : Exit → Act → List Frame → World → Prop) : Exit → Act → List Frame → World → Prop
 | .exit id', a, cs, w => if id' = id then Q .normal a cs w else Q (.exit id') a cs w
 | e, a, cs, w => Q e a cs w
theorem wpS_block {P : Program} {Q : Exit → Act → List Frame → World → Prop} {a : Act} {cs : List Frame} {w : World} {id : Nat} {c : Code} (h : c.wpS P (inBlockS id Q) a cs w) : (Code.block id c).wpS P Q a cs w := by
 intro b k hb hr
 obtain ⟨e, a₁, cs₁, w₁, hq, harr⟩ := h b (.inBlock id :: k) hb hr
 cases e with
 | normal => exact ⟨.normal, a₁, cs₁, w₁, hq, .head step_block (Steps.trans harr (.one step_inBlock))⟩
 | exit id' =>
  by_cases hid : id' = id
  ·simp only [inBlockS, hid, if_true] at hq
   exact ⟨.normal, a₁, cs₁, w₁, hq, .head step_block (harr k (by simp [exitTo, hid]))⟩
  ·simp only [inBlockS, hid, if_false] at hq
   refine ⟨.exit id', a₁, cs₁, w₁, hq, fun k' hk => .head step_block (harr k' ?_)⟩
   have : (id == id') = false := by simp; exact fun h => hid h.symm
   simp [exitTo, this, hk]
 | goto l => exact ⟨_, a₁, cs₁, w₁, hq, fun k' hk => .head step_block (harr k' (by simp [gotoIn, hk]))⟩
 | ret => exact ⟨_, a₁, cs₁, w₁, hq, .of_steps (.one step_block) harr⟩
 | panic ch => exact ⟨_, a₁, cs₁, w₁, hq, .of_steps (.one step_block) harr⟩
 | outgrown => exact ⟨_, a₁, cs₁, w₁, hq, .of_steps (b := b) (k := k) (cs := cs₁) (e := .outgrown) (.one step_block) harr⟩

def leaveA (c : List (Nat × Int)) (v : Int) : AV := .iface 140 (.agg [chainA c, .int .i64 v])
def stopA (e : Int) : AV := .iface 102 (.agg [.int .i64 e])
def leaveV (to val : Value) : Value := .iface 140 (.agg #[to, val])
def stopV (e : Value) : Value := .iface 102 (.agg #[e])

theorem rel_leave {w : World} {p : Prot} {x : Value} {c : List (Nat × Int)} {v : Int} (h : Rel w p x (leaveA c v)) : ∃ o, x = leaveV (.pointer o) (.int .i64 v) ∧ Rel w p (.pointer o) (chainA c) := by
 cases h with
 | iface _ y _ h =>
 cases h with
 | agg cs xs h =>
 generalize hcs : cs.toList = l at h
 cases h with
 | cons a _ l' _ ha ht =>
 cases ht with
 | cons b _ l'' _ hb hn =>
 cases hn
 cases hb
 have : cs = #[a, .int .i64 v] := by rw [← Array.toArray_toList (xs := cs), hcs]
 subst this
 have : ∃ o, a = .pointer o := by cases c <;> cases ha <;> exact ⟨_, rfl⟩
 obtain ⟨o, rfl⟩ := this
 exact ⟨o, rfl, ha⟩
theorem rel_stop {w : World} {p : Prot} {x : Value} {e : Int} (h : Rel w p x (stopA e)) : x = stopV (.int .i64 e) := by
 cases h with
 | iface _ y _ h =>
 cases h with
 | agg cs xs h =>
 generalize hcs : cs.toList = l at h
 cases h with
 | cons a _ l' _ ha ht =>
 cases ht
 cases ha
 have : cs = #[.int .i64 e] := by rw [← Array.toArray_toList (xs := cs), hcs]
 rw [this]; rfl
theorem rel_int {w : World} {p : Prot} {x : Value} {v : Int} (h : Rel w p x (.int .i64 v)) : x = .int .i64 v := by cases h; rfl

theorem held_idle (b : Nat) (w : World) :
  CallsD Tryz.prog 114 #[.pointer (some ⟨b, 0, none⟩)] .returning w fun e u' w' => e = .returned (.tuple #[]) ∧ u' = .returning ∧ w' = w := by
 have hnil : ∀ w : World, (binOp BinOp.eql 20 .nilIface .nilIface).run Tryz.prog w = .ok (.bool true) w := fun _ => by kernel_rfl
 refine callsD_of_wpS Tryz.func114 rfl fun c₀ cs hu => ?_
 apply wpS_seq
 apply wpS_region
 simp [wpOpsS, go_sem, recoverD, hu, Tryz.ntmps114, Exit.thenS]
 refine wpS_of_wp ?_
 go_wp2
 cases c₀
 simp_all [bodyPostS, results, Tryz.results114, Exit.thenS]

theorem guard_iface (x y : Operand) (e : Value) (w : World) : (eqGuard BinOp.eql 20 x y (stopV e) .nilIface).run Tryz.prog w = .ok () w := by
 unfold eqGuard stopV
 simp
theorem eq_iface (e : Value) (w : World) : (binOp BinOp.eql 20 (stopV e) .nilIface).run Tryz.prog w = .ok (.bool false) w := by kernel_rfl
theorem ta_ok (x y : Value) (w : World) : (Instr.typeAssert (leaveV x y) 20 140 true).run Tryz.prog w = .ok (.tuple #[.agg #[x, y], .bool true]) w := by kernel_rfl
theorem ta_no (e : Value) (w : World) : (Instr.typeAssert (stopV e) 20 140 true).run Tryz.prog w = .ok (.tuple #[.agg #[.pointer none, .int .i64 0], .bool false]) w := by
 have h : (Instr.typeAssert (stopV e) 20 140 true).run Tryz.prog w = (if 102 = 140 then (pure (Value.tuple #[.agg #[e], .bool true]) : Sem Value) else (do pure (Value.tuple #[← zeroValue 140, .bool false]))).run Tryz.prog w := by kernel_rfl
 have hz : (zeroValue 140).run Tryz.prog w = .ok (.agg #[.pointer none, .int .i64 0]) w := by kernel_rfl
 rw [h, if_neg (by decide), Sem.run_bind, hz]
 rfl
set_option maxRecDepth 10000 in
theorem held_stop (b : Nat) (w : World) (e : Value) (rest : List PanicEntry) :
  CallsD Tryz.prog 114 #[.pointer (some ⟨b, 0, none⟩)] (.panicking ({ v := stopV e, recovered := false } :: rest)) w
   fun o u' w' => o = .panicked [{ v := stopV e, recovered := false }] ∧ u' = .panicking ({ v := stopV e, recovered := true } :: rest) ∧ w' = w := by
 refine callsD_of_wpS Tryz.func114 rfl fun c₀ cs hu => ?_
 apply wpS_seq
 apply wpS_region
 simp [wpOpsS, go_sem, recoverD, hu, Tryz.ntmps114, Exit.thenS]
 apply wpS_block
 apply wpS_seq
 apply wpS_region
 simp [wpOpsS, go_sem, Exit.thenS, guard_iface, eq_iface]
 refine wpS_cond (t := false) (by simp [Act.eval, Act.put]) ?_
 simp only [Bool.false_eq_true, if_false]
 apply wpS_seq
 apply wpS_region
 simp [wpOpsS, go_sem, Exit.thenS, ta_no]
 refine wpS_cond (t := false) (by simp [Act.eval, Act.put]) ?_
 simp only [Bool.false_eq_true, if_false]
 apply wpS_seq
 apply wpS_region
 simp [wpOpsS, go_sem, Exit.thenS]
 apply wpS_region
 simp [wpOpsS, go_sem, Exit.thenS]
 simp [Instr.panic, stopV]
 simp only [Oper.upon, inBlockS]
 cases c₀
 simp_all [bodyPostS, stopV]

theorem alloc_at (w : World) (o : Obj) (i : Nat) : (w.alloc o).heap[i]? = if i = w.heap.size then some o else w.heap[i]? := by
 by_cases e : i = w.heap.size
 ·rw [if_pos e, e]; exact heap_alloc_here w o
 ·rw [if_neg e]
  by_cases h : i < w.heap.size
  ·exact heap_alloc_lt w o i h
  ·rw [Array.getElem?_eq_none (by simp; omega), Array.getElem?_eq_none (by omega)]
theorem alloc_setRow (w : World) (cs cs' : Array Value) (T : TypeId) : (w.alloc (.cells cs T)).setRow w.heap.size cs' = w.alloc (.cells cs' T) := by
 have h : ((w.alloc (.cells cs T)).setRow w.heap.size cs').heap = (w.alloc (.cells cs' T)).heap := by
  refine Array.ext_getElem? fun i => ?_
  simp only [World.setRow]
  rw [Array.getElem?_modify, alloc_at, alloc_at]
  by_cases e : i = w.heap.size
  ·subst e; simp
  ·rw [if_neg (Ne.symm e), if_neg e, if_neg e]
 unfold World.setRow at h ⊢
 simp only at h
 rw [h]
 rfl
theorem store_at (w : World) (b i : Nat) (cs : Array Value) (T : TypeId) (v : Value) (hc : w.heap[b]? = some (.cells cs T (0, 0))) (hi : i < cs.size) (hv : v.oneCell' = true) : (store ⟨b, i, none⟩ v).run Tryz.prog w = .ok () (w.setRow b (cs.setIfInBounds i v)) := by
 have h1 : w.cell? ⟨b, i, none⟩ = some cs[i] := by rw [cells_of_box hc]; simp [hi]
 have h2 : w.frozen? ⟨b, i, none⟩ = false := by simp [World.frozen?, hc]
 have h3 : w.setCell ⟨b, i, none⟩ v = w.setRow b (cs.setIfInBounds i v) := by
  simp only [World.setCell, World.setRow]
  congr 1
  refine Array.ext_getElem? fun k => ?_
  rw [Array.getElem?_modify, Array.getElem?_modify]
  by_cases e : b = k
  ·subst e; rw [if_pos rfl, if_pos rfl, hc]; rfl
  ·rw [if_neg e, if_neg e]
 rw [run_store _ _ _ _ _ hv, h1]
 simp only [h2, Bool.false_eq_true, if_false]
 rw [h3]
set_option maxRecDepth 10000 in
theorem held_leave (b : Nat) (w : World) (x y : Value) (rest : List PanicEntry) (hrest : ∀ e ∈ rest, e.goexit = false) (h : ([x, y].all fun v => v.oneCell') = true) (vs : Array Value) (hc : w.heap[b]? = some (.cells vs 135 (0, 0))) (hs : vs.size = 1) :
  CallsD Tryz.prog 114 #[.pointer (some ⟨b, 0, none⟩)] (.panicking ({ v := leaveV x y, recovered := false } :: rest)) w
   fun o u' w' => o = .returned (.tuple #[]) ∧ u' = .panicking ({ v := leaveV x y, recovered := true } :: rest) ∧ w' = (w.alloc (.cells #[x, y] 140)).setRow b #[.pointer (some ⟨w.heap.size, 0, none⟩)] := by
 have hg : ∀ (p q : Operand) (w : World), (eqGuard BinOp.eql 20 p q (leaveV x y) .nilIface).run Tryz.prog w = .ok () w := by intro p q w; unfold eqGuard leaveV; simp
 have heq : ∀ w : World, (binOp BinOp.eql 20 (leaveV x y) .nilIface).run Tryz.prog w = .ok (.bool false) w := fun _ => by kernel_rfl
 refine callsD_of_wpS Tryz.func114 rfl fun c₀ cs hu => ?_
 apply wpS_seq
 apply wpS_region
 simp [wpOpsS, go_sem, recoverD, hu, Tryz.ntmps114, Exit.thenS]
 apply wpS_block
 apply wpS_seq
 apply wpS_region
 simp [wpOpsS, go_sem, Exit.thenS, hg, heq]
 refine wpS_cond (t := false) (by simp [Act.eval, Act.put]) ?_
 simp only [Bool.false_eq_true, if_false]
 apply wpS_seq
 apply wpS_region
 simp [wpOpsS, go_sem, Exit.thenS, ta_ok]
 refine wpS_cond (t := true) (by simp [Act.eval, Act.put]) ?_
 simp only [if_true]
 apply wpS_seq
 apply wpS_region
 simp [wpOpsS, go_sem, Exit.thenS]
 rw [store_at _ _ 0 _ _ x (heap_alloc_here _ _) (by simp) (by simp at h; exact h.1), alloc_setRow, Result.andThen_ok, store_at _ _ 1 _ _ y (heap_alloc_here _ _) (by simp) (by simp at h; exact h.2), alloc_setRow, Result.andThen_ok]
 simp only [Oper.upon]
 apply wpS_region
 have hb : b < w.heap.size := (Array.getElem?_eq_some_iff.1 hc).1
 have hst := store_at (w.alloc (.cells #[x, y] 140)) b 0 vs 135 (.pointer (some ⟨w.heap.size, 0, none⟩)) ((heap_alloc_lt w _ b hb).trans hc) (by omega) rfl
 have hv : vs.setIfInBounds 0 (.pointer (some ⟨w.heap.size, 0, none⟩)) = #[.pointer (some ⟨w.heap.size, 0, none⟩)] := by
  obtain ⟨a, rfl⟩ := Array.size_eq_one_iff.1 hs
  rfl
 rw [hv] at hst
 have hsa : ∀ w1 : World, (Instr.storeAt 135 (.pointer (some ⟨b, 0, none⟩)) (.pointer (some ⟨w.heap.size, 0, none⟩))).run Tryz.prog w1 = (store ⟨b, 0, none⟩ (.pointer (some ⟨w.heap.size, 0, none⟩))).run Tryz.prog w1 := fun _ => by kernel_rfl
 simp [wpOpsS, execOp, Act.eval, Act.put, Region.wanted, Exit.thenS, Sem.run_bind, hsa, hst, Oper.upon]
 cases c₀
 simp_all [bodyPostS, inBlockS, results, Tryz.results114, Exit.thenS]

theorem after_set {s s1 : Store} {w w1 : World} {p p1 : Prot} {T : TypeId} {v : Value} {b : Nat} (hle : Le w p w1 p1) (hk : Kept s s1 w p w1 p1) (hwf : Wf w1 p1 s1) (hbox : w1.heap[b]? = some (.cells #[v] T (0, 0)))
  (hb : w.heap.size ≤ b) (hp : ∀ o, ¬ p1 b o) (hs : s1 b = none) (x : Value) :
  Le w p (w1.setRow b #[x]) p1 ∧ Kept s s1 w p (w1.setRow b #[x]) p1 ∧ Wf (w1.setRow b #[x]) p1 s1 ∧ Le w1 p1 (w1.setRow b #[x]) p1 ∧ (w1.setRow b #[x]).heap[b]? = some (.cells #[x] T (0, 0)) := by
 have hwf' : Wf w1 p1 (s1.set b (.box T [.any])) := by
  refine ⟨fun b' o hb' => ?_, hwf.lt⟩
  by_cases e : b' = b
  ·subst e; rw [Store.set_same] at hb'; cases hb'
   exact ⟨_, hbox, .cons _ _ _ _ (.any v) .nil, hp⟩
  ·rw [Store.set_ne _ _ e] at hb'; exact hwf.obj b' o hb'
 obtain ⟨k1, k2, k3⟩ := box_write hwf' sSam (vs' := #[x]) (cs' := [.any]) (fun vs hv => by rw [hbox] at hv; cases hv; rfl) (.cons _ _ _ _ (.any x) .nil) _ rfl
 have hheap : ∀ b', b' ≠ b → (w1.setRow b #[x]).heap[b']? = w1.heap[b']? := by
  intro b' hb'
  simp only [World.setRow]
  rw [Array.getElem?_modify, if_neg (Ne.symm hb')]
 refine ⟨hle.trans k1, ⟨fun b' hb' hn => (hheap b' (by omega)).trans (hk.heap b' hb' hn), hk.dom, hk.prot⟩, k3.sub (fun b' => ?_), k1, ?_⟩
 ·by_cases e : b' = b
  ·subst e; exact .inr hs
  ·left; rw [Store.set_ne _ _ e, Store.set_ne _ _ e]
 ·simp only [World.setRow]
  rw [Array.getElem?_modify, if_pos rfl, hbox]; rfl
theorem setCell_one {w : World} {b : Nat} {v x : Value} {T : TypeId} (h : w.heap[b]? = some (.cells #[v] T (0, 0))) : w.setCell ⟨b, 0, none⟩ x = w.setRow b #[x] := by
 simp only [World.setCell, World.setRow]
 congr 1
 refine Array.ext_getElem? fun i => ?_
 rw [Array.getElem?_modify, Array.getElem?_modify]
 by_cases e : b = i
 ·subst e; rw [if_pos rfl, if_pos rfl, h]; rfl
 ·rw [if_neg e, if_neg e]

theorem drop_exits : ∀ {rest : List PanicEntry}, (∀ e ∈ rest, e.goexit = false) → rest.dropWhile (fun e => !e.goexit) = []
 | [], _ => rfl
 | e :: r, h => by rw [List.dropWhile_cons, h e List.mem_cons_self]; simp only [Bool.not_false, if_true]; exact drop_exits fun e' he => h e' (List.mem_cons_of_mem _ he)
def HeldPost (R : AOut → Store → Prop) (o : AOut) (s' : Store) : Prop :=
 (∃ v, R (.ret (.int .i64 v)) s' ∧ o = .ret (.tup [.int .i64 v, .pnil])) ∨
 (∃ c v, R (.panic (leaveA c v)) s' ∧ o = .ret (.tup [.int .i64 0, .fptr [chainA c, .int .i64 v] 0])) ∨
 ∃ e, R (.panic (stopA e)) s' ∧ o = .panic (stopA e)
def Held (o : AOut) : Prop := (∃ v, o = .ret (.int .i64 v)) ∨ (∃ c v, o = .panic (leaveA c v)) ∨ ∃ e, o = .panic (stopA e)

set_option maxRecDepth 10000 in
theorem heldA_spec (f : FuncId) (cap : List AV) (s : Store) (R : AOut → Store → Prop) (hR : ∀ o s', R o s' → Held o) (h : ACalls Tryz.prog f cap s R) :
  ACalls Tryz.prog 88 [.func f [] cap] s (HeldPost R) := by
 refine ⟨call88, fun w p vs hwf hrel => ?_⟩
 cases hrel with
 | cons v _ vs _ hv ht =>
 cases ht
 cases hv with
 | func _ fa cs _ _ ha hc =>
 have hcall := h.1
 obtain rfl : fa = #[] := by have := ha.length; simpa using this
 unfold CallsX
 go_enter_defers Tryz.func88, Tryz.ntmps88
 go_wp2_with fail
 obtain ⟨hn, hle, hk, hwf0⟩ := new_obj hwf (.cells #[Value.pointer none] 135) (.box 135 [.pnil]) (fun w' h1 h2 h3 => ⟨#[.pointer none], h1, h3 _ _ (.cons _ _ _ _ .pnil .nil), fun o hp => absurd (hwf.lt _ _ hp) (by omega)⟩)
 have hlt : w.heap.size < (w.alloc (.cells #[Value.pointer none] 135)).heap.size := by simp
 have hsub : Store.Sub s (s.set w.heap.size (.box 135 [.pnil])) := Store.sub_set _ _ _ hn
 rw [hcall]
 have hcc := h.2 _ p cs.toList (hwf0.sub hsub) (hc.mono hle)
 rw [Array.toArray_toList] at hcc
 show Calls _ _ _ _ _
 refine Calls.mono hcc ?_
 rintro e w1 ⟨hno, o, s1, p1, h1, h2, h3, h4, h5⟩
 have hbox : w1.heap[w.heap.size]? = some (.cells #[Value.pointer none] 135 (0, 0)) := (h4.heap _ hlt hn).trans (heap_alloc_here _ _)
 have hs1 : s1 w.heap.size = none := h4.dom _ hlt hn
 have hpA : ∀ o, ¬ p1 w.heap.size o := fun o hp => absurd (hwf.lt _ _ (h4.prot _ _ hlt hn hp)) (by omega)
 have hkA : Kept s s w p (w.alloc (.cells #[Value.pointer none] 135)) p := hk.sub hsub
 have hlt1 : w.heap.size < w1.heap.size := (Array.getElem?_eq_some_iff.1 hbox).1
 rcases hR _ _ h2 with ⟨v, rfl⟩ | ⟨c, v, rfl⟩ | ⟨e', rfl⟩
 ·cases e with
  | returned r =>
   have hr : r = .int .i64 v := rel_int h1
   subst hr
   have hcell : w1.cell? ⟨w.heap.size, 0, none⟩ = some (.pointer none) := by rw [cells_of_box hbox]; rfl
   have hfro : w1.frozen? ⟨w.heap.size, 0, none⟩ = false := by simp [World.frozen?, hbox]
   go_wp2
   rw [setCell_one hbox]
   obtain ⟨q1, q2, q3, q4, q5⟩ := after_set (hle.trans h3) (hkA.trans hle.size h4) h5 hbox (Nat.le_refl _) hpA hs1 (.pointer none)
   have hcell2 : (w1.setRow w.heap.size #[Value.pointer none]).cell? ⟨w.heap.size, 0, none⟩ = some (.pointer none) := by rw [cells_of_box q5]; rfl
   refine leaves_cons (f := 114) (args := #[.pointer (some ⟨w.heap.size, 0, none⟩)]) (by simp) (by simp [go_sem]) ?_
   refine (held_idle w.heap.size _).mono ?_
   rintro e u' w'' ⟨rfl, rfl, rfl⟩
   refine ⟨.tuple #[.int .i64 v, .pointer none], by simp [results, Tryz.results88, go_sem, hcell2], by simp, .ret (.tup [.int .i64 v, .pnil]), s1, p1, .tup _ _ (.cons _ _ _ _ (.int _ _) (.cons _ _ _ _ .pnil .nil)), .inl ⟨v, h2, rfl⟩, q1, q2, q3⟩
  | panicked ch => exact h1.elim
  | outgrown => exact absurd rfl hno
 ·cases e with
  | returned r => exact h1.elim
  | panicked ch =>
   obtain ⟨v0, ⟨rest, rfl, hrest⟩, hv⟩ := h1
   obtain ⟨o', rfl, ho⟩ := rel_leave hv
   have hdrop := drop_exits hrest
   have a1 := alloc_le h5.lt (.cells #[.pointer o', .int .i64 v] 140) True
   have a2 := alloc_kept (s := s1) (w := w1) (p := p1) (.cells #[.pointer o', .int .i64 v] 140) True
   have a3 := alloc_wf h5 (.cells #[.pointer o', .int .i64 v] 140) True
   have a4 := alloc_cells (w := w1) (p := p1) [.pointer o', .int .i64 v] 140
   have hbox' := (heap_alloc_lt w1 (.cells #[.pointer o', .int .i64 v] 140) _ hlt1).trans hbox
   obtain ⟨q1, q2, q3, q4, q5⟩ := after_set ((hle.trans h3).trans a1) ((hkA.trans hle.size h4).trans (hle.trans h3).size a2) a3 hbox' (Nat.le_refl _) (fun o hp => by
    rcases hp with hp | ⟨e, -⟩
    ·exact hpA o hp
    ·omega) hs1 (.pointer (some ⟨w1.heap.size, 0, none⟩))
   have hcell2 : ((w1.alloc (.cells #[.pointer o', .int .i64 v] 140)).setRow w.heap.size #[Value.pointer (some ⟨w1.heap.size, 0, none⟩)]).cell? ⟨w.heap.size, 0, none⟩ = some (.pointer (some ⟨w1.heap.size, 0, none⟩)) := by rw [cells_of_box q5]; rfl
   show Leaves _ _ _ _ _ _ _
   refine leaves_cons (f := 114) (args := #[.pointer (some ⟨w.heap.size, 0, none⟩)]) (by simp) (by simp [go_sem]) ?_
   refine (held_leave w.heap.size w1 (.pointer o') (.int .i64 v) rest hrest rfl _ hbox rfl).mono ?_
   rintro e u' w'' ⟨rfl, rfl, rfl⟩
   simp only [settle, hdrop]
   refine ⟨.tuple #[.int .i64 0, .pointer (some ⟨w1.heap.size, 0, none⟩)], by simp [results, Tryz.results88, go_sem, hcell2], by simp, .ret (.tup [.int .i64 0, .fptr [chainA c, .int .i64 v] 0]), s1, p1.also w1.heap.size True, ?_, .inr (.inl ⟨c, v, h2, rfl⟩), q1, q2, q3⟩
   exact .tup _ _ (.cons _ _ _ _ (.int _ _) (.cons _ _ _ _ (.fptr w1.heap.size 0 0 0 [.pointer o', .int .i64 v] _ rfl (a4.mono q4) (.cons _ _ _ _ ((ho.mono a1).mono q4) (.cons _ _ _ _ (.int _ _) .nil))) .nil))
  | outgrown => exact absurd rfl hno
 ·cases e with
  | returned r => exact h1.elim
  | panicked ch =>
   obtain ⟨v0, ⟨rest, rfl, hrest⟩, hv⟩ := h1
   obtain rfl := rel_stop hv
   show Leaves _ _ _ _ _ _ _
   refine leaves_cons (f := 114) (args := #[.pointer (some ⟨w.heap.size, 0, none⟩)]) (by simp) (by simp [go_sem]) ?_
   refine (held_stop w.heap.size w1 (.int .i64 e') rest).mono ?_
   rintro e u' w'' ⟨rfl, rfl, rfl⟩
   simp only [raised]
   refine ⟨by simp, .panic (stopA e'), s1, p1, ⟨_, ⟨_, rfl, ?_⟩, hv⟩, .inr (.inr ⟨e', h2, rfl⟩), hle.trans h3, hkA.trans hle.size h4, h5⟩
   intro e he
   simp at he
   rcases he with rfl | he
   ·rfl
   ·exact hrest e he
  | outgrown => exact absurd rfl hno
theorem held_spec (f : FuncId) (cap : List AV) (K : LS) (C : AOut → LS → Prop) (hC : ∀ o K', C o K' → Held o) (h : LCalls Tryz.prog f cap K C) :
  LCalls Tryz.prog 88 [.func f [] cap] K (fun o K' =>
   (∃ v, C (.ret (.int .i64 v)) K' ∧ o = .ret (.tup [.int .i64 v, .pnil])) ∨
   (∃ c v, C (.panic (leaveA c v)) K' ∧ o = .ret (.tup [.int .i64 0, .fptr [chainA c, .int .i64 v] 0])) ∨
   ∃ e, C (.panic (stopA e)) K' ∧ o = .panic (stopA e)) := by
 intro s hok
 refine (heldA_spec f cap _ _ (fun o s' ⟨K', _, _, h⟩ => hC o K' h) (h s hok)).mono ?_
 rintro o s' (⟨v, ⟨K', rfl, h1, h2⟩, rfl⟩ | ⟨c, v, ⟨K', rfl, h1, h2⟩, rfl⟩ | ⟨e, ⟨K', rfl, h1, h2⟩, rfl⟩)
 ·exact ⟨K', rfl, h1, .inl ⟨v, h2, rfl⟩⟩
 ·exact ⟨K', rfl, h1, .inr (.inl ⟨c, v, h2, rfl⟩)⟩
 ·exact ⟨K', rfl, h1, .inr (.inr ⟨e, h2, rfl⟩)⟩
end Go.Proofs.YtdeiinhccdlfiaaGreat

/- Chapter 19: contracts of cond: what all kinds of expressions do. -/
namespace Go.Proofs.YtdeiinhccdlfiaaGreat
open Go.AE Go.Cond

def outA (c : List (Nat × Int)) : Out → AOut
 | .val v => .ret (.int .i64 v)
 | .leave d v => .panic (leaveA (c.drop (c.length - (d + 1))) v)
 | .stop e => .panic (stopA e.num)
def EvalPost (rb mb : Nat) (P : List CExp) (c : List (Nat × Int)) (r : Res) (o : AOut) (K : LS) : Prop := ∃ own, K = rK rb mb P own r.2 ∧ o = outA c r.1
structure Pre (P : List CExp) (x : CExp) (s : Sc) (c : List (Nat × Int)) (st : St) : Prop where
 x : OkE P.length x
 sc : OkSc P.length s
 rs : c.map Prod.snd = s.rs
 nd : (c.map Prod.fst).Nodup
 hs : s.hs.length + st.fuel ≤ 1000
 rl : c.length + st.fuel ≤ 1000
 phi : phi st ≤ 2000
 picks : ∀ p ∈ st.picks, 0 ≤ p
def EvalC (f : FuncId) (rb mb : Nat) (P : List CExp) (x : CExp) (s : Sc) (c : List (Nat × Int)) (st : St) (r : Res) : Prop :=
 ∀ own, LCalls Tryz.prog f [.ptr rb 0, (rawE x).av, scA s c] (rK rb mb P own st) (EvalPost rb mb P c r)
def BelowC (rb mb : Nat) (P : List CExp) (f : Nat) : Prop :=
 ∀ x s c st, Pre P x s c st → st.fuel < f → EvalC 67 rb mb P x s c st (run P x s st)

theorem BelowC.get {rb mb : Nat} {P : List CExp} {f : Nat} (ih : BelowC rb mb P f) {x : CExp} {s : Sc} {c : List (Nat × Int)} {st : St} (h : Pre P x s c st) (hf : st.fuel < f) (own : Own) :
  LCalls Tryz.prog 67 [.ptr rb 0, .agg [.int .i64 (rawE x).op, .int .i64 (rawE x).n, .slc 3 ((rawE x).kids.map CRaw.av) .fro], .agg [.int .i64 s.hand, hsA s.hs, chainA c]] (rK rb mb P own st) (EvalPost rb mb P c (run P x s st)) := by
 have := ih x s c st h hf own
 rw [CRaw.av_eq] at this
 exact this
theorem EvalPost.out {rb mb : Nat} {P : List CExp} {c : List (Nat × Int)} {o : Out} {st : St} {g : Int → St → Res} {x : AV} {own : Own} (h : AOut.panic x = outA c o) : EvalPost rb mb P c (andThen (o, st) g) (.panic x) (rK rb mb P own st) := by
 cases o with
 | val v => cases h
 | leave d v => exact ⟨own, rfl, h⟩
 | stop e => exact ⟨own, rfl, h⟩
theorem EvalPost.outE {rb mb : Nat} {P : List CExp} {c : List (Nat × Int)} {o : Out} {st : St} {x : AV} {own : Own} (h : AOut.panic x = outA c o) : EvalPost rb mb P c (o, st) (.panic x) (rK rb mb P own st) := ⟨own, rfl, h⟩
theorem Pre.next {P : List CExp} {x y : CExp} {s : Sc} {c : List (Nat × Int)} {st st' : St} {o : Out} (h : Pre P x s c st) (hx : ∀ e, o ≠ .stop e) {z : CExp} {s' : Sc} (hr : run P z s' st = (o, st')) (hy : OkE P.length y) : Pre P y s c st' ∧ st'.fuel < st.fuel := by
 have h1 := run_burns P z s' st hr hx
 have h2 := run_phi P (st.fuel + 1) z s' st (Nat.lt_succ_self _)
 obtain ⟨l, h3⟩ := run_picks P z s' st
 rw [hr] at h2 h3
 have h4 : Cond.phi st' ≤ Cond.phi st - 1 := by
  cases o with
  | val v => exact h2
  | leave d v => exact h2
  | stop e => exact absurd rfl (hx e)
 refine ⟨⟨hy, h.sc, h.rs, h.nd, ?_, ?_, ?_, fun p hp => h.picks p ?_⟩, h1⟩
 ·have := h.hs; omega
 ·have := h.rl; omega
 ·have := h.phi; omega
 ·rw [h3]; exact List.mem_append_right _ hp

theorem Pre.small {P : List CExp} {x : CExp} {s : Sc} {c : List (Nat × Int)} {st : St} (h : Pre P x s c st) : Small s c st := by
 have hb : big = 1099511627776 := rfl
 refine ⟨?_, ?_, ?_⟩
 ·have := h.hs; omega
 ·have := h.rl; omega
 ·have := h.phi
  unfold Cond.phi at this
  omega
section
variable {rb mb : Nat} {P : List CExp} {f : Nat}
set_option maxRecDepth 10000 in
theorem integer_spec {n : Int} {s : Sc} {c : List (Nat × Int)} {st : St} : EvalC 51 rb mb P (.int n) s c st (.val n, st) := by
 intro own
 refine LCalls.of_CW tO call51 Tryz.func51 rfl rfl fun s₀ hok => ?_
 unfold scA rawE
 rw [CRaw.av_eq]
 repeat (first | (with_reducible first | apply CW.seq | apply aN | apply CW.ret) | refine wR rfl ?_)
 exact Fin.retL hok rfl aRfl (Sels.allZ _) ⟨own, rfl, rfl⟩
set_option maxRecDepth 10000 in
theorem hand_spec' {s : Sc} {c : List (Nat × Int)} {st : St} : EvalC 52 rb mb P .hand s c st (.val s.hand, st) := by
 intro own
 refine LCalls.of_CW tO call52 Tryz.func52 rfl rfl fun s₀ hok => ?_
 unfold scA rawE
 rw [CRaw.av_eq]
 repeat (first | (with_reducible first | apply CW.seq | apply aN | apply CW.ret) | refine wR rfl ?_)
 exact Fin.retL hok rfl aRfl (Sels.allZ _) ⟨own, rfl, rfl⟩
set_option maxRecDepth 10000 in
theorem seq_spec (ih : BelowC rb mb P f) {a b : CExp} {s : Sc} {c : List (Nat × Int)} {st : St} (h : Pre P (.seq a b) s c st) (hf : st.fuel < f) :
  EvalC 55 rb mb P (.seq a b) s c st (andThen (run P a s st) fun _ st => run P b s st) := by
 intro own
 have hcall := ih.get (x := a) ⟨h.x.1, h.sc, h.rs, h.nd, h.hs, h.rl, h.phi, h.picks⟩ hf own
 rcases hr : run P a s st with ⟨o1, st1⟩
 rw [hr] at hcall
 refine LCalls.of_CW tO call55 Tryz.func55 rfl rfl fun s₀ hok => ?_
 unfold scA rawE
 simp only [CRaw.av_eq, CRaw.op, CRaw.n, CRaw.kids, List.map_cons, List.map_nil]
 repeat (first | (with_reducible first | apply CW.seq | apply aN) | refine wR rfl ?_)
 refine CW.drw tO mixed rfl (RD.run rfl ?_)
 refine RD.idx 3 0 rfl rfl rfl rfl rfl rfl rfl rfl rfl rfl rfl rfl rfl (congrArg some (CRaw.av_eq _)) rfl ?_; refine RD.run rfl ?_
 refine RD.callL 6 rfl rfl rfl rfl rfl rfl rfl hcall hok (Sels.allZ _) ?_ ?_
 rotate_left
 ·rintro x _ ⟨own1, rfl, ho⟩ hok
  rw [List.append_nil] at hok ⊢
  repeat (first | with_reducible apply aP)
  exact Fin.panicL hok aRfl (Sels.allZ _) (by first | exact EvalPost.out ho | (simp only [andThen, hr]; first | exact EvalPost.out ho | exact EvalPost.outE ho))
 rintro x _ ⟨own1, rfl, ho⟩ hok
 rw [List.append_nil] at hok ⊢
 cases o1 with
 | leave d v => cases ho
 | stop e => cases ho
 | val v =>
 cases ho
 refine RD.run rfl ?_
 refine RD.done rfl ?_
 obtain ⟨h1, hf1⟩ := h.next (y := b) (by simp) hr h.x.2
 have hcall := ih.get h1 (by omega) own1
 rcases hr2 : run P b s st1 with ⟨o2, st2⟩
 rw [hr2] at hcall
 repeat (with_reducible first | apply CW.seq | apply aN)
 refine CW.drw tO mixed rfl (RD.run rfl ?_)
 refine RD.idx 3 1 rfl rfl rfl rfl rfl rfl rfl rfl rfl rfl rfl rfl rfl (congrArg some (CRaw.av_eq _)) rfl ?_; refine RD.run rfl ?_
 refine RD.callL 6 rfl rfl rfl rfl rfl rfl rfl hcall hok (Sels.allZ _) ?_ ?_
 rotate_left
 ·rintro x _ ⟨own1, rfl, ho⟩ hok
  rw [List.append_nil] at hok ⊢
  repeat (first | with_reducible apply aP)
  exact Fin.panicL hok aRfl (Sels.allZ _) (by first | exact EvalPost.out ho | (simp only [andThen, hr2]; first | exact EvalPost.out ho | exact EvalPost.outE ho))
 rintro x _ ⟨own1, rfl, ho⟩ hok
 rw [List.append_nil] at hok ⊢
 cases o2 with
 | leave d v => cases ho
 | stop e => cases ho
 | val v =>
 cases ho
 refine RD.run rfl ?_
 refine RD.done rfl ?_
 repeat (with_reducible first | apply aN | apply CW.ret)
 exact Fin.retL hok rfl aRfl (Sels.allZ _) ⟨own1, by rw [andThen, hr2], by rw [andThen, hr2]; rfl⟩
set_option maxRecDepth 10000 in
theorem with_spec (hand v : Int) (l : List Hd) (c : List (Nat × Int)) : PCalls Tryz.prog 82 [.agg [.int .i64 hand, hsA l, chainA c], .int .i64 v] (.agg [.int .i64 v, hsA l, chainA c]) := by
 refine PCalls.of_CW tO call82 Tryz.func82 rfl rfl fun s hok => ?_
 have h1 := hsA_cells l
 have h2 := chainA_cells c
 have h3 := hsA_one l
 have h4 := chainA_one c
 generalize hsA l = x at h1 h3 ⊢
 generalize chainA c = y at h2 h4 ⊢
 refine CW.seq (CW.reg ?_)
 refine RL.boxL hok rfl rfl rfl rfl rfl rfl (fun b2 hok => ?_)
 skip
 refine RL.allocL tO hok rfl rfl rfl rfl rfl rfl rfl (fun b4 hok => ?_)
 repeat (first | (with_reducible first | apply CW.seq | apply aN) | refine CW.reg ?_ | refine RL.nil ?_ | refine wS rfl ?_ | refine RL.loadL tO hok rfl rfl rfl rfl rfl rfl (by repeat (first | exact Sel.here | apply Sel.there)) (by exact rfl) ?_ | refine RL.storeL tO hok rfl rfl rfl rfl rfl rfl rfl rfl rfl (by repeat (first | exact Sel.here | apply Sel.there)) (by exact rfl) (fun hok => ?_))
 have h5 : [AV.int .i64 v, x, y].all oneC = true := by simp at h3 h4 ⊢; exact ⟨rfl, h3, h4⟩
 refine RL.storeL tO hok rfl rfl rfl rfl rfl rfl rfl rfl h5 (by repeat (first | exact Sel.here | apply Sel.there)) rfl (fun hok => ?_)
 repeat (first | (with_reducible first | apply aN | apply CW.ret) | refine RL.nil ?_)
 exact Fin.retP hok (resA_cell rfl rfl (Sel.get Sel.here hok) rfl) aRfl
set_option maxRecDepth 10000 in
theorem say_spec (hP : ∀ e ∈ P, OkE P.length e) (ih : BelowC rb mb P f) {a : CExp} {s : Sc} {c : List (Nat × Int)} {st : St} (h : Pre P (.say a) s c st) (hf : st.fuel < f) :
  EvalC 54 rb mb P (.say a) s c st (andThen (run P a s st) fun v st => (.val v, st.tell (s.ev 1 0 v))) := by
 intro own
 have hcall := ih.get (x := a) ⟨h.x, h.sc, h.rs, h.nd, h.hs, h.rl, h.phi, h.picks⟩ hf own
 rcases hr : run P a s st with ⟨o1, st1⟩
 rw [hr] at hcall
 refine LCalls.of_CW tO call54 Tryz.func54 rfl rfl fun s₀ hok => ?_
 unfold scA rawE
 simp only [CRaw.av_eq, CRaw.op, CRaw.n, CRaw.kids, List.map_cons, List.map_nil]
 repeat (first | (with_reducible first | apply CW.seq | apply aN) | refine wR rfl ?_)
 refine CW.drw tO mixed rfl (RD.run rfl ?_)
 refine RD.idx 3 0 rfl rfl rfl rfl rfl rfl rfl rfl rfl rfl rfl rfl rfl (congrArg some (CRaw.av_eq _)) rfl ?_; refine RD.run rfl ?_
 refine RD.callL 6 rfl rfl rfl rfl rfl rfl rfl hcall hok (Sels.allZ _) ?_ ?_
 rotate_left
 ·rintro x _ ⟨own1, rfl, ho⟩ hok
  rw [List.append_nil] at hok ⊢
  repeat (first | with_reducible apply aP)
  exact Fin.panicL hok aRfl (Sels.allZ _) (by first | exact EvalPost.out ho | (simp only [andThen, hr]; first | exact EvalPost.out ho | exact EvalPost.outE ho))
 rintro x _ ⟨own1, rfl, ho⟩ hok
 rw [List.append_nil] at hok ⊢
 cases o1 with
 | leave d v => cases ho
 | stop e => cases ho
 | val v =>
 cases ho
 refine RD.run rfl ?_
 refine RD.done rfl ?_
 obtain ⟨h1, hf1⟩ := h.next (y := a) (by simp) hr h.x
 repeat (first | (with_reducible first | apply CW.seq | apply aN) | refine CW.reg ?_ | refine wS rfl ?_)
 refine RL.callL rfl rfl rfl rfl rfl (tell_spec rb mb P own1 s c st1 h.rs h1.small 1 0 _) hok (Sels.allZ _) ?_ (fun _ _ ⟨h, _⟩ _ => by cases h)
 rintro _ _ ⟨⟨⟩, own2, rfl⟩ hok
 rw [List.append_nil] at hok ⊢
 repeat (first | (with_reducible first | apply CW.seq | apply aN | apply CW.ret) | refine wR rfl ?_ | refine RL.nil ?_)
 exact Fin.retL hok rfl aRfl (Sels.allZ _) ⟨own2, rfl, rfl⟩
end
end Go.Proofs.YtdeiinhccdlfiaaGreat

/- Chapter 19: contracts of cond: what all kinds of expressions do. -/
namespace Go.Proofs.YtdeiinhccdlfiaaGreat
open Go.AE Go.Cond

theorem av_mk (o n : Int) (ks : List CRaw) : (CRaw.mk o n ks).av = .agg [.int .i64 o, .int .i64 n, .slc 3 (ks.map CRaw.av) .fro] := by rw [CRaw.av_eq]; rfl
section
variable {rb mb : Nat} {P : List CExp} {f : Nat}
theorem Pre.val {x y : CExp} {s : Sc} {c : List (Nat × Int)} {st st' : St} {v : Int} (hP : ∀ e ∈ P, OkE P.length e) (h : Pre P x s c st) (hy : OkE P.length y) (hr : run P y s st = (.val v, st')) : InR v := by
 have := run_ok hP rfl (st.fuel + 1) y s st hy h.sc (Nat.lt_succ_self _)
 rw [hr] at this
 exact this
set_option maxRecDepth 10000 in
theorem add_spec (hP : ∀ e ∈ P, OkE P.length e) (ih : BelowC rb mb P f) {a b : CExp} {s : Sc} {c : List (Nat × Int)} {st : St} (h : Pre P (.add a b) s c st) (hf : st.fuel < f) :
  EvalC 53 rb mb P (.add a b) s c st (andThen (run P a s st) fun v st => andThen (run P b s st) fun u st => (.val (clamp (v + u)), st)) := by
 intro own
 have hcall := ih.get (x := a) ⟨h.x.1, h.sc, h.rs, h.nd, h.hs, h.rl, h.phi, h.picks⟩ hf own
 rcases hr : run P a s st with ⟨o1, st1⟩
 rw [hr] at hcall
 refine LCalls.of_CW tO call53 Tryz.func53 rfl rfl fun s₀ hok => ?_
 unfold scA rawE
 simp only [CRaw.av_eq, CRaw.op, CRaw.n, CRaw.kids, List.map_cons, List.map_nil]
 repeat (first | (with_reducible first | apply CW.seq | apply aN) | refine wR rfl ?_)
 refine CW.drw tO mixed rfl (RD.run rfl ?_)
 refine RD.idx 3 0 rfl rfl rfl rfl rfl rfl rfl rfl rfl rfl rfl rfl rfl (congrArg some (CRaw.av_eq _)) rfl ?_; refine RD.run rfl ?_
 refine RD.callL 6 rfl rfl rfl rfl rfl rfl rfl hcall hok (Sels.allZ _) ?_ ?_
 rotate_left
 ·rintro x _ ⟨own1, rfl, ho⟩ hok
  rw [List.append_nil] at hok ⊢
  repeat (first | with_reducible apply aP)
  exact Fin.panicL hok aRfl (Sels.allZ _) (by first | exact EvalPost.out ho | (simp only [andThen, hr]; first | exact EvalPost.out ho | exact EvalPost.outE ho))
 rintro x _ ⟨own1, rfl, ho⟩ hok
 rw [List.append_nil] at hok ⊢
 cases o1 with
 | leave d v => cases ho
 | stop e => cases ho
 | val v =>
 cases ho
 refine RD.run rfl ?_
 refine RD.done rfl ?_
 obtain ⟨h1, hf1⟩ := h.next (y := b) (by simp) hr h.x.2
 have hv := h.val hP h.x.1 hr
 have hcall := ih.get h1 (by omega) own1
 rcases hr2 : run P b s st1 with ⟨o2, st2⟩
 rw [hr2] at hcall
 repeat (with_reducible first | apply CW.seq | apply aN)
 refine CW.drw tO mixed rfl (RD.run rfl ?_)
 refine RD.idx 4 1 rfl rfl rfl rfl rfl rfl rfl rfl rfl rfl rfl rfl rfl (congrArg some (CRaw.av_eq _)) rfl ?_; refine RD.run rfl ?_
 refine RD.callL 7 rfl rfl rfl rfl rfl rfl rfl hcall hok (Sels.allZ _) ?_ ?_
 rotate_left
 ·rintro x _ ⟨own1, rfl, ho⟩ hok
  rw [List.append_nil] at hok ⊢
  repeat (first | with_reducible apply aP)
  exact Fin.panicL hok aRfl (Sels.allZ _) (by first | exact EvalPost.out ho | (simp only [andThen, hr2]; first | exact EvalPost.out ho | exact EvalPost.outE ho))
 rintro x _ ⟨own1, rfl, ho⟩ hok
 rw [List.append_nil] at hok ⊢
 cases o2 with
 | leave d v => cases ho
 | stop e => cases ho
 | val u =>
 cases ho
 refine RD.run rfl ?_
 refine RD.done rfl ?_
 have hu := h1.val hP h.x.2 hr2
 have hw : IntKind.wrap .i64 (v + u) = v + u := i64_wrap (by unfold InR at hv hu; omega) (by unfold InR at hv hu; omega)
 repeat (first | (with_reducible first | apply CW.seq | apply aN | apply CW.ret) | refine CW.reg ?_ | refine RL.nil ?_ | refine wS rfl ?_ | refine RL.stepX tO rfl rfl rfl rfl ?_)
 have hcl : ∀ w : Int, (if 1000000000 < (if -1000000000 > w then -1000000000 else w) then 1000000000 else (if -1000000000 > w then -1000000000 else w)) = clamp w := by
  intro w; unfold clamp most; (repeat' split) <;> omega
 rw [hw]
 exact Fin.retL hok rfl (AVle.of_eq (congrArg (AV.int .i64) (hcl _))) (Sels.allZ _) ⟨own1, by rw [andThen, hr2]; rfl, by rw [andThen, hr2]; rfl⟩
set_option maxRecDepth 10000 in
theorem test_spec (hP : ∀ e ∈ P, OkE P.length e) (ih : BelowC rb mb P f) {a b b' : CExp} {s : Sc} {c : List (Nat × Int)} {st : St} (h : Pre P (.test a b b') s c st) (hf : st.fuel < f) :
  EvalC 56 rb mb P (.test a b b') s c st (andThen (run P a s st) fun v st => if v = 0 then run P b' s st else run P b s st) := by
 intro own
 have hcall := ih.get (x := a) ⟨h.x.1, h.sc, h.rs, h.nd, h.hs, h.rl, h.phi, h.picks⟩ hf own
 rcases hr : run P a s st with ⟨o1, st1⟩
 rw [hr] at hcall
 refine LCalls.of_CW tO call56 Tryz.func56 rfl rfl fun s₀ hok => ?_
 unfold scA rawE
 simp only [CRaw.av_eq, CRaw.op, CRaw.n, CRaw.kids, List.map_cons, List.map_nil]
 repeat (first | (with_reducible first | apply CW.seq | apply aN) | refine wR rfl ?_)
 refine CW.drw tO mixed rfl (RD.run rfl ?_)
 refine RD.idx 3 0 rfl rfl rfl rfl rfl rfl rfl rfl rfl rfl rfl rfl rfl (congrArg some (CRaw.av_eq _)) rfl ?_; refine RD.run rfl ?_
 refine RD.callL 6 rfl rfl rfl rfl rfl rfl rfl hcall hok (Sels.allZ _) ?_ ?_
 rotate_left
 ·rintro x _ ⟨own1, rfl, ho⟩ hok
  rw [List.append_nil] at hok ⊢
  repeat (first | with_reducible apply aP)
  exact Fin.panicL hok aRfl (Sels.allZ _) (by first | exact EvalPost.out ho | (simp only [andThen, hr]; first | exact EvalPost.out ho | exact EvalPost.outE ho))
 rintro x _ ⟨own1, rfl, ho⟩ hok
 rw [List.append_nil] at hok ⊢
 cases o1 with
 | leave d v => cases ho
 | stop e => cases ho
 | val v =>
 cases ho
 refine RD.run rfl ?_
 refine RD.done rfl ?_
 repeat (first | with_reducible apply aN)
 refine CW.cond rfl (fun hv => ?_) (fun hv => ?_)
 ·have hv : v ≠ 0 := by simpa using hv
  obtain ⟨h1, hf1⟩ := h.next (y := b) (by simp) hr h.x.2.1
  have hcall := ih.get h1 (by omega) own1
  rcases hr2 : run P b s st1 with ⟨o2, st2⟩
  rw [hr2] at hcall
  rw [andThen, if_neg hv, hr2]
  repeat (first | with_reducible apply CW.seq)
  refine CW.drw tO mixed rfl (RD.run rfl ?_)
  refine RD.idx 3 1 rfl rfl rfl rfl rfl rfl rfl rfl rfl rfl rfl rfl rfl (congrArg some (CRaw.av_eq _)) rfl ?_; refine RD.run rfl ?_
  refine RD.callL 6 rfl rfl rfl rfl rfl rfl rfl hcall hok (Sels.allZ _) ?_ ?_
  rotate_left
  ·rintro x _ ⟨own1, rfl, ho⟩ hok
   rw [List.append_nil] at hok ⊢
   repeat (first | with_reducible apply aP)
   exact Fin.panicL hok aRfl (Sels.allZ _) (by first | exact EvalPost.out ho | (simp only [andThen, hr2]; first | exact EvalPost.out ho | exact EvalPost.outE ho))
  rintro x _ ⟨own1, rfl, ho⟩ hok
  rw [List.append_nil] at hok ⊢
  cases o2 with
  | leave d v => cases ho
  | stop e => cases ho
  | val u =>
  cases ho
  refine RD.run rfl ?_
  refine RD.done rfl ?_
  repeat (with_reducible first | apply aN | apply aR | apply CW.ret)
  exact Fin.retL hok rfl aRfl (Sels.allZ _) ⟨own1, rfl, rfl⟩
 ·have hv : v = 0 := by simpa using hv
  obtain ⟨h1, hf1⟩ := h.next (y := b') (by simp) hr h.x.2.2
  have hcall := ih.get h1 (by omega) own1
  rcases hr2 : run P b' s st1 with ⟨o2, st2⟩
  rw [hr2] at hcall
  rw [andThen, if_pos hv, hr2]
  repeat (with_reducible first | apply CW.seq | apply aN | apply CW.skip)
  refine CW.drw tO mixed rfl (RD.run rfl ?_)
  refine RD.idx 3 2 rfl rfl rfl rfl rfl rfl rfl rfl rfl rfl rfl rfl rfl (congrArg some (CRaw.av_eq _)) rfl ?_; refine RD.run rfl ?_
  refine RD.callL 6 rfl rfl rfl rfl rfl rfl rfl hcall hok (Sels.allZ _) ?_ ?_
  rotate_left
  ·rintro x _ ⟨own1, rfl, ho⟩ hok
   rw [List.append_nil] at hok ⊢
   repeat (first | with_reducible apply aP)
   exact Fin.panicL hok aRfl (Sels.allZ _) (by first | exact EvalPost.out ho | (simp only [andThen, hr2]; first | exact EvalPost.out ho | exact EvalPost.outE ho))
  rintro x _ ⟨own1, rfl, ho⟩ hok
  rw [List.append_nil] at hok ⊢
  cases o2 with
  | leave d v => cases ho
  | stop e => cases ho
  | val u =>
  cases ho
  refine RD.run rfl ?_
  refine RD.done rfl ?_
  repeat (with_reducible first | apply aN | apply CW.ret)
  exact Fin.retL hok rfl aRfl (Sels.allZ _) ⟨own1, rfl, rfl⟩
set_option maxRecDepth 10000 in
theorem choice_spec {s : Sc} {c r : List (Nat × Int)} {st : St} (hc : c.map Prod.snd = s.rs) (hsm : Small s c st) (b : Nat) (n v : Int) (own : Own) :
  LCalls Tryz.prog 86 [.ptr rb 0, .agg [.int .i64 s.hand, hsA s.hs, chainA c], chainA ((b, n) :: r), .int .i64 v] (rK rb mb P own st) (fun o K => o = .panic (leaveA ((b, n) :: r) v) ∧ ∃ own', K = rK rb mb P own' (st.tell (s.ev 4 n v))) := by
 have ht := tell_spec rb mb P own s c st hc hsm 4 n v
 refine LCalls.of_CW tO call86 Tryz.func86 rfl rfl fun s₀ hok => ?_
 unfold scA at ht
 unfold leaveA
 rw [chainA]
 repeat (first | (with_reducible first | apply CW.seq | apply aN) | refine wR rfl ?_)
 refine CW.drw tO mixed rfl (RD.run rfl ?_)
 refine RD.callL 7 rfl rfl rfl rfl rfl rfl rfl ht hok (Sels.allZ _) ?_ (fun _ _ ⟨h, _⟩ _ => by cases h)
 rintro _ _ ⟨⟨⟩, own2, rfl⟩ hok
 rw [List.append_nil] at hok ⊢
 refine RD.run rfl (RD.done rfl ?_)
 repeat (first | with_reducible apply aN | refine CW.reg ?_ | refine wS rfl ?_)
 refine RL.panic rfl rfl rfl rfl ?_
 exact Fin.panicL hok aRfl (Sels.allZ _) ⟨rfl, own2, rfl⟩
set_option maxRecDepth 10000 in
theorem find_spec {n : Int} {s : Sc} {c : List (Nat × Int)} {st : St} (hc : c.map Prod.snd = s.rs) : EvalC 64 rb mb P (.find n) s c st (.val (if s.rs.contains n then 1 else 0), st) := by
 intro own
 refine LCalls.of_CW tO call64 Tryz.func64 rfl rfl fun s₀ hok => ?_
 unfold scA rawE
 rw [av_mk]
 repeat (first | with_reducible apply CW.seq | refine CW.reg ?_ | refine wS rfl ?_)
 refine RL.allocL tO hok rfl rfl rfl rfl rfl rfl rfl (fun b6 hok => ?_)
 repeat (first | (with_reducible first | apply CW.seq | apply aN) | refine CW.reg ?_ | refine RL.nil ?_ | refine wS rfl ?_)
 refine RL.callL rfl rfl rfl rfl rfl (restarts_spec c) hok .nil ?_ (fun _ _ ⟨_, h, _⟩ _ => by cases h)
 rintro _ _ ⟨b10, ⟨⟩, rfl⟩ hok
 repeat (first | (with_reducible first | apply aN | apply CW.block) | refine RL.nil ?_)
 refine CW.dropL hok ((.own b10, .box 104 [chainA c]) :: (.own b6, .box 3 [.int .i64 0]) :: rK rb mb P own st) (by simp only [rK]; repeat (first | exact Sels.nil | (apply Sels.cons; · repeat (first | exact Sel.here | apply Sel.there)))) fun hok => ?_
 refine CW.rangeFL hok rfl (by decide) (rsIter b10 c) (.cons .here .nil) (fun rem K => ∃ rest, s.rs.contains n = (rest.map Prod.snd).contains n ∧ rem = sufs rest ∧ K = (.own b6, .box 3 [.int .i64 0]) :: rK rb mb P own st) (fun j K => j = .ret ∧ s.rs.contains n = true ∧ K = (.own b6, .box 3 [.int .i64 1]) :: rK rb mb P own st) (fun _ _ => False) ⟨c, by rw [hc], rfl, rfl⟩ ?_ ?_ ?_ (fun _ _ h => h.elim)
 ·rintro s₁ x rem K ⟨rest, hpr, hrem, rfl⟩ hok
  cases rest with
  | nil => cases hrem
  | cons h r =>
  obtain ⟨rfl, rfl⟩ : x = h :: r ∧ rem = sufs r := by simpa [sufs] using hrem
  obtain ⟨bh, nh⟩ := h
  rw [chainA]
  repeat (first | (with_reducible first | apply CW.seq | apply aN | apply CW.block) | refine wR rfl ?_)
  refine CW.drw tO mixed rfl (RD.run rfl ?_)
  refine RD.done rfl ?_
  repeat (first | with_reducible apply aN)
  refine CW.cond rfl (fun hn => ?_) (fun hn => ?_)
  ·have hn : nh = n := by simpa using hn
   repeat (first | (with_reducible first | apply CW.seq | apply aN | apply iR | apply CW.ret) | refine CW.reg ?_ | refine RL.nil ?_ | refine RL.storeL tO hok rfl rfl rfl rfl rfl rfl rfl rfl rfl (by repeat (first | exact Sel.here | apply Sel.there)) (by exact rfl) (fun hok => ?_))
   exact At.mk _ hok (Sels.allZ _) ⟨rfl, by rw [hpr, hn]; simp, rfl⟩
  ·have hn : nh ≠ n := by simpa using hn
   repeat (with_reducible first | apply iN | apply CW.skip)
   exact At.mk _ hok (Sels.allZ _) ⟨r, by rw [hpr]; simp [Ne.symm hn], rfl, rfl⟩
 ·rintro K ⟨rest, hpr, hrem, rfl⟩ hok
  cases rest with
  | cons h r => cases hrem
  | nil =>
  have hpr : s.rs.contains n = false := by rw [hpr]; rfl
  rw [hpr]
  repeat (first | (with_reducible first | apply CW.seq | apply aN | apply iN | apply CW.ret) | refine CW.reg ?_ | refine RL.nil ?_ | refine RL.storeL tO hok rfl rfl rfl rfl rfl rfl rfl rfl rfl (by repeat (first | exact Sel.here | apply Sel.there)) (by exact rfl) (fun hok => ?_))
  exact Fin.retL (K := rK rb mb P own st) hok (resA_cell rfl rfl (Sel.get Sel.here hok) rfl) aRfl (by simp only [rK]; repeat (first | exact Sels.nil | (apply Sels.cons; · repeat (first | exact Sel.here | apply Sel.there)))) ⟨own, rfl, rfl⟩
 ·rintro _ K ⟨rfl, hpr, rfl⟩ hok
  rw [hpr]
  repeat (with_reducible first | apply aR | apply iR | apply CW.ret)
  exact Fin.retL (K := rK rb mb P own st) hok (resA_cell rfl rfl (Sel.get Sel.here hok) rfl) aRfl (by simp only [rK]; repeat (first | exact Sels.nil | (apply Sels.cons; · repeat (first | exact Sel.here | apply Sel.there)))) ⟨own, rfl, rfl⟩
end
end Go.Proofs.YtdeiinhccdlfiaaGreat

/- Chapter 19: contracts of cond: what all kinds of expressions do (calls, handlers, signals). -/
namespace Go.Proofs.YtdeiinhccdlfiaaGreat
open Go.AE Go.Cond

section
variable {rb mb : Nat} {P : List CExp} {f : Nat}
set_option maxRecDepth 10000 in
theorem handle_spec (ih : BelowC rb mb P f) {n : Int} {a b : CExp} {s : Sc} {c : List (Nat × Int)} {st : St} (h : Pre P (.handle n a b) s c st) (hl : s.hs.length + 1 + st.fuel ≤ 1000) (hf : st.fuel < f) :
  EvalC 58 rb mb P (.handle n a b) s c st (run P a (s.under n b) st) := by
 intro own
 have hcall := ih.get (x := a) (s := s.under n b) ⟨h.x.2.2.1, ⟨h.sc.hand, fun h' hh => by
  rcases List.mem_cons.1 hh with rfl | hh
  ·exact h.x.2.2.2
  ·exact h.sc.hs h' hh⟩, h.rs, h.nd, hl, h.rl, h.phi, h.picks⟩ hf own
 rcases hr : run P a (s.under n b) st with ⟨o1, st1⟩
 rw [hr] at hcall
 have hu : hsA (s.under n b).hs = .fptr [hsA s.hs, .int .i64 n, .int .i64 (rawE b).op, .int .i64 (rawE b).n, .slc 3 ((rawE b).kids.map CRaw.av) .fro] 0 := hsA_cons ⟨n, b⟩ s.hs
 rw [hu] at hcall
 refine LCalls.of_CW tO call58 Tryz.func58 rfl rfl fun s₀ hok => ?_
 unfold scA rawE
 rw [av_mk]
 refine CW.seq (CW.reg ?_)
 refine wS rfl ?_
 have h1 := hsA_cells s.hs
 have h2 := chainA_cells c
 refine RL.boxL hok rfl rfl rfl rfl rfl (cs := [.int .i64 s.hand, hsA s.hs, chainA c]) (by simp [cellsOf]) (fun b5 hok => ?_)
 repeat (first | (with_reducible first | apply CW.seq | apply aN) | refine RL.nil ?_ | refine wS rfl ?_)
 obtain ⟨hand, hs, rs⟩ := s
 cases hs
 all_goals
  refine CW.drw tO mixed rfl (RD.run rfl ?_)
  refine RD.idx 6 1 rfl rfl rfl rfl rfl rfl rfl rfl rfl rfl rfl rfl rfl (congrArg some (CRaw.av_eq _)) rfl ?_; refine RD.run rfl ?_
  refine RD.loadL 1 tO hok rfl rfl rfl rfl rfl rfl rfl rfl (by repeat (first | exact Sel.here | apply Sel.there)) (by exact rfl) ?_; refine RD.run rfl ?_
  refine RD.storeL 11 tO hok rfl rfl rfl rfl rfl rfl rfl rfl rfl rfl rfl (by repeat (first | exact Sel.here | apply Sel.there)) (by exact rfl) (fun hok => ?_); refine RD.run rfl ?_
  refine RD.run rfl (RD.done rfl ?_)
  refine aN ?_
  refine CW.freezeL hok 5 b5 rfl (by repeat (first | exact Sel.here | apply Sel.there)) fun hok => ?_
  repeat (first | with_reducible apply CW.seq)
  refine CW.drw tO mixed rfl (RD.run rfl ?_)
  refine RD.idx 3 0 rfl rfl rfl rfl rfl rfl rfl rfl rfl rfl rfl rfl rfl (congrArg some (CRaw.av_eq _)) rfl ?_; refine RD.run rfl ?_
  refine RD.callL 6 rfl rfl rfl rfl rfl rfl rfl hcall hok (Sels.allZ _) ?_ ?_
  rotate_left
  ·rintro x _ ⟨own1, rfl, ho⟩ hok
   rw [List.append_nil] at hok ⊢
   repeat (first | with_reducible apply aP)
   exact Fin.panicL hok aRfl (Sels.allZ _) (by first | exact EvalPost.out ho | (simp only [andThen, hr]; first | exact EvalPost.out ho | exact EvalPost.outE ho))
  rintro x _ ⟨own1, rfl, ho⟩ hok
  rw [List.append_nil] at hok ⊢
  cases o1 with
  | leave d v => cases ho
  | stop e => cases ho
  | val v =>
  cases ho
  refine RD.run rfl ?_
  refine RD.done rfl ?_
  repeat (with_reducible first | apply aN | apply CW.ret)
  exact Fin.retL hok rfl aRfl (Sels.allZ _) ⟨own1, rfl, rfl⟩
set_option maxRecDepth 10000 in
theorem call_spec (hP : ∀ e ∈ P, OkE P.length e) (ih : BelowC rb mb P f) {n : Nat} {a : CExp} {s : Sc} {c : List (Nat × Int)} {st : St} (h : Pre P (.call n a) s c st) (hf : st.fuel < f) :
  EvalC 57 rb mb P (.call n a) s c st (andThen (run P a s st) fun v st => run P (P.getD n default) (s.with v) st) := by
 intro own
 have hcall := ih.get (x := a) ⟨h.x.2, h.sc, h.rs, h.nd, h.hs, h.rl, h.phi, h.picks⟩ hf own
 rcases hr : run P a s st with ⟨o1, st1⟩
 rw [hr] at hcall
 have hn : n < P.length := by have := h.x.1; omega
 have hel : ((P.map rawE).map CRaw.av)[n]? = some (.agg (rawE (P.getD n default)).cells) := by
  rw [← CRaw.av_eq, List.getElem?_map, List.getElem?_map, List.getD_eq_getElem?_getD, List.getElem?_eq_getElem hn]; rfl
 have hOk : OkE P.length (P.getD n default) := by
  rw [List.getD_eq_getElem?_getD, List.getElem?_eq_getElem hn]
  exact hP _ (List.getElem_mem hn)
 generalize P.getD n default = q at hel hOk ⊢
 let J : Store → Prop := fun s => ∃ own st, s rb = some (.box 67 (runnerA mb P own st))
 have hJ : ∀ {s₀ : Store} {own : Own} {st : St}, Ok s₀ (rK rb mb P own st) → J (sto s₀ (rK rb mb P own st)) := fun hok => ⟨_, _, Sel.get Sel.here hok⟩
 refine LCalls.of_CW tO call57 Tryz.func57 rfl rfl fun s₀ hok => ?_
 unfold scA rawE
 rw [av_mk]
 repeat (first | (with_reducible first | apply CW.seq | apply aN) | refine wR rfl ?_)
 refine CW.drwJ J tO mixed rfl (RJ.run (hJ hok) rfl ?_)
 refine RJ.idx (hJ hok) 13 0 rfl rfl rfl rfl rfl rfl rfl rfl rfl rfl rfl rfl rfl (congrArg some (CRaw.av_eq _)) rfl ?_; refine RJ.run (hJ hok) rfl ?_
 refine RJ.loadS 4 tO (hJ hok) rfl rfl rfl rfl rfl rfl rfl rfl (v := progA P) (fun s' ⟨own, st, h⟩ => ⟨_, _, h, rfl⟩) ?_
 refine RJ.run (hJ hok) rfl ?_
 refine RJ.idx (hJ hok) 7 n rfl rfl rfl rfl rfl rfl rfl rfl rfl rfl rfl rfl rfl hel rfl ?_; refine RJ.run (hJ hok) rfl ?_
 refine RJ.callL (i := 16) rfl rfl rfl rfl rfl rfl rfl hcall hok (Sels.allZ _) ?_ ?_ ?_
 ·rintro x _ ⟨own1, rfl, ho⟩ hok
  rw [List.append_nil] at hok ⊢
  exact .inl (hJ hok)
 rotate_left
 ·rintro x _ ⟨own1, rfl, ho⟩ hok
  rw [List.append_nil] at hok ⊢
  repeat (first | with_reducible apply aP)
  exact Fin.panicL hok aRfl (Sels.allZ _) (EvalPost.out ho)
 rintro x _ ⟨own1, rfl, ho⟩ hok
 rw [List.append_nil] at hok ⊢
 cases o1 with
 | leave d v => cases ho
 | stop e => cases ho
 | val v =>
 cases ho
 have hv := h.val hP h.x.2 hr
 obtain ⟨h1, hf1⟩ := h.next (y := q) (by simp) hr hOk
 have hcall := ih.get (s := s.with v) ⟨h1.x, ⟨hv, h1.sc.hs⟩, h1.rs, h1.nd, h1.hs, h1.rl, h1.phi, h1.picks⟩ (by omega) own1
 rcases hr2 : run P q (s.with v) st1 with ⟨o2, st2⟩
 rw [hr2] at hcall
 refine RJ.run (hJ hok) rfl ?_
 refine RJ.calmPP (hJ hok) (i := 17) rfl rfl rfl rfl rfl rfl rfl (with_spec _ _ _ _) ?_
 refine RJ.run (hJ hok) rfl ?_
 refine RJ.callL (i := 18) rfl rfl rfl rfl rfl rfl rfl hcall hok (Sels.allZ _) ?_ ?_ ?_
 ·rintro x _ ⟨own1, rfl, ho⟩ hok
  rw [List.append_nil] at hok ⊢
  exact .inl (hJ hok)
 rotate_left
 ·rintro x _ ⟨own1, rfl, ho⟩ hok
  rw [List.append_nil] at hok ⊢
  repeat (first | with_reducible apply aP)
  exact Fin.panicL hok aRfl (Sels.allZ _) (by rw [andThen, hr2]; exact EvalPost.outE ho)
 rintro x _ ⟨own1, rfl, ho⟩ hok
 rw [List.append_nil] at hok ⊢
 cases o2 with
 | leave d v => cases ho
 | stop e => cases ho
 | val u =>
 cases ho
 refine RJ.run (hJ hok) rfl ?_
 refine RD.done rfl ?_
 repeat (with_reducible first | apply aN | apply CW.ret)
 exact Fin.retL hok rfl aRfl (Sels.allZ _) ⟨own1, by rw [andThen, hr2], by rw [andThen, hr2]; rfl⟩
end
end Go.Proofs.YtdeiinhccdlfiaaGreat

/- Chapter 19: contracts of cond: a value is signalled (raise, signal). -/
namespace Go.Proofs.YtdeiinhccdlfiaaGreat
open Go.AE Go.Cond

def RaisePost (rb mb : Nat) (P : List CExp) (c : List (Nat × Int)) (r : Res) (o : AOut) (K : LS) : Prop :=
 (∃ own u st, r = (.val u, st) ∧ K = rK rb mb P own st ∧ o = .ret (.tup [])) ∨ ∃ x, o = .panic x ∧ EvalPost rb mb P c r o K
section
variable {rb mb : Nat} {P : List CExp} {f : Nat}
set_option maxRecDepth 10000 in
set_option maxHeartbeats 2000000 in
theorem raise_spec (ih : BelowC rb mb P f) {x0 : CExp} {s : Sc} {c : List (Nat × Int)} {st : St} (h : Pre P x0 s c st) (hphi : Cond.phi st ≤ 1998) (hf : st.fuel < f) (n v : Int) (hv : InR v) (own : Own) :
    LCalls Tryz.prog 83 [.ptr rb 0, .agg [.int .i64 s.hand, hsA s.hs, chainA c], .int .i64 n, .int .i64 v] (rK rb mb P own st) (RaisePost rb mb P c (raise (run P) s n v st)) := by
  have ht := tell_spec rb mb P own s c st h.rs h.small 2 n v
  unfold scA at ht
  refine LCalls.of_CW tO call83 Tryz.func83 rfl rfl fun s₀ hok => ?_
  repeat (first | (with_reducible first | apply CW.seq | apply aN) | refine wR rfl ?_ | refine CW.reg ?_ | refine wS rfl ?_)
  refine RL.callL rfl rfl rfl rfl rfl ht hok (Sels.allZ _) ?_ (fun _ _ ⟨h, _⟩ _ => by cases h)
  rintro _ _ ⟨⟨⟩, own1, rfl⟩ hok
  rw [List.append_nil] at hok ⊢
  repeat (first | (with_reducible first | apply CW.seq | apply aN) | refine CW.reg ?_ | refine RL.nil ?_ | refine wS rfl ?_)
  refine RL.callL rfl rfl rfl rfl rfl (handlers_spec s.hs) hok .nil ?_ (fun _ _ ⟨_, h, _⟩ _ => by cases h)
  rintro _ _ ⟨b17, ⟨⟩, rfl⟩ hok
  repeat (first | (with_reducible first | apply aN | apply CW.block) | refine RL.nil ?_)
  refine CW.rangeFL hok rfl (by decide) (hsIter b17 s.hs) (.cons .here .nil) (fun rem K => ∃ l st' own', rem = sufs l ∧ K = rK rb mb P own' st' ∧ raise (run P) s n v st = raiseL (run P) s.rs n v l st' ∧ (∀ h ∈ l, OkE P.length h.body) ∧ l.length ≤ s.hs.length ∧ st'.fuel ≤ st.fuel ∧ Cond.phi st' ≤ 1999 ∧ ∀ p ∈ st'.picks, 0 ≤ p) (fun _ _ => False) (fun x K => EvalPost rb mb P c (raise (run P) s n v st) (.panic x) K)
    ⟨s.hs, _, own1, rfl, rfl, rfl, h.sc.hs, Nat.le_refl _, Nat.le_refl _, by rw [Cond.phi_tell]; omega, h.picks⟩ ?_ ?_ (fun _ _ h => h.elim) ?_
  · rintro s₁ x rem K ⟨l, st', own', hrem, rfl, hI, hl, hlen, hfu, hph, hpk⟩ hok
    cases l with
    | nil => cases hrem
    | cons hd r =>
    obtain ⟨rfl, rfl⟩ : x = hd :: r ∧ rem = sufs r := by simpa [sufs] using hrem
    have hlr : r.length + 1 ≤ s.hs.length := hlen
    have hr2 := fun h hh => hl h (List.mem_cons_of_mem _ hh)
    rw [raiseL] at hI
    rw [hsA_cons]
    repeat (first | (with_reducible first | apply CW.seq | apply aN | apply CW.block) | refine wR rfl ?_)
    refine CW.atCutL (σ := Unit) (fun _ => [(4, .fptr [.ptr rb 0] 0), (5, .fptr [.int .i64 s.hand, hsA s.hs, chainA c] 0), (7, .fptr [.int .i64 v] 0), (8, .fptr [hsA r, .int .i64 hd.n, .int .i64 (rawE hd.body).op, .int .i64 (rawE hd.body).n, .slc 3 ((rawE hd.body).kids.map CRaw.av) .fro] 0), (31, .bool (decide (hd.n = n ∨ hd.n = -1)))]) (fun _ => rK rb mb P own' st') (fun _ => True) ?_ ?_
    · refine CW.drw tO mixed rfl (RD.runs (is := [0, 1, 2, 3, 4, 5, 6]) rfl ?_)
      cases hg : hd.n == n with
      | true =>
        have hg' : hd.n = n := by simpa using hg
        refine RD.run rfl (RD.done rfl ?_)
        exact CutL.mk () hok trivial (by repeat (first | exact trivial | refine ⟨⟨_, rfl, aRfl⟩, ?_⟩ | refine ⟨⟨_, rfl, AVle.of_eq (by simp [hg'])⟩, ?_⟩)) (Sels.allZ _)
      | false =>
        have hg' : hd.n ≠ n := by simpa using hg
        refine RD.run rfl (RD.done rfl ?_)
        exact CutL.mk () hok trivial (by repeat (first | exact trivial | refine ⟨⟨_, rfl, aRfl⟩, ?_⟩ | refine ⟨⟨_, rfl, AVle.of_eq (by simp [hg'] <;> rfl)⟩, ?_⟩)) (Sels.allZ _)
    rintro - - hok
    refine CW.cond rfl (fun hh => ?_) (fun hh => ?_)
    · have hh : hd.n = n ∨ hd.n = -1 := by simpa using hh
      rw [if_pos hh] at hI
      have ht2 := tell_spec rb mb P own' ⟨v, r, s.rs⟩ c st' h.rs ⟨by have := h.small.hs; show r.length < big; omega, h.small.rs, by unfold Cond.phi at hph; have : big = 1099511627776 := rfl; omega⟩ 3 hd.n v
      unfold scA at ht2
      have hcall := fun own => ih.get (x := hd.body) (s := ⟨v, r, s.rs⟩) (c := c) (st := st'.tell (Sc.ev ⟨v, r, s.rs⟩ 3 hd.n v)) ⟨hl hd List.mem_cons_self, ⟨hv, hr2⟩, h.rs, h.nd, by show r.length + st'.fuel ≤ 1000; have := h.hs; omega, by show c.length + st'.fuel ≤ 1000; have := h.rl; omega, by rw [Cond.phi_tell]; omega, hpk⟩ (by show st'.fuel < f; omega) own
      have hb := run_phi P (st'.fuel + 1) hd.body ⟨v, r, s.rs⟩ (st'.tell (Sc.ev ⟨v, r, s.rs⟩ 3 hd.n v)) (Nat.lt_succ_self _)
      have hfu2 := run_fuel P hd.body ⟨v, r, s.rs⟩ (st'.tell (Sc.ev ⟨v, r, s.rs⟩ 3 hd.n v))
      have hpk2 := run_picks P hd.body ⟨v, r, s.rs⟩ (st'.tell (Sc.ev ⟨v, r, s.rs⟩ 3 hd.n v))
      rw [Cond.phi_tell] at hb
      rcases hr : run P hd.body ⟨v, r, s.rs⟩ (st'.tell (Sc.ev ⟨v, r, s.rs⟩ 3 hd.n v)) with ⟨o2, st2⟩
      rw [hr] at hcall hI hb hfu2 hpk2
      have hfu3 : st2.fuel ≤ st'.fuel := hfu2
      have hpk3 : ∀ p ∈ st2.picks, 0 ≤ p := by
        obtain ⟨l, hl⟩ := hpk2
        have hl : st'.picks = l ++ st2.picks := hl
        exact fun p hp => hpk p (by rw [hl]; exact List.mem_append_right _ hp)
      repeat (first | with_reducible apply CW.seq)
      cases r
      all_goals
        cases c
        all_goals
          refine CW.drw tO mixed rfl (RD.run rfl ?_)
          refine RD.allocL 8 tO hok rfl rfl rfl rfl rfl rfl rfl rfl rfl (fun b9 hok => ?_); refine RD.run rfl ?_
          refine RD.storeL 9 tO hok rfl rfl rfl rfl rfl rfl rfl rfl rfl rfl rfl (by repeat (first | exact Sel.here | apply Sel.there)) (by exact rfl) (fun hok => ?_); refine RD.run rfl ?_
          refine RD.run rfl (RD.done rfl ?_)
          refine aN ?_
          refine CW.freezeL hok 9 b9 rfl (by repeat (first | exact Sel.here | apply Sel.there)) fun hok => ?_
          repeat (first | with_reducible apply CW.seq)
          refine CW.drw tO mixed rfl (RD.run rfl ?_)
          refine RD.callL 7 rfl rfl rfl rfl rfl rfl rfl ht2 hok (Sels.allZ _) ?_ (fun _ _ ⟨h, _⟩ _ => by cases h)
          rintro _ _ ⟨⟨⟩, own3, rfl⟩ hok
          rw [List.append_nil] at hok ⊢
          refine RD.run rfl (RD.done rfl ?_)
          repeat (first | with_reducible apply aN)
          refine CW.drw tO mixed rfl (RD.run rfl ?_)
          refine RD.callL 6 rfl rfl rfl rfl rfl rfl rfl (hcall own3) hok (Sels.allZ _) ?_ ?_
          rotate_left
          · rintro x _ ⟨own4, rfl, ho⟩ hok
            rw [List.append_nil] at hok ⊢
            repeat (first | with_reducible apply iP)
            exact At.mk _ hok (Sels.allZ _) (by rw [hI]; exact EvalPost.out ho)
          rintro x _ ⟨own4, rfl, ho⟩ hok
          rw [List.append_nil] at hok ⊢
          cases o2 with
          | leave d v => cases ho
          | stop e => cases ho
          | val u =>
          refine RD.run rfl (RD.done rfl ?_)
          repeat (first | with_reducible apply iN)
          have hb2 : Cond.phi st2 ≤ Cond.phi st' + 1 - 1 := hb
          exact At.mk _ hok (Sels.allZ _) ⟨_, st2, own4, rfl, rfl, hI, hr2, by omega, by omega, by omega, hpk3⟩
    · have hh : ¬(hd.n = n ∨ hd.n = -1) := by simpa using hh
      rw [if_neg hh] at hI
      repeat (with_reducible first | apply iN | apply CW.skip)
      exact At.mk _ hok (Sels.allZ _) ⟨r, st', own', rfl, rfl, hI, hr2, by omega, hfu, hph, hpk⟩
  · rintro K ⟨l, st', own', hrem, rfl, hI, hl, hlen, hfu, hph, hpk⟩ hok
    cases l with
    | cons h r => cases hrem
    | nil =>
    rw [hI, raiseL]
    repeat (first | with_reducible apply iN)
    exact Fin.retL hok rfl aRfl (Sels.allZ _) (.inl ⟨own', 0, st', rfl, rfl, rfl⟩)
  · intro x K hp hok
    repeat (first | with_reducible apply iP)
    exact Fin.panicL hok aRfl (Sels.allZ _) (.inr ⟨x, rfl, hp⟩)
end
end Go.Proofs.YtdeiinhccdlfiaaGreat

/- Chapter 19: contracts of cond: a restart is chosen (signal, choose, error). -/
namespace Go.Proofs.YtdeiinhccdlfiaaGreat
open Go.AE Go.Cond

theorem raiseL_val {ev : Eval} {rs : List Int} {n v u : Int} {q : Cond.St} : ∀ (l : List Hd) (st : Cond.St), raiseL ev rs n v l st = (.val u, q) → u = 0
  | [], _, h => by rw [raiseL] at h; cases h; rfl
  | hd :: r, st, h => by
    rw [raiseL] at h
    split at h
    · generalize ev hd.body ⟨v, r, rs⟩ (st.tell (Sc.ev ⟨v, r, rs⟩ 3 hd.n v)) = e at h
      obtain ⟨o, st2⟩ := e
      cases o with
      | val w => exact raiseL_val r st2 h
      | leave d w => cases h
      | stop e => cases h
    · exact raiseL_val r st h
theorem drop_at {c : List (Nat × Int)} {rs : List Int} (hc : c.map Prod.snd = rs) {i : Nat} (hi : i < c.length) : ∃ b n r, c.drop i = (b, n) :: r ∧ rs.getD i 0 = n ∧ rs[i]? = some n := by
 refine ⟨(c[i]).1, (c[i]).2, c.drop (i + 1), List.drop_eq_getElem_cons hi, ?_, ?_⟩
 ·subst hc
  rw [List.getD_eq_getElem?_getD, List.getElem?_map, List.getElem?_eq_getElem hi]; rfl
 ·subst hc
  rw [List.getElem?_map, List.getElem?_eq_getElem hi]; rfl
theorem sufs_at : ∀ {α : Type} {c : List α} {i : Nat}, i < c.length → (sufs c)[i]? = some (c.drop i)
  | _, [], _, h => absurd h (Nat.not_lt_zero _)
  | _, x :: r, 0, _ => rfl
  | _, x :: r, i + 1, h => by
    rw [sufs, List.getElem?_cons_succ, List.drop_succ_cons]
    exact sufs_at (by simpa using h)
theorem sufs_length : ∀ {α : Type} (c : List α), (sufs c).length = c.length
 | _, [] => rfl
 | _, x :: r => by rw [sufs, List.length_cons, List.length_cons, sufs_length r]
section
variable {rb mb : Nat} {P : List CExp} {f : Nat}
set_option maxRecDepth 10000 in
theorem signal_spec (hP : ∀ e ∈ P, OkE P.length e) (ih : BelowC rb mb P f) {n : Int} {a : CExp} {s : Sc} {c : List (Nat × Int)} {st : St} (h : Pre P (.signal n a) s c st) (hphi : Cond.phi st ≤ 1998) (hf : st.fuel < f) :
  EvalC 59 rb mb P (.signal n a) s c st (andThen (run P a s st) fun v st => raise (run P) s n v st) := by
 intro own
 have hcall := ih.get (x := a) ⟨h.x.2.2, h.sc, h.rs, h.nd, h.hs, h.rl, h.phi, h.picks⟩ hf own
 have hph := run_phi P (st.fuel + 1) a s st (Nat.lt_succ_self _)
 rcases hr : run P a s st with ⟨o1, st1⟩
 rw [hr] at hcall hph
 refine LCalls.of_CW tO call59 Tryz.func59 rfl rfl fun s₀ hok => ?_
 unfold scA rawE
 rw [av_mk]
 repeat (first | (with_reducible first | apply CW.seq | apply aN) | refine wR rfl ?_)
 refine CW.drw tO mixed rfl (RD.run rfl ?_)
 refine RD.idx 7 0 rfl rfl rfl rfl rfl rfl rfl rfl rfl rfl rfl rfl rfl (congrArg some (CRaw.av_eq _)) rfl ?_; refine RD.run rfl ?_
 refine RD.callL 10 rfl rfl rfl rfl rfl rfl rfl hcall hok (Sels.allZ _) ?_ ?_
 rotate_left
 ·rintro x _ ⟨own1, rfl, ho⟩ hok
  rw [List.append_nil] at hok ⊢
  repeat (first | with_reducible apply aP)
  exact Fin.panicL hok aRfl (Sels.allZ _) (by first | exact EvalPost.out ho | (simp only [andThen, hr]; first | exact EvalPost.out ho | exact EvalPost.outE ho))
 rintro x _ ⟨own1, rfl, ho⟩ hok
 rw [List.append_nil] at hok ⊢
 cases o1 with
 | leave d v => cases ho
 | stop e => cases ho
 | val v =>
 cases ho
 refine RD.run rfl ?_
 have hph : Cond.phi st1 ≤ Cond.phi st - 1 := hph
 have hv := h.val hP h.x.2.2 hr
 obtain ⟨h1, hf1⟩ := h.next (y := a) (by simp) hr h.x.2.2
 have hcall := raise_spec (rb := rb) (mb := mb) ih h1 (by omega) (by omega) n v hv own1
 rw [andThen]
 refine RD.callL 11 rfl rfl rfl rfl rfl rfl rfl hcall hok (Sels.allZ _) ?_ ?_
 rotate_left
 ·rintro x K' (⟨_, _, _, _, _, h⟩ | ⟨x', ⟨⟩, hp⟩) hok
  ·cases h
  ·rw [List.append_nil] at hok ⊢
   repeat (first | with_reducible apply aP)
   exact Fin.panicL hok aRfl (Sels.allZ _) hp
 rintro x K' (⟨own2, u, st2, hr2, rfl, ⟨⟩⟩ | ⟨x', h, _⟩) hok
 rotate_left
 ·cases h
 rw [List.append_nil] at hok ⊢
 rw [hr2]
 obtain rfl := raiseL_val _ _ hr2
 refine RD.run rfl (RD.done rfl ?_)
 repeat (first | (with_reducible first | apply CW.seq | apply aN | apply CW.ret) | refine wR rfl ?_)
 exact Fin.retL hok rfl aRfl (Sels.allZ _) ⟨own2, rfl, rfl⟩
set_option maxRecDepth 10000 in
set_option maxHeartbeats 1000000 in
theorem choose_spec (ih : BelowC rb mb P f) {n : Int} {a : CExp} {s : Sc} {c : List (Nat × Int)} {st : St} (h : Pre P (.choose n a) s c st) (hf : st.fuel < f) :
    EvalC 63 rb mb P (.choose n a) s c st (andThen (run P a s st) fun v st => match s.rs.findIdx? (· == n) with
    | some i => Cond.choose s i v st
    | none => (.stop .none, st)) := by
  intro own
  have hcall := ih.get (x := a) ⟨h.x.2.2, h.sc, h.rs, h.nd, h.hs, h.rl, h.phi, h.picks⟩ hf own
  rcases hr : run P a s st with ⟨o1, st1⟩
  rw [hr] at hcall
  refine LCalls.of_CW tO call63 Tryz.func63 rfl rfl fun s₀ hok => ?_
  unfold scA rawE
  rw [av_mk]
  repeat (first | with_reducible apply CW.seq | refine CW.reg ?_ | refine wS rfl ?_)
  refine RL.allocL tO hok rfl rfl rfl rfl rfl rfl rfl (fun b6 hok => ?_)
  repeat (first | (with_reducible first | apply CW.seq | apply aN) | refine RL.nil ?_)
  refine CW.atCutX (σ := Nat × Own × Int) (fun q => [(3, .fptr [.ptr rb 0] 0), (4, .fptr [.int .i64 13, .int .i64 n, .slc 3 (List.map CRaw.av [rawE a]) .fro] 0), (5, .fptr [.int .i64 s.hand, hsA s.hs, chainA c] 0), (6, .ptr b6 0), (7, .ptr q.1 0)]) (fun q => (.own q.1, .box 3 [.int .i64 q.2.2]) :: (.own b6, .box 3 [.int .i64 0]) :: rK rb mb P q.2.1 st1) (fun q => o1 = .val q.2.2) ?_ ?_
  · refine CW.drw tO mixed rfl (RD.run rfl ?_)
    refine RD.idx 3 0 rfl rfl rfl rfl rfl rfl rfl rfl rfl rfl rfl rfl rfl (congrArg some (CRaw.av_eq _)) rfl ?_; refine RD.run rfl ?_
    refine RD.many rfl ⟨RDStep.mk (i := 6) rfl rfl rfl rfl (OW.callL rfl rfl hcall hok (Sels.allZ _).there) ?_ ?_, RDStep.mk (i := 7) rfl rfl rfl rfl (OW.allocL tO hok rfl rfl rfl rfl) ?_ (fun _ _ h => False.elim h), trivial⟩
    · rintro x _ ⟨_, rfl, hok, own1, rfl, ho⟩
      cases o1 with
      | leave d v => cases ho
      | stop e => cases ho
      | val v =>
      cases ho
      refine RD.run rfl ?_
      refine RD.allocL 7 tO hok rfl rfl rfl rfl rfl rfl rfl rfl rfl (fun b7 hok => ?_); refine RD.run rfl ?_
      refine RD.storeL 8 tO hok rfl rfl rfl rfl rfl rfl rfl rfl rfl rfl rfl (by repeat (first | exact Sel.here | apply Sel.there)) (by exact rfl) (fun hok => ?_); refine RD.run rfl ?_
      refine RD.run rfl (RD.done rfl ?_)
      exact CutX.mk (b7, own1, v) hok rfl (wE rfl) (by simp only [rK, List.cons_append, List.nil_append]; repeat (first | exact Sels.nil | (apply Sels.cons; · repeat (first | exact Sel.here | apply Sel.there))))
    · rintro x _ ⟨_, rfl, hok, own1, rfl, ho⟩
      exact Fin.panicL hok aRfl (Sels.allZ _).appR (EvalPost.out ho)
    · rintro _ _ ⟨b7, rfl, rfl, hok⟩
      refine RD.run rfl ?_
      refine RD.callL 6 rfl rfl rfl rfl rfl rfl rfl hcall hok (Sels.allZ _).there.there ?_ ?_
      · rintro x _ ⟨own1, rfl, ho⟩ hok
        cases o1 with
        | leave d v => cases ho
        | stop e => cases ho
        | val v =>
        cases ho
        refine RD.run rfl ?_
        refine RD.storeL 8 tO hok rfl rfl rfl rfl rfl rfl rfl rfl rfl rfl rfl (Sel.app _ .here) rfl (fun hok => ?_)
        refine RD.run rfl (RD.done rfl ?_)
        exact CutX.mk (b7, own1, v) hok rfl (wE rfl) (by simp only [rK, List.cons_append, List.nil_append]; repeat (first | exact Sels.nil | (apply Sels.cons; · repeat (first | exact Sel.here | apply Sel.there))))
      · rintro x _ ⟨own1, rfl, ho⟩ hok
        exact Fin.panicL hok aRfl (Sels.allZ _).appR (EvalPost.out ho)
  rintro ⟨b7, own1, v⟩ rfl hok
  simp only at hr hok ⊢
  rw [andThen]
  refine CW.freezeL hok 7 b7 rfl (by repeat (first | exact Sel.here | apply Sel.there)) fun hok => ?_
  repeat (first | with_reducible apply CW.seq | refine CW.reg ?_ | refine wS rfl ?_)
  refine RL.callL rfl rfl rfl rfl rfl (restarts_spec c) hok .nil ?_ (fun _ _ ⟨_, h, _⟩ _ => by cases h)
  rintro _ _ ⟨b18, ⟨⟩, rfl⟩ hok
  repeat (first | (with_reducible first | apply aN | apply CW.block) | refine RL.nil ?_)
  have hsm : Small s c st1 := by
    obtain ⟨h1, -⟩ := h.next (y := a) (by simp) hr h.x.2.2
    exact h1.small
  have hlen : s.rs.length = c.length := by rw [← h.rs, List.length_map]
  refine CW.rangeFL hok rfl (by decide) (rsIter b18 c) (.cons .here .nil) (fun rem K => ∃ i, i ≤ c.length ∧ (∀ j, j < i → s.rs[j]? ≠ some n) ∧ rem = sufs (c.drop i) ∧ K = (.own b6, .box 3 [.int .i64 0]) :: rK rb mb P own1 st1) (fun _ _ => False)
    (fun x K => EvalPost rb mb P c (match s.rs.findIdx? (· == n) with
    | some i => Cond.choose s i v st1
    | none => (.stop .none, st1)) (.panic x) K) ⟨0, Nat.zero_le _, fun j hj => absurd hj (Nat.not_lt_zero _), rfl, rfl⟩ ?_ ?_ (fun _ _ h => h.elim) ?_
  · rintro s₁ x rem K ⟨i, hi, hj, hrem, rfl⟩ hok
    have hlt : i < c.length := by
      by_cases e : i = c.length
      · rw [e, List.drop_length] at hrem; cases hrem
      · omega
    obtain ⟨bh, nh, r, hd, hg1, hg2⟩ := drop_at h.rs hlt
    rw [hd] at hrem
    obtain ⟨rfl, rfl⟩ : x = (bh, nh) :: r ∧ rem = sufs r := by simpa [sufs] using hrem
    have hr' : r = c.drop (i + 1) := by
      have := congrArg List.tail hd
      rw [List.tail_drop] at this
      exact this.symm
    have hch := choice_spec (rb := rb) (mb := mb) (P := P) (r := r) h.rs hsm bh nh v own1
    rw [chainA] at hch ⊢
    repeat (first | (with_reducible first | apply CW.seq | apply aN | apply CW.block) | refine wR rfl ?_)
    refine CW.drw tO mixed rfl (RD.run rfl ?_)
    refine RD.done rfl ?_
    repeat (first | with_reducible apply aN)
    refine CW.cond rfl (fun hn => ?_) (fun hn => ?_)
    · have hn : nh = n := by simpa using hn
      subst hn
      have hf : s.rs.findIdx? (· == nh) = some i := findIdx_skip (by omega) hj (fun y hy => by rw [hg2] at hy; cases hy; rfl) (by omega)
      rw [hf]
      repeat (first | with_reducible apply CW.seq | refine CW.reg ?_ | refine wS rfl ?_)
      refine RL.callL rfl rfl rfl rfl rfl hch hok (Sels.allZ _).there (fun _ _ ⟨h, _⟩ _ => by cases h) ?_
      rintro _ _ ⟨⟨⟩, own2, rfl⟩ hok
      repeat (with_reducible first | apply aP | apply iP)
      refine At.mk _ hok (Sels.allZ _).appR ⟨own2, by rw [← hg1]; rfl, ?_⟩
      show _ = AOut.panic (leaveA (c.drop (c.length - (s.rs.length - 1 - i + 1))) v)
      rw [show c.length - (s.rs.length - 1 - i + 1) = i by omega, hd]
    · have hn : nh ≠ n := by simpa using hn
      repeat (with_reducible first | apply iN | apply CW.skip)
      refine At.mk _ hok (Sels.allZ _) ⟨i + 1, hlt, fun j hj' => ?_, by rw [hr'], rfl⟩
      rcases Nat.lt_succ_iff_lt_or_eq.1 hj' with hj' | rfl
      · exact hj j hj'
      · rw [hg2]; intro e; cases e; exact hn rfl
  · rintro K ⟨i, hi, hj, hrem, rfl⟩ hok
    have hge : i = c.length := by
      by_cases e : i < c.length
      · obtain ⟨bh, nh, r, hd, -⟩ := drop_at h.rs e
        rw [hd] at hrem; cases hrem
      · omega
    have hf : s.rs.findIdx? (· == n) = none := by
      rw [List.findIdx?_eq_none_iff]
      intro z hz
      obtain ⟨j, hj'⟩ := List.getElem?_of_mem hz
      have h1 := (List.getElem?_eq_some_iff.1 hj').1
      have h2 := hj j (by omega)
      simp only [beq_eq_false_iff_ne]
      intro e; subst e; exact h2 hj'
    rw [hf]
    repeat (first | (with_reducible first | apply aN | apply iN) | refine CW.reg ?_ | refine wS rfl ?_)
    refine RL.panic rfl rfl rfl rfl ?_
    exact Fin.panicL hok aRfl (Sels.allZ _).there ⟨own1, rfl, rfl⟩
  · intro x K hp hok
    repeat (with_reducible first | apply aP | apply iP)
    exact Fin.panicL hok aRfl (Sels.allZ _) hp
end
end Go.Proofs.YtdeiinhccdlfiaaGreat

/- Chapter 19: contracts of cond: an error is lost, or somebody outside chooses. -/
namespace Go.Proofs.YtdeiinhccdlfiaaGreat
open Go.AE Go.Cond

section
variable {rb mb : Nat} {P : List CExp} {f : Nat}
set_option maxRecDepth 10000 in
theorem appendSeq_spec (b : Nat) (c : List (Nat × Int)) (hc : c.length < big) :
  LCalls Tryz.prog 111 [.slc 0 [] .nil, .func 112 [] [.ptr b 0]] [(.own b, .box 104 [chainA c])] (fun o K => o = .ret (.slc 1 ((sufs c).map chainA) .fro) ∧ K = []) := by
 have hb : big = 1099511627776 := rfl
 have hsl := sufs_length c
 refine LCalls.of_CW tO call111 Tryz.func111 rfl rfl fun s hok => ?_
 refine CW.seq (CW.reg ?_)
 refine RL.boxL hok rfl rfl rfl rfl rfl rfl (fun b2 hok => ?_)
 repeat (first | (with_reducible first | apply CW.seq | apply aN | apply CW.block) | refine wR rfl ?_ | refine RL.nil ?_ | refine wS rfl ?_)
 refine CW.boxWeakL hok b2 [.slc 1 [] .nil] (by repeat (first | exact Sel.here | apply Sel.there)) (.one (AVle.nil (by intro b h; cases h))) fun hok => ?_
 refine CW.phantom hok 104 1 0 fun hok => ?_
 refine CW.dropL hok [(.own b, .box 104 [chainA c]), (.own b2, .box 125 [.slc 1 [] .nil]), (.nil, .row 104 1 0)] (by repeat (first | exact Sels.nil | (apply Sels.cons; · repeat (first | exact Sel.here | apply Sel.there)))) fun hok => ?_
 refine CW.rangeFL hok rfl (by decide) (rsIter b c) (.cons .here .nil) (fun rem K => ∃ pre o1, sufs c = pre ++ rem ∧ K = [(.own b2, .box 125 [.slc 1 (pre.map chainA) o1]), (o1, .row 104 1 pre.length)]) (fun _ _ => False) (fun _ _ => False) ⟨[], .nil, rfl, rfl⟩ ?_ ?_ (fun _ _ h => h.elim) (fun _ _ h => h.elim)
 ·rintro s₁ x rem K ⟨pre, o1, hpr, rfl⟩ hok
  have hl : pre.length < big := by have := congrArg List.length hpr; simp at this; omega
  have e1 : (pre ++ [x]).map chainA = pre.map chainA ++ [chainA x] := by simp
  have e2 : (pre ++ [x]).length = pre.length + 1 := by simp
  cases x with
  | nil =>
   repeat (first | (with_reducible first | apply aN | apply CW.block) | refine wR rfl ?_ | refine CW.reg ?_ | refine wS rfl ?_ | refine RL.loadL tO hok rfl rfl rfl rfl rfl rfl (by repeat (first | exact Sel.here | apply Sel.there)) (by exact rfl) ?_)
   refine RL.append1L tO hok rfl rfl rfl rfl rfl rfl rfl (by intro k; simp) rfl rfl rfl rfl rfl rfl rfl rfl (by repeat (first | exact Sel.here | apply Sel.there)) (by simp <;> omega) (by show (_ + 1) * 8 ≤ _; omega) (by omega) (fun b9 hok => ?_)
   repeat (first | with_reducible apply iN | refine RL.nil ?_ | refine RL.storeL tO hok rfl rfl rfl rfl rfl rfl rfl rfl rfl (by repeat (first | exact Sel.here | apply Sel.there)) (by exact rfl) (fun hok => ?_))
   exact At.mk [(.own b2, .box 125 [.slc 1 ((pre ++ [[]]).map chainA) (.own b9)]), (.own b9, .row 104 1 (pre ++ [[]]).length)] hok (by simp only [e1, e2]; repeat (first | exact Sels.nil | (apply Sels.cons; · repeat (first | exact Sel.here | apply Sel.there)))) ⟨pre ++ [[]], .own b9, by rw [hpr]; simp, rfl⟩
  | cons q r =>
   repeat (first | (with_reducible first | apply aN | apply CW.block) | refine wR rfl ?_ | refine CW.reg ?_ | refine wS rfl ?_ | refine RL.loadL tO hok rfl rfl rfl rfl rfl rfl (by repeat (first | exact Sel.here | apply Sel.there)) (by exact rfl) ?_)
   refine RL.append1L tO hok rfl rfl rfl rfl rfl rfl rfl (by intro k; simp) rfl rfl rfl rfl rfl rfl rfl rfl (by repeat (first | exact Sel.here | apply Sel.there)) (by simp <;> omega) (by show (_ + 1) * 8 ≤ _; omega) (by omega) (fun b9 hok => ?_)
   repeat (first | with_reducible apply iN | refine RL.nil ?_ | refine RL.storeL tO hok rfl rfl rfl rfl rfl rfl rfl rfl rfl (by repeat (first | exact Sel.here | apply Sel.there)) (by exact rfl) (fun hok => ?_))
   exact At.mk [(.own b2, .box 125 [.slc 1 ((pre ++ [q :: r]).map chainA) (.own b9)]), (.own b9, .row 104 1 (pre ++ [q :: r]).length)] hok (by simp only [e1, e2]; repeat (first | exact Sels.nil | (apply Sels.cons; · repeat (first | exact Sel.here | apply Sel.there)))) ⟨pre ++ [q :: r], .own b9, by rw [hpr]; simp, rfl⟩
 ·rintro K ⟨pre, o1, hpr, rfl⟩ hok
  rw [List.append_nil] at hpr
  rw [hpr]
  repeat (first | (with_reducible first | apply CW.seq | apply aN | apply iN | apply CW.ret) | refine CW.reg ?_ | refine RL.nil ?_ | refine wS rfl ?_ | refine RL.loadL tO hok rfl rfl rfl rfl rfl rfl (by repeat (first | exact Sel.here | apply Sel.there)) (by exact rfl) ?_)
  exact Fin.retL hok rfl AVle.fro .nil ⟨rfl, rfl⟩
set_option maxRecDepth 10000 in
theorem collect_spec (b : Nat) (c : List (Nat × Int)) (hc : c.length < big) :
  LCalls Tryz.prog 84 [.func 112 [] [.ptr b 0]] [(.own b, .box 104 [chainA c])] (fun o K => o = .ret (.slc 1 ((sufs c).map chainA) .fro) ∧ K = []) := by
 refine LCalls.of_CW tO call84 Tryz.func84 rfl rfl fun s hok => ?_
 repeat (first | (with_reducible first | apply CW.seq | apply aN) | refine wR rfl ?_ | refine CW.reg ?_ | refine wS rfl ?_)
 refine RL.callL rfl rfl rfl rfl rfl (appendSeq_spec b c hc) hok (Sels.allZ _) ?_ (fun _ _ ⟨h, _⟩ _ => by cases h)
 rintro _ _ ⟨⟨⟩, rfl⟩ hok
 repeat (first | (with_reducible first | apply aN | apply CW.ret) | refine RL.nil ?_ | refine wS rfl ?_)
 exact Fin.retL hok rfl aRfl .nil ⟨rfl, rfl⟩
set_option maxRecDepth 10000 in
set_option maxHeartbeats 1000000 in
theorem fails_spec (hP : ∀ e ∈ P, OkE P.length e) (ih : BelowC rb mb P f) {n : Int} {a : CExp} {s : Sc} {c : List (Nat × Int)} {st : St} (h : Pre P (.fails n a) s c st) (hphi : Cond.phi st ≤ 1998) (hf : st.fuel < f) :
  EvalC 60 rb mb P (.fails n a) s c st (andThen (run P a s st) fun v st => andThen (raise (run P) s n v st) fun _ st => lost s v st) := by
 intro own
 have hb : big = 1099511627776 := rfl
 have hcall := ih.get (x := a) ⟨h.x.2.2, h.sc, h.rs, h.nd, h.hs, h.rl, h.phi, h.picks⟩ hf own
 have hph := run_phi P (st.fuel + 1) a s st (Nat.lt_succ_self _)
 rcases hr : run P a s st with ⟨o1, st1⟩
 rw [hr] at hcall hph
 refine LCalls.of_CW tO call60 Tryz.func60 rfl rfl fun s₀ hok => ?_
 unfold scA rawE
 rw [av_mk]
 repeat (first | (with_reducible first | apply CW.seq | apply aN) | refine wR rfl ?_)
 refine CW.drw tO mixed rfl (RD.run rfl ?_)
 refine RD.idx 3 0 rfl rfl rfl rfl rfl rfl rfl rfl rfl rfl rfl rfl rfl (congrArg some (CRaw.av_eq _)) rfl ?_; refine RD.run rfl ?_
 refine RD.callL 6 rfl rfl rfl rfl rfl rfl rfl hcall hok (Sels.allZ _) ?_ ?_
 rotate_left
 ·rintro x _ ⟨own1, rfl, ho⟩ hok
  rw [List.append_nil] at hok ⊢
  repeat (first | with_reducible apply aP)
  exact Fin.panicL hok aRfl (Sels.allZ _) (by first | exact EvalPost.out ho | (simp only [andThen, hr]; first | exact EvalPost.out ho | exact EvalPost.outE ho))
 rintro x _ ⟨own1, rfl, ho⟩ hok
 rw [List.append_nil] at hok ⊢
 cases o1 with
 | leave d v => cases ho
 | stop e => cases ho
 | val v =>
 cases ho
 refine RD.run rfl ?_
 have hph : Cond.phi st1 ≤ Cond.phi st - 1 := hph
 have hv := h.val hP h.x.2.2 hr
 obtain ⟨h1, hf1⟩ := h.next (y := a) (by simp) hr h.x.2.2
 have hcall := raise_spec (rb := rb) (mb := mb) ih h1 (by omega) (by omega) n v hv own1
 have hraise := raise_phi (run_phi P (st1.fuel + 1)) s n v st1 (Nat.lt_succ_self _)
 obtain ⟨lp, hpicks⟩ := raise_grows picks_grows (ev := run P) (run_picks P) s n v st1
 rw [andThen]
 rcases hr2 : raise (run P) s n v st1 with ⟨o2, st2⟩
 rw [hr2] at hcall hraise hpicks
 refine RD.done rfl ?_
 repeat (first | (with_reducible first | apply CW.seq | apply aN) | refine CW.reg ?_ | refine wS rfl ?_)
 refine RL.callL rfl rfl rfl rfl rfl hcall hok (Sels.allZ _) ?_ ?_
 rotate_left
 ·rintro x K' (⟨_, _, _, _, _, h⟩ | ⟨x', ⟨⟩, own2, rfl, ho⟩) hok
  ·cases h
  ·rw [List.append_nil] at hok ⊢
   repeat (first | with_reducible apply aP)
   exact Fin.panicL hok aRfl (Sels.allZ _) (EvalPost.out ho)
 rintro x K' (⟨own2, u, st2', hr2', rfl, ⟨⟩⟩ | ⟨x', h, _⟩) hok
 rotate_left
 ·cases h
 cases hr2'
 have hraise : Cond.phi st2 ≤ Cond.phi st1 + 1 := hraise
 have hpk : ∀ p ∈ st2.picks, 0 ≤ p := fun p hp => h1.picks p (by
  have hpicks : st1.picks = lp ++ st2.picks := hpicks
  rw [hpicks]; exact List.mem_append_right _ hp)
 have hsm : Small s c st2 := ⟨h1.small.hs, h1.small.rs, by unfold Cond.phi at *; omega⟩
 rw [List.append_nil] at hok ⊢
 rw [andThen]
 repeat (first | (with_reducible first | apply CW.seq | apply aN) | refine CW.reg ?_ | refine RL.nil ?_ | refine wS rfl ?_)
 refine RL.callL rfl rfl rfl rfl rfl (restarts_spec c) hok .nil ?_ (fun _ _ ⟨_, h, _⟩ _ => by cases h)
 rintro _ _ ⟨b25, ⟨⟩, rfl⟩ hok
 skip
 refine RL.callL rfl rfl rfl rfl rfl (collect_spec b25 c hsm.rs) hok (.cons .here .nil) ?_ (fun _ _ ⟨h, _⟩ _ => by cases h)
 rintro _ _ ⟨⟨⟩, rfl⟩ hok2
 clear hok
 have hok : Ok s₀ (rK rb mb P own2 st2) := hok2
 clear hok2
 obtain ⟨evs, fu, pk⟩ := st2
 cases pk with
 | nil =>
  repeat (first | (with_reducible first | apply CW.seq | apply aN) | refine CW.reg ?_ | refine RL.nil ?_ | refine CW.condT rfl ?_ | refine wS rfl ?_ | refine RL.skip rfl rfl rfl ?_ | refine RL.loadL tO hok rfl rfl rfl rfl rfl rfl (by repeat (first | exact Sel.here | apply Sel.there)) (by exact rfl) ?_)
  refine RL.panic rfl rfl rfl rfl ?_
  exact Fin.panicL hok aRfl (Sels.allZ _) ⟨own2, rfl, rfl⟩
 | cons p ps =>
  cases c with
  | nil =>
   have hrs : s.rs = [] := by rw [← h.rs]; rfl
   have hlo : lost s v ⟨evs, fu, p :: ps⟩ = (.stop .lost, ⟨evs, fu, p :: ps⟩) := by unfold lost; simp [hrs]
   rw [hlo]
   repeat (first | (with_reducible first | apply CW.seq | apply aN) | refine CW.reg ?_ | refine RL.nil ?_ | refine CW.condT rfl ?_ | refine wS rfl ?_ | refine RL.loadL tO hok rfl rfl rfl rfl rfl rfl (by repeat (first | exact Sel.here | apply Sel.there)) (by exact rfl) ?_)
   refine RL.panic rfl rfl rfl rfl ?_
   exact Fin.panicL hok aRfl (Sels.allZ _) ⟨own2, rfl, rfl⟩
  | cons q c0 =>
   generalize hc : q :: c0 = c at h h1 hsm hcall hok ⊢
   have hlen : s.rs.length = c.length := by rw [← h.rs, List.length_map]
   have hpos : 0 < c.length := by rw [← hc]; simp
   have hrs : s.rs ≠ [] := fun e => by rw [e] at hlen; simp at hlen; omega
   have hlo : lost s v ⟨evs, fu, p :: ps⟩ = Cond.choose s (p % s.rs.length).toNat v ⟨evs, fu, ps⟩ := by unfold lost; simp [hrs]
   have hsl0 := sufs_length c
   have hp0 : 0 ≤ p := hpk p List.mem_cons_self
   rw [hlo]
   have hidx0 : ((p :: ps).map intA)[0]? = some (.int .i64 p) := rfl
   have hlm : (List.map chainA (sufs c)).length = c.length := by rw [List.length_map, hsl0]
   have hrem : Int.tmod p ((List.map chainA (sufs c)).length : Int) = (((p % s.rs.length).toNat : Nat) : Int) := by
    rw [hlm, hlen, Int.tmod_eq_emod_of_nonneg hp0, Int.toNat_of_nonneg (Int.emod_nonneg _ (by omega))]
   have hjl : (p % s.rs.length).toNat < c.length := by
    have := Int.emod_lt_of_pos p (show (0 : Int) < s.rs.length by omega)
    have := Int.emod_nonneg p (show (s.rs.length : Int) ≠ 0 by omega)
    omega
   generalize (p % s.rs.length).toNat = j at hrem hjl ⊢
   obtain ⟨bh, nh, r, hd, hg1, hg2⟩ := drop_at h.rs hjl
   have hidx1 : (List.map chainA (sufs c))[j]? = some (.kptr bh [chainA r, .int .i64 nh]) := by
    rw [List.getElem?_map, sufs_at hjl, hd]; rfl
   have hch := choice_spec (rb := rb) (mb := mb) (P := P) (st := ⟨evs, fu, ps⟩) (r := r) h.rs ⟨hsm.hs, hsm.rs, hsm.evs⟩ bh nh v own2
   rw [chainA] at hch
   repeat (first | (with_reducible first | apply CW.seq | apply aN) | refine CW.reg ?_ | refine RL.nil ?_ | refine wS rfl ?_ | refine RL.loadL tO hok rfl rfl rfl rfl rfl rfl (by repeat (first | exact Sel.here | apply Sel.there)) (by exact rfl) ?_)
   refine CW.cond rfl (fun hh => ?_) (fun hh => ?_)
   ·have h0 : ((List.map chainA (sufs c)).length : Int) = 0 := beq_iff_eq.1 hh
    rw [hlm] at h0
    omega
   have hdt : List.drop 1 (List.take (ps.length + 1) (List.map intA (Cond.St.mk evs fu (p :: ps)).picks)) = ps.map intA := by
    show List.drop 1 (List.take (ps.length + 1) (intA p :: ps.map intA)) = _
    rw [List.take_of_length_le (by simp)]; rfl
   repeat (first | (with_reducible first | apply CW.seq | apply aN | apply CW.skip) | refine CW.reg ?_ | refine wS rfl ?_ | refine RL.idx tO _ rfl rfl rfl rfl rfl rfl rfl rfl rfl rfl rfl (by assumption) rfl ?_ | refine RL.loadL tO hok rfl rfl rfl rfl rfl rfl (by repeat (first | exact Sel.here | apply Sel.there)) (by exact rfl) ?_)
   refine RL.rem rfl rfl rfl rfl rfl rfl (by rw [hlm]; omega) hrem ?_
   repeat (first | (with_reducible first | apply CW.seq | apply aN) | refine CW.reg ?_ | refine RL.nil ?_ | refine wS rfl ?_ | refine RL.loadL tO hok rfl rfl rfl rfl rfl rfl (by repeat (first | exact Sel.here | apply Sel.there)) (by exact rfl) ?_)
   refine RL.slice tO 1 (ps.length + 1) rfl rfl rfl rfl rfl rfl rfl rfl (.inr rfl) (.inr ⟨_, _, rfl, rfl⟩) (.inl ⟨rfl, rfl, by simp⟩) (.inl ⟨rfl, rfl⟩) (by omega) (by simp) ?_
   rw [hdt]
   repeat (first | (with_reducible first | apply CW.seq | apply aN) | refine RL.nil ?_ | refine wS rfl ?_ | refine RL.storeL tO hok rfl rfl rfl rfl rfl rfl rfl rfl rfl (by repeat (first | exact Sel.here | apply Sel.there)) (by exact rfl) (fun hok => ?_))
   refine CW.drw tO mixed rfl (RD.run rfl ?_)
   refine RD.idx 4 j rfl rfl rfl rfl rfl rfl rfl rfl rfl rfl rfl rfl rfl hidx1 rfl ?_
   refine RD.run rfl ?_
   refine RD.callL 7 rfl rfl rfl rfl rfl rfl rfl hch hok (by simp only [rK, runnerA]; repeat (first | exact Sels.nil | (apply Sels.cons; · repeat (first | exact Sel.here | apply Sel.there)))) (fun _ _ ⟨h, _⟩ _ => by cases h) ?_
   rintro _ _ ⟨⟨⟩, own3, rfl⟩ hok
   rw [List.append_nil] at hok ⊢
   repeat (first | with_reducible apply aP)
   refine Fin.panicL hok aRfl (Sels.allZ _) ⟨own3, by rw [← hg1]; rfl, ?_⟩
   show _ = AOut.panic (leaveA (c.drop (c.length - (s.rs.length - 1 - j + 1))) v)
   rw [show c.length - (s.rs.length - 1 - j + 1) = j by omega, hd, leaveA, chainA]
end
end Go.Proofs.YtdeiinhccdlfiaaGreat

/- Chapter 19: contracts of cond: restarts are offered; guards. -/
namespace Go.Proofs.YtdeiinhccdlfiaaGreat
open Go.AE Go.Cond

section
variable {rb mb : Nat} {P : List CExp} {f : Nat}
set_option maxRecDepth 10000 in
theorem offered1_spec (x0 : CExp) (ks : List CRaw) (o n hand : Int) (hs : List Hd) (c : List (Nat × Int)) (st : Cond.St) (r : Res) (own : Own)
  (hcall : LCalls Tryz.prog 67 [.ptr rb 0, .agg [.int .i64 (rawE x0).op, .int .i64 (rawE x0).n, .slc 3 ((rawE x0).kids.map CRaw.av) .fro], .agg [.int .i64 hand, hsA hs, chainA c]] (rK rb mb P own st) (EvalPost rb mb P c r)) :
  LCalls Tryz.prog 113 [.fptr [.ptr rb 0] 0, .fptr [.int .i64 o, .int .i64 n, .slc 3 ((rawE x0 :: ks).map CRaw.av) .fro] 0, .fptr [.int .i64 hand, hsA hs, chainA c] 0] (rK rb mb P own st) (EvalPost rb mb P c r) := by
 obtain ⟨o1, st1⟩ := r
 refine LCalls.of_CW tO call113 Tryz.func113 rfl rfl fun s₀ hok => ?_
 simp only [List.map_cons]
 repeat (first | (with_reducible first | apply CW.seq | apply aN) | refine wR rfl ?_)
 refine CW.drw tO mixed rfl (RD.run rfl ?_)
 refine RD.idx 3 0 rfl rfl rfl rfl rfl rfl rfl rfl rfl rfl rfl rfl rfl (congrArg some (CRaw.av_eq _)) rfl ?_; refine RD.run rfl ?_
 refine RD.callL 6 rfl rfl rfl rfl rfl rfl rfl hcall hok (Sels.allZ _) ?_ ?_
 rotate_left
 ·rintro x _ ⟨own1, rfl, ho⟩ hok
  rw [List.append_nil] at hok ⊢
  repeat (first | with_reducible apply aP)
  exact Fin.panicL hok aRfl (Sels.allZ _) (EvalPost.outE ho)
 rintro x _ ⟨own1, rfl, ho⟩ hok
 rw [List.append_nil] at hok ⊢
 cases o1 with
 | leave d v => cases ho
 | stop e => cases ho
 | val v =>
 cases ho
 refine RD.run rfl (RD.done rfl ?_)
 repeat (with_reducible first | apply aN | apply CW.ret)
 exact Fin.retL hok rfl aRfl (Sels.allZ _) ⟨own1, rfl, rfl⟩
set_option maxRecDepth 10000 in
theorem guard1_spec (x0 : CExp) (ks : List CRaw) (o n hand : Int) (hs : List Hd) (c : List (Nat × Int)) (st : Cond.St) (r : Res) (own : Own)
  (hcall : LCalls Tryz.prog 67 [.ptr rb 0, .agg [.int .i64 (rawE x0).op, .int .i64 (rawE x0).n, .slc 3 ((rawE x0).kids.map CRaw.av) .fro], .agg [.int .i64 hand, hsA hs, chainA c]] (rK rb mb P own st) (EvalPost rb mb P c r)) :
  LCalls Tryz.prog 89 [.fptr [.ptr rb 0] 0, .fptr [.int .i64 o, .int .i64 n, .slc 3 ((rawE x0 :: ks).map CRaw.av) .fro] 0, .fptr [.int .i64 hand, hsA hs, chainA c] 0] (rK rb mb P own st) (EvalPost rb mb P c r) := by
 obtain ⟨o1, st1⟩ := r
 refine LCalls.of_CW tO call89 Tryz.func89 rfl rfl fun s₀ hok => ?_
 simp only [List.map_cons]
 repeat (first | (with_reducible first | apply CW.seq | apply aN) | refine wR rfl ?_)
 refine CW.drw tO mixed rfl (RD.run rfl ?_)
 refine RD.idx 3 0 rfl rfl rfl rfl rfl rfl rfl rfl rfl rfl rfl rfl rfl (congrArg some (CRaw.av_eq _)) rfl ?_; refine RD.run rfl ?_
 refine RD.callL 6 rfl rfl rfl rfl rfl rfl rfl hcall hok (Sels.allZ _) ?_ ?_
 rotate_left
 ·rintro x _ ⟨own1, rfl, ho⟩ hok
  rw [List.append_nil] at hok ⊢
  repeat (first | with_reducible apply aP)
  exact Fin.panicL hok aRfl (Sels.allZ _) (EvalPost.outE ho)
 rintro x _ ⟨own1, rfl, ho⟩ hok
 rw [List.append_nil] at hok ⊢
 cases o1 with
 | leave d v => cases ho
 | stop e => cases ho
 | val v =>
 cases ho
 refine RD.run rfl (RD.done rfl ?_)
 repeat (with_reducible first | apply aN | apply CW.ret)
 exact Fin.retL hok rfl aRfl (Sels.allZ _) ⟨own1, rfl, rfl⟩
theorem EvalPost.held {c : List (Nat × Int)} {r : Res} (o : AOut) (K : LS) (h : EvalPost rb mb P c r o K) : Held o := by
 obtain ⟨own, -, rfl⟩ := h
 obtain ⟨o, st⟩ := r
 cases o with
 | val v => exact .inl ⟨v, rfl⟩
 | leave d v => exact .inr (.inl ⟨_, v, rfl⟩)
 | stop e => exact .inr (.inr ⟨_, rfl⟩)
theorem leave_inj {c c' : List (Nat × Int)} {d : Nat} {v v' : Int} (h : AOut.panic (leaveA c' v) = outA c (.leave d v')) : chainA c' = chainA (c.drop (c.length - (d + 1))) ∧ v = v' := by
 have h : AOut.panic (leaveA c' v) = AOut.panic (leaveA (c.drop (c.length - (d + 1))) v') := h
 unfold leaveA at h
 injection h with h
 injection h with h1 h
 injection h with h
 injection h with h2 h
 injection h with h3 h
 injection h3 with h4 h5
 exact ⟨h2, h5⟩
def OfferPost (rb mb : Nat) (P : List CExp) (c : List (Nat × Int)) (r : Res) (o : AOut) (K : LS) : Prop :=
 ∃ own, K = rK rb mb P own r.2 ∧ match r.1 with
  | .val v => o = .ret (.tup [.int .i64 v, .int .i64 0, .bool false])
  | .leave d v => if d = c.length then o = .ret (.tup [.int .i64 0, .int .i64 v, .bool true]) else o = outA c r.1
  | .stop e => o = outA c r.1
set_option maxRecDepth 10000 in
set_option maxHeartbeats 1000000 in
theorem offered_spec (hP : ∀ e ∈ P, OkE P.length e) (ih : BelowC rb mb P f) {x0 a : CExp} {ks : List CRaw} {op n : Int} {s : Sc} {c : List (Nat × Int)} {st : St} (h : Pre P x0 s c st) (ha : OkE P.length a) (hl : c.length + 1 + st.fuel ≤ 1000) (hf : st.fuel < f) (own : Own) :
    LCalls Tryz.prog 87 [.ptr rb 0, .agg [.int .i64 op, .int .i64 n, .slc 3 ((rawE a :: ks).map CRaw.av) .fro], .agg [.int .i64 s.hand, hsA s.hs, chainA c]] (rK rb mb P own st) (OfferPost rb mb P c (run P a (s.offer n) st)) := by
  have hok1 := run_ok hP rfl (st.fuel + 1) a (s.offer n) st ha ⟨h.sc.hand, h.sc.hs⟩ (Nat.lt_succ_self _)
  have hcall := fun b (hb : ∀ q ∈ c, q.1 ≠ b) => ih.get (x := a) (s := s.offer n) (c := (b, n) :: c) (st := st) ⟨ha, ⟨h.sc.hand, h.sc.hs⟩, by rw [List.map_cons, h.rs]; rfl, by rw [List.map_cons]; exact List.nodup_cons.2 ⟨fun hm => by
    obtain ⟨q, hq, e⟩ := List.mem_map.1 hm
    exact hb q hq e, h.nd⟩, h.hs, hl, h.phi, h.picks⟩ hf own
  have hlen : (s.offer n).rs.length = c.length + 1 := by show (n :: s.rs).length = _; rw [← h.rs]; simp
  rw [hlen] at hok1
  rcases hr : run P a (s.offer n) st with ⟨o1, st1⟩
  rw [hr] at hcall hok1
  refine LCalls.of_CW tO call87 Tryz.func87 rfl rfl fun s₀ hok => ?_
  refine CW.seq (CW.reg ?_)
  refine wS rfl ?_
  refine wS rfl ?_
  have h1 := hsA_cells s.hs
  have h2 := chainA_cells c
  refine RL.boxL hok rfl rfl rfl rfl rfl (cs := [.int .i64 s.hand, hsA s.hs, chainA c]) (by simp [cellsOf]) (fun b5 hok => ?_)
  refine wS rfl ?_
  refine wS rfl ?_
  refine wS rfl ?_
  refine RL.nil ?_
  refine aN ?_
  refine CW.seq (CW.reg ?_)
  cases c with
  | nil =>
    refine wS rfl ?_
    refine RL.loadL tO hok rfl rfl rfl rfl rfl rfl (by repeat (first | exact Sel.here | apply Sel.there)) (by exact rfl) ?_
    refine wS rfl ?_
    refine wS rfl ?_
    refine wS rfl ?_
    refine RL.boxK (c := ([] : List (Nat × Int))) (n := n) rfl rfl rfl rfl rfl (fun b hb => ?_)
    refine wS rfl ?_
    refine RL.storeL tO hok rfl rfl rfl rfl rfl rfl (chainA_cells _) rfl (chainA_one _) (by repeat (first | exact Sel.here | apply Sel.there)) rfl (fun hok => ?_)
    refine RL.nil ?_
    refine aN ?_
    refine CW.freezeL hok 5 b5 rfl (by repeat (first | exact Sel.here | apply Sel.there)) fun hok => ?_
    have hc1 := offered1_spec a ks op n s.hand s.hs ((b, n) :: ([] : List (Nat × Int))) st (o1, st1) own (hcall b hb)
    repeat (first | with_reducible apply CW.seq | refine CW.reg ?_ | refine wS rfl ?_)
    refine RL.callL rfl rfl rfl rfl rfl (held_spec _ _ _ _ EvalPost.held hc1) hok (Sels.allZ _) ?_ ?_
    rotate_left
    · rintro x K' (⟨v, _, h⟩ | ⟨c', v, _, h⟩ | ⟨e, ⟨own2, rfl, ho⟩, ⟨⟩⟩) hok
      · cases h
      · cases h
      · rw [List.append_nil] at hok ⊢
        repeat (first | with_reducible apply aP)
        cases o1 with
        | val v => cases ho
        | leave d v => cases ho
        | stop e => exact Fin.panicL hok aRfl (Sels.allZ _) ⟨own2, rfl, ho⟩
    rintro x K' (⟨v, ⟨own2, rfl, ho⟩, ⟨⟩⟩ | ⟨c', v, ⟨own2, rfl, ho⟩, ⟨⟩⟩ | ⟨e, _, h⟩) hok
    · rw [List.append_nil] at hok ⊢
      cases o1 with
      | leave d v => cases ho
      | stop e => cases ho
      | val v =>
      cases ho
      repeat (first | (with_reducible first | apply CW.seq | apply aN | apply aR | apply iR | apply CW.ret | apply CW.block) | refine wR rfl ?_ | refine RL.nil ?_ | refine CW.condT rfl ?_ | refine wS rfl ?_)
      exact Fin.retL hok rfl aRfl (Sels.allZ _) ⟨own2, rfl, rfl⟩
    · rw [List.append_nil] at hok ⊢
      cases o1 with
      | val v => cases ho
      | stop e => cases ho
      | leave d v' =>
      have hd : d < (([] : List (Nat × Int))).length + 1 := hok1.1
      obtain ⟨hch, rfl⟩ := leave_inj ho
      by_cases e : d = (([] : List (Nat × Int))).length
      · have hdr : List.drop (((b, n) :: ([] : List (Nat × Int))).length - (d + 1)) ((b, n) :: ([] : List (Nat × Int))) = (b, n) :: ([] : List (Nat × Int)) := by rw [e]; simp
        rw [hdr, chainA] at hch
        rw [hch]
        repeat (first | (with_reducible first | apply CW.seq | apply aN | apply CW.block) | refine wR rfl ?_ | refine RL.nil ?_ | refine CW.condF rfl ?_ | refine wS rfl ?_)
        refine CW.drw tO mixed rfl (RD.run rfl ?_)
        refine RD.done rfl ?_
        repeat (first | with_reducible apply aN)
        refine CW.cond rfl (fun hh => ?_) (fun hh => ?_)
        · simp at hh
        repeat (with_reducible first | apply CW.seq | apply aN | apply iN | apply CW.skip)
        refine CW.drw tO mixed rfl (RD.run rfl ?_)
        refine RD.done rfl ?_
        repeat (with_reducible first | apply aN | apply CW.ret)
        exact Fin.retL hok rfl aRfl (Sels.allZ _) ⟨own2, rfl, by show (if d = (([] : List (Nat × Int))).length then _ else _); rw [if_pos e]⟩
      · have hdr : List.drop (((b, n) :: ([] : List (Nat × Int))).length - (d + 1)) ((b, n) :: ([] : List (Nat × Int))) = List.drop ((([] : List (Nat × Int))).length - (d + 1)) (([] : List (Nat × Int))) := by
          rw [show ((b, n) :: ([] : List (Nat × Int))).length - (d + 1) = ((([] : List (Nat × Int))).length - (d + 1)) + 1 by rw [List.length_cons]; omega, List.drop_succ_cons]
        obtain ⟨b', n', r', hd', -, -⟩ := drop_at (c := ([] : List (Nat × Int))) rfl (i := (([] : List (Nat × Int))).length - (d + 1)) (by omega)
        have hb' : b' ≠ b := hb (b', n') (by
          have : (b', n') ∈ List.drop ((([] : List (Nat × Int))).length - (d + 1)) (([] : List (Nat × Int))) := by rw [hd']; exact List.mem_cons_self
          exact List.mem_of_mem_drop this)
        rw [hdr, hd', chainA] at hch
        rw [hch]
        repeat (first | (with_reducible first | apply CW.seq | apply aN | apply CW.block) | refine wR rfl ?_ | refine RL.nil ?_ | refine CW.condF rfl ?_ | refine wS rfl ?_)
        refine CW.drw tO mixed rfl (RD.run rfl ?_)
        refine RD.done rfl ?_
        repeat (first | with_reducible apply aN)
        refine CW.cond rfl (fun hh => ?_) (fun hh => ?_)
        rotate_left
        · simp [hb'] at hh
        repeat (first | refine CW.reg ?_ | refine wS rfl ?_)
        refine RL.panic rfl rfl rfl rfl ?_
        exact Fin.panicL hok aRfl (Sels.allZ _) ⟨own2, rfl, by
          show (if d = (([] : List (Nat × Int))).length then _ else _)
          rw [if_neg e]
          show _ = AOut.panic (leaveA (List.drop ((([] : List (Nat × Int))).length - (d + 1)) (([] : List (Nat × Int)))) _)
          rw [hd', leaveA, chainA]⟩
    · cases h
  | cons q c0 =>
    refine wS rfl ?_
    refine RL.loadL tO hok rfl rfl rfl rfl rfl rfl (by repeat (first | exact Sel.here | apply Sel.there)) (by exact rfl) ?_
    refine wS rfl ?_
    refine wS rfl ?_
    refine wS rfl ?_
    refine RL.boxK (c := (q::c0)) (n := n) rfl rfl rfl rfl rfl (fun b hb => ?_)
    refine wS rfl ?_
    refine RL.storeL tO hok rfl rfl rfl rfl rfl rfl (chainA_cells _) rfl (chainA_one _) (by repeat (first | exact Sel.here | apply Sel.there)) rfl (fun hok => ?_)
    refine RL.nil ?_
    refine aN ?_
    refine CW.freezeL hok 5 b5 rfl (by repeat (first | exact Sel.here | apply Sel.there)) fun hok => ?_
    have hc1 := offered1_spec a ks op n s.hand s.hs ((b, n) :: (q::c0)) st (o1, st1) own (hcall b hb)
    repeat (first | with_reducible apply CW.seq | refine CW.reg ?_ | refine wS rfl ?_)
    refine RL.callL rfl rfl rfl rfl rfl (held_spec _ _ _ _ EvalPost.held hc1) hok (Sels.allZ _) ?_ ?_
    rotate_left
    · rintro x K' (⟨v, _, h⟩ | ⟨c', v, _, h⟩ | ⟨e, ⟨own2, rfl, ho⟩, ⟨⟩⟩) hok
      · cases h
      · cases h
      · rw [List.append_nil] at hok ⊢
        repeat (first | with_reducible apply aP)
        cases o1 with
        | val v => cases ho
        | leave d v => cases ho
        | stop e => exact Fin.panicL hok aRfl (Sels.allZ _) ⟨own2, rfl, ho⟩
    rintro x K' (⟨v, ⟨own2, rfl, ho⟩, ⟨⟩⟩ | ⟨c', v, ⟨own2, rfl, ho⟩, ⟨⟩⟩ | ⟨e, _, h⟩) hok
    · rw [List.append_nil] at hok ⊢
      cases o1 with
      | leave d v => cases ho
      | stop e => cases ho
      | val v =>
      cases ho
      repeat (first | (with_reducible first | apply CW.seq | apply aN | apply aR | apply iR | apply CW.ret | apply CW.block) | refine wR rfl ?_ | refine RL.nil ?_ | refine CW.condT rfl ?_ | refine wS rfl ?_)
      exact Fin.retL hok rfl aRfl (Sels.allZ _) ⟨own2, rfl, rfl⟩
    · rw [List.append_nil] at hok ⊢
      cases o1 with
      | val v => cases ho
      | stop e => cases ho
      | leave d v' =>
      have hd : d < ((q::c0)).length + 1 := hok1.1
      obtain ⟨hch, rfl⟩ := leave_inj ho
      by_cases e : d = ((q::c0)).length
      · have hdr : List.drop (((b, n) :: (q::c0)).length - (d + 1)) ((b, n) :: (q::c0)) = (b, n) :: (q::c0) := by rw [e]; simp
        rw [hdr, chainA] at hch
        rw [hch]
        repeat (first | (with_reducible first | apply CW.seq | apply aN | apply CW.block) | refine wR rfl ?_ | refine RL.nil ?_ | refine CW.condF rfl ?_ | refine wS rfl ?_)
        refine CW.drw tO mixed rfl (RD.run rfl ?_)
        refine RD.done rfl ?_
        repeat (first | with_reducible apply aN)
        refine CW.cond rfl (fun hh => ?_) (fun hh => ?_)
        · simp at hh
        repeat (with_reducible first | apply CW.seq | apply aN | apply iN | apply CW.skip)
        refine CW.drw tO mixed rfl (RD.run rfl ?_)
        refine RD.done rfl ?_
        repeat (with_reducible first | apply aN | apply CW.ret)
        exact Fin.retL hok rfl aRfl (Sels.allZ _) ⟨own2, rfl, by show (if d = ((q::c0)).length then _ else _); rw [if_pos e]⟩
      · have hdr : List.drop (((b, n) :: (q::c0)).length - (d + 1)) ((b, n) :: (q::c0)) = List.drop (((q::c0)).length - (d + 1)) ((q::c0)) := by
          rw [show ((b, n) :: (q::c0)).length - (d + 1) = (((q::c0)).length - (d + 1)) + 1 by rw [List.length_cons]; omega, List.drop_succ_cons]
        obtain ⟨b', n', r', hd', -, -⟩ := drop_at (c := (q::c0)) rfl (i := ((q::c0)).length - (d + 1)) (by omega)
        have hb' : b' ≠ b := hb (b', n') (by
          have : (b', n') ∈ List.drop (((q::c0)).length - (d + 1)) ((q::c0)) := by rw [hd']; exact List.mem_cons_self
          exact List.mem_of_mem_drop this)
        rw [hdr, hd', chainA] at hch
        rw [hch]
        repeat (first | (with_reducible first | apply CW.seq | apply aN | apply CW.block) | refine wR rfl ?_ | refine RL.nil ?_ | refine CW.condF rfl ?_ | refine wS rfl ?_)
        refine CW.drw tO mixed rfl (RD.run rfl ?_)
        refine RD.done rfl ?_
        repeat (first | with_reducible apply aN)
        refine CW.cond rfl (fun hh => ?_) (fun hh => ?_)
        rotate_left
        · simp [hb'] at hh
        repeat (first | refine CW.reg ?_ | refine wS rfl ?_)
        refine RL.panic rfl rfl rfl rfl ?_
        exact Fin.panicL hok aRfl (Sels.allZ _) ⟨own2, rfl, by
          show (if d = ((q::c0)).length then _ else _)
          rw [if_neg e]
          show _ = AOut.panic (leaveA (List.drop (((q::c0)).length - (d + 1)) ((q::c0))) _)
          rw [hd', leaveA, chainA]⟩
    · cases h
end
end Go.Proofs.YtdeiinhccdlfiaaGreat

/- Chapter 19: contracts of cond: restarts, guards, the value of any expression. -/
namespace Go.Proofs.YtdeiinhccdlfiaaGreat
open Go.AE Go.Cond

section
variable {rb mb : Nat} {P : List CExp} {f : Nat}
set_option maxRecDepth 10000 in
set_option maxHeartbeats 1000000 in
theorem restart_spec (hP : ∀ e ∈ P, OkE P.length e) (ih : BelowC rb mb P f) {n : Int} {a b : CExp} {s : Sc} {c : List (Nat × Int)} {st : St} (h : Pre P (.restart n a b) s c st) (hl : c.length + 1 + st.fuel ≤ 1000) (hf : st.fuel < f) :
  EvalC 61 rb mb P (.restart n a b) s c st (onLeave (run P a (s.offer n) st) s.rs.length fun v st => run P b (s.with v) st) := by
 intro own
 have hof := offered_spec (ks := [rawE b]) (op := 11) (n := n) hP ih h h.x.2.2.1 hl hf own
 have hok1 := run_ok hP rfl (st.fuel + 1) a (s.offer n) st h.x.2.2.1 ⟨h.sc.hand, h.sc.hs⟩ (Nat.lt_succ_self _)
 have hlen : s.rs.length = c.length := by rw [← h.rs, List.length_map]
 rcases hr : run P a (s.offer n) st with ⟨o1, st1⟩
 rw [hr] at hof hok1
 rw [hlen]
 refine LCalls.of_CW tO call61 Tryz.func61 rfl rfl fun s₀ hok => ?_
 unfold scA rawE
 rw [av_mk]
 repeat (first | (with_reducible first | apply CW.seq | apply aN) | refine wR rfl ?_ | refine CW.reg ?_ | refine wS rfl ?_)
 refine RL.callL rfl rfl rfl rfl rfl hof hok (Sels.allZ _) ?_ ?_
 rotate_left
 ·rintro x _ ⟨own1, rfl, ho⟩ hok
  rw [List.append_nil] at hok ⊢
  repeat (first | with_reducible apply aP)
  cases o1 with
  | val v => cases ho
  | leave d v =>
   by_cases e : d = c.length
   ·dsimp only at ho; rw [if_pos e] at ho; cases ho
   ·dsimp only at ho; rw [if_neg e] at ho
    exact Fin.panicL hok aRfl (Sels.allZ _) (by rw [onLeave, if_neg e]; exact ⟨own1, rfl, ho⟩)
  | stop e => exact Fin.panicL hok aRfl (Sels.allZ _) ⟨own1, rfl, ho⟩
 rintro x _ ⟨own1, rfl, ho⟩ hok
 rw [List.append_nil] at hok ⊢
 cases o1 with
 | stop e => cases ho
 | val v =>
  cases ho
  repeat (first | (with_reducible first | apply CW.seq | apply aN | apply CW.ret | apply CW.skip) | refine wR rfl ?_ | refine RL.nil ?_ | refine CW.condF rfl ?_ | refine wS rfl ?_)
  exact Fin.retL hok rfl aRfl (Sels.allZ _) ⟨own1, rfl, rfl⟩
 | leave d v =>
  by_cases e : d = c.length
  ·dsimp only at ho; rw [if_pos e] at ho
   cases ho
   obtain ⟨h1, hf1⟩ := h.next (y := b) (by simp) hr h.x.2.2.2
   have hcall := ih.get (s := s.with v) ⟨h1.x, ⟨hok1.2, h1.sc.hs⟩, h1.rs, h1.nd, h1.hs, h1.rl, h1.phi, h1.picks⟩ (by omega) own1
   rw [onLeave, if_pos e]
   rcases hr2 : run P b (s.with v) st1 with ⟨o2, st2⟩
   rw [hr2] at hcall
   repeat (first | (with_reducible first | apply CW.seq | apply aN) | refine wR rfl ?_ | refine RL.nil ?_ | refine CW.condT rfl ?_ | refine wS rfl ?_)
   refine CW.drw tO mixed rfl (RD.run rfl ?_)
   refine RD.idx 3 1 rfl rfl rfl rfl rfl rfl rfl rfl rfl rfl rfl rfl rfl (congrArg some (CRaw.av_eq _)) rfl ?_; refine RD.run rfl ?_
   refine RD.calmPP (i := 7) rfl rfl rfl rfl rfl rfl rfl (with_spec _ _ _ _) ?_
   refine RD.run rfl ?_
   refine RD.callL 8 rfl rfl rfl rfl rfl rfl rfl hcall hok (Sels.allZ _) ?_ ?_
   rotate_left
   ·rintro x _ ⟨own1, rfl, ho⟩ hok
    rw [List.append_nil] at hok ⊢
    repeat (first | with_reducible apply aP)
    exact Fin.panicL hok aRfl (Sels.allZ _) (by first | exact EvalPost.out ho | (simp only [andThen, hr2]; first | exact EvalPost.out ho | exact EvalPost.outE ho))
   rintro x _ ⟨own1, rfl, ho⟩ hok
   rw [List.append_nil] at hok ⊢
   cases o2 with
   | leave d v => cases ho
   | stop e => cases ho
   | val u =>
   cases ho
   refine RD.run rfl ?_
   refine RD.done rfl ?_
   repeat (with_reducible first | apply aN | apply aR | apply CW.ret)
   exact Fin.retL hok rfl aRfl (Sels.allZ _) ⟨own1, rfl, rfl⟩
  ·dsimp only at ho; rw [if_neg e] at ho; cases ho
set_option maxRecDepth 10000 in
set_option maxHeartbeats 1000000 in
theorem again_spec (hP : ∀ e ∈ P, OkE P.length e) (ih : BelowC rb mb P f) {n : Int} {a : CExp} {s : Sc} {c : List (Nat × Int)} {st : St} (h : Pre P (.again n a) s c st) (hl : c.length + 1 + st.fuel ≤ 1000) (hf : st.fuel < f) :
  EvalC 62 rb mb P (.again n a) s c st (agains P n a s s.hand st) := by
 intro own
 have hof := fun (v : Int) (hv : InR v) (st1 : Cond.St) (own1 : Own) (h1 : Pre P (.again n a) s c st1) (hf1 : st1.fuel ≤ st.fuel) => offered_spec (s := s.with v) (ks := []) (op := 12) (n := n) hP ih (x0 := .again n a) (st := st1) ⟨h1.x, ⟨hv, h1.sc.hs⟩, h1.rs, h1.nd, h1.hs, h1.rl, h1.phi, h1.picks⟩ h1.x.2.2 (by omega) (by omega) own1
 have hok1 := fun (v : Int) (hv : InR v) (st1 : Cond.St) => run_ok hP rfl (st1.fuel + 1) a ((s.with v).offer n) st1 h.x.2.2 ⟨hv, h.sc.hs⟩ (Nat.lt_succ_self _)
 have hlen : s.rs.length = c.length := by rw [← h.rs, List.length_map]
 have hag := fun v st1 => agains_eq P n a s v st1
 rw [hlen] at hag
 refine LCalls.of_CW tO call62 Tryz.func62 rfl rfl fun s₀ hok => ?_
 unfold scA rawE
 rw [av_mk]
 generalize hR : agains P n a s s.hand st = R
 repeat (first | (with_reducible first | apply CW.seq | apply aN) | refine wR rfl ?_ | refine CW.reg ?_ | refine wS rfl ?_)
 -- one offer
 have one : ∀ (v : Int) (st1 : Cond.St), R = agains P n a s v st1 → ∀ (o1 : Out) (st2 : Cond.St), run P a ((s.with v).offer n) st1 = (o1, st2) →
   (∀ u, o1 = .val u → R = (.val u, st2)) ∧ (∀ d u, o1 = .leave d u → d ≠ c.length → R = (.leave d u, st2)) ∧ (∀ u, o1 = .leave c.length u → R = agains P n a s u st2) ∧ (∀ e, o1 = .stop e → R = (.stop e, st2)) := by
  intro v st1 hR o1 st2 hr
  rw [hag, hr] at hR
  refine ⟨fun u e => ?_, fun d u e hd => ?_, fun u e => ?_, fun e' e => ?_⟩
  ·subst e; exact hR
  ·subst e; rw [hR, onLeave, if_neg hd]
  ·subst e; rw [hR, onLeave, if_pos rfl]
  ·subst e; exact hR
 have h0 := hof s.hand h.sc.hand st own h (Nat.le_refl _)
 have k0 := one s.hand st hR.symm
 rcases hr : run P a ((s.with s.hand).offer n) st with ⟨o1, st1⟩
 have hok0 := hok1 s.hand h.sc.hand st
 rw [hr] at h0 hok0
 obtain ⟨k1, k2, k3, k4⟩ := k0 _ _ hr
 refine RL.callL rfl rfl rfl rfl rfl h0 hok (Sels.allZ _) ?_ ?_
 rotate_left
 ·rintro x _ ⟨own1, rfl, ho⟩ hok
  rw [List.append_nil] at hok ⊢
  repeat (first | with_reducible apply aP)
  cases o1 with
  | val v => cases ho
  | leave d v =>
   by_cases e : d = c.length
   ·dsimp only at ho; rw [if_pos e] at ho; cases ho
   ·dsimp only at ho; rw [if_neg e] at ho
    exact Fin.panicL hok aRfl (Sels.allZ _) (by rw [k2 d v rfl e]; exact ⟨own1, rfl, ho⟩)
  | stop e => exact Fin.panicL hok aRfl (Sels.allZ _) (by rw [k4 e rfl]; exact ⟨own1, rfl, ho⟩)
 rintro x _ ⟨own1, rfl, ho⟩ hok
 rw [List.append_nil] at hok ⊢
 obtain ⟨vv, vl, tk, hx, hst⟩ : ∃ (vv vl : Int) (tk : Bool), AOut.ret x = .ret (.tup [.int .i64 vv, .int .i64 vl, .bool tk]) ∧ (Pre P (.again n a) s c st1 ∧ st1.fuel < st.fuel ∧ ((tk = false ∧ R = (.val vv, st1)) ∨ (tk = true ∧ InR vl ∧ R = agains P n a s vl st1))) := by
  cases o1 with
  | stop e => cases ho
  | val v =>
   obtain ⟨h1, hf1⟩ := h.next (y := .again n a) (by simp) hr h.x
   exact ⟨v, 0, false, ho, h1, hf1, .inl ⟨rfl, k1 v rfl⟩⟩
  | leave d v =>
   by_cases e : d = c.length
   ·dsimp only at ho; rw [if_pos e] at ho
    subst e
    obtain ⟨h1, hf1⟩ := h.next (y := .again n a) (by simp) hr h.x
    exact ⟨0, v, true, ho, h1, hf1, .inr ⟨rfl, hok0.2, k3 v rfl⟩⟩
   ·dsimp only at ho; rw [if_neg e] at ho; cases ho
 cases hx
 repeat (first | (with_reducible first | apply CW.seq | apply aN | apply CW.block) | refine RL.nil ?_ | refine wS rfl ?_)
 refine CW.loopL hok (σ := Int × Int × Bool × Own × Cond.St) (fun q => [(0, .ptr rb 0), (4, .fptr [.int .i64 12, .int .i64 n, .slc 3 (List.map CRaw.av [rawE a]) .fro] 0), (5, .fptr [.int .i64 s.hand, hsA s.hs, chainA c] 0), (7, .int .i64 q.1), (8, .int .i64 q.2.1), (9, .bool q.2.2.1)]) (fun q => rK rb mb P q.2.2.2.1 q.2.2.2.2)
  (fun q => Pre P (.again n a) s c q.2.2.2.2 ∧ q.2.2.2.2.fuel < st.fuel ∧ ((q.2.2.1 = false ∧ R = (.val q.1, q.2.2.2.2)) ∨ (q.2.2.1 = true ∧ InR q.2.1 ∧ R = agains P n a s q.2.1 q.2.2.2.2))) (fun q => q.2.2.2.2.fuel) (vv, vl, tk, own1, st1) hst (wE rfl) (Sels.allZ _) ?_
 rintro ⟨vv, vl, tk, own1, st1⟩ ⟨h1, hf1, hI⟩ hok
 simp only at h1 hf1 hI hok ⊢
 rcases hI with ⟨rfl, hI⟩ | ⟨rfl, hvl, hI⟩
 ·repeat (first | (with_reducible first | apply CW.seq | apply aN | apply aX | apply iH | apply CW.ret | apply CW.exit) | refine wR rfl ?_ | refine CW.condF rfl ?_)
  rw [hI]
  exact Fin.retL hok rfl aRfl (Sels.allZ _) ⟨own1, rfl, rfl⟩
 ·have h0 := hof vl hvl st1 own1 h1 (by omega)
  have k0 := one vl st1 hI
  rcases hr : run P a ((s.with vl).offer n) st1 with ⟨o2, st2⟩
  have hok0 := hok1 vl hvl st1
  rw [hr] at h0 hok0
  obtain ⟨k1, k2, k3, k4⟩ := k0 _ _ hr
  repeat (first | (with_reducible first | apply CW.seq | apply aN | apply CW.skip | apply CW.block) | refine wR rfl ?_ | refine CW.condT rfl ?_)
  refine CW.drw tO mixed rfl (RD.run rfl ?_)
  refine RD.calmPP (i := 4) rfl rfl rfl rfl rfl rfl rfl (with_spec _ _ _ _) ?_
  refine RD.run rfl ?_
  refine RD.callL 5 rfl rfl rfl rfl rfl rfl rfl h0 hok (Sels.allZ _) ?_ ?_
  rotate_left
  ·rintro x _ ⟨own2, rfl, ho⟩ hok
   rw [List.append_nil] at hok ⊢
   repeat (with_reducible first | apply aP | apply iP)
   cases o2 with
   | val v => cases ho
   | leave d v =>
    by_cases e : d = c.length
    ·dsimp only at ho; rw [if_pos e] at ho; cases ho
    ·dsimp only at ho; rw [if_neg e] at ho
     exact Fin.panicL hok aRfl (Sels.allZ _) (by rw [k2 d v rfl e]; exact ⟨own2, rfl, ho⟩)
   | stop e => exact Fin.panicL hok aRfl (Sels.allZ _) (by rw [k4 e rfl]; exact ⟨own2, rfl, ho⟩)
  rintro x _ ⟨own2, rfl, ho⟩ hok
  rw [List.append_nil] at hok ⊢
  obtain ⟨vv', vl', tk', hx, hst⟩ : ∃ (vv vl : Int) (tk : Bool), AOut.ret x = .ret (.tup [.int .i64 vv, .int .i64 vl, .bool tk]) ∧ (Pre P (.again n a) s c st2 ∧ st2.fuel < st1.fuel ∧ ((tk = false ∧ R = (.val vv, st2)) ∨ (tk = true ∧ InR vl ∧ R = agains P n a s vl st2))) := by
   cases o2 with
   | stop e => cases ho
   | val v =>
    obtain ⟨h1, hf1⟩ := h1.next (y := .again n a) (by simp) hr h.x
    exact ⟨v, 0, false, ho, h1, hf1, .inl ⟨rfl, k1 v rfl⟩⟩
   | leave d v =>
    by_cases e : d = c.length
    ·dsimp only at ho; rw [if_pos e] at ho
     subst e
     obtain ⟨h1, hf1⟩ := h1.next (y := .again n a) (by simp) hr h.x
     exact ⟨0, v, true, ho, h1, hf1, .inr ⟨rfl, hok0.2, k3 v rfl⟩⟩
    ·dsimp only at ho; rw [if_neg e] at ho; cases ho
  cases hx
  refine RD.run rfl (RD.done rfl ?_)
  repeat (with_reducible first | apply aN | apply iN)
  exact NextL.mk (vv', vl', tk', own2, st2) hok ⟨hst.1, by have := hst.2.1; show st2.fuel < st.fuel; omega, hst.2.2⟩ (wE rfl) (Sels.allZ _) hst.2.1
set_option maxRecDepth 10000 in
set_option maxHeartbeats 1000000 in
theorem guard_spec (ih : BelowC rb mb P f) {a b : CExp} {s : Sc} {c : List (Nat × Int)} {st : St} (h : Pre P (.guard a b) s c st) (hphi : Cond.phi st ≤ 1998) (hf : st.fuel < f) :
  EvalC 65 rb mb P (.guard a b) s c st (behind (run P a s st) (s.ev 5 0 0) fun st => run P b s st) := by
 intro own
 have hcall := ih.get (x := a) ⟨h.x.1, h.sc, h.rs, h.nd, h.hs, h.rl, h.phi, h.picks⟩ hf own
 have hph := run_phi P (st.fuel + 1) a s st (Nat.lt_succ_self _)
 rcases hr : run P a s st with ⟨o1, st1⟩
 rw [hr] at hcall hph
 have hg := guard1_spec a [rawE b] 15 0 s.hand s.hs c st (o1, st1) own hcall
 refine LCalls.of_CW tO call65 Tryz.func65 rfl rfl fun s₀ hok => ?_
 unfold scA rawE
 rw [av_mk]
 repeat (first | (with_reducible first | apply CW.seq | apply aN) | refine wR rfl ?_ | refine CW.reg ?_ | refine wS rfl ?_)
 refine RL.callL rfl rfl rfl rfl rfl (held_spec _ _ _ _ EvalPost.held hg) hok (Sels.allZ _) ?_ ?_
 rotate_left
 ·rintro x K' (⟨v, _, h⟩ | ⟨c', v, _, h⟩ | ⟨e, ⟨own2, rfl, ho⟩, ⟨⟩⟩) hok
  ·cases h
  ·cases h
  ·rw [List.append_nil] at hok ⊢
   repeat (first | with_reducible apply aP)
   cases o1 with
   | val v => cases ho
   | leave d v => cases ho
   | stop e => exact Fin.panicL hok aRfl (Sels.allZ _) ⟨own2, rfl, ho⟩
 rintro x K' (⟨v, ⟨own2, rfl, ho⟩, ⟨⟩⟩ | ⟨c', v, ⟨own2, rfl, ho⟩, ⟨⟩⟩ | ⟨e, _, h⟩) hok
 ·rw [List.append_nil] at hok ⊢
  cases o1 with
  | leave d v => cases ho
  | stop e => cases ho
  | val v =>
  cases ho
  obtain ⟨h1, hf1⟩ := h.next (y := b) (by simp) hr h.x.2
  have hcall := ih.get h1 (by omega) own2
  rw [behind]
  rcases hr2 : run P b s st1 with ⟨o2, st2⟩
  rw [hr2] at hcall
  repeat (first | (with_reducible first | apply CW.seq | apply aN | apply CW.skip) | refine wR rfl ?_ | refine RL.nil ?_ | refine CW.condF rfl ?_ | refine wS rfl ?_)
  refine CW.drw tO mixed rfl (RD.run rfl ?_)
  refine RD.idx 3 1 rfl rfl rfl rfl rfl rfl rfl rfl rfl rfl rfl rfl rfl (congrArg some (CRaw.av_eq _)) rfl ?_; refine RD.run rfl ?_
  refine RD.callL 6 rfl rfl rfl rfl rfl rfl rfl hcall hok (Sels.allZ _) ?_ ?_
  rotate_left
  ·rintro x _ ⟨own1, rfl, ho⟩ hok
   rw [List.append_nil] at hok ⊢
   repeat (first | with_reducible apply aP)
   exact Fin.panicL hok aRfl (Sels.allZ _) (by first | exact EvalPost.out ho | (simp only [andThen, hr2]; first | exact EvalPost.out ho | exact EvalPost.outE ho))
  rintro x _ ⟨own1, rfl, ho⟩ hok
  rw [List.append_nil] at hok ⊢
  cases o2 with
  | leave d v => cases ho
  | stop e => cases ho
  | val u =>
  cases ho
  refine RD.run rfl ?_
  refine RD.done rfl ?_
  repeat (first | (with_reducible first | apply CW.seq | apply aN | apply CW.ret | apply CW.skip) | refine wR rfl ?_ | refine CW.condF rfl ?_)
  exact Fin.retL hok rfl aRfl (Sels.allZ _) ⟨own1, rfl, rfl⟩
 ·rw [List.append_nil] at hok ⊢
  cases o1 with
  | val v => cases ho
  | stop e => cases ho
  | leave d v' =>
  obtain ⟨hch, rfl⟩ := leave_inj ho
  obtain ⟨h1, hf1⟩ := h.next (y := b) (by simp) hr h.x.2
  have hph : Cond.phi st1 ≤ Cond.phi st - 1 := hph
  have ht := tell_spec rb mb P own2 s c st1 h.rs h1.small 5 0 0
  unfold scA at ht
  have hcall := fun own => ih.get (x := b) (s := s) (c := c) (st := st1.tell (s.ev 5 0 0)) ⟨h1.x, h1.sc, h1.rs, h1.nd, h1.hs, h1.rl, by rw [Cond.phi_tell]; omega, h1.picks⟩ (by show st1.fuel < f; omega) own
  rw [behind]
  rcases hr2 : run P b s (st1.tell (s.ev 5 0 0)) with ⟨o2, st2⟩
  rw [hr2] at hcall
  repeat (first | (with_reducible first | apply CW.seq | apply aN) | refine wR rfl ?_ | refine CW.reg ?_ | refine RL.nil ?_ | refine CW.condT rfl ?_ | refine wS rfl ?_)
  refine RL.callL rfl rfl rfl rfl rfl ht hok (Sels.allZ _) ?_ (fun _ _ ⟨h, _⟩ _ => by cases h)
  rintro _ _ ⟨⟨⟩, own3, rfl⟩ hok
  rw [List.append_nil] at hok ⊢
  repeat (first | (with_reducible first | apply CW.seq | apply aN) | refine RL.nil ?_)
  refine CW.drw tO mixed rfl (RD.run rfl ?_)
  refine RD.idx 3 1 rfl rfl rfl rfl rfl rfl rfl rfl rfl rfl rfl rfl rfl (congrArg some (CRaw.av_eq _)) rfl ?_; refine RD.run rfl ?_
  refine RD.callL 6 rfl rfl rfl rfl rfl rfl rfl (hcall own3) hok (Sels.allZ _) ?_ ?_
  rotate_left
  ·rintro x _ ⟨own1, rfl, ho⟩ hok
   rw [List.append_nil] at hok ⊢
   repeat (first | with_reducible apply aP)
   exact Fin.panicL hok aRfl (Sels.allZ _) (by first | exact EvalPost.out ho | (simp only [andThen, hr2]; first | exact EvalPost.out ho | exact EvalPost.outE ho))
  rintro x _ ⟨own1, rfl, ho⟩ hok
  rw [List.append_nil] at hok ⊢
  cases o2 with
  | leave d v => cases ho
  | stop e => cases ho
  | val u =>
  cases ho
  refine RD.run rfl ?_
  refine RD.done rfl ?_
  repeat (first | (with_reducible first | apply CW.seq | apply aN) | refine wR rfl ?_ | refine CW.reg ?_ | refine CW.condT rfl ?_ | refine wS rfl ?_)
  refine RL.panic rfl rfl rfl rfl ?_
  exact Fin.panicL hok aRfl (Sels.allZ _) ⟨own1, rfl, by rw [andThen]; show _ = AOut.panic (leaveA _ _); rw [leaveA, ← hch]⟩
 ·cases h
end
end Go.Proofs.YtdeiinhccdlfiaaGreat

/- Chapter 19: contracts of cond: the value of an expression (eval). -/
namespace Go.Proofs.YtdeiinhccdlfiaaGreat
open Go.AE Go.Cond

def methF : CExp → FuncId
 | .int _ => 51
 | .hand => 52
 | .add _ _ => 53
 | .say _ => 54
 | .seq _ _ => 55
 | .test _ _ _ => 56
 | .call _ _ => 57
 | .handle _ _ _ => 58
 | .signal _ _ => 59
 | .fails _ _ => 60
 | .restart _ _ _ => 61
 | .again _ _ => 62
 | .choose _ _ => 63
 | .find _ => 64
 | .guard _ _ => 65
section
variable {rb mb : Nat} {P : List CExp} {f : Nat}
theorem meth_spec (hP : ∀ e ∈ P, OkE P.length e) (ih : BelowC rb mb P f) {x : CExp} {s : Sc} {c : List (Nat × Int)} {st : St} (h : Pre P x s c st) (hphi : Cond.phi st ≤ 1998) (hl1 : s.hs.length + 1 + st.fuel ≤ 1000) (hl2 : c.length + 1 + st.fuel ≤ 1000) (hf : st.fuel < f) {k : Nat} (hk : st.fuel < k) :
  EvalC (methF x) rb mb P x s c st (Cond.step P (run P) k s st x) := by
 cases x with
 | int n => exact integer_spec
 | hand => exact hand_spec'
 | add a b => exact add_spec hP ih h hf
 | say a => exact say_spec hP ih h hf
 | seq a b => exact seq_spec ih h hf
 | test a b b' => exact test_spec hP ih h hf
 | call n a => exact call_spec hP ih h hf
 | handle n a b => exact handle_spec ih h hl1 hf
 | signal n a => exact signal_spec hP ih h hphi hf
 | fails n a => exact fails_spec hP ih h hphi hf
 | restart n a b => exact restart_spec hP ih h hl2 hf
 | again n a =>
  have := again_spec hP ih h hl2 hf
  rw [agains, again_run P n a s s.hand st (Nat.lt_succ_self _) hk] at this
  exact this
 | choose n a => exact choose_spec ih h hf
 | find n => exact find_spec h.rs
 | guard a b => exact guard_spec ih h hphi hf
theorem doesA_at (x : CExp) : getA doesA (.int .i64 (rawE x).op) = some (some (.func (methF x) [] [])) := by cases x <;> rfl
set_option maxRecDepth 10000 in
set_option maxHeartbeats 1000000 in
theorem eval_spec (hP : ∀ e ∈ P, OkE P.length e) : ∀ f, BelowC rb mb P f
  | 0, _, _, _, _, _, hf => absurd hf (Nat.not_lt_zero _)
  | f + 1, x, s, c, st, h, hf => by
    intro own
    refine LCalls.of_CW tO call67 Tryz.func67 rfl rfl fun s₀ hok => ?_
    by_cases h0 : st.fuel = 0
    · rw [run_spent P x s st h0]
      unfold scA
      rw [CRaw.av_eq]
      repeat (first | (with_reducible first | apply CW.seq | apply aN) | refine wR rfl ?_ | refine CW.reg ?_ | refine RL.nil ?_ | refine wS rfl ?_ | refine RL.loadL tO hok rfl rfl rfl rfl rfl rfl (by repeat (first | exact Sel.here | apply Sel.there)) (by exact rfl) ?_)
      refine CW.cond rfl (fun hh => ?_) (fun hh => ?_)
      rotate_left
      · simp [h0] at hh
      repeat (first | refine CW.reg ?_ | refine wS rfl ?_)
      refine RL.panic rfl rfl rfl rfl ?_
      exact Fin.panicL hok aRfl (Sels.allZ _) ⟨own, rfl, rfl⟩
    · have hm := meth_spec hP (eval_spec hP f) (k := st.fuel) (st := st.burn) ⟨h.x, h.sc, h.rs, h.nd, by have := h.hs; show _ + (st.fuel - 1) ≤ _; omega, by have := h.rl; show _ + (st.fuel - 1) ≤ _; omega, by have := phi_burn st h0; have := h.phi; omega, h.picks⟩ (by have := phi_burn st h0; have := h.phi; omega) (by have := h.hs; show _ + 1 + (st.fuel - 1) ≤ _; omega) (by have := h.rl; show _ + 1 + (st.fuel - 1) ≤ _; omega) (by show st.fuel - 1 < f; omega) (by show st.fuel - 1 < st.fuel; omega) own
      rw [run_step P x s st h0]
      generalize Cond.step P (run P) st.fuel s st.burn x = R at hm ⊢
      have hd := doesA_at x
      have hw : IntKind.wrap .i64 ((st.fuel : Int) - 1) = ((st.fuel - 1 : Nat) : Int) := by
        rw [i64_wrap (by omega) (by have := h.rl; omega)]; omega
      have hm' : LCallV Tryz.prog (.func (methF x) [] []) [.ptr rb 0, (rawE x).av, scA s c] (rK rb mb P own st.burn) (EvalPost rb mb P c R) := LCallV.of_calls (by simpa using hm)
      rw [CRaw.av_eq] at hm' ⊢
      generalize methF x = fx at hd hm'
      unfold scA at hm' ⊢
      repeat (first | (with_reducible first | apply CW.seq | apply aN) | refine wR rfl ?_ | refine CW.reg ?_ | refine RL.nil ?_ | refine wS rfl ?_ | refine RL.loadL tO hok rfl rfl rfl rfl rfl rfl (by repeat (first | exact Sel.here | apply Sel.there)) (by exact rfl) ?_)
      refine CW.cond rfl (fun hh => ?_) (fun hh => ?_)
      · simp [h0] at hh
      repeat (first | (with_reducible first | apply CW.seq | apply aN | apply CW.skip) | refine CW.reg ?_ | refine RL.nil ?_ | refine wS rfl ?_ | refine RL.loadL tO hok rfl rfl rfl rfl rfl rfl (by repeat (first | exact Sel.here | apply Sel.there)) (by exact rfl) ?_ | refine RL.storeL tO hok rfl rfl rfl rfl rfl rfl rfl rfl rfl (by repeat (first | exact Sel.here | apply Sel.there)) (by exact rfl) (fun hok => ?_))
      rw [hw] at hok ⊢
      refine CW.dropL hok (rK rb mb P own st.burn) (by simp only [rK, runnerA]; repeat (first | exact Sels.nil | (apply Sels.cons; · repeat (first | exact Sel.here | apply Sel.there)))) fun hok => ?_
      refine CW.drw tO mixed rfl (RD.run rfl ?_)
      refine RD.loadL 3 tO hok rfl rfl rfl rfl rfl rfl rfl rfl (by repeat (first | exact Sel.here | apply Sel.there)) (by exact rfl) ?_; refine RD.run rfl ?_
      refine RD.lookupL 6 tO hok rfl rfl rfl rfl rfl rfl rfl rfl rfl rfl rfl rfl (by unfold rK; exact .there (.there .here)) rfl hd rfl ?_
      refine RD.run rfl ?_
      refine RD.callVL 10 rfl rfl rfl rfl rfl rfl rfl rfl hm' hok (Sels.allZ _) ?_ ?_
      rotate_left
      · rintro x _ ⟨own1, rfl, ho⟩ hok
        rw [List.append_nil] at hok ⊢
        repeat (first | with_reducible apply aP)
        exact Fin.panicL hok aRfl (Sels.allZ _) ⟨own1, rfl, ho⟩
      rintro x _ ⟨own1, rfl, ho⟩ hok
      rw [List.append_nil] at hok ⊢
      obtain ⟨o1, st1⟩ := R
      cases o1 with
      | leave d v => cases ho
      | stop e => cases ho
      | val v =>
      cases ho
      refine RD.run rfl (RD.done rfl ?_)
      repeat (with_reducible first | apply aN | apply CW.ret)
      exact Fin.retL hok rfl aRfl (Sels.allZ _) ⟨own1, rfl, rfl⟩
end
end Go.Proofs.YtdeiinhccdlfiaaGreat

/- Chapter 19: contracts of cond: a run (runs). -/
namespace Go.Proofs.YtdeiinhccdlfiaaGreat
open Go.AE Go.Cond

theorem runs_idle (b : Nat) (w : World) :
  CallsD Tryz.prog 66 #[.pointer (some ⟨b, 0, none⟩)] .returning w fun e u' w' => e = .returned (.tuple #[]) ∧ u' = .returning ∧ w' = w := by
 refine callsD_of_wpS Tryz.func66 rfl fun c₀ cs hu => ?_
 apply wpS_seq
 apply wpS_region
 simp [wpOpsS, go_sem, recoverD, hu, Tryz.ntmps66, Exit.thenS]
 refine wpS_of_wp ?_
 go_wp2
 cases c₀
 simp_all [bodyPostS, results, Tryz.results66, Exit.thenS]

theorem ta_stop (e : Value) (w : World) : (Instr.typeAssert (stopV e) 20 102 true).run Tryz.prog w = .ok (.tuple #[.agg #[e], .bool true]) w := by kernel_rfl
set_option maxRecDepth 10000 in
theorem runs_stop (b rb : Nat) (w : World) (e : Int) (rest : List PanicEntry) (hbl : b < w.heap.size) (hb : w.cell? ⟨b, 0, none⟩ = some (.pointer (some ⟨rb, 0, none⟩))) (vs : Array Value) (hr : w.heap[rb]? = some (.cells vs 67 (0, 0))) (hs : vs.size = 7) :
  CallsD Tryz.prog 66 #[.pointer (some ⟨b, 0, none⟩)] (.panicking ({ v := stopV (.int .i64 e), recovered := false } :: rest)) w
   fun o u' w' => o = .returned (.tuple #[]) ∧ u' = .panicking ({ v := stopV (.int .i64 e), recovered := true } :: rest) ∧ w' = (w.alloc (.cells #[.int .i64 e] 102)).setRow rb (vs.setIfInBounds 0 (.int .i64 e)) := by
 refine callsD_of_wpS Tryz.func66 rfl fun c₀ cs hu => ?_
 apply wpS_seq
 apply wpS_region
 simp [wpOpsS, go_sem, recoverD, hu, Tryz.ntmps66, Exit.thenS]
 apply wpS_block
 apply wpS_seq
 apply wpS_region
 simp [wpOpsS, go_sem, Exit.thenS, guard_iface, eq_iface]
 refine wpS_cond (t := false) (by simp [Act.eval, Act.put]) ?_
 simp only [Bool.false_eq_true, if_false]
 apply wpS_seq
 apply wpS_region
 simp [wpOpsS, go_sem, Exit.thenS, ta_stop]
 refine wpS_cond (t := true) (by simp [Act.eval, Act.put]) ?_
 simp only [if_true]
 apply wpS_seq
 apply wpS_region
 simp [wpOpsS, go_sem, Exit.thenS]
 have hrl : rb < w.heap.size := (Array.getElem?_eq_some_iff.1 hr).1
 have c1 : (w.alloc (.cells #[.int .i64 e] 102)).cell? ⟨b, 0, none⟩ = some (.pointer (some ⟨rb, 0, none⟩)) := (cell_of_heap (heap_alloc_lt w (.cells #[.int .i64 e] 102) b hbl)).trans hb
 have hr' := (heap_alloc_lt w (.cells #[.int .i64 e] 102) rb hrl).trans hr
 have hn' := heap_alloc_here w (.cells #[.int .i64 e] 102)
 generalize w.alloc (.cells #[.int .i64 e] 102) = w1 at c1 hr' hn' ⊢
 generalize w.heap.size = n1 at hn' ⊢
 have c2 : w1.cell? ⟨n1, 0, none⟩ = some (.int .i64 e) := by rw [cells_of_box hn']; rfl
 have c3 : w1.cell? ⟨rb, 0, none⟩ = some (vs[0]'(by omega)) := by rw [cells_of_box hr']; simp [hs]
 have c4 : w1.frozen? ⟨rb, 0, none⟩ = false := by simp [World.frozen?, hr']
 have c5 : w1.setCell ⟨rb, 0, none⟩ (.int .i64 e) = w1.setRow rb (vs.setIfInBounds 0 (.int .i64 e)) := by
  simp only [World.setCell, World.setRow]
  congr 1
  refine Array.ext_getElem? fun k => ?_
  rw [Array.getElem?_modify, Array.getElem?_modify]
  by_cases e : rb = k
  ·subst e; rw [if_pos rfl, if_pos rfl, hr']; rfl
  ·rw [if_neg e, if_neg e]
 refine wpS_of_wp ?_
 go_wp2
 cases c₀
 simp_all [bodyPostS, inBlockS, results, Tryz.results66, Exit.thenS]

def endA (mb : Nat) (P : List CExp) (own : Own) (fin val : Int) (st : Cond.St) : List AV :=
 [.int .i64 fin, .int .i64 val, .slc 5 (st.evs.map evA) own, .int .i64 (st.fuel : Int), progA P, .slc 1 (st.picks.map intA) .fro, .map mb]
def eK (rb mb : Nat) (P : List CExp) (own : Own) (fin val : Int) (st : Cond.St) : LS :=
 [(.own rb, .box 67 (endA mb P own fin val st)), (own, .row 48 5 st.evs.length), (.own mb, .map doesA)]
section
variable {rb mb : Nat} {P : List CExp}
theorem CW.use {N : Nat} {c : Code} {Q : AEx → Env → Store → Prop} {env : Env} {s : Store} (h : CW Tryz.prog N c Q env s) {b : Frame} {B : Base} {a : Act} {w : World} {p : Prot} (hf : (Tryz.prog.funcs[b.fn]?).isSome = true) (hst : St N B b.roundOf env s a w p) :
  cwp Tryz.prog b c (Post N B b.roundOf s w p Q) a w := h b B a w p hf hst
def RunsQ (rb mb : Nat) (P : List CExp) (s₀ : Store) (R : Res) : AEx → Env → Store → Prop
 | .normal, _, s' => ∃ own' v st', R = (.val v, st') ∧ At s₀ (fun K => K = eK rb mb P own' 1 v st') s'
 | .panic x, _, s' => ∃ own' e st', R = (.stop e, st') ∧ x = stopA e.num ∧ At s₀ (fun K => K = rK rb mb P own' st') s'
 | _, _, _ => False
set_option maxRecDepth 10000 in
set_option maxHeartbeats 1000000 in
theorem runs_spec (hP : ∀ e ∈ P, OkE P.length e) (hl : 1 ≤ P.length) (hand : Int) (hh : InR hand) (st : Cond.St) (hfu : st.fuel ≤ 900) (hevs : Cond.phi st ≤ 2000) (hpk : ∀ p ∈ st.picks, 0 ≤ p) (own : Own) :
  LCalls Tryz.prog 32 [.ptr rb 0, .int .i64 hand] (rK rb mb P own st) (fun o K => o = .ret (.tup []) ∧ ∃ own', K = eK rb mb P own' (Run.of (run P (P.getD 0 default) ⟨hand, [], []⟩ st)).fin (Run.of (run P (P.getD 0 default) ⟨hand, [], []⟩ st)).val (run P (P.getD 0 default) ⟨hand, [], []⟩ st).2) := by
 intro s hok
 refine ⟨call32, fun w p vs hwf hrel => ?_⟩
 cases hrel with
 | cons v0 _ vs _ h0 ht =>
 cases ht with
 | cons v1 _ vs _ h1 ht =>
 cases ht
 cases h0
 cases h1
 unfold CallsX
 refine calls_of_defer (T := [{ target := .fn (.func 66) #[.pointer (some ⟨w.heap.size, 0, none⟩)], args := #[] }]) Tryz.func32 rfl ?_
 go_wp2
 intro b hro hfn
 have q1 := alloc_le hwf.lt (.cells #[.pointer (some ⟨rb, 0, none⟩)] 63) True
 have q2 := alloc_wf hwf (.cells #[.pointer (some ⟨rb, 0, none⟩)] 63) True
 have q3 := alloc_cells (w := w) (p := p) [.pointer (some ⟨rb, 0, none⟩)] 63
 have q4 := alloc_kept (s := sto s (rK rb mb P own st)) (w := w) (p := p) (.cells #[.pointer (some ⟨rb, 0, none⟩)] 63) True
 refine cwp_mono (CW.use (N := 25) (env := [(0, .ptr rb 0), (1, .int .i64 hand), (2, .fptr [.ptr rb 0] 0)]) (s := sto s (rK rb mb P own st)) (Q := RunsQ rb mb P s (run P (P.getD 0 default) ⟨hand, [], []⟩ st)) (B := (w.heap.size, [{ target := .fn (.func 66) #[.pointer (some ⟨w.heap.size, 0, none⟩)], args := #[] }])) (p := p.also w.heap.size True) ?_ (by rw [hfn]; rfl) ⟨by simp, fun t v hv => ?_, q2, ⟨[], by simp [marksOf], by simp, by simp⟩, fun l hl => (by rw [hro] at hl; cases hl), by simp⟩) ?_
 ·obtain ⟨fu⟩ : True := trivial
  have hst0 := run_ok hP rfl (st.fuel + 1) (P.getD 0 default) ⟨hand, [], []⟩ st
  have hx0 : OkE P.length (P.getD 0 default) := by
   rw [List.getD_eq_getElem?_getD, List.getElem?_eq_getElem (by omega)]
   exact hP _ (List.getElem_mem _)
  have hsc : OkSc P.length ⟨hand, [], []⟩ := ⟨hh, fun h hm => by cases hm⟩
  have hr0 := hst0 hx0 hsc (Nat.lt_succ_self _)
  have hel : ((P.map rawE).map CRaw.av)[0]? = some (.agg (rawE (P.getD 0 default)).cells) := by
   rw [← CRaw.av_eq, List.getElem?_map, List.getElem?_map, List.getD_eq_getElem?_getD, List.getElem?_eq_getElem (by omega)]; rfl
  have hcall := (eval_spec (rb := rb) (mb := mb) hP (st.fuel + 1)).get (x := P.getD 0 default) (s := ⟨hand, [], []⟩) (c := []) (st := st) ⟨hx0, hsc, rfl, List.nodup_nil, by show 0 + _ ≤ _; omega, by show 0 + _ ≤ _; omega, hevs, hpk⟩ (Nat.lt_succ_self _) own
  rcases hr : run P (P.getD 0 default) ⟨hand, [], []⟩ st with ⟨o1, st1⟩
  rw [hr] at hcall hr0
  generalize P.getD 0 default = x0 at hel hcall
  unfold chainA hsA at hcall
  repeat (first | with_reducible apply CW.seq)
  refine CW.drw tO mixed rfl (RD.run rfl ?_)
  refine RD.loadL 4 tO hok rfl rfl rfl rfl rfl rfl rfl rfl (by repeat (first | exact Sel.here | apply Sel.there)) (by exact rfl) ?_; refine RD.run rfl ?_
  refine RD.idx 5 0 rfl rfl rfl rfl rfl rfl rfl rfl rfl rfl rfl rfl rfl hel rfl ?_
  refine RD.run rfl ?_
  refine RD.callL 9 rfl rfl rfl rfl rfl rfl rfl hcall hok (Sels.allZ _) ?_ ?_
  rotate_left
  ·rintro x _ ⟨own1, rfl, ho⟩ hok
   rw [List.append_nil] at hok ⊢
   cases o1 with
   | val v => cases ho
   | leave d v => exact absurd hr0.1 (Nat.not_lt_zero _)
   | stop e =>
    cases ho
    exact ⟨own1, e, st1, rfl, rfl, At.mk _ hok (Sels.allZ _) rfl⟩
  rintro x _ ⟨own1, rfl, ho⟩ hok
  rw [List.append_nil] at hok ⊢
  cases o1 with
  | leave d v => cases ho
  | stop e => cases ho
  | val v =>
  cases ho
  refine RD.run rfl (RD.done rfl ?_)
  repeat (first | with_reducible apply aN)
  refine CW.drw tO mixed rfl (RD.run rfl ?_)
  refine RD.storeL 6 tO hok rfl rfl rfl rfl rfl rfl rfl rfl rfl rfl rfl (by repeat (first | exact Sel.here | apply Sel.there)) (by exact rfl) (fun hok => ?_); refine RD.run rfl ?_
  refine RD.storeL 10 tO hok rfl rfl rfl rfl rfl rfl rfl rfl rfl rfl rfl (by repeat (first | exact Sel.here | apply Sel.there)) (by exact rfl) (fun hok => ?_); refine RD.run rfl ?_
  refine RD.run rfl (RD.done rfl ?_)
  exact ⟨own1, v, st1, rfl, At.mk (eK rb mb P own1 1 v st1) hok (by simp only [eK, endA]; repeat (first | exact Sels.nil | (apply Sels.cons; · repeat (first | exact Sel.here | apply Sel.there)))) rfl⟩
 ·simp only [Env.get?] at hv
  split at hv
  ·rename_i e; cases hv; obtain rfl := Nat.eq_of_beq_eq_true e
   simp [Array.getD_eq_getD_getElem?]
   exact .ptr rb 0
  split at hv
  ·rename_i e; cases hv; obtain rfl := Nat.eq_of_beq_eq_true e
   simp [Array.getD_eq_getD_getElem?]
   exact .int _ _
  split at hv
  ·rename_i e; cases hv; obtain rfl := Nat.eq_of_beq_eq_true e
   simp [Array.getD_eq_getD_getElem?]
   exact .fptr w.heap.size 0 0 0 [.pointer (some ⟨rb, 0, none⟩)] _ rfl q3 (.cons _ _ _ _ (.ptr rb 0) .nil)
  ·cases hv
 ·rintro e a' w' ⟨x, env', s', p', hx, hq, hst', hle', hk⟩
  obtain ⟨ds, hds, hnd, hD⟩ := hst'.defs
  obtain ⟨e1, e2, e3, e4⟩ := emptied_ok ds w' hst'.wf (fun d hd => ⟨_, (hD d hd).2.1⟩)
  have hgd : P[0]?.getD default = P.getD 0 default := (List.getD_eq_getElem?_getD ..).symm
  rw [hgd]
  have hL : Le w p (emptied w' ds) p' := (q1.trans hle').trans e1
  have hK0 := q4.trans q1.size hk
  have hK : Kept (sto s (rK rb mb P own st)) s' w p (emptied w' ds) p' := ⟨fun b' hb' hn => (e3 b' (fun hm => by have := (hD b' hm).1; simp only at this; omega)).trans (hK0.heap b' hb' hn), hK0.dom, hK0.prot⟩
  cases hx with
  | exit id => exact hq.elim
  | ret => exact hq.elim
  | normal =>
   obtain ⟨own', v, st', hR, L, K, R', rfl, k1, k2, rfl⟩ := hq
   obtain ⟨m1, m2⟩ := k2.sub k1
   refine ⟨ds, hds, hnd, fun d hd => (hD d hd).2.1, ?_⟩
   refine leaves_cons (f := 66) (args := #[.pointer (some ⟨w.heap.size, 0, none⟩)]) (by simp) (by simp [go_sem]) ?_
   refine (runs_idle w.heap.size _).mono ?_
   rintro e u' w'' ⟨rfl, rfl, rfl⟩
   refine ⟨.tuple #[], by simp [results, Tryz.results32], by simp, .ret (.tup []), _, p', .tup _ _ .nil, ⟨_, rfl, m2, rfl, own', by rw [hR]; rfl⟩, hL, hK.sub m1, e2.sub m1⟩
  | panic v x ch hch hv =>
   obtain ⟨own', e0, st', hR, rfl, L, K, R', rfl, k1, k2, rfl⟩ := hq
   obtain ⟨m1, m2⟩ := k2.sub k1
   obtain ⟨rest, rfl, hrest⟩ := hch
   obtain rfl := rel_stop hv
   have wf1 := e2.sub m1
   have hrb : sto s (rK rb mb P own' st') rb = some (.box 67 (runnerA mb P own' st')) := Sel.get Sel.here m2
   obtain ⟨vs, hvs, hrl, hnp⟩ := wf1.obj rb _ hrb
   have hsz : vs.size = 7 := by have := hrl.length; simpa [runnerA] using this
   have hcell : (emptied w' ds).cell? ⟨w.heap.size, 0, none⟩ = some (.pointer (some ⟨rb, 0, none⟩)) := ((q3.mono (hle'.trans e1)) 0 _ rfl).2
   have hlt : w.heap.size < (emptied w' ds).heap.size := by have := (hle'.trans e1).size; simp at this; omega
   have a1 := alloc_le wf1.lt (.cells #[.int .i64 e0.num] 102) True
   have a2 := alloc_kept (s := sto s (rK rb mb P own' st')) (w := emptied w' ds) (p := p') (.cells #[.int .i64 e0.num] 102) True
   have a3 := alloc_wf wf1 (.cells #[.int .i64 e0.num] 102) True
   have hcs : RelL (emptied w' ds |>.alloc (.cells #[.int .i64 e0.num] 102)) (p'.also (emptied w' ds).heap.size True) (vs.setIfInBounds 0 (.int .i64 e0.num)).toList (endA mb P own' e0.num 0 st') := by
    have hm := hrl.mono a1
    generalize hl : vs.toList = l at hm
    unfold runnerA at hm
    cases hm with
    | cons u _ us _ hu ht =>
    have : (vs.setIfInBounds 0 (.int .i64 e0.num)).toList = .int .i64 e0.num :: us := by
     rw [Array.toList_setIfInBounds, hl]; rfl
    rw [this]
    exact .cons _ _ _ _ (.int _ _) ht
   refine ⟨ds, hds, hnd, fun d hd => (hD d hd).2.1, ?_⟩
   refine leaves_cons (f := 66) (args := #[.pointer (some ⟨w.heap.size, 0, none⟩)]) (by simp) (by simp [go_sem]) ?_
   refine (runs_stop w.heap.size rb _ e0.num rest hlt hcell vs hvs hsz).mono ?_
   rintro e u' w'' ⟨rfl, rfl, rfl⟩
   have hdrop := drop_exits hrest
   simp only [settle, hdrop]
   have hset : (sto s (rK rb mb P own' st')).set rb (.box 67 (endA mb P own' e0.num 0 st')) = sto s (eK rb mb P own' e0.num 0 st') := Store.set_set _ _ _ _
   obtain ⟨b1, b2, b3⟩ := box_write a3 hrb (vs' := vs.setIfInBounds 0 (.int .i64 e0.num)) (cs' := endA mb P own' e0.num 0 st') (fun vs2 hv2 => by
    have := (heap_alloc_lt (emptied w' ds) (.cells #[.int .i64 e0.num] 102) rb (Array.getElem?_eq_some_iff.1 hvs).1).trans hvs
    rw [this] at hv2; cases hv2; simp) hcs _ rfl
   rw [hset] at b2 b3
   refine ⟨.tuple #[], by simp [results, Tryz.results32], by simp, .ret (.tup []), sto s (eK rb mb P own' e0.num 0 st'), _, .tup _ _ .nil, ⟨eK rb mb P own' e0.num 0 st', rfl, m2, rfl, own', by rw [hR]; rfl⟩, (hL.trans a1).trans b1, ?_, b3⟩
   exact ((hK.sub m1).trans hL.size a2).trans (hL.trans a1).size b2
end
end Go.Proofs.YtdeiinhccdlfiaaGreat

/- Chapter 19: contracts of cond: Drive and Run. -/
namespace Go.Proofs.YtdeiinhccdlfiaaGreat
open Go.AE Go.Cond

def idxQ (l : List Int) (q : Int → Bool) : Int := match l.findIdx? q with
 | some i => i
 | none => -1
set_option maxRecDepth 10000 in
set_option maxHeartbeats 1000000 in
theorem idxInt_spec (fv : AV) (q : Int → Bool) (hq : ∀ y, PCallV Tryz.prog fv [.int .i64 y] (.bool (q y))) (l : List Int) (hl : l.length < big) : PCalls Tryz.prog 50 [intsA l, fv] (.int .i64 (idxQ l q)) := by
 have hb : big = 1099511627776 := rfl
 refine PCalls.of_CW tO call50 Tryz.func50 rfl rfl fun s hok => ?_
 unfold intsA
 repeat (first | (with_reducible first | apply CW.seq | apply aN | apply CW.block) | refine wR rfl ?_)
 refine CW.loopL hok (σ := Nat) (fun j => [(0, .slc 1 (l.map intA) .fro), (1, fv), (7, .int .i64 l.length), (8, .int .i64 (j : Int))]) (fun _ => []) (fun j => j ≤ l.length ∧ ∀ i y, i < j → l[i]? = some y → q y = false) (fun j => l.length - j) 0 ⟨by omega, fun i y hi => by omega⟩ (by repeat (first | exact trivial | refine ⟨⟨_, rfl, aRfl⟩, ?_⟩ | refine ⟨⟨_, rfl, AVle.of_eq (by simp)⟩, ?_⟩)) (by repeat (first | exact Sels.nil | (apply Sels.cons; · repeat (first | exact Sel.here | apply Sel.there)))) ?_
 rintro j ⟨hj, hI⟩ hok
 repeat (first | (with_reducible first | apply CW.seq | apply aN) | refine wR rfl ?_)
 refine CW.cond rfl (fun h => ?_) (fun h => ?_)
 ·have hlt : j < l.length := by simpa using h
  obtain ⟨y, hy, hy'⟩ := elem_at (f := intA) hlt
  have hqy := hq y
  unfold intA at hy'
  repeat (first | (with_reducible first | apply CW.seq | apply aN | apply CW.skip | apply CW.block) | refine wR rfl ?_ | refine CW.reg ?_ | refine wS rfl ?_ | refine RL.idx tO _ rfl rfl rfl rfl rfl rfl rfl rfl rfl rfl rfl (by assumption) rfl ?_)
  refine RL.callVP rfl rfl rfl rfl rfl rfl hqy ?_
  cases hv : q y with
  | true =>
   have hx : idxQ l q = j := by
    unfold idxQ
    have : l.findIdx? q = some j := by
     rw [List.findIdx?_eq_some_iff_getElem]
     have hyl := (List.getElem?_eq_some_iff.1 hy).2
     refine ⟨hlt, by rw [hyl]; exact hv, fun i hi => ?_⟩
     have := hI i l[i] hi (List.getElem?_eq_getElem (by omega))
     rw [this]; simp
    rw [this]
   rw [hx]
   repeat (first | (with_reducible first | apply CW.seq | apply aN | apply aR | apply iR | apply CW.ret) | refine wR rfl ?_ | refine RL.nil ?_ | refine CW.condT rfl ?_)
   exact Fin.retP hok rfl aRfl
  | false =>
   repeat (first | (with_reducible first | apply aN | apply iN | apply CW.skip) | refine wR rfl ?_ | refine RL.nil ?_ | refine CW.condF rfl ?_)
   refine NextL.mk (j + 1) hok ⟨hlt, fun i z hi hz => ?_⟩ (by repeat (first | exact trivial | refine ⟨⟨_, rfl, aRfl⟩, ?_⟩ | refine ⟨⟨_, rfl, AVle.of_eq (by (rw [i64_succ (by omega)]))⟩, ?_⟩)) (by repeat (first | exact Sels.nil | (apply Sels.cons; · repeat (first | exact Sel.here | apply Sel.there)))) (by show l.length - (j + 1) < l.length - j; omega)
   rcases Nat.lt_succ_iff_lt_or_eq.1 hi with hi | rfl
   ·exact hI i z hi hz
   ·rw [hy] at hz; cases hz; exact hv
 ·have hge : j = l.length := by
   have : l.length ≤ j := by simpa using h
   omega
  have hx : idxQ l q = -1 := by
   unfold idxQ
   have : l.findIdx? q = none := by
    rw [List.findIdx?_eq_none_iff]
    intro z hz
    obtain ⟨i, hi⟩ := List.getElem?_of_mem hz
    exact hI i z (by have := (List.getElem?_eq_some_iff.1 hi).1; omega) hi
   rw [this]
  rw [hx]
  repeat (first | (with_reducible first | apply CW.seq | apply aN | apply aX | apply iH | apply CW.ret | apply CW.exit) | refine wR rfl ?_)
  exact Fin.retP hok rfl aRfl
theorem idxQ_any (l : List Int) (q : Int → Bool) : decide (idxQ l q ≥ 0) = l.any q := by
 unfold idxQ
 cases h : l.findIdx? q with
 | none =>
  rw [List.findIdx?_eq_none_iff] at h
  have : l.any q = false := by rw [List.any_eq_false]; exact fun x hx => by rw [h x hx]; simp
  rw [this]; rfl
 | some i =>
  rw [List.findIdx?_eq_some_iff_getElem] at h
  obtain ⟨hi, hq, -⟩ := h
  have : l.any q = true := List.any_eq_true.2 ⟨l[i], List.getElem_mem hi, hq⟩
  rw [this]
  simp
set_option maxRecDepth 10000 in
theorem anyInt_spec (fv : AV) (q : Int → Bool) (hq : ∀ y, PCallV Tryz.prog fv [.int .i64 y] (.bool (q y))) (l : List Int) (hl : l.length < big) : PCalls Tryz.prog 29 [intsA l, fv] (.bool (l.any q)) := by
 have hx := idxQ_any l q
 refine PCalls.of_CW tO call29 Tryz.func29 rfl rfl fun s hok => ?_
 rw [← hx]
 repeat (first | (with_reducible first | apply CW.seq | apply aN) | refine wR rfl ?_ | refine CW.reg ?_ | refine wS rfl ?_)
 refine RL.callPP rfl rfl rfl rfl rfl (idxInt_spec fv q hq l hl) ?_
 repeat (first | (with_reducible first | apply aN | apply CW.ret) | refine RL.nil ?_ | refine wS rfl ?_)
 exact Fin.retP hok rfl aRfl
set_option maxRecDepth 10000 in
theorem neg_spec (y : Int) : PCallV Tryz.prog (.func 30 [] []) [.int .i64 y] (.bool (decide (y < 0))) := by
 refine PCallV.of_calls (first := []) (cap := []) ?_
 refine PCalls.of_CW tO call30 Tryz.func30 rfl rfl fun s hok => ?_
 repeat (first | (with_reducible first | apply CW.seq | apply aN | apply CW.ret) | refine wR rfl ?_)
 exact Fin.retP hok rfl aRfl
set_option maxRecDepth 10000 in
theorem does_spec : LCalls Tryz.prog 31 [] [] (fun o K => ∃ b, o = .ret (.map b) ∧ K = [(.own b, .map doesA)]) := by
 refine LCalls.of_CW tO call31 Tryz.func31 rfl rfl fun s hok => ?_
 repeat (first | (with_reducible first | apply CW.seq | apply aN) | refine wR rfl ?_ | refine CW.reg ?_)
 refine RL.makeMapL hok rfl rfl rfl rfl (fun b1 hok => ?_)
 skip
 refine RL.mapUpdateL tO hok rfl rfl (.inr rfl) rfl rfl rfl rfl rfl rfl (by repeat (first | exact Sel.here | apply Sel.there)) rfl (by exact rfl) (fun hok => ?_)
 skip
 refine RL.mapUpdateL tO hok rfl rfl (.inr rfl) rfl rfl rfl rfl rfl rfl (by repeat (first | exact Sel.here | apply Sel.there)) rfl (by exact rfl) (fun hok => ?_)
 skip
 refine RL.mapUpdateL tO hok rfl rfl (.inr rfl) rfl rfl rfl rfl rfl rfl (by repeat (first | exact Sel.here | apply Sel.there)) rfl (by exact rfl) (fun hok => ?_)
 skip
 refine RL.mapUpdateL tO hok rfl rfl (.inr rfl) rfl rfl rfl rfl rfl rfl (by repeat (first | exact Sel.here | apply Sel.there)) rfl (by exact rfl) (fun hok => ?_)
 skip
 refine RL.mapUpdateL tO hok rfl rfl (.inr rfl) rfl rfl rfl rfl rfl rfl (by repeat (first | exact Sel.here | apply Sel.there)) rfl (by exact rfl) (fun hok => ?_)
 skip
 refine RL.mapUpdateL tO hok rfl rfl (.inr rfl) rfl rfl rfl rfl rfl rfl (by repeat (first | exact Sel.here | apply Sel.there)) rfl (by exact rfl) (fun hok => ?_)
 skip
 refine RL.mapUpdateL tO hok rfl rfl (.inr rfl) rfl rfl rfl rfl rfl rfl (by repeat (first | exact Sel.here | apply Sel.there)) rfl (by exact rfl) (fun hok => ?_)
 skip
 refine RL.mapUpdateL tO hok rfl rfl (.inr rfl) rfl rfl rfl rfl rfl rfl (by repeat (first | exact Sel.here | apply Sel.there)) rfl (by exact rfl) (fun hok => ?_)
 skip
 refine RL.mapUpdateL tO hok rfl rfl (.inr rfl) rfl rfl rfl rfl rfl rfl (by repeat (first | exact Sel.here | apply Sel.there)) rfl (by exact rfl) (fun hok => ?_)
 skip
 refine RL.mapUpdateL tO hok rfl rfl (.inr rfl) rfl rfl rfl rfl rfl rfl (by repeat (first | exact Sel.here | apply Sel.there)) rfl (by exact rfl) (fun hok => ?_)
 skip
 refine RL.mapUpdateL tO hok rfl rfl (.inr rfl) rfl rfl rfl rfl rfl rfl (by repeat (first | exact Sel.here | apply Sel.there)) rfl (by exact rfl) (fun hok => ?_)
 skip
 refine RL.mapUpdateL tO hok rfl rfl (.inr rfl) rfl rfl rfl rfl rfl rfl (by repeat (first | exact Sel.here | apply Sel.there)) rfl (by exact rfl) (fun hok => ?_)
 skip
 refine RL.mapUpdateL tO hok rfl rfl (.inr rfl) rfl rfl rfl rfl rfl rfl (by repeat (first | exact Sel.here | apply Sel.there)) rfl (by exact rfl) (fun hok => ?_)
 skip
 refine RL.mapUpdateL tO hok rfl rfl (.inr rfl) rfl rfl rfl rfl rfl rfl (by repeat (first | exact Sel.here | apply Sel.there)) rfl (by exact rfl) (fun hok => ?_)
 skip
 refine RL.mapUpdateL tO hok rfl rfl (.inr rfl) rfl rfl rfl rfl rfl rfl (by repeat (first | exact Sel.here | apply Sel.there)) rfl (by exact rfl) (fun hok => ?_)
 repeat (first | (with_reducible first | apply aN | apply CW.ret) | refine RL.nil ?_ | refine wS rfl ?_)
 exact Fin.retL hok rfl aRfl (by simp only [doesA]; repeat (first | exact Sels.nil | (apply Sels.cons; · repeat (first | exact Sel.here | apply Sel.there)))) ⟨b1, rfl, rfl⟩

def askedB (p : List CRaw) (hand : Int) (picks : List Int) (fuel : Int) : Bool :=
 goodP p && inB hand (-1000000000) 1000000000 && inB fuel 0 300 && decide ((picks.length : Int) ≤ 40) && !picks.any (fun n => decide (n < 0))
def noRun : Cond.Run := ⟨0, 0, [], 0⟩
theorem noRun_le : AVle (.agg [.int .i64 0, .int .i64 0, .slc 0 [] .nil, .int .i64 0]) (runA noRun) :=
 AVle.agg (.cons aRfl (.cons aRfl (.cons (AVle.nil (by intro b h; cases h)) (.one aRfl))))
set_option maxRecDepth 10000 in
set_option maxHeartbeats 1000000 in
theorem driveBad_spec (p : List CRaw) (hp : CRaw.sizes p + 1 < big) (hand : Int) (picks : List Int) (hpl : picks.length < big) (fuel : Int) (h : askedB p hand picks fuel = false) :
  PCalls Tryz.prog 10 [.slc 3 (p.map CRaw.av) .fro, .int .i64 hand, intsA picks, .int .i64 fuel] (.tup [runA noRun, .int .i64 2]) := by
 unfold askedB at h
 refine PCalls.of_CW tO call10 Tryz.func10 rfl rfl fun s hok => ?_
 have hlm : ((picks.map intA).length : Int) = picks.length := by simp
 have hw := whole_spec hand
 have hi := in_spec fuel 0 300
 have hx := anyInt_spec (.func 30 [] []) _ neg_spec picks hpl
 repeat (first | with_reducible apply CW.seq | refine CW.reg ?_)
 refine RL.allocL tO hok rfl rfl rfl rfl rfl rfl rfl (fun b8 hok => ?_)
 repeat (first | (with_reducible first | apply CW.seq | apply aN) | refine CW.reg ?_ | refine RL.nil ?_ | refine wS rfl ?_)
 refine RL.callPP rfl rfl rfl rfl rfl (fine_spec p hp) ?_
 cases h1 : goodP p
 ·repeat (first | (with_reducible first | apply CW.seq | apply aN | apply aR | apply CW.ret) | refine CW.reg ?_ | refine RL.nil ?_ | refine CW.condT rfl ?_ | refine wS rfl ?_ | refine RL.skip rfl rfl rfl ?_ | refine RL.storeL tO hok rfl rfl rfl rfl rfl rfl rfl rfl rfl (by repeat (first | exact Sel.here | apply Sel.there)) (by exact rfl) (fun hok => ?_))
  exact Fin.retP hok (resA_cellT rfl rfl (Sel.get Sel.here hok) rfl rfl) (AVle.tup (.cons noRun_le (.one aRfl)))
 repeat (first | refine wS rfl ?_)
 refine RL.callPP rfl rfl rfl rfl rfl hw ?_
 cases h2 : inB hand (-1000000000) 1000000000
 ·repeat (first | (with_reducible first | apply CW.seq | apply aN | apply aR | apply CW.ret) | refine CW.reg ?_ | refine RL.nil ?_ | refine CW.condT rfl ?_ | refine wS rfl ?_ | refine RL.skip rfl rfl rfl ?_ | refine RL.storeL tO hok rfl rfl rfl rfl rfl rfl rfl rfl rfl (by repeat (first | exact Sel.here | apply Sel.there)) (by exact rfl) (fun hok => ?_))
  exact Fin.retP hok (resA_cellT rfl rfl (Sel.get Sel.here hok) rfl rfl) (AVle.tup (.cons noRun_le (.one aRfl)))
 repeat (first | refine wS rfl ?_)
 refine RL.callPP rfl rfl rfl rfl rfl hi ?_
 cases h3 : inB fuel 0 300
 ·repeat (first | (with_reducible first | apply CW.seq | apply aN | apply aR | apply CW.ret) | refine CW.reg ?_ | refine RL.nil ?_ | refine CW.condT rfl ?_ | refine wS rfl ?_ | refine RL.skip rfl rfl rfl ?_ | refine RL.storeL tO hok rfl rfl rfl rfl rfl rfl rfl rfl rfl (by repeat (first | exact Sel.here | apply Sel.there)) (by exact rfl) (fun hok => ?_))
  exact Fin.retP hok (resA_cellT rfl rfl (Sel.get Sel.here hok) rfl rfl) (AVle.tup (.cons noRun_le (.one aRfl)))
 unfold intsA
 repeat (first | refine wS rfl ?_)
 cases h4 : decide ((((picks.map intA).length : Nat) : Int) > 40)
 rotate_left
 ·repeat (first | (with_reducible first | apply CW.seq | apply aN | apply aR | apply CW.ret) | refine CW.reg ?_ | refine RL.nil ?_ | refine CW.condT rfl ?_ | refine wS rfl ?_ | refine RL.skip rfl rfl rfl ?_ | refine RL.storeL tO hok rfl rfl rfl rfl rfl rfl rfl rfl rfl (by repeat (first | exact Sel.here | apply Sel.there)) (by exact rfl) (fun hok => ?_))
  exact Fin.retP hok (resA_cellT rfl rfl (Sel.get Sel.here hok) rfl rfl) (AVle.tup (.cons noRun_le (.one aRfl)))
 repeat (first | refine wS rfl ?_)
 refine RL.callPP rfl rfl rfl rfl rfl hx ?_
 have h5 : picks.any (fun n => decide (n < 0)) = true := by
  rw [hlm] at h4
  have : decide ((picks.length : Int) ≤ 40) = true := by simp at h4 ⊢; omega
  rw [h1, h2, h3, this] at h
  simpa using h
 rw [h5]
 repeat (first | (with_reducible first | apply CW.seq | apply aN | apply aR | apply CW.ret) | refine CW.reg ?_ | refine RL.nil ?_ | refine CW.condT rfl ?_ | refine wS rfl ?_ | refine RL.storeL tO hok rfl rfl rfl rfl rfl rfl rfl rfl rfl (by repeat (first | exact Sel.here | apply Sel.there)) (by exact rfl) (fun hok => ?_))
 exact Fin.retP hok (resA_cellT rfl rfl (Sel.get Sel.here hok) rfl rfl) (AVle.tup (.cons noRun_le (.one aRfl)))
set_option maxRecDepth 10000 in
set_option maxHeartbeats 1000000 in
theorem driveOk_spec (P : List CExp) (hP : ∀ e ∈ P, OkE P.length e) (hl : 1 ≤ P.length) (hp : CRaw.sizes (P.map rawE) + 1 < big) (hand : Int) (picks : List Int) (fuel : Nat) (h : askedB (P.map rawE) hand picks fuel = true) :
  PCalls Tryz.prog 10 [progA P, .int .i64 hand, intsA picks, .int .i64 (fuel : Int)] (.tup [runA (drive P hand picks fuel), .int .i64 0]) := by
 have hb : big = 1099511627776 := rfl
 unfold askedB at h
 simp only [Bool.and_eq_true, Bool.not_eq_true', decide_eq_true_eq] at h
 obtain ⟨⟨⟨⟨h1, h2⟩, h3⟩, h4⟩, h5⟩ := h
 have hh : InR hand := by unfold inB at h2; simp at h2; exact ⟨h2.1, h2.2⟩
 have hfu : fuel ≤ 300 := by unfold inB at h3; simp at h3; omega
 have hpk : ∀ n ∈ picks, 0 ≤ n := fun n hn => by have := (List.any_eq_false.1 h5) n hn; simpa using this
 have hlm : ((picks.map intA).length : Int) = picks.length := by simp
 have hw := whole_spec hand
 have hi := in_spec (fuel : Int) 0 300
 have hx := anyInt_spec (.func 30 [] []) _ neg_spec picks (by omega)
 have hfi := fine_spec (P.map rawE) hp
 rw [h2] at hw
 rw [h3] at hi
 rw [h5] at hx
 rw [h1] at hfi
 have hdr : drive P hand picks fuel = Run.of (run P (P.getD 0 default) ⟨hand, [], []⟩ ⟨[], fuel, picks⟩) := drive_run P hand picks fuel
 have hruns := fun rb mb => runs_spec (rb := rb) (mb := mb) hP hl hand hh ⟨[], fuel, picks⟩ (by show fuel ≤ 900; omega) (by unfold Cond.phi; simp; omega) hpk .nil
 rw [hdr]
 generalize run P (P.getD 0 default) ⟨hand, [], []⟩ ⟨[], fuel, picks⟩ = R at hruns ⊢
 refine PCalls.of_CW tO call10 Tryz.func10 rfl rfl fun s hok => ?_
 unfold progA
 repeat (first | with_reducible apply CW.seq | refine CW.reg ?_)
 refine RL.allocL tO hok rfl rfl rfl rfl rfl rfl rfl (fun b8 hok => ?_)
 repeat (first | (with_reducible first | apply CW.seq | apply aN) | refine CW.reg ?_ | refine RL.nil ?_ | refine wS rfl ?_)
 refine RL.callPP rfl rfl rfl rfl rfl hfi ?_
 repeat (first | refine wS rfl ?_)
 refine RL.callPP rfl rfl rfl rfl rfl hw ?_
 repeat (first | refine wS rfl ?_)
 refine RL.callPP rfl rfl rfl rfl rfl hi ?_
 unfold intsA
 repeat (first | refine wS rfl ?_)
 have h4' : decide ((((picks.map intA).length : Nat) : Int) > 40) = false := by rw [hlm]; simp; omega
 rw [h4']
 repeat (first | refine wS rfl ?_)
 refine RL.callPP rfl rfl rfl rfl rfl hx ?_
 repeat (first | (with_reducible first | apply CW.seq | apply aN | apply CW.skip) | refine CW.reg ?_ | refine RL.nil ?_ | refine CW.condF rfl ?_ | refine wS rfl ?_)
 refine RL.callL rfl rfl rfl rfl rfl does_spec hok .nil ?_ (fun _ _ ⟨_, h, _⟩ _ => by cases h)
 rintro _ _ ⟨mb, ⟨⟩, rfl⟩ hok
 refine wS rfl ?_
 refine RL.boxL hok rfl rfl rfl rfl rfl rfl (fun rb hok => ?_)
 repeat (first | (with_reducible first | apply CW.seq | apply aN) | refine CW.reg ?_ | refine RL.nil ?_ | refine wS rfl ?_)
 refine RL.boxWeakL hok rb (runnerA mb P .nil ⟨[], fuel, picks⟩) (by repeat (first | exact Sel.here | apply Sel.there)) (.cons aRfl (.cons aRfl (.cons (AVle.nil (by intro b h; cases h)) (.cons aRfl (.cons aRfl (.cons aRfl (.one aRfl))))))) fun hok => ?_
 refine RL.phantom hok 48 5 0 fun hok => ?_
 refine RL.callL rfl rfl rfl rfl rfl (hruns rb mb) hok (by simp only [rK, runnerA]; repeat (first | exact Sels.nil | (apply Sels.cons; · repeat (first | exact Sel.here | apply Sel.there)))) ?_ (fun _ _ ⟨h, _⟩ _ => by cases h)
 rintro _ _ ⟨⟨⟩, own', rfl⟩ hok
 unfold eK endA at hok ⊢
 repeat (first | (with_reducible first | apply CW.seq | apply aN | apply CW.ret) | refine CW.reg ?_ | refine RL.nil ?_ | refine wS rfl ?_ | refine RL.loadL tO hok rfl rfl rfl rfl rfl rfl (by repeat (first | exact Sel.here | apply Sel.there)) (by exact rfl) ?_ | refine RL.storeL tO hok rfl rfl rfl rfl rfl rfl rfl rfl rfl (by repeat (first | exact Sel.here | apply Sel.there)) (by exact rfl) (fun hok => ?_))
 refine Fin.retP hok (resA_cellT rfl rfl (Sel.get (by repeat (first | exact Sel.here | apply Sel.there)) hok) rfl rfl) (AVle.tup (.cons (AVle.agg (.cons aRfl (.cons aRfl (.cons ?_ (.one ?_))))) (.one aRfl)))
 ·have : (Run.of R).evs = R.2.evs := by obtain ⟨o, st⟩ := R; cases o <;> rfl
  rw [this]; exact AVle.fro
 ·have : (Run.of R).fuel = R.2.fuel := by obtain ⟨o, st⟩ := R; cases o <;> rfl
  rw [this]; exact aRfl
set_option maxRecDepth 10000 in
theorem run_of_drive (pa : AV) (hand fuel : Int) (r : Cond.Run) (e : Int) (h : PCalls Tryz.prog 10 [pa, .int .i64 hand, intsA [], .int .i64 fuel] (.tup [runA r, .int .i64 e])) :
  PCalls Tryz.prog 6 [pa, .int .i64 hand, .int .i64 fuel] (.tup [runA r, .int .i64 e]) := by
 refine PCalls.of_CW tO call6 Tryz.func6 rfl rfl fun s hok => ?_
 repeat (first | with_reducible apply CW.seq | refine CW.reg ?_)
 refine RL.allocL tO hok rfl rfl rfl rfl rfl rfl rfl (fun b6 hok => ?_)
 repeat (first | (with_reducible first | apply CW.seq | apply aN) | refine CW.reg ?_ | refine RL.nil ?_ | refine wS rfl ?_)
 refine RL.callPP rfl rfl rfl rfl rfl (PCalls.args (.cons aRfl (.cons aRfl (.cons (AVle.nil (by intro b h; cases h)) (.one aRfl)))) h) ?_
 unfold runA runCells
 repeat (first | (with_reducible first | apply aN | apply CW.ret) | refine RL.nil ?_ | refine wS rfl ?_ | refine RL.storeL tO hok rfl rfl rfl rfl rfl rfl rfl rfl rfl (by repeat (first | exact Sel.here | apply Sel.there)) (by exact rfl) (fun hok => ?_))
 exact Fin.retP hok (resA_cellT rfl rfl (Sel.get Sel.here hok) rfl rfl) aRfl
theorem runBad_spec (p : List CRaw) (hp : CRaw.sizes p + 1 < big) (hand fuel : Int) (h : askedB p hand [] fuel = false) :
  PCalls Tryz.prog 6 [.slc 3 (p.map CRaw.av) .fro, .int .i64 hand, .int .i64 fuel] (.tup [runA noRun, .int .i64 2]) :=
 run_of_drive _ _ _ _ _ (driveBad_spec p hp hand [] (by have : big = 1099511627776 := rfl; simp; omega) fuel h)
theorem runOk_spec (P : List CExp) (hP : ∀ e ∈ P, OkE P.length e) (hl : 1 ≤ P.length) (hp : CRaw.sizes (P.map rawE) + 1 < big) (hand : Int) (fuel : Nat) (h : askedB (P.map rawE) hand [] fuel = true) :
  PCalls Tryz.prog 6 [progA P, .int .i64 hand, .int .i64 (fuel : Int)] (.tup [runA (drive P hand [] fuel), .int .i64 0]) :=
 run_of_drive _ _ _ _ _ (driveOk_spec P hP hl hp hand [] fuel h)
end Go.Proofs.YtdeiinhccdlfiaaGreat

