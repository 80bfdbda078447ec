import Derived.Test.YtaafacnoddjhgaaMd
import Derived.WalkKit
import Derived.Defers
import Derived.Recover
/- The layer's data: expressions and facts as trees; how they stand as values. -/
namespace Go.Proofs.Ytaafacnoddjhgaa
open Go.AE

inductive FExp where
  | mk (op n : Int) (text : Str) (kids : List FExp)

namespace FExp
def op : FExp → Int | .mk o _ _ _ => o
def n : FExp → Int | .mk _ n _ _ => n
def text : FExp → Str | .mk _ _ t _ => t
def kids : FExp → List FExp | .mk _ _ _ k => k
mutual
def kav : FExp → List AV
  | .mk _ _ _ ks => kavs ks
def kavs : List FExp → List AV
  | [] => []
  | k :: r => .agg [.int .i64 k.op, .int .i64 k.n, .str k.text, .slc 4 k.kav .fro] :: kavs r
end
def cells (e : FExp) : List AV := [.int .i64 e.op, .int .i64 e.n, .str e.text, .slc 4 e.kav .fro]
def av (e : FExp) : AV := .agg e.cells
theorem kavs_eq : ∀ l : List FExp, kavs l = l.map av
  | [] => by simp [kavs]
  | k :: r => by rw [kavs, kavs_eq r]; rfl
theorem kav_eq (e : FExp) : e.kav = e.kids.map av := by cases e with | mk o n t ks => rw [kav, kavs_eq]; rfl
mutual
def size : FExp → Nat
  | .mk _ _ _ ks => 1 + sizes ks
def sizes : List FExp → Nat
  | [] => 0
  | k :: r => k.size + sizes r
end
mutual
def nodes : Nat → FExp → List (Nat × FExp)
  | d, .mk o n t ks => (d, .mk o n t ks) :: nodesL (d + 1) ks
def nodesL : Nat → List FExp → List (Nat × FExp)
  | _, [] => []
  | d, k :: r => k.nodes d ++ nodesL d r
end
end FExp

inductive FFact where
  | mk (op : Int) (name : Str) (path : List Str) (cls : Str) (n : Int) (kids : List FFact)

namespace FFact
def op : FFact → Int | .mk o _ _ _ _ _ => o
def name : FFact → Str | .mk _ x _ _ _ _ => x
def path : FFact → List Str | .mk _ _ x _ _ _ => x
def cls : FFact → Str | .mk _ _ _ x _ _ => x
def n : FFact → Int | .mk _ _ _ _ x _ => x
def kids : FFact → List FFact | .mk _ _ _ _ _ x => x
mutual
def kav : FFact → List AV
  | .mk _ _ _ _ _ ks => kavs ks
def kavs : List FFact → List AV
  | [] => []
  | k :: r => .agg [.int .i64 k.op, .str k.name, .slc 1 (strs k.path) .fro, .str k.cls, .int .i64 k.n, .slc 6 k.kav .fro] :: kavs r
end
def cells (f : FFact) : List AV := [.int .i64 f.op, .str f.name, .slc 1 (strs f.path) .fro, .str f.cls, .int .i64 f.n, .slc 6 f.kav .fro]
def av (f : FFact) : AV := .agg f.cells
theorem kavs_eq : ∀ l : List FFact, kavs l = l.map av
  | [] => by simp [kavs]
  | k :: r => by rw [kavs, kavs_eq r]; rfl
theorem kav_eq (f : FFact) : f.kav = f.kids.map av := by cases f with | mk o a b c n ks => rw [kav, kavs_eq]; rfl
mutual
def size : FFact → Nat
  | .mk _ _ _ _ _ ks => 1 + sizes ks
def sizes : List FFact → Nat
  | [] => 0
  | k :: r => k.size + sizes r
end
end FFact

/-- What has parts. -/
inductive Part where
  | exp (e : FExp)
  | fact (f : FFact)

namespace Part
def av : Part → AV
  | .exp e => .iface 116 e.av
  | .fact f => .iface 121 f.av
def kids : Part → List Part
  | .exp e => e.kids.map .exp
  | .fact f => f.kids.map .fact
def size : Part → Nat
  | .exp e => e.size
  | .fact f => f.size
end Part

theorem FExp.sizes_mem : ∀ {l : List FExp} {k : FExp}, k ∈ l → k.size ≤ FExp.sizes l
  | x :: l, k, h => by
    rw [FExp.sizes]
    rcases List.mem_cons.1 h with rfl | h
    · omega
    · have := FExp.sizes_mem h; omega
theorem FFact.sizes_mem : ∀ {l : List FFact} {k : FFact}, k ∈ l → k.size ≤ FFact.sizes l
  | x :: l, k, h => by
    rw [FFact.sizes]
    rcases List.mem_cons.1 h with rfl | h
    · omega
    · have := FFact.sizes_mem h; omega
theorem FExp.size_pos (e : FExp) : 0 < e.size := by cases e; rw [FExp.size]; omega
theorem FFact.size_pos (e : FFact) : 0 < e.size := by cases e; rw [FFact.size]; omega
theorem FExp.length_le : ∀ l : List FExp, l.length ≤ FExp.sizes l
  | [] => by simp
  | k :: l => by rw [FExp.sizes]; have := FExp.length_le l; have := k.size_pos; simp; omega
theorem FFact.length_le : ∀ l : List FFact, l.length ≤ FFact.sizes l
  | [] => by simp
  | k :: l => by rw [FFact.sizes]; have := FFact.length_le l; have := k.size_pos; simp; omega
theorem FExp.kids_size {e k : FExp} (h : k ∈ e.kids) : k.size < e.size := by
  cases e with | mk o n t ks => rw [FExp.size]; have := FExp.sizes_mem (k := k) (l := ks) h; omega
theorem FFact.kids_size {e k : FFact} (h : k ∈ e.kids) : k.size < e.size := by
  cases e with | mk o a b c n ks => rw [FFact.size]; have := FFact.sizes_mem (k := k) (l := ks) h; omega
theorem FExp.kids_length (e : FExp) : e.kids.length < e.size := by
  cases e with | mk o n t ks => rw [FExp.size]; have := FExp.length_le ks; show ks.length < _; omega
theorem FFact.kids_length (e : FFact) : e.kids.length < e.size := by
  cases e with | mk o a b c n ks => rw [FFact.size]; have := FFact.length_le ks; show ks.length < _; omega
theorem Part.kids_size {p k : Part} (h : k ∈ p.kids) : k.size < p.size := by
  cases p with
  | exp e => obtain ⟨x, hx, rfl⟩ := List.mem_map.1 h; exact FExp.kids_size hx
  | fact e => obtain ⟨x, hx, rfl⟩ := List.mem_map.1 h; exact FFact.kids_size hx
theorem Part.kids_length (p : Part) : p.kids.length < p.size := by
  cases p with
  | exp e => simpa [Part.kids, Part.size] using e.kids_length
  | fact e => simpa [Part.kids, Part.size] using e.kids_length

/-- The nodes of what has parts, with their depths. -/
def Part.nodes (d : Nat) (p : Part) : List (Nat × Part) :=
  (d, p) :: (p.kids.attach.map fun ⟨k, h⟩ => Part.nodes (d + 1) k).flatten
termination_by p.size
decreasing_by exact Part.kids_size h

theorem Part.nodes_eq (d : Nat) (p : Part) : p.nodes d = (d, p) :: p.kids.flatMap (Part.nodes (d + 1)) := by
  rw [Part.nodes, List.flatMap_def]
  congr 2
  exact List.attach_map_val (f := Part.nodes (d + 1))

/-- What is small enough for all counts. -/
def big : Nat := 1099511627776

theorem expParts_get (l : List FExp) (j : Nat) (k : FExp) (h : l[j]? = some k) : (l.map FExp.av)[j]? = some (.agg k.cells) := by simp [h, FExp.av]

theorem take_succ_map {α β : Type} (f : α → β) {l : List α} {j : Nat} {x : α} (h : l[j]? = some x) : (l.take j).map f ++ [f x] = (l.take (j + 1)).map f := by
  rw [List.take_add_one, h]; simp

theorem OwnOk.sub' {s : Store} {n m : Nat} {own : Own} (h : OwnOk s n own) : OwnOk s m own := by cases own <;> exact h

set_option maxRecDepth 10000 in
theorem expParts_spec (e : FExp) (s : Store) (hs : e.size ≤ big) :
    ACalls Try.prog 146 [e.av] s (fun o s' => o = .ret (.slc 1 ((Part.exp e).kids.map Part.av) .fro) ∧ s' = s) := by
  have hlen := e.kids_length
  have hk := e.kav_eq
  have hbig : big = 1099511627776 := rfl
  refine ACalls.of_CW tysOk call146 Try.func146 rfl rfl ?_
  repeat (first | with_reducible refine CW.seq ?_ | with_reducible refine andThen_normal ?_ | with_reducible refine CW.block ?_ | refine CW.reg (RL.run tysOk rfl (RL.nil ?_)))
  refine CW.loop (σ := Nat × Own) (fun q => [(3, .slc 1 ((e.kids.take q.1).map fun k => Part.av (.exp k)) q.2), (8, .slc 4 e.kav .fro), (9, .int .i64 e.kav.length), (10, .int .i64 (q.1 : Int))])
    (fun q => rowOf s 123 1 q.1 q.2) (fun q => q.1 ≤ e.kids.length ∧ OwnOk s q.1 q.2) (fun q => e.kids.length - q.1) (0, .nil) ⟨by simp, trivial⟩ ?_ (Store.sub_refl _) ?_
  · exact ⟨⟨_, rfl, AVle.nil (by simp)⟩, ⟨_, rfl, AVle.refl _⟩, ⟨_, rfl, AVle.refl _⟩, ⟨_, rfl, AVle.refl _⟩, trivial⟩
  · rintro ⟨j, own⟩ ⟨hj, hok⟩
    simp only at hj hok
    have hkl : e.kav.length = e.kids.length := by rw [hk]; simp
    repeat (first | with_reducible refine CW.seq ?_ | with_reducible refine andThen_normal ?_ | refine CW.reg (RL.run tysOk rfl (RL.nil ?_)))
    refine CW.cond rfl (fun h => ?_) (fun h => ?_)
    · have hlt : j < e.kids.length := by rw [hkl] at h; simpa using h
      obtain ⟨k, hkj⟩ : ∃ k, e.kids[j]? = some k := ⟨_, List.getElem?_eq_getElem hlt⟩
      repeat (first | with_reducible refine CW.seq ?_ | with_reducible refine andThen_normal ?_ | with_reducible refine CW.skip ?_ | with_reducible refine CW.block ?_ | refine CW.reg ?_)
      refine RL.idx tysOk j rfl rfl rfl rfl rfl rfl rfl rfl rfl rfl rfl (by rw [hk]; exact expParts_get _ _ _ hkj) rfl ?_
      repeat (first | refine RL.step tysOk rfl rfl rfl rfl ?_)
      refine RL.alloc tysOk rfl rfl rfl rfl rfl rfl rfl (fun b hb => ?_)
      refine RL.storeP tysOk rfl rfl rfl rfl rfl rfl rfl rfl rfl (Store.set_same _ _ _) rfl ?_
      rw [Store.set_set]
      refine RL.freeze 5 b rfl (Store.set_same _ _ _) ?_
      rw [Store.del_set _ _ _ hb]
      repeat (first | with_reducible refine andThen_normal ?_ | refine CW.reg ?_ | refine RL.nil ?_ | refine RL.step tysOk rfl rfl rfl rfl ?_)
      refine RL.append1 tysOk rfl rfl rfl rfl rfl rfl rfl (by intro k h; cases h) rfl rfl rfl rfl rfl rfl rfl (by simp; omega) (by show (j + 1) * 16 ≤ _; omega) (by omega) rfl hok (fun b' hb' => ?_)
      repeat (first | with_reducible refine andThen_normal ?_ | with_reducible refine inBlock_normal ?_ | refine CW.reg (RL.run tysOk rfl (RL.nil ?_)) | refine RL.nil ?_ | refine RL.step tysOk rfl rfl rfl rfl ?_)
      refine ⟨(j + 1, .own b'), ⟨hlt, hb'⟩, ⟨⟨_, rfl, AVle.of_eq ?_⟩, ⟨_, rfl, AVle.refl _⟩, ⟨_, rfl, AVle.refl _⟩, ⟨_, rfl, AVle.of_eq ?_⟩, trivial⟩, Store.sub_refl _, by show e.kids.length - (j + 1) < e.kids.length - j; omega⟩
      · congr 1; exact take_succ_map (fun k => Part.av (.exp k)) hkj
      · rw [i64_succ (by omega)]
    · repeat (first | with_reducible refine CW.seq ?_ | with_reducible refine andThen_normal ?_ | with_reducible refine andThen_exit ?_ | with_reducible refine inBlock_here ?_ | with_reducible refine CW.ret ?_ | with_reducible refine CW.exit ?_ | refine CW.reg (RL.run tysOk rfl (RL.nil ?_)))
      have hge : e.kids.length ≤ j := by rw [hkl] at h; simpa using h
      refine ⟨_, _, s, rfl, AVle.fro, rowOf_sub hok, ?_, rfl⟩
      rw [List.take_of_length_le hge]
      simp [Part.kids]
theorem factParts_get (l : List FFact) (j : Nat) (k : FFact) (h : l[j]? = some k) : (l.map FFact.av)[j]? = some (.agg k.cells) := by simp [h, FFact.av]

set_option maxRecDepth 10000 in
theorem factParts_spec (e : FFact) (s : Store) (hs : e.size ≤ big) :
    ACalls Try.prog 147 [e.av] s (fun o s' => o = .ret (.slc 1 ((Part.fact e).kids.map Part.av) .fro) ∧ s' = s) := by
  have hlen := e.kids_length
  have hk := e.kav_eq
  have hbig : big = 1099511627776 := rfl
  refine ACalls.of_CW tysOk call147 Try.func147 rfl rfl ?_
  repeat (first | with_reducible refine CW.seq ?_ | with_reducible refine andThen_normal ?_ | with_reducible refine CW.block ?_ | refine CW.reg (RL.run tysOk rfl (RL.nil ?_)))
  refine CW.loop (σ := Nat × Own) (fun q => [(3, .slc 1 ((e.kids.take q.1).map fun k => Part.av (.fact k)) q.2), (8, .slc 6 e.kav .fro), (9, .int .i64 e.kav.length), (10, .int .i64 (q.1 : Int))])
    (fun q => rowOf s 123 1 q.1 q.2) (fun q => q.1 ≤ e.kids.length ∧ OwnOk s q.1 q.2) (fun q => e.kids.length - q.1) (0, .nil) ⟨by simp, trivial⟩ ?_ (Store.sub_refl _) ?_
  · exact ⟨⟨_, rfl, AVle.nil (by simp)⟩, ⟨_, rfl, AVle.refl _⟩, ⟨_, rfl, AVle.refl _⟩, ⟨_, rfl, AVle.refl _⟩, trivial⟩
  · rintro ⟨j, own⟩ ⟨hj, hok⟩
    simp only at hj hok
    have hkl : e.kav.length = e.kids.length := by rw [hk]; simp
    repeat (first | with_reducible refine CW.seq ?_ | with_reducible refine andThen_normal ?_ | refine CW.reg (RL.run tysOk rfl (RL.nil ?_)))
    refine CW.cond rfl (fun h => ?_) (fun h => ?_)
    · have hlt : j < e.kids.length := by rw [hkl] at h; simpa using h
      obtain ⟨k, hkj⟩ : ∃ k, e.kids[j]? = some k := ⟨_, List.getElem?_eq_getElem hlt⟩
      repeat (first | with_reducible refine CW.seq ?_ | with_reducible refine andThen_normal ?_ | with_reducible refine CW.skip ?_ | with_reducible refine CW.block ?_ | refine CW.reg ?_)
      refine RL.idx tysOk j rfl rfl rfl rfl rfl rfl rfl rfl rfl rfl rfl (by rw [hk]; exact factParts_get _ _ _ hkj) rfl ?_
      repeat (first | refine RL.step tysOk rfl rfl rfl rfl ?_)
      refine RL.alloc tysOk rfl rfl rfl rfl rfl rfl rfl (fun b hb => ?_)
      refine RL.storeP tysOk rfl rfl rfl rfl rfl rfl rfl rfl rfl (Store.set_same _ _ _) rfl ?_
      rw [Store.set_set]
      refine RL.freeze 5 b rfl (Store.set_same _ _ _) ?_
      rw [Store.del_set _ _ _ hb]
      repeat (first | with_reducible refine andThen_normal ?_ | refine CW.reg ?_ | refine RL.nil ?_ | refine RL.step tysOk rfl rfl rfl rfl ?_)
      refine RL.append1 tysOk rfl rfl rfl rfl rfl rfl rfl (by intro k h; cases h) rfl rfl rfl rfl rfl rfl rfl (by simp; omega) (by show (j + 1) * 16 ≤ _; omega) (by omega) rfl hok (fun b' hb' => ?_)
      repeat (first | with_reducible refine andThen_normal ?_ | with_reducible refine inBlock_normal ?_ | refine CW.reg (RL.run tysOk rfl (RL.nil ?_)) | refine RL.nil ?_ | refine RL.step tysOk rfl rfl rfl rfl ?_)
      refine ⟨(j + 1, .own b'), ⟨hlt, hb'⟩, ⟨⟨_, rfl, AVle.of_eq ?_⟩, ⟨_, rfl, AVle.refl _⟩, ⟨_, rfl, AVle.refl _⟩, ⟨_, rfl, AVle.of_eq ?_⟩, trivial⟩, Store.sub_refl _, by show e.kids.length - (j + 1) < e.kids.length - j; omega⟩
      · congr 1; exact take_succ_map (fun k => Part.av (.fact k)) hkj
      · rw [i64_succ (by omega)]
    · repeat (first | with_reducible refine CW.seq ?_ | with_reducible refine andThen_normal ?_ | with_reducible refine andThen_exit ?_ | with_reducible refine inBlock_here ?_ | with_reducible refine CW.ret ?_ | with_reducible refine CW.exit ?_ | refine CW.reg (RL.run tysOk rfl (RL.nil ?_)))
      have hge : e.kids.length ≤ j := by rw [hkl] at h; simpa using h
      refine ⟨_, _, s, rfl, AVle.fro, rowOf_sub hok, ?_, rfl⟩
      rw [List.take_of_length_le hge]
      simp [Part.kids]
end Go.Proofs.Ytaafacnoddjhgaa

/- Contracts of the layer 'shape': the nodes of what has parts. -/
namespace Go.Proofs.Ytaafacnoddjhgaa
open Go.AE

theorem methodExp : MethodIs Try.prog 116 "consort/shape.parts" 146 := methodIs_of_B (by kernel_rfl)
theorem methodFact : MethodIs Try.prog 121 "consort/shape.parts" 147 := methodIs_of_B (by kernel_rfl)

theorem OW.parts {N : Nat} {env : Env} {s : Store} {o : Oper} {g : Operand} {p : Part} (ho : o.op = .call { callee := .invoke g "consort/shape.parts", args := #[], argTypes := #[] }) (hg : ev env g = some p.av) (hs : p.size ≤ big) :
    OW Try.prog N o env s (fun r s' => r = .slc 1 (p.kids.map Part.av) .fro ∧ s' = s) (fun _ _ => False) := by
  cases p with
  | exp e => exact (OW.invoke ho hg rfl methodExp (expParts_spec e s hs)).mono (fun x s' ⟨h1, h2⟩ => by cases h1; exact ⟨rfl, h2⟩) (fun x s' ⟨h1, _⟩ => by cases h1)
  | fact e => exact (OW.invoke ho hg rfl methodFact (factParts_spec e s hs)).mono (fun x s' ⟨h1, h2⟩ => by cases h1; exact ⟨rfl, h2⟩) (fun x s' ⟨h1, _⟩ => by cases h1)

def walkAV (l b3 : Nat) : AV := .func 104 [] [.fptr [yieldV l] 0, .ptr b3 0]
def walks (T : TypeId) (l b3 : Nat) (s : Store) : Store := s.set b3 (.box T [walkAV l b3])

/-- What is asked of the function to which nodes are handed. -/
def Yields2 (l : Nat) (Go : List (Nat × Part) → Store → Prop) (Done : Store → Prop) (Pan : AV → Store → Prop) : Prop :=
  ∀ d x rem s, Go ((d, x) :: rem) s → ACallV Try.prog (yieldV l) [.int .i64 (d : Nat), x.av] s (fun o s' => (o = .ret (.bool true) ∧ Go rem s') ∨ (o = .ret (.bool false) ∧ Done s') ∨ ∃ v, o = .panic v ∧ Pan v s')

def WalkEnds (T : TypeId) (l b3 : Nat) (Go Done : Store → Prop) (Pan : AV → Store → Prop) (o : AOut) (s' : Store) : Prop :=
  ∃ s₁, s₁ b3 = none ∧ s' = walks T l b3 s₁ ∧ ((o = .ret (.bool true) ∧ Go s₁) ∨ (o = .ret (.bool false) ∧ Done s₁) ∨ ∃ v, o = .panic v ∧ Pan v s₁)

theorem yield_walks {T : TypeId} {l b3 : Nat} {Go : List (Nat × Part) → Store → Prop} {Done : Store → Prop} {Pan : AV → Store → Prop} (hY : Yields2 l Go Done Pan) {d : Nat} {x : Part} {rem : List (Nat × Part)} {s : Store} (hg : Go ((d, x) :: rem) s) (h1 : s b3 = none) :
    ACallV Try.prog (yieldV l) [.int .i64 (d : Nat), x.av] (walks T l b3 s) (WalkEnds T l b3 (Go rem) Done Pan) := by
  refine (ACallV.frame b3 (.box T [walkAV l b3]) h1 rfl (hY d x rem s hg)).mono ?_
  rintro o s' ⟨s₁, k1, rfl, h⟩
  exact ⟨s₁, k1, rfl, h⟩

set_option maxRecDepth 10000 in
theorem walk_spec (T : TypeId) (l b3 : Nat) (Go : List (Nat × Part) → Store → Prop) (Done : Store → Prop) (Pan : AV → Store → Prop) (hY : Yields2 l Go Done Pan) :
    ∀ (n : Nat) (p : Part) (d : Nat) (rest : List (Nat × Part)) (s : Store), p.size ≤ n → p.size + d ≤ big → Go (p.nodes d ++ rest) s → s b3 = none →
    ACalls Try.prog 104 [p.av, .int .i64 (d : Nat), .fptr [yieldV l] 0, .ptr b3 0] (walks T l b3 s) (WalkEnds T l b3 (Go rest) Done Pan) := by
  intro n
  induction n with
  | zero =>
    intro p d rest s hp
    have : 0 < p.size := by cases p with | exp e => exact e.size_pos | fact e => exact e.size_pos
    omega
  | succ n ih =>
    intro p d rest s hp hbig hg h1
    have hb : big = 1099511627776 := rfl
    have hkl := p.kids_length
    rw [Part.nodes_eq] at hg
    refine ACalls.of_CW tysOk call104 Try.func104 rfl rfl ?_
    repeat (first | with_reducible refine CW.seq ?_ | with_reducible refine andThen_normal ?_ | refine CW.reg (RL.run tysOk rfl (RL.nil ?_)) | refine CW.reg ?_ | refine RL.step tysOk rfl rfl rfl rfl ?_)
    refine RL.callV rfl rfl rfl rfl rfl rfl (yield_walks hY (by simpa using hg) h1) ?_ ?_
    · rintro x s' ⟨s₁, k1, rfl, h⟩
      rcases h with ⟨⟨⟩, hgo⟩ | ⟨⟨⟩, hdo⟩ | ⟨v, h, -⟩
      · repeat (first | with_reducible refine CW.seq ?_ | with_reducible refine andThen_normal ?_ | with_reducible refine CW.skip ?_ | refine CW.reg ?_ | refine RL.nil ?_ | refine CW.condF rfl ?_ | refine RL.step tysOk rfl rfl rfl rfl ?_)
        refine RL.op rfl rfl rfl (OW.parts rfl rfl (by omega)) ?_ (fun _ _ h => h.elim)
        rintro x s' ⟨rfl, rfl⟩
        repeat (first | with_reducible refine andThen_normal ?_ | with_reducible refine CW.block ?_ | refine RL.nil ?_ | refine RL.step tysOk rfl rfl rfl rfl ?_)
        refine CW.loop (σ := Nat × Store) (fun q => [(1, .int .i64 (d : Nat)), (3, .ptr b3 0), (15, .slc 1 (p.kids.map Part.av) .fro), (16, .int .i64 (p.kids.map Part.av).length), (17, .int .i64 (q.1 : Int))]) (fun q => walks T l b3 q.2)
          (fun q => q.1 ≤ p.kids.length ∧ Go ((p.kids.drop q.1).flatMap (Part.nodes (d + 1)) ++ rest) q.2 ∧ q.2 b3 = none) (fun q => p.kids.length - q.1) (0, s₁) ⟨by simp, hgo, k1⟩ ?_ (Store.sub_refl _) ?_
        · exact ⟨⟨_, rfl, AVle.refl _⟩, ⟨_, rfl, AVle.refl _⟩, ⟨_, rfl, AVle.refl _⟩, ⟨_, rfl, AVle.refl _⟩, ⟨_, rfl, AVle.refl _⟩, trivial⟩
        · rintro ⟨j, s₀⟩ ⟨hj, hI, k2⟩
          simp only at hj hI k2
          repeat (first | with_reducible refine CW.seq ?_ | with_reducible refine andThen_normal ?_ | refine CW.reg (RL.run tysOk rfl (RL.nil ?_)))
          refine CW.cond rfl (fun h => ?_) (fun h => ?_)
          · have hlt : j < p.kids.length := by simpa using h
            obtain ⟨k, hk⟩ : ∃ k, p.kids[j]? = some k := ⟨_, List.getElem?_eq_getElem hlt⟩
            have hks := Part.kids_size (List.mem_of_getElem? hk)
            have hdrop : p.kids.drop j = k :: p.kids.drop (j + 1) := by rw [List.drop_eq_getElem_cons hlt]; congr; exact (List.getElem?_eq_some_iff.1 hk).2
            rw [hdrop, List.flatMap_cons, List.append_assoc] at hI
            repeat (first | with_reducible refine CW.seq ?_ | with_reducible refine andThen_normal ?_ | with_reducible refine CW.skip ?_ | with_reducible refine CW.block ?_ | refine CW.reg ?_)
            refine RL.idx tysOk j rfl rfl rfl rfl rfl rfl rfl rfl rfl rfl rfl (by rw [List.getElem?_map, hk]; rfl) (cs := [k.av]) (by cases k <;> rfl) ?_
            repeat (first | with_reducible refine CW.seq ?_ | with_reducible refine andThen_normal ?_ | refine CW.reg ?_ | refine RL.nil ?_ | refine RL.step tysOk rfl rfl rfl rfl ?_)
            refine RL.loadP tysOk rfl rfl rfl rfl rfl rfl (Store.set_same _ _ _) rfl ?_
            repeat (first | refine RL.step tysOk rfl rfl rfl rfl ?_)
            refine RL.know 24 (v' := .int .i64 ((d + 1 : Nat) : Int)) rfl (by rw [i64_succ (by omega)]) ?_
            refine RL.callV rfl rfl rfl rfl rfl rfl (ACallV.of_calls (ih k (d + 1) _ s₀ (by omega) (by omega) hI k2)) ?_ ?_
            · rintro x s' ⟨s₁, q1, rfl, h⟩
              rcases h with ⟨⟨⟩, hgo⟩ | ⟨⟨⟩, hdo⟩ | ⟨v, h, -⟩
              · repeat (first | with_reducible refine andThen_normal ?_ | with_reducible refine inBlock_normal ?_ | with_reducible refine CW.skip ?_ | refine CW.reg (RL.run tysOk rfl (RL.nil ?_)) | refine RL.nil ?_ | refine CW.condF rfl ?_ | refine RL.step tysOk rfl rfl rfl rfl ?_)
                refine ⟨(j + 1, s₁), ⟨hlt, hgo, q1⟩, ⟨⟨_, rfl, AVle.refl _⟩, ⟨_, rfl, AVle.refl _⟩, ⟨_, rfl, AVle.refl _⟩, ⟨_, rfl, AVle.refl _⟩, ⟨_, rfl, AVle.of_eq ?_⟩, trivial⟩, Store.sub_refl _, by show p.kids.length - (j + 1) < p.kids.length - j; omega⟩
                rw [i64_succ (by omega)]
              · repeat (first | with_reducible refine CW.seq ?_ | with_reducible refine andThen_normal ?_ | with_reducible refine andThen_ret ?_ | with_reducible refine inBlock_ret ?_ | with_reducible refine CW.ret ?_ | refine CW.reg (RL.run tysOk rfl (RL.nil ?_)) | refine RL.nil ?_ | refine CW.condT rfl ?_ | refine RL.step tysOk rfl rfl rfl rfl ?_)
                exact ⟨_, _, _, rfl, AVle.refl _, Store.sub_refl _, s₁, q1, rfl, .inr (.inl ⟨rfl, hdo⟩)⟩
              · cases h
            · rintro x s' ⟨s₁, q1, rfl, h⟩
              rcases h with ⟨h, -⟩ | ⟨h, -⟩ | ⟨v, ⟨⟩, hpan⟩
              · cases h
              · cases h
              · repeat (first | with_reducible refine andThen_panic ?_ | with_reducible refine inBlock_panic ?_)
                exact ⟨_, _, AVle.refl _, Store.sub_refl _, s₁, q1, rfl, .inr (.inr ⟨_, rfl, hpan⟩)⟩
          · repeat (first | with_reducible refine CW.seq ?_ | with_reducible refine andThen_normal ?_ | with_reducible refine andThen_exit ?_ | with_reducible refine inBlock_here ?_ | with_reducible refine CW.ret ?_ | with_reducible refine CW.exit ?_ | refine CW.reg (RL.run tysOk rfl (RL.nil ?_)))
            have hge : p.kids.length ≤ j := by simpa using h
            rw [List.drop_of_length_le hge] at hI
            exact ⟨_, _, _, rfl, AVle.refl _, Store.sub_refl _, s₀, k2, rfl, .inl ⟨rfl, hI⟩⟩
      · repeat (first | with_reducible refine CW.seq ?_ | with_reducible refine andThen_normal ?_ | with_reducible refine andThen_ret ?_ | with_reducible refine CW.ret ?_ | refine CW.reg (RL.run tysOk rfl (RL.nil ?_)) | refine RL.nil ?_ | refine CW.condT rfl ?_ | refine RL.step tysOk rfl rfl rfl rfl ?_)
        exact ⟨_, _, _, rfl, AVle.refl _, Store.sub_refl _, s₁, k1, rfl, .inr (.inl ⟨rfl, hdo⟩)⟩
      · cases h
    · rintro x s' ⟨s₁, k1, rfl, h⟩
      rcases h with ⟨h, -⟩ | ⟨h, -⟩ | ⟨v, ⟨⟩, hpan⟩
      · cases h
      · cases h
      · repeat (first | with_reducible refine andThen_panic ?_)
        exact ⟨_, _, AVle.refl _, Store.sub_refl _, s₁, k1, rfl, .inr (.inr ⟨_, rfl, hpan⟩)⟩

set_option maxRecDepth 10000 in
theorem nodes1_spec (l : Nat) (Go : List (Nat × Part) → Store → Prop) (Done : Store → Prop) (Pan : AV → Store → Prop) (hY : Yields2 l Go Done Pan) (p : Part) (rest : List (Nat × Part)) (s : Store) (hp : p.size < big) (hg : Go (p.nodes 1 ++ rest) s) :
    ACalls Try.prog 103 [yieldV l, .fptr [p.av] 0] s (fun o s' => (o = .ret (.tup []) ∧ (Go rest s' ∨ Done s')) ∨ ∃ v, o = .panic v ∧ Pan v s') := by
  refine ACalls.of_CW tysOk call103 Try.func103 rfl rfl ?_
  repeat (first | with_reducible refine CW.seq ?_ | with_reducible refine andThen_normal ?_ | refine CW.reg (RL.run tysOk rfl (RL.nil ?_)) | refine CW.reg ?_)
  refine RL.alloc tysOk rfl rfl rfl rfl rfl rfl rfl (fun b3 hb3 => ?_)
  repeat (first | with_reducible refine CW.seq ?_ | with_reducible refine andThen_normal ?_ | refine CW.reg ?_ | refine RL.nil ?_ | refine RL.step tysOk rfl rfl rfl rfl ?_)
  refine RL.storeP tysOk rfl rfl rfl rfl rfl rfl rfl rfl rfl (Store.set_same _ _ _) rfl ?_
  rw [Store.set_set]
  repeat (first | with_reducible refine andThen_normal ?_ | refine CW.reg ?_ | refine RL.nil ?_)
  refine RL.loadP tysOk rfl rfl rfl rfl rfl rfl (Store.set_same _ _ _) rfl ?_
  repeat (first | refine RL.step tysOk rfl rfl rfl rfl ?_)
  refine RL.callV rfl rfl rfl rfl rfl rfl (ACallV.of_calls (walk_spec _ l b3 Go Done Pan hY p.size p 1 rest s (Nat.le_refl _) (by omega) hg hb3)) ?_ ?_
  · rintro x s' ⟨s₁, q1, rfl, h⟩
    rcases h with ⟨⟨⟩, hgo⟩ | ⟨⟨⟩, hdo⟩ | ⟨v, h, -⟩
    · repeat (first | refine RL.nil ?_)
      exact ⟨_, _, s₁, rfl, AVle.refl _, Store.sub_set _ _ _ q1, .inl ⟨rfl, .inl hgo⟩⟩
    · repeat (first | refine RL.nil ?_)
      exact ⟨_, _, s₁, rfl, AVle.refl _, Store.sub_set _ _ _ q1, .inl ⟨rfl, .inr hdo⟩⟩
    · cases h
  · rintro x s' ⟨s₁, q1, rfl, h⟩
    rcases h with ⟨h, -⟩ | ⟨h, -⟩ | ⟨v, ⟨⟩, hpan⟩
    · cases h
    · cases h
    · skip
      exact ⟨_, s₁, AVle.refl _, Store.sub_set _ _ _ q1, .inr ⟨_, rfl, hpan⟩⟩

set_option maxRecDepth 10000 in
theorem nodes_spec (p : Part) (s : Store) :
    ACalls Try.prog 72 [p.av] s (fun o s' => o = .ret (.func 103 [] [.fptr [p.av] 0]) ∧ s' = s) := by
  have hc : cellsOf p.av = some [p.av] := by cases p <;> rfl
  refine ACalls.of_CW tysOk call72 Try.func72 rfl rfl ?_
  cases p with
  | exp e =>
    repeat (first | with_reducible refine CW.seq ?_ | with_reducible refine andThen_normal ?_ | with_reducible refine CW.ret ?_ | refine CW.reg (RL.run tysOk rfl (RL.nil ?_)))
    exact ⟨_, _, _, rfl, AVle.refl _, Store.sub_refl _, rfl, rfl⟩
  | fact e =>
    repeat (first | with_reducible refine CW.seq ?_ | with_reducible refine andThen_normal ?_ | with_reducible refine CW.ret ?_ | refine CW.reg (RL.run tysOk rfl (RL.nil ?_)))
    exact ⟨_, _, _, rfl, AVle.refl _, Store.sub_refl _, rfl, rfl⟩
end Go.Proofs.Ytaafacnoddjhgaa

/- Contracts of the layer 'shape': what gives up; between; what kinds of expressions have. -/
namespace Go.Proofs.Ytaafacnoddjhgaa
open Go.AE

/-- What something that is not formed gives up with. -/
def unf : AV := .iface 164 (.agg [])

/-- It goes on if something is so; else it gives up. -/
def Needs (c : Bool) (s : Store) (o : AOut) (s' : Store) : Prop := s' = s ∧ ((c = true ∧ o = .ret (.tup [])) ∨ (c = false ∧ o = .panic unf))

set_option maxRecDepth 10000 in
theorem need_spec (c : Bool) (s : Store) : ACalls Try.prog 77 [.bool c] s (Needs c s) := by
  refine ACalls.of_CW tysOk call77 Try.func77 rfl rfl ?_
  cases c with
  | true =>
    repeat (first | with_reducible refine CW.seq ?_ | with_reducible refine andThen_normal ?_ | with_reducible refine CW.skip ?_ | refine CW.reg (RL.run tysOk rfl (RL.nil ?_)) | refine CW.condF rfl ?_)
    exact ⟨_, _, _, rfl, AVle.refl _, Store.sub_refl _, rfl, .inl ⟨rfl, rfl⟩⟩
  | false =>
    repeat (first | with_reducible refine CW.seq ?_ | with_reducible refine andThen_normal ?_ | refine CW.reg (RL.run tysOk rfl (RL.nil ?_)) | refine CW.reg ?_ | refine CW.condT rfl ?_ | refine RL.step tysOk rfl rfl rfl rfl ?_)
    refine RL.panic rfl rfl rfl rfl ?_
    skip
    exact ⟨_, _, AVle.refl _, Store.sub_refl _, rfl, .inr ⟨rfl, rfl⟩⟩

def between (n : Int) : Bool := decide (n ≥ -1000000000) && decide (n ≤ 1000000000)

set_option maxRecDepth 10000 in
theorem between_spec (n : Int) (s : Store) : ACalls Try.prog 119 [.int .i64 n] s (fun o s' => o = .ret (.bool (between n)) ∧ s' = s) := by
  refine ACalls.of_CW tysOk call119 Try.func119 rfl rfl ?_
  repeat' (first | with_reducible refine CW.seq ?_ | with_reducible refine andThen_normal ?_ | with_reducible refine CW.ret ?_ | refine CW.reg (RL.run tysOk rfl (RL.nil ?_)) | refine CW.reg ?_ | refine RL.nil ?_ | refine RL.step tysOk rfl rfl rfl rfl ?_ | refine RL.skip rfl rfl rfl ?_ | refine RL.gstepT tysOk rfl rfl rfl rfl rfl rfl rfl (fun _ => ?_) (fun _ => ?_))
  all_goals refine ⟨_, _, _, rfl, AVle.refl _, Store.sub_refl _, ?_, rfl⟩
  all_goals first | (simp_all [between]; done) | (simp_all [between]; omega)

/-- What each kind of expressions has: whether a name, and how many Kids. -/
def shapeL : List (Int × Bool × Int × Int) :=
  [(1, false, 0, 0), (2, false, 0, 0), (18, false, 0, 0), (3, true, 0, 0), (6, true, 0, 0), (4, true, 1, 1), (8, true, 1, 1), (7, true, 2, 2), (9, true, 2, 2), (5, true, 1, 3), (10, false, 3, 3), (17, false, 1, 1), (11, false, 2, 2),
   (12, false, 2, 2), (13, false, 2, 2), (14, false, 2, 2), (15, false, 2, 2), (16, false, 2, 2)]

def shapeA (l : List (Int × Bool × Int × Int)) : List (AV × AV) := l.map fun r => (.int .i64 r.1, .agg [.bool r.2.1, .int .i64 r.2.2.1, .int .i64 r.2.2.2])
def shapeOf (op : Int) : Option (Bool × Int × Int) := (shapeL.find? (fun r => op == r.1)).map (·.2)
def shapeV (r : Bool × Int × Int) : AV := .agg [.bool r.1, .int .i64 r.2.1, .int .i64 r.2.2]

theorem getA_shape (l : List (Int × Bool × Int × Int)) (op : Int) : getA (shapeA l) (.int .i64 op) = some (((l.find? (fun r => op == r.1)).map (·.2)).map shapeV) := by
  induction l with
  | nil => rfl
  | cons r l ih =>
    simp only [shapeA, List.map_cons, getA, keyEq, if_true, List.find?_cons]
    cases h : op == r.1 with
    | true => rfl
    | false => simp only [shapeA] at ih; exact ih

set_option maxRecDepth 10000 in
theorem shapes_spec (s : Store) : ACalls Try.prog 128 [] s (fun o s' => ∃ b, s b = none ∧ o = .ret (.map b) ∧ s' = s.set b (.map (shapeA shapeL))) := by
  refine ACalls.of_CW tysOk call128 Try.func128 rfl rfl ?_
  repeat (first | with_reducible refine CW.seq ?_ | with_reducible refine andThen_normal ?_ | refine CW.reg (RL.run tysOk rfl (RL.nil ?_)) | refine CW.reg ?_)
  refine RL.makeMap rfl rfl rfl rfl (fun b hb => ?_)
  repeat (first
    | refine RL.step tysOk rfl rfl rfl rfl ?_
    | (refine RL.mapUpdate tysOk rfl rfl (.inr rfl) rfl rfl rfl rfl rfl rfl (Store.set_same _ _ _) rfl rfl ?_; rw [Store.set_set]))
  repeat (first | with_reducible refine CW.seq ?_ | with_reducible refine andThen_normal ?_ | with_reducible refine CW.block ?_ | refine CW.reg (RL.run tysOk rfl (RL.nil ?_)) | refine RL.nil ?_)
  refine CW.loop (σ := Nat) (fun j => [(1, .map b), (2, .int .i64 ((12 + j : Nat) : Int))]) (fun j => s.set b (.map (shapeA (shapeL.take (13 + j))))) (fun j => j ≤ 5) (fun j => 5 - j) 0 (by omega) ?_ ?_ ?_
  · exact ⟨⟨_, rfl, AVle.refl _⟩, ⟨_, rfl, AVle.refl _⟩, trivial⟩
  · exact Store.sub_refl _
  · rintro j hj
    repeat (first | with_reducible refine CW.seq ?_ | with_reducible refine andThen_normal ?_ | refine CW.reg (RL.run tysOk rfl (RL.nil ?_)))
    refine CW.cond rfl (fun h => ?_) (fun h => ?_)
    · have hlt : j < 5 := by simp at h; omega
      repeat (first | with_reducible refine CW.seq ?_ | with_reducible refine andThen_normal ?_ | with_reducible refine CW.skip ?_ | with_reducible refine CW.block ?_ | refine CW.reg ?_ | refine RL.step tysOk rfl rfl rfl rfl ?_)
      refine RL.mapUpdate tysOk rfl rfl (.inl rfl) rfl rfl rfl rfl rfl rfl (Store.set_same _ _ _) rfl (es' := shapeA (shapeL.take (13 + (j + 1)))) ?_ ?_
      · have : j = 0 ∨ j = 1 ∨ j = 2 ∨ j = 3 ∨ j = 4 := by omega
        rcases this with rfl | rfl | rfl | rfl | rfl <;> rfl
      rw [Store.set_set]
      repeat (first | with_reducible refine andThen_normal ?_ | with_reducible refine inBlock_normal ?_ | refine CW.reg (RL.run tysOk rfl (RL.nil ?_)) | refine RL.nil ?_)
      refine ⟨j + 1, hlt, ⟨⟨_, rfl, AVle.refl _⟩, ⟨_, rfl, AVle.of_eq ?_⟩, trivial⟩, Store.sub_refl _, by omega⟩
      rw [i64_wrap (by omega) (by omega)]; congr 1
    · repeat (first | with_reducible refine CW.seq ?_ | with_reducible refine andThen_normal ?_ | with_reducible refine andThen_exit ?_ | with_reducible refine inBlock_here ?_ | with_reducible refine CW.ret ?_ | with_reducible refine CW.exit ?_ | refine CW.reg (RL.run tysOk rfl (RL.nil ?_)))
      have : j = 5 := by simp at h; omega
      subst this
      exact ⟨_, _, _, rfl, AVle.refl _, Store.sub_refl _, b, hb, rfl, rfl⟩

section
variable {N : Nat} {ops : Array Oper} {Q : AEx → Env → Store → Prop} {env : Env} {s : Store} {l : List Oper} {o : Oper} {d : Nat}

theorem needR {xa : Array Operand} {ats : Array TypeId} {c : Bool} (hg : guardOf ops env o = some true) (hd : o.dst = some d) (hN : Nat.blt d N = true)
    (hop : o.op = .call { callee := .value (.func 77), args := xa, argTypes := ats }) (ha : evs env xa.toList = some [.bool c])
    (hk : c = true → RL Try.prog N ops l Q ((d, .tup []) :: env) s) (hx : c = false → Q (.panic unf) env s) : RL Try.prog N ops (o :: l) Q env s :=
  RL.call hg hd hN hop ha (need_spec c s) (fun x s' h => by
    obtain ⟨rfl, ⟨hc, h⟩ | ⟨hc, h⟩⟩ := h
    · cases h; exact hk hc
    · cases h) (fun x s' h => by
    obtain ⟨rfl, ⟨hc, h⟩ | ⟨hc, h⟩⟩ := h
    · cases h
    · cases h; exact hx hc)
end

def shN : Option (Bool × Int × Int) → Bool | some r => r.1 | none => false
def shA : Option (Bool × Int × Int) → Int | some r => r.2.1 | none => 0
def shB : Option (Bool × Int × Int) → Int | some r => r.2.2 | none => 0

theorem gotA_shape (op : Int) : gotA true (.agg [.bool false, .int .i64 0, .int .i64 0]) ((shapeOf op).map shapeV) = .tup [.agg [.bool (shN (shapeOf op)), .int .i64 (shA (shapeOf op)), .int .i64 (shB (shapeOf op))], .bool (shapeOf op).isSome] := by
  cases shapeOf op <;> rfl

/-- What a node of an expression has to have, but for its depth. -/
def nodeE1 (e : FExp) : Bool := (shapeOf e.op).isSome && (decide ((e.kav.length : Int) ≥ shA (shapeOf e.op)) && (decide ((e.kav.length : Int) ≤ shB (shapeOf e.op)) && (shN (shapeOf e.op) == !(e.text == []))))
def nodeE2 (e : FExp) : Bool := (!shN (shapeOf e.op) || nameS e.text) && (e.n == 0 || (e.op == 1 && between e.n))
def nodeE (e : FExp) : Bool := nodeE1 e && nodeE2 e

set_option maxRecDepth 10000 in
set_option maxHeartbeats 4000000 in
theorem nodeExp_spec (e : FExp) (d : Nat) (s : Store) (ht : e.text.length < 9223372036854775807) :
    ACalls Try.prog 106 [(Part.exp e).av, .int .i64 (d : Int)] s (Needs (decide (d ≤ 12) && nodeE e) s) := by
  refine ACalls.of_CW tysOk call106 Try.func106 rfl rfl ?_
  repeat (first | with_reducible refine CW.seq ?_ | refine CW.reg ?_ | refine RL.step tysOk rfl rfl rfl rfl ?_)
  refine needR rfl rfl rfl rfl rfl (fun hd => ?_) (fun hd => ?_)
  · have hd' : d ≤ 12 := by simp at hd; omega
    repeat (first | with_reducible refine CW.seq ?_ | with_reducible refine andThen_normal ?_ | with_reducible refine CW.block ?_ | refine CW.reg (RL.run tysOk rfl (RL.nil ?_)) | refine CW.reg ?_ | refine RL.nil ?_ | refine CW.condT rfl ?_)
    refine RL.alloc tysOk rfl rfl rfl rfl rfl rfl rfl (fun b hb => ?_)
    refine RL.storeP tysOk rfl rfl rfl rfl rfl rfl rfl rfl rfl (Store.set_same _ _ _) rfl ?_
    rw [Store.set_set]
    refine RL.freeze 4 b rfl (Store.set_same _ _ _) ?_
    rw [Store.del_set _ _ _ hb]
    refine RL.nil (andThen_normal ?_)
    refine CW.seqCutX (fun b5 => [(4, .fptr e.cells 0), (5, .ptr b5 0), (6, .bool (shapeOf e.op).isSome)]) (fun b5 => s.set b5 (.box 190 [.bool (shN (shapeOf e.op)), .int .i64 (shA (shapeOf e.op)), .int .i64 (shB (shapeOf e.op))])) (fun b5 => s b5 = none) ?_ ?_
    · refine CW.drw tysOk mixed rfl (RD.run rfl ?_)
      refine RD.two (i := 0) (j := 8) rfl rfl rfl rfl rfl rfl rfl rfl rfl rfl (OW.call rfl (fv := .func 128 [] []) rfl rfl (ACallV.of_calls (shapes_spec s))) (OW.alloc tysOk rfl rfl rfl rfl (X := fun _ _ => False)) ?_ ?_ (fun _ _ ⟨_, _, h, _⟩ => by cases h) (fun _ _ h => h.elim)
      · rintro x s' ⟨mb, hmb, ⟨⟩, rfl⟩
        refine RD.two (i := 4) (j := 8) rfl rfl rfl rfl rfl rfl rfl rfl rfl rfl (OW.lookup tysOk rfl rfl rfl rfl rfl rfl rfl (.inl ⟨mb, rfl, Store.set_same _ _ _⟩) rfl (getA_shape _ _) rfl (X := fun _ _ => False)) (OW.alloc tysOk rfl rfl rfl rfl (X := fun _ _ => False)) ?_ ?_ (fun _ _ h => h.elim) (fun _ _ h => h.elim)
        · rintro x s' ⟨hx, rfl⟩
          rw [show x = _ from hx.trans (gotA_shape e.op)]
          refine RD.run rfl ?_
          refine RD.one (i := 8) rfl rfl rfl rfl rfl (OW.alloc tysOk rfl rfl rfl rfl (X := fun _ _ => False)) ?_ (fun _ _ h => h.elim)
          rintro x s' ⟨b5, hb5, rfl, rfl⟩
          obtain ⟨n1, n2⟩ := Store.set_none hb5
          have hsub : Store.Sub (s.set b5 (.box 190 [.bool (shN (shapeOf e.op)), .int .i64 (shA (shapeOf e.op)), .int .i64 (shB (shapeOf e.op))])) (((s.set mb (.map (shapeA shapeL))).set b5 (.box 190 [.bool false, .int .i64 0, .int .i64 0])).set b5 (.box 190 [.bool (shN (shapeOf e.op)), .int .i64 (shA (shapeOf e.op)), .int .i64 (shB (shapeOf e.op))])) := by
            intro y
            by_cases e1 : y = b5
            · subst e1; left; rw [Store.set_same, Store.set_same]
            · rw [Store.set_ne _ _ e1, Store.set_ne _ _ e1, Store.set_ne _ _ e1]
              exact Store.sub_set _ _ _ hmb y
          refine RD.oneN (i := 9) rfl rfl rfl rfl (OW.storeP tysOk rfl rfl rfl rfl rfl rfl rfl (Store.set_same _ _ _) rfl (X := fun _ _ => False)) ?_ (fun _ _ h => h.elim)
          rintro x s' rfl
          refine RD.run rfl (RD.done rfl ?_)
          exact ⟨rfl, b5, n2, ⟨⟨_, rfl, AVle.refl _⟩, ⟨_, rfl, AVle.refl _⟩, ⟨_, rfl, AVle.refl _⟩, trivial⟩, hsub⟩
        · rintro x s' ⟨b5, hb5, rfl, rfl⟩
          obtain ⟨n1, n2⟩ := Store.set_none hb5
          refine RD.one (i := 4) rfl rfl rfl rfl rfl (OW.lookup tysOk rfl rfl rfl rfl rfl rfl rfl (.inl ⟨mb, rfl, by rw [Store.set_ne _ _ (Ne.symm n1)]; exact Store.set_same _ _ _⟩) rfl (getA_shape _ _) rfl (X := fun _ _ => False)) ?_ (fun _ _ h => h.elim)
          rintro x s' ⟨hx, rfl⟩
          rw [show x = _ from hx.trans (gotA_shape e.op)]
          refine RD.run rfl ?_
          have hsub : Store.Sub (s.set b5 (.box 190 [.bool (shN (shapeOf e.op)), .int .i64 (shA (shapeOf e.op)), .int .i64 (shB (shapeOf e.op))])) (((s.set mb (.map (shapeA shapeL))).set b5 (.box 190 [.bool false, .int .i64 0, .int .i64 0])).set b5 (.box 190 [.bool (shN (shapeOf e.op)), .int .i64 (shA (shapeOf e.op)), .int .i64 (shB (shapeOf e.op))])) := by
            intro y
            by_cases e1 : y = b5
            · subst e1; left; rw [Store.set_same, Store.set_same]
            · rw [Store.set_ne _ _ e1, Store.set_ne _ _ e1, Store.set_ne _ _ e1]
              exact Store.sub_set _ _ _ hmb y
          refine RD.oneN (i := 9) rfl rfl rfl rfl (OW.storeP tysOk rfl rfl rfl rfl rfl rfl rfl (Store.set_same _ _ _) rfl (X := fun _ _ => False)) ?_ (fun _ _ h => h.elim)
          rintro x s' rfl
          refine RD.run rfl (RD.done rfl ?_)
          exact ⟨rfl, b5, n2, ⟨⟨_, rfl, AVle.refl _⟩, ⟨_, rfl, AVle.refl _⟩, ⟨_, rfl, AVle.refl _⟩, trivial⟩, hsub⟩
      · rintro x s' ⟨b5, n2, rfl, rfl⟩
        refine RD.call (i := 0) rfl rfl rfl rfl rfl rfl rfl (shapes_spec _) ?_ (fun _ _ ⟨_, _, h, _⟩ => by cases h)
        rintro x s' ⟨mb, hmb, ⟨⟩, rfl⟩
        obtain ⟨n1, n3⟩ := Store.set_none hmb
        refine RD.one (i := 4) rfl rfl rfl rfl rfl (OW.lookup tysOk rfl rfl rfl rfl rfl rfl rfl (.inl ⟨mb, rfl, Store.set_same _ _ _⟩) rfl (getA_shape _ _) rfl (X := fun _ _ => False)) ?_ (fun _ _ h => h.elim)
        rintro x s' ⟨hx, rfl⟩
        rw [show x = _ from hx.trans (gotA_shape e.op)]
        refine RD.run rfl ?_
        refine RD.oneN (i := 9) rfl rfl rfl rfl (OW.storeP tysOk rfl rfl rfl rfl rfl rfl rfl (by rw [Store.set_ne _ _ (Ne.symm n1)]; exact Store.set_same _ _ _) rfl (X := fun _ _ => False)) ?_ (fun _ _ h => h.elim)
        rintro x s' rfl
        refine RD.run rfl (RD.done rfl ?_)
        refine ⟨rfl, b5, n2, ⟨⟨_, rfl, AVle.refl _⟩, ⟨_, rfl, AVle.refl _⟩, ⟨_, rfl, AVle.refl _⟩, trivial⟩, fun y => ?_⟩
        by_cases e1 : y = b5
        · subst e1; left; rw [Store.set_same, Store.set_same]; rfl
        · rw [Store.set_ne _ _ e1, Store.set_ne _ _ e1]
          by_cases e2 : y = mb
          · subst e2; right; exact n3
          · left; rw [Store.set_ne _ _ e2, Store.set_ne _ _ e1]
    · rintro b5 hb5
      refine CW.freeze 5 b5 rfl (Store.set_same _ _ _) ?_
      rw [Store.del_set _ _ _ hb5]
      repeat (first | with_reducible refine CW.seq ?_ | refine CW.reg ?_ | refine RL.step tysOk rfl rfl rfl rfl ?_)
      refine RL.cut 26 [(4, .fptr e.cells 0), (5, .fptr [.bool (shN (shapeOf e.op)), .int .i64 (shA (shapeOf e.op)), .int .i64 (shB (shapeOf e.op))] 0), (52, .bool (nodeE1 e))] ?_ ?_
      · repeat' (first | refine RL.nil ?_ | refine RL.step tysOk rfl rfl rfl rfl ?_ | refine RL.skip rfl rfl rfl ?_ | refine RL.gstepT tysOk rfl rfl rfl rfl rfl rfl rfl (fun _ => ?_) (fun _ => ?_))
        all_goals refine ⟨rfl, ⟨⟨_, rfl, AVle.refl _⟩, ⟨_, rfl, AVle.refl _⟩, ⟨_, rfl, AVle.of_eq ?_⟩, trivial⟩, rfl⟩
        all_goals first | (simp_all [nodeE1]; done) | (simp_all [nodeE1]; intros; omega)
      refine needR rfl rfl rfl rfl rfl (fun h1 => ?_) (fun h1 => ?_)
      · repeat (first | with_reducible refine andThen_normal ?_ | refine CW.reg ?_ | refine RL.nil ?_ | refine RL.step tysOk rfl rfl rfl rfl ?_)
        refine RL.cut 23 [(80, .bool (nodeE2 e))] ?_ ?_
        · repeat' (first | refine RL.nil ?_ | refine RL.step tysOk rfl rfl rfl rfl ?_ | refine RL.skip rfl rfl rfl ?_ | refine RL.gstepT tysOk rfl rfl rfl rfl rfl rfl rfl (fun _ => ?_) (fun _ => ?_) | refine RL.gstepF tysOk rfl rfl rfl rfl rfl rfl rfl (fun _ => ?_) (fun _ => ?_) | refine RL.callP rfl rfl rfl rfl rfl (shapeName_spec _ _ ht) ?_ | refine RL.callP rfl rfl rfl rfl rfl (between_spec _ _) ?_)
          all_goals refine ⟨rfl, ⟨⟨_, rfl, AVle.of_eq ?_⟩, trivial⟩, rfl⟩
          all_goals simp_all [nodeE2]
        refine needR rfl rfl rfl rfl rfl (fun h2 => ?_) (fun h2 => ?_)
        · repeat (first | with_reducible refine inBlock_normal ?_ | refine RL.nil ?_)
          exact ⟨_, _, _, rfl, AVle.refl _, Store.sub_refl _, rfl, .inl ⟨by simp [hd', nodeE, h1, h2], rfl⟩⟩
        · repeat (first | with_reducible refine inBlock_panic ?_)
          exact ⟨_, _, AVle.refl _, Store.sub_refl _, rfl, .inr ⟨by simp [nodeE, h2], rfl⟩⟩
      · repeat (first | with_reducible refine andThen_panic ?_ | with_reducible refine inBlock_panic ?_)
        exact ⟨_, _, AVle.refl _, Store.sub_refl _, rfl, .inr ⟨by simp [nodeE, h1], rfl⟩⟩
  · repeat (first | with_reducible refine andThen_panic ?_)
    exact ⟨_, _, AVle.refl _, Store.sub_refl _, rfl, .inr ⟨by simp at hd; simp; omega, rfl⟩⟩
end Go.Proofs.Ytaafacnoddjhgaa

/- Contracts of the layer 'shape': what a node of a fact has to have. -/
namespace Go.Proofs.Ytaafacnoddjhgaa
open Go.AE

def atomF (f : FFact) : Bool := (f.op == 2 || f.op == 3) || f.op == 4
def nodeF1 (f : FFact) : Bool := decide (f.op ≥ 1) && decide (f.op ≤ 7) && (atomF f == !(f.name == [])) && (atomF f || (((strs f.path).length : Int) == 0)) && decide (((strs f.path).length : Int) ≤ 2) && ((f.op == 2) == !(f.cls == []))
def nodeF2 (f : FFact) : Bool := ((f.op == 3 || f.op == 4) && between f.n) || f.n == 0
def kidsF (op : Int) : Int := if op == 5 then 1 else if op == 6 || op == 7 then 2 else 0
def nodeF (f : FFact) : Bool := nodeF1 f && nodeF2 f && ((f.kav.length : Int) == kidsF f.op)

set_option maxRecDepth 10000 in
set_option maxHeartbeats 4000000 in
theorem nodeFact_spec (f : FFact) (d : Nat) (s : Store) :
    ACalls Try.prog 106 [(Part.fact f).av, .int .i64 (d : Int)] s (Needs (decide (d ≤ 12) && nodeF f) s) := by
  refine ACalls.of_CW tysOk call106 Try.func106 rfl rfl ?_
  repeat (first | with_reducible refine CW.seq ?_ | refine CW.reg ?_ | refine RL.step tysOk rfl rfl rfl rfl ?_)
  refine needR rfl rfl rfl rfl rfl (fun hd => ?_) (fun hd => ?_)
  · have hd' : d ≤ 12 := by simp at hd; omega
    repeat (first | with_reducible refine CW.seq ?_ | with_reducible refine andThen_normal ?_ | with_reducible refine CW.block ?_ | refine CW.reg (RL.run tysOk rfl (RL.nil ?_)) | refine CW.reg ?_ | refine RL.nil ?_ | refine CW.condT rfl ?_ | refine CW.condF rfl ?_)
    refine RL.alloc tysOk rfl rfl rfl rfl rfl rfl rfl (fun b hb => ?_)
    refine RL.storeP tysOk rfl rfl rfl rfl rfl rfl rfl rfl rfl (Store.set_same _ _ _) rfl ?_
    rw [Store.set_set]
    refine RL.freeze 7 b rfl (Store.set_same _ _ _) ?_
    rw [Store.del_set _ _ _ hb]
    refine RL.nil (andThen_normal ?_)
    refine CW.seqCut [(7, .fptr f.cells 0), (8, .bool (atomF f))] s ?_ ?_
    · repeat' (first | refine CW.reg ?_ | refine RL.nil ?_ | refine RL.step tysOk rfl rfl rfl rfl ?_ | refine RL.skip rfl rfl rfl ?_ | refine RL.gstepF tysOk rfl rfl rfl rfl rfl rfl rfl (fun _ => ?_) (fun _ => ?_))
      all_goals refine ⟨rfl, ⟨⟨_, rfl, AVle.refl _⟩, ⟨_, rfl, AVle.of_eq ?_⟩, trivial⟩, Store.sub_refl _⟩
      all_goals simp_all [atomF]
    · repeat (first | with_reducible refine CW.seq ?_ | refine CW.reg ?_ | refine RL.step tysOk rfl rfl rfl rfl ?_)
      refine RL.cut 41 [(7, .fptr f.cells 0), (146, .bool (nodeF1 f))] ?_ ?_
      · repeat' (first | refine RL.nil ?_ | refine RL.step tysOk rfl rfl rfl rfl ?_ | refine RL.skip rfl rfl rfl ?_ | refine RL.gstepT tysOk rfl rfl rfl rfl rfl rfl rfl (fun _ => ?_) (fun _ => ?_) | refine RL.gstepF tysOk rfl rfl rfl rfl rfl rfl rfl (fun _ => ?_) (fun _ => ?_))
        all_goals refine ⟨rfl, ⟨⟨_, rfl, AVle.refl _⟩, ⟨_, rfl, AVle.of_eq ?_⟩, trivial⟩, rfl⟩
        all_goals first | (simp_all [nodeF1]; done) | (simp_all [nodeF1]; intros; omega)
      refine needR rfl rfl rfl rfl rfl (fun h1 => ?_) (fun h1 => ?_)
      · repeat (first | with_reducible refine CW.seq ?_ | with_reducible refine andThen_normal ?_ | refine CW.reg ?_ | refine RL.nil ?_ | refine RL.step tysOk rfl rfl rfl rfl ?_)
        refine RL.cut 17 [(7, .fptr f.cells 0), (169, .bool (nodeF2 f))] ?_ ?_
        · repeat' (first | refine RL.nil ?_ | refine RL.step tysOk rfl rfl rfl rfl ?_ | refine RL.skip rfl rfl rfl ?_ | refine RL.gstepT tysOk rfl rfl rfl rfl rfl rfl rfl (fun _ => ?_) (fun _ => ?_) | refine RL.gstepF tysOk rfl rfl rfl rfl rfl rfl rfl (fun _ => ?_) (fun _ => ?_) | refine RL.callP rfl rfl rfl rfl rfl (between_spec _ _) ?_)
          all_goals refine ⟨rfl, ⟨⟨_, rfl, AVle.refl _⟩, ⟨_, rfl, AVle.of_eq ?_⟩, trivial⟩, rfl⟩
          all_goals simp_all [nodeF2]
        refine needR rfl rfl rfl rfl rfl (fun h2 => ?_) (fun h2 => ?_)
        · repeat (first | with_reducible refine CW.seq ?_ | with_reducible refine andThen_normal ?_ | with_reducible refine CW.block ?_ | refine CW.reg (RL.run tysOk rfl (RL.nil ?_)) | refine RL.nil ?_)
          cases h5 : (f.op == 5) with
          | true =>
            repeat (first | with_reducible refine andThen_normal ?_ | with_reducible refine inBlock_normal ?_ | refine CW.reg (RL.run tysOk rfl (RL.nil ?_)) | refine CW.reg ?_ | refine CW.condT rfl ?_ | refine RL.step tysOk rfl rfl rfl rfl ?_)
            refine needR rfl rfl rfl rfl rfl (fun h3 => ?_) (fun h3 => ?_)
            · repeat (first | with_reducible refine inBlock_normal ?_ | refine RL.nil ?_)
              exact ⟨_, _, _, rfl, AVle.refl _, Store.sub_refl _, rfl, .inl ⟨by simp_all [nodeF, kidsF], rfl⟩⟩
            · repeat (first | with_reducible refine inBlock_panic ?_)
              exact ⟨_, _, AVle.refl _, Store.sub_refl _, rfl, .inr ⟨by simp_all [nodeF, kidsF], rfl⟩⟩
          | false =>
            repeat (first | with_reducible refine CW.seq ?_ | with_reducible refine andThen_normal ?_ | refine CW.reg (RL.run tysOk rfl (RL.nil ?_)) | refine CW.condF rfl ?_)
            cases h6 : (f.op == 6) with
            | true =>
              repeat (first | with_reducible refine andThen_normal ?_ | with_reducible refine inBlock_normal ?_ | with_reducible refine CW.skip ?_ | refine CW.reg (RL.run tysOk rfl (RL.nil ?_)) | refine CW.reg ?_ | refine CW.condT rfl ?_ | refine RL.step tysOk rfl rfl rfl rfl ?_)
              refine needR rfl rfl rfl rfl rfl (fun h3 => ?_) (fun h3 => ?_)
              · repeat (first | with_reducible refine inBlock_normal ?_ | refine RL.nil ?_)
                exact ⟨_, _, _, rfl, AVle.refl _, Store.sub_refl _, rfl, .inl ⟨by simp_all [nodeF, kidsF], rfl⟩⟩
              · repeat (first | with_reducible refine inBlock_panic ?_)
                exact ⟨_, _, AVle.refl _, Store.sub_refl _, rfl, .inr ⟨by simp_all [nodeF, kidsF], rfl⟩⟩
            | false =>
              repeat (first | with_reducible refine andThen_normal ?_ | refine CW.reg (RL.run tysOk rfl (RL.nil ?_)) | refine CW.condF rfl ?_)
              cases h7 : (f.op == 7) with
              | true =>
                repeat (first | with_reducible refine andThen_normal ?_ | with_reducible refine inBlock_normal ?_ | refine CW.reg (RL.run tysOk rfl (RL.nil ?_)) | refine CW.reg ?_ | refine CW.condT rfl ?_ | refine RL.step tysOk rfl rfl rfl rfl ?_)
                refine needR rfl rfl rfl rfl rfl (fun h3 => ?_) (fun h3 => ?_)
                · repeat (first | with_reducible refine inBlock_normal ?_ | refine RL.nil ?_)
                  exact ⟨_, _, _, rfl, AVle.refl _, Store.sub_refl _, rfl, .inl ⟨by simp_all [nodeF, kidsF], rfl⟩⟩
                · repeat (first | with_reducible refine inBlock_panic ?_)
                  exact ⟨_, _, AVle.refl _, Store.sub_refl _, rfl, .inr ⟨by simp_all [nodeF, kidsF], rfl⟩⟩
              | false =>
                repeat (first | with_reducible refine andThen_normal ?_ | with_reducible refine inBlock_normal ?_ | with_reducible refine CW.skip ?_ | refine CW.reg ?_ | refine CW.condF rfl ?_ | refine RL.step tysOk rfl rfl rfl rfl ?_)
                refine needR rfl rfl rfl rfl rfl (fun h3 => ?_) (fun h3 => ?_)
                · repeat (first | with_reducible refine inBlock_normal ?_ | refine RL.nil ?_)
                  exact ⟨_, _, _, rfl, AVle.refl _, Store.sub_refl _, rfl, .inl ⟨by simp_all [nodeF, kidsF], rfl⟩⟩
                · repeat (first | with_reducible refine inBlock_panic ?_)
                  exact ⟨_, _, AVle.refl _, Store.sub_refl _, rfl, .inr ⟨by simp_all [nodeF, kidsF], rfl⟩⟩
        · repeat (first | with_reducible refine andThen_panic ?_ | with_reducible refine inBlock_panic ?_)
          exact ⟨_, _, AVle.refl _, Store.sub_refl _, rfl, .inr ⟨by simp [nodeF, h2], rfl⟩⟩
      · repeat (first | with_reducible refine andThen_panic ?_ | with_reducible refine inBlock_panic ?_)
        exact ⟨_, _, AVle.refl _, Store.sub_refl _, rfl, .inr ⟨by simp [nodeF, h1], rfl⟩⟩
  · repeat (first | with_reducible refine andThen_panic ?_)
    exact ⟨_, _, AVle.refl _, Store.sub_refl _, rfl, .inr ⟨by simp at hd; simp; omega, rfl⟩⟩
end Go.Proofs.Ytaafacnoddjhgaa

/- Contracts of the reference: lists of strings that differ. -/
namespace Go.Proofs.Ytaafacnoddjhgaa
open Go.AE

theorem nodup_take_succ {l : List Str} {j : Nat} {y : Str} (hy : l[j]? = some y) (h : (l.take j).Nodup) (hn : (l.take j).contains y = false) : (l.take (j + 1)).Nodup := by
  rw [List.take_add_one, hy]
  simp only [Option.toList_some]
  rw [List.nodup_append]
  refine ⟨h, by simp, fun a ha b hb e => ?_⟩
  simp at hb; subst hb; subst e
  have : (l.take j).contains a = true := by simpa using ha
  rw [hn] at this; cases this

theorem not_nodup {l : List Str} {j : Nat} {y : Str} (hy : l[j]? = some y) (hn : (l.take j).contains y = true) : decide l.Nodup = false := by
  rw [decide_eq_false_iff_not]
  intro h
  have h2 : (l.take (j + 1)).Nodup := h.sublist (List.take_sublist _ _)
  rw [List.take_add_one, hy] at h2
  simp only [Option.toList_some] at h2
  obtain ⟨-, -, h3⟩ := List.nodup_append.1 h2
  exact h3 y (by simpa using hn) y (by simp) rfl

set_option maxRecDepth 10000 in
theorem differ_spec (l : List Str) (own : Own) (s : Store) (hl : l.length < 9223372036854775807) :
    ACalls Try.prog 122 [.slc 1 (strs l) own] s (fun o s' => o = .ret (.bool (decide l.Nodup)) ∧ s' = s) := by
  refine ACalls.of_CW tysOk call122 Try.func122 rfl rfl ?_
  repeat (first | with_reducible refine CW.seq ?_ | with_reducible refine andThen_normal ?_ | with_reducible refine CW.block ?_ | refine CW.reg (RL.run tysOk rfl (RL.nil ?_)))
  refine CW.loop (σ := Nat) (fun j => [(0, .slc 1 (strs l) own), (3, .int .i64 (j : Int))]) (fun _ => s) (fun j => j ≤ l.length ∧ (l.take j).Nodup) (fun j => l.length - j) 0 ⟨by omega, by simp⟩ ?_ (Store.sub_refl _) ?_
  · exact ⟨⟨_, rfl, AVle.refl _⟩, ⟨_, rfl, AVle.refl _⟩, trivial⟩
  · rintro j ⟨hj, hI⟩
    repeat (first | with_reducible refine CW.seq ?_ | with_reducible refine andThen_normal ?_ | refine CW.reg (RL.run tysOk rfl (RL.nil ?_)))
    refine CW.cond rfl (fun h => ?_) (fun h => ?_)
    · have hlt : j < l.length := by simpa using h
      obtain ⟨y, hy⟩ : ∃ y, l[j]? = some y := ⟨_, List.getElem?_eq_getElem hlt⟩
      repeat (first | with_reducible refine CW.seq ?_ | with_reducible refine andThen_normal ?_ | with_reducible refine CW.skip ?_ | with_reducible refine CW.block ?_ | refine CW.drw tysOk mixed rfl (RD.run rfl ?_))
      refine RD.slice 2 0 j rfl rfl rfl rfl rfl rfl rfl rfl rfl rfl (.inr rfl) (.inl ⟨rfl, rfl⟩) (.inr ⟨_, _, rfl, rfl⟩) (.inl ⟨rfl, rfl⟩) (by omega) (by simp; omega) ?_
      rw [List.drop_zero, show (strs l).take j = strs (l.take j) by simp [strs]]
      refine RD.idx 5 j rfl rfl rfl rfl rfl rfl rfl rfl rfl rfl rfl rfl rfl (by rw [strs_get, hy]; rfl) rfl ?_
      refine RD.run rfl ?_
      refine RD.callP (i := 7) rfl rfl rfl rfl rfl rfl rfl (refHas_spec (l.take j) .fro y s (by simp; omega)) ?_
      refine RD.run rfl (RD.done rfl ?_)
      repeat (first | with_reducible refine andThen_normal ?_)
      refine CW.cond rfl (fun h1 => ?_) (fun h1 => ?_)
      · repeat (first | with_reducible refine CW.seq ?_ | with_reducible refine andThen_normal ?_ | with_reducible refine andThen_ret ?_ | with_reducible refine inBlock_ret ?_ | with_reducible refine CW.ret ?_ | refine CW.reg (RL.run tysOk rfl (RL.nil ?_)))
        exact ⟨_, _, _, rfl, AVle.refl _, Store.sub_refl _, by rw [not_nodup hy h1], rfl⟩
      · repeat (first | with_reducible refine andThen_normal ?_ | with_reducible refine inBlock_normal ?_ | with_reducible refine CW.skip ?_ | refine CW.reg (RL.run tysOk rfl (RL.nil ?_)))
        refine ⟨j + 1, ⟨hlt, nodup_take_succ hy hI h1⟩, ⟨⟨_, rfl, AVle.refl _⟩, ⟨_, rfl, AVle.of_eq ?_⟩, trivial⟩, Store.sub_refl _, by omega⟩
        rw [i64_succ (by omega)]
    · repeat (first | with_reducible refine CW.seq ?_ | with_reducible refine andThen_normal ?_ | with_reducible refine andThen_exit ?_ | with_reducible refine inBlock_here ?_ | with_reducible refine CW.ret ?_ | with_reducible refine CW.exit ?_ | refine CW.reg (RL.run tysOk rfl (RL.nil ?_)))
      have hge : l.length ≤ j := by simpa using h
      rw [List.take_of_length_le hge] at hI
      exact ⟨_, _, _, rfl, AVle.refl _, Store.sub_refl _, by simp [hI], rfl⟩

theorem all_take_succ' {l : List Str} {j : Nat} {y : Str} (f : Str → Bool) (hy : l[j]? = some y) (h : (l.take j).all f = true) (hl : f y = true) : (l.take (j + 1)).all f = true := by
  rw [List.take_add_one, hy]; simp [hl]
  simpa using h

theorem not_all' {l : List Str} {j : Nat} {y : Str} (f : Str → Bool) (hy : l[j]? = some y) (hl : f y = false) : l.all f = false := by
  rw [Bool.eq_false_iff]; intro h
  have := List.all_eq_true.1 h y (List.mem_of_getElem? hy)
  rw [hl] at this; cases this

set_option maxRecDepth 10000 in
theorem refNames_spec (l : List Str) (own : Own) (s : Store) (hl : l.length < 9223372036854775807) (hs : ∀ x ∈ l, x.length < 9223372036854775807) :
    ACalls Try.prog 123 [.slc 1 (strs l) own] s (fun o s' => o = .ret (.bool (l.all nameS && decide l.Nodup)) ∧ s' = s) := by
  refine ACalls.of_CW tysOk call123 Try.func123 rfl rfl ?_
  repeat (first | with_reducible refine CW.seq ?_ | with_reducible refine andThen_normal ?_ | with_reducible refine CW.block ?_ | refine CW.reg (RL.run tysOk rfl (RL.nil ?_)))
  refine CW.loop (σ := Nat) (fun j => [(0, .slc 1 (strs l) own), (3, .int .i64 (j : Int))]) (fun _ => s) (fun j => j ≤ l.length ∧ (l.take j).all nameS = true) (fun j => l.length - j) 0 ⟨by omega, rfl⟩ ?_ (Store.sub_refl _) ?_
  · exact ⟨⟨_, rfl, AVle.refl _⟩, ⟨_, rfl, AVle.refl _⟩, trivial⟩
  · rintro j ⟨hj, hI⟩
    repeat (first | with_reducible refine CW.seq ?_ | with_reducible refine andThen_normal ?_ | refine CW.reg (RL.run tysOk rfl (RL.nil ?_)))
    refine CW.cond rfl (fun h => ?_) (fun h => ?_)
    · have hlt : j < l.length := by simpa using h
      obtain ⟨y, hy⟩ : ∃ y, l[j]? = some y := ⟨_, List.getElem?_eq_getElem hlt⟩
      repeat (first | with_reducible refine CW.seq ?_ | with_reducible refine andThen_normal ?_ | with_reducible refine CW.skip ?_ | with_reducible refine CW.block ?_ | refine CW.reg ?_ | refine RL.step tysOk rfl rfl rfl rfl ?_)
      refine RL.idx tysOk j rfl rfl rfl rfl rfl rfl rfl rfl rfl rfl rfl (by rw [strs_get, hy]; rfl) rfl ?_
      repeat (first | refine RL.step tysOk rfl rfl rfl rfl ?_)
      refine RL.callP rfl rfl rfl rfl rfl (refName_spec y s (hs y (List.mem_of_getElem? hy))) ?_
      cases hn : nameS y with
      | true =>
        repeat (first | with_reducible refine andThen_normal ?_ | with_reducible refine inBlock_normal ?_ | with_reducible refine CW.skip ?_ | refine CW.reg (RL.run tysOk rfl (RL.nil ?_)) | refine RL.nil ?_ | refine CW.condF rfl ?_ | refine RL.step tysOk rfl rfl rfl rfl ?_)
        refine ⟨j + 1, ⟨hlt, all_take_succ' _ hy hI hn⟩, ⟨⟨_, rfl, AVle.refl _⟩, ⟨_, rfl, AVle.of_eq ?_⟩, trivial⟩, Store.sub_refl _, by omega⟩
        rw [i64_succ (by omega)]
      | false =>
        repeat (first | with_reducible refine CW.seq ?_ | with_reducible refine andThen_normal ?_ | with_reducible refine andThen_ret ?_ | with_reducible refine inBlock_ret ?_ | with_reducible refine CW.ret ?_ | refine CW.reg (RL.run tysOk rfl (RL.nil ?_)) | refine RL.nil ?_ | refine CW.condT rfl ?_ | refine RL.step tysOk rfl rfl rfl rfl ?_)
        exact ⟨_, _, _, rfl, AVle.refl _, Store.sub_refl _, by rw [not_all' _ hy hn]; rfl, rfl⟩
    · repeat (first | with_reducible refine CW.seq ?_ | with_reducible refine andThen_normal ?_ | with_reducible refine andThen_exit ?_ | with_reducible refine inBlock_here ?_ | with_reducible refine CW.exit ?_ | refine CW.reg ?_ | refine RL.step tysOk rfl rfl rfl rfl ?_)
      have hge : l.length ≤ j := by simpa using h
      rw [List.take_of_length_le hge] at hI
      refine RL.callP rfl rfl rfl rfl rfl (differ_spec l own s hl) ?_
      repeat (first | with_reducible refine andThen_normal ?_ | with_reducible refine CW.ret ?_ | refine RL.nil ?_ | refine RL.step tysOk rfl rfl rfl rfl ?_)
      exact ⟨_, _, _, rfl, AVle.refl _, Store.sub_refl _, by rw [hI]; rfl, rfl⟩
end Go.Proofs.Ytaafacnoddjhgaa

/- Contracts of the layer 'shape': a string that has to be new in a set. -/
namespace Go.Proofs.Ytaafacnoddjhgaa
open Go.AE

set_option maxRecDepth 10000 in
theorem one_spec (x : Str) (l : List Str) (b : Nat) (s : Store) (hs : s b = some (.map (setA l))) (hx : x.length < 9223372036854775807) :
    ACalls Try.prog 85 [.str x, .map b] s (fun o s' => ((nameS x && !l.contains x) = true ∧ o = .ret (.tup []) ∧ s' = s.set b (.map (setA (insS l x)))) ∨ ((nameS x && !l.contains x) = false ∧ o = .panic unf ∧ s' = s)) := by
  refine ACalls.of_CW tysOk call85 Try.func85 rfl rfl ?_
  repeat (first | with_reducible refine CW.seq ?_ | refine CW.reg ?_ | refine RL.step tysOk rfl rfl rfl rfl ?_)
  refine RL.callP rfl rfl rfl rfl rfl (shapeName_spec x s hx) ?_
  cases hn : nameS x with
  | false =>
    repeat (first | refine RL.step tysOk rfl rfl rfl rfl ?_ | refine RL.skip rfl rfl rfl ?_)
    refine needR rfl rfl rfl rfl rfl (fun h => by cases h) (fun _ => ?_)
    repeat (first | with_reducible refine andThen_panic ?_)
    exact ⟨_, _, AVle.refl _, Store.sub_refl _, .inr ⟨rfl, rfl, rfl⟩⟩
  | true =>
    repeat (first | refine RL.step tysOk rfl rfl rfl rfl ?_)
    refine RL.lookup tysOk rfl rfl rfl rfl rfl rfl rfl rfl rfl rfl hs rfl (getA_set _ _) rfl ?_
    rw [gotA_set]
    repeat (first | refine RL.step tysOk rfl rfl rfl rfl ?_)
    refine needR rfl rfl rfl rfl rfl (fun h => ?_) (fun h => ?_)
    · repeat (first | with_reducible refine andThen_normal ?_ | refine CW.reg ?_ | refine RL.nil ?_ | refine RL.step tysOk rfl rfl rfl rfl ?_)
      refine RL.mapUpdate tysOk rfl rfl (.inl rfl) rfl rfl rfl rfl rfl rfl hs rfl (putA_set _ _) ?_
      repeat (first | refine RL.nil ?_)
      exact ⟨_, _, _, rfl, AVle.refl _, Store.sub_refl _, .inl ⟨by rw [h]; rfl, rfl, rfl⟩⟩
    · repeat (first | with_reducible refine andThen_panic ?_)
      exact ⟨_, _, AVle.refl _, Store.sub_refl _, .inr ⟨by rw [h]; rfl, rfl, rfl⟩⟩
end Go.Proofs.Ytaafacnoddjhgaa

/- Contracts of the layer 'shape': what gives up is caught. -/
namespace Go.Proofs.Ytaafacnoddjhgaa
open Go.AE

theorem run_store1 (b : Nat) (w : World) (vs : Array Value) (hc : w.heap[b]? = some (.cells vs 4 (0, 0))) (hs : vs.size = 1) (x : Bool) :
    (Instr.storeAt 4 (.pointer (some ⟨b, 0, none⟩)) (.bool x)).run Try.prog w = .ok () (w.setRow b #[.bool x]) := by
  have hst := run_storeCells_at Try.prog b 0 4 [.bool x] 0 vs w hc (by simp [hs]) (by simp [Value.oneCell'])
  obtain ⟨info, d, g1, g2, g3, g4, -⟩ := tysOk.parts (t := 4) (i := ⟨.bool, 1, 1, .bool false⟩) rfl
  have hv : (vs.toList.take 0 ++ [Value.bool x] ++ vs.toList.drop (0 + [Value.bool x].length)).toArray = #[.bool x] := by
    have : vs.toList.length = 1 := by simpa using hs
    rw [List.drop_eq_nil_of_le (by simp [hs])]
    rfl
  rw [Nat.zero_add, hv] at hst
  simp only [Instr.storeAt, Instr.sureAddr, storeVar, sizeOf, typeInfo, Sem.run_bind, Sem.run_pure, Result.andThen_ok, run_program, g1]
  rw [if_neg (by rw [g4]; simp [Value.cells])]
  exact hst

theorem catch_idle (b : Nat) (w : World) :
    CallsD Try.prog 105 #[.pointer (some ⟨b, 0, none⟩)] .returning w fun e u' w' => e = .returned (.tuple #[]) ∧ u' = .returning ∧ w' = w := by
  have hnil : ∀ w : World, (binOp BinOp.neq 20 .nilIface .nilIface).run Try.prog w = .ok (.bool false) w := fun _ => by kernel_rfl
  refine callsD_of_wpS Try.func105 rfl fun c₀ cs hu => ?_
  apply wpS_seq
  apply wpS_region
  simp [wpOpsS, go_sem, recoverD, hu, Try.ntmps105, Exit.thenS]
  apply wpS_seq
  apply wpS_region
  simp [wpOpsS, go_sem, Exit.thenS, hnil]
  refine wpS_cond (t := false) (by simp [Act.eval, Array.replicate]) ?_
  simp only [Bool.false_eq_true, if_false]
  refine wpS_of_wp (wp_skip ?_)
  cases c₀
  simp_all [bodyPostS, results, Try.results105, Exit.thenS]

/-- What the machine holds when something gave up. -/
def unfV : Value := .iface 164 (.agg #[])

theorem catch_hit (b : Nat) (w : World) (vs : Array Value) (hc : w.heap[b]? = some (.cells vs 4 (0, 0))) (hs : vs.size = 1) :
    CallsD Try.prog 105 #[.pointer (some ⟨b, 0, none⟩)] (.panicking [{ v := unfV, recovered := false }]) w
      fun e u' w' => e = .returned (.tuple #[]) ∧ u' = .panicking [{ v := unfV, recovered := true }] ∧ w' = (w.alloc (.cells #[] 164)).setRow b #[.bool false] := by
  have hneq : ∀ w : World, (binOp BinOp.neq 20 unfV .nilIface).run Try.prog w = .ok (.bool true) w := fun _ => by kernel_rfl
  have hta : ∀ w : World, (Instr.typeAssert unfV 20 164 true).run Try.prog w = .ok (.tuple #[.agg #[], .bool true]) w := fun _ => by kernel_rfl
  refine callsD_of_wpS Try.func105 rfl fun c₀ cs hu => ?_
  apply wpS_seq
  apply wpS_region
  simp [wpOpsS, go_sem, recoverD, hu, Try.ntmps105, Exit.thenS]
  apply wpS_seq
  apply wpS_region
  simp [wpOpsS, go_sem, Exit.thenS, hneq]
  refine wpS_cond (t := true) (by simp [Act.eval, Act.put]) ?_
  simp only [if_true]
  apply wpS_seq
  apply wpS_seq
  apply wpS_region
  simp [wpOpsS, go_sem, Exit.thenS, hta]
  apply wpS_seq
  apply wpS_region
  simp [wpOpsS, go_sem, Exit.thenS]
  refine wpS_cond (t := false) (by simp [Act.eval, Act.put]) ?_
  simp only [Bool.false_eq_true, if_false]
  refine wpS_of_wp (wp_skip ?_)
  simp only [Exit.thenS]
  apply wpS_region
  have hb : b < w.heap.size := (Array.getElem?_eq_some_iff.1 hc).1
  have hst := run_store1 b (w.alloc (.cells #[] 164)) vs ((heap_alloc_lt w _ b hb).trans hc) hs false
  simp [wpOpsS, execOp, Act.eval, Act.put, Region.wanted, Exit.thenS, Sem.run_bind, hst, Oper.upon]
  cases c₀
  simp_all [bodyPostS, results, Try.results105, Exit.thenS]



theorem after_box {s s1 : Store} {w w1 : World} {p p1 : Prot} (hle : Le w p w1 p1) (hk : Kept s s1 w p w1 p1) (hwf : Wf w1 p1 s1) (hbox : ∃ v, w1.heap[w.heap.size]? = some (.cells #[Value.bool v] 4 (0, 0)))
    (hp : ∀ o, ¬ p1 w.heap.size o) (hs : s1 w.heap.size = none) (x : Bool) :
    Le w p (w1.setRow w.heap.size #[.bool x]) p1 ∧ Kept s s1 w p (w1.setRow w.heap.size #[.bool x]) p1 ∧ Wf (w1.setRow w.heap.size #[.bool x]) p1 s1 ∧
      (w1.setRow w.heap.size #[.bool x]).heap[w.heap.size]? = some (.cells #[Value.bool x] 4 (0, 0)) := by
  obtain ⟨v, hbox⟩ := hbox
  have hsub : Store.Sub s1 (s1.set w.heap.size (.box 4 [.bool v])) := Store.sub_set _ _ _ hs
  have hwf' : Wf w1 p1 (s1.set w.heap.size (.box 4 [.bool v])) := by
    refine ⟨fun b o hb => ?_, hwf.lt⟩
    by_cases e : b = w.heap.size
    · subst e; rw [Store.set_same] at hb; cases hb
      exact ⟨_, hbox, .cons _ _ _ _ (.bool v) .nil, hp⟩
    · rw [Store.set_ne _ _ e] at hb; exact hwf.obj b o hb
  obtain ⟨k1, k2, k3⟩ := box_write hwf' (Store.set_same _ _ _) (vs' := #[.bool x]) (cs' := [.bool x]) (fun vs hv => by rw [hbox] at hv; cases hv; rfl) (.cons _ _ _ _ (.bool x) .nil) _ rfl
  have hheap : ∀ b, b ≠ w.heap.size → (w1.setRow w.heap.size #[.bool x]).heap[b]? = w1.heap[b]? := by
    intro b hb
    simp only [World.setRow]
    rw [Array.getElem?_modify, if_neg (Ne.symm hb)]
  have hlt : w.heap.size < w1.heap.size := (Array.getElem?_eq_some_iff.1 hbox).1
  refine ⟨hle.trans k1, ⟨fun b hb hn => (hheap b (by omega)).trans (hk.heap b hb hn), hk.dom, hk.prot⟩, k3.sub (fun b => ?_), ?_⟩
  · by_cases e : b = w.heap.size
    · subst e; exact .inr hs
    · left; rw [Store.set_ne _ _ e, Store.set_ne _ _ e]
  · simp only [World.setRow]
    rw [Array.getElem?_modify, if_pos rfl, hbox]; rfl

theorem setCell_row {w : World} {b : Nat} {v x : Value} {T : TypeId} (h : w.heap[b]? = some (.cells #[v] T (0, 0))) : w.setCell ⟨b, 0, none⟩ x = w.setRow b #[x] := by
  simp only [World.setCell, World.setRow]
  congr 1
  refine Array.ext_getElem? fun i => ?_
  rw [Array.getElem?_modify, Array.getElem?_modify]
  by_cases e : b = i
  · subst e; rw [if_pos rfl, if_pos rfl, h]; rfl
  · rw [if_neg e, if_neg e]

theorem rel_unf {w : World} {p : Prot} {v : Value} (h : Rel w p v unf) : v = unfV := by
  cases h with
  | iface _ v x h =>
    cases h with
    | agg cs xs h =>
      have := h.length
      have : cs = #[] := by simpa using this
      subst this; rfl

/-- What is asked of a function that may give up. -/
def Tries (Ok Bad : Store → Prop) (o : AOut) (s' : Store) : Prop := (o = .ret (.tup []) ∧ Ok s') ∨ (o = .panic unf ∧ Bad s')
def Formed (Ok Bad : Store → Prop) (o : AOut) (s' : Store) : Prop := (o = .ret (.bool true) ∧ Ok s') ∨ (o = .ret (.bool false) ∧ Bad s')

set_option maxRecDepth 10000 in
theorem formed_spec (f : FuncId) (cap : List AV) (s : Store) (Ok Bad : Store → Prop) (h : ACalls Try.prog f cap s (Tries Ok Bad)) :
    ACalls Try.prog 74 [.func f [] cap] s (Formed Ok Bad) := by
  refine ⟨call74, fun w p vs hwf hrel => ?_⟩
  cases hrel with
  | cons v _ vs _ hv ht =>
  cases ht
  cases hv with
  | func _ fa cs _ _ ha hc =>
  have hcall := h.1
  obtain rfl : fa = #[] := by have := ha.length; simpa using this
  unfold CallsX
  go_enter_defers Try.func74, Try.ntmps74
  go_wp2_with fail
  obtain ⟨hn, hle, hk, hwf0⟩ := new_obj hwf (.cells #[Value.bool false] 4) (.box 4 [.bool false]) (fun w' h1 h2 h3 => ⟨#[.bool false], h1, h3 _ _ (.cons _ _ _ _ (.bool false) .nil), fun o hp => absurd (hwf.lt _ _ hp) (by omega)⟩)
  have hlt : w.heap.size < (w.alloc (.cells #[Value.bool false] 4)).heap.size := by simp
  have hsub : Store.Sub s (s.set w.heap.size (.box 4 [.bool false])) := Store.sub_set _ _ _ hn
  rw [hcall]
  have hcc := h.2 _ p cs.toList (hwf0.sub hsub) (hc.mono hle)
  rw [Array.toArray_toList] at hcc
  show Calls _ _ _ _ _
  refine Calls.mono hcc ?_
  rintro e w1 ⟨hno, o, s1, p1, h1, h2, h3, h4, h5⟩
  have hbox : w1.heap[w.heap.size]? = some (.cells #[Value.bool false] 4 (0, 0)) := (h4.heap _ hlt hn).trans (heap_alloc_here _ _)
  have hs1 : s1 w.heap.size = none := h4.dom _ hlt hn
  have hpA : ∀ o, ¬ p1 w.heap.size o := fun o hp => absurd (hwf.lt _ _ (h4.prot _ _ hlt hn hp)) (by omega)
  have hkA : Kept s s w p (w.alloc (.cells #[Value.bool false] 4)) p := hk.sub hsub
  rcases h2 with ⟨rfl, hok⟩ | ⟨rfl, hbad⟩
  · cases e with
    | returned r =>
      have hcell : w1.cell? ⟨w.heap.size, 0, none⟩ = some (.bool false) := by rw [cells_of_box hbox]; rfl
      have hfro : w1.frozen? ⟨w.heap.size, 0, none⟩ = false := by simp [World.frozen?, hbox]
      go_wp2
      rw [setCell_row hbox]
      obtain ⟨q1, q2, q3, q4⟩ := after_box (hle.trans h3) (hkA.trans hle.size h4) h5 ⟨_, hbox⟩ hpA hs1 true
      have hcell2 : (w1.setRow w.heap.size #[Value.bool true]).cell? ⟨w.heap.size, 0, none⟩ = some (.bool true) := by rw [cells_of_box q4]; rfl
      refine leaves_cons (f := 105) (args := #[.pointer (some ⟨w.heap.size, 0, none⟩)]) (by simp) (by simp [go_sem]) ?_
      refine (catch_idle w.heap.size _).mono ?_
      rintro e u' w'' ⟨rfl, rfl, rfl⟩
      refine ⟨.bool true, by simp [results, Try.results74, go_sem, hcell2], by simp, .ret (.bool true), s1, p1, .bool true, .inl ⟨rfl, hok⟩, q1, q2, q3⟩
    | panicked ch => exact h1.elim
    | outgrown => exact absurd rfl hno
  · cases e with
    | returned r => exact h1.elim
    | panicked ch =>
      obtain ⟨v, rfl, hv⟩ := h1
      obtain rfl : v = unfV := rel_unf hv
      obtain ⟨m1, m2, m3, m4⟩ := new_obj h5 (.cells #[] 164) (.box 164 []) (fun w' h1 h2 h3 => ⟨#[], h1, h3 _ _ .nil, fun o hp => absurd (h5.lt _ _ hp) (by omega)⟩)
      have hlt1 : w.heap.size < w1.heap.size := (Array.getElem?_eq_some_iff.1 hbox).1
      have hbox' := (heap_alloc_lt w1 (.cells #[] 164) _ hlt1).trans hbox
      obtain ⟨q1, q2, q3, q4⟩ := after_box ((hle.trans h3).trans m2) ((hkA.trans hle.size h4).trans (hle.trans h3).size (m3.sub (Store.sub_set _ _ _ m1))) (m4.sub (Store.sub_set _ _ _ m1)) ⟨_, hbox'⟩ hpA hs1 false
      have hcell2 : ((w1.alloc (.cells #[] 164)).setRow w.heap.size #[Value.bool false]).cell? ⟨w.heap.size, 0, none⟩ = some (.bool false) := by rw [cells_of_box q4]; rfl
      show Leaves _ _ _ _ _ _ _
      refine leaves_cons (f := 105) (args := #[.pointer (some ⟨w.heap.size, 0, none⟩)]) (by simp) (by simp [go_sem]) ?_
      refine (catch_hit w.heap.size _ _ hbox rfl).mono ?_
      rintro e u' w'' ⟨rfl, rfl, rfl⟩
      refine ⟨.bool false, by simp [results, Try.results74, go_sem, hcell2], by simp, .ret (.bool false), s1, p1, .bool false, .inr ⟨rfl, hbad⟩, q1, q2, q3⟩
    | outgrown => exact absurd rfl hno
end Go.Proofs.Ytaafacnoddjhgaa

/- Contracts of the layer 'shape': a range over the nodes of what has parts; looking at them. -/
namespace Go.Proofs.Ytaafacnoddjhgaa
open Go.AE

section
variable {N : Nat} {Q : AEx → Env → Store → Prop} {env : Env} {s : Store}

theorem CW.rangeNodes {g : Operand} {asg body : Code} {a b : Tmp} (p : Part) (hg : ev env g = some (.func 103 [] [.fptr [p.av] 0])) (ha : Nat.blt a N = true) (hb : Nat.blt b N = true) (hp : p.size < big)
    (I : List (Nat × Part) → Store → Prop) (J : Code → Store → Prop) (X : AV → Store → Prop) (h0 : I (p.nodes 1) s)
    (round : ∀ d x rem s₁, (d, x) ∈ p.nodes 1 → I ((d, x) :: rem) s₁ → CW Try.prog N asg (AEx.andThen (CW Try.prog N body (RoundQ (I rem) J X)) (fun _ _ _ => False)) ((b, x.av) :: (a, .int .i64 (d : Nat)) :: env) s₁)
    (hend : ∀ s', I [] s' → Q .normal env s') (hj : ∀ j s', J j s' → CW Try.prog N j Q env s') (hx : ∀ v s', X v s' → Q (.panic v) env s') :
    CW Try.prog N (.rangeFunc g #[a, b] asg body) Q env s := by
  refine CW.rangeF (f := 103) (first := []) (cap := [.fptr [p.av] 0]) hg (by
    intro t ht
    simp at ht
    rcases ht with rfl | rfl
    · simpa [Nat.blt_eq] using ha
    · simpa [Nat.blt_eq] using hb) ?_
  intro l r hl hyield
  have hcall := nodes1_spec l (fun rem s' => (∃ pre, p.nodes 1 = pre ++ rem) ∧ ∃ s₂, s₂ l = none ∧ s' = s₂.set l (.loop r env) ∧ I rem s₂) (fun s' => ∃ j s₂, s₂ l = none ∧ s' = s₂.set l (.loop (over r j) env) ∧ J j s₂)
    (fun v s' => ∃ s₂, s₂ l = none ∧ s' = s₂.set l (.loop (busy r) env) ∧ X v s₂) ?_ p [] (s.set l (.loop r env)) hp ⟨⟨[], by simp⟩, s, hl, rfl, by simpa using h0⟩
  · refine hcall.mono ?_
    rintro o s' (⟨rfl, ⟨-, s₂, k1, rfl, k2⟩ | ⟨j, s₂, k1, rfl, k2⟩⟩ | ⟨v, rfl, s₂, k1, rfl, k2⟩)
    · exact .inl ⟨s₂, k1, rfl, hend _ k2⟩
    · exact .inr ⟨j, s₂, k1, rfl, hj _ _ k2⟩
    · exact ⟨s₂, _, k1, rfl, hx _ _ k2⟩
  · rintro d x rem s' ⟨⟨pre, hpre⟩, s₂, k1, rfl, k2⟩
    have hm : (d, x) ∈ p.nodes 1 := by rw [hpre]; simp
    refine (hyield [.int .i64 (d : Nat), x.av] _ (I rem) J X (Store.set_same _ _ _) rfl ?_).mono ?_
    · rw [Store.del_set _ _ _ k1]
      exact round d x rem s₂ hm k2
    · rintro o s' (⟨rfl, s₃, q1, rfl, q2⟩ | ⟨rfl, j, s₃, q1, rfl, q2⟩ | ⟨v, s₃, rfl, q1, rfl, q2⟩)
      · exact .inl ⟨rfl, ⟨pre ++ [(d, x)], by simp [hpre]⟩, s₃, q1, rfl, q2⟩
      · exact .inr (.inl ⟨rfl, j, s₃, q1, rfl, q2⟩)
      · exact .inr (.inr ⟨v, rfl, s₃, q1, rfl, q2⟩)
end

/-- What a node has to have, but for its depth. -/
def nodeP : Part → Bool
  | .exp e => nodeE e
  | .fact f => nodeF f

/-- Its texts are not too long to be looked at. -/
def Part.short : Part → Prop
  | .exp e => e.text.length < 9223372036854775807
  | .fact _ => True

theorem node_spec (p : Part) (d : Nat) (s : Store) (ht : p.short) : ACalls Try.prog 106 [p.av, .int .i64 (d : Int)] s (Needs (decide (d ≤ 12) && nodeP p) s) := by
  cases p with
  | exp e => exact nodeExp_spec e d s ht
  | fact f => exact nodeFact_spec f d s

def nodeOk (x : Nat × Part) : Bool := decide (x.1 ≤ 12) && nodeP x.2

/-- Are all nodes as they have to be, and at most so many? -/
def lookB (p : Part) (most : Nat) : Bool := decide ((p.nodes 1).length ≤ most) && (p.nodes 1).all nodeOk

def Part.Short (p : Part) : Prop := ∀ x ∈ p.nodes 1, x.2.short

theorem FExp.sizes_eq : ∀ l : List FExp, FExp.sizes l = (l.map FExp.size).sum
  | [] => by simp [FExp.sizes]
  | k :: l => by rw [FExp.sizes, FExp.sizes_eq l]; simp
theorem FFact.sizes_eq : ∀ l : List FFact, FFact.sizes l = (l.map FFact.size).sum
  | [] => by simp [FFact.sizes]
  | k :: l => by rw [FFact.sizes, FFact.sizes_eq l]; simp
theorem Part.size_eq (p : Part) : p.size = 1 + (p.kids.map Part.size).sum := by
  cases p with
  | exp e => cases e with | mk o n t ks => simp only [Part.size, Part.kids, FExp.size, FExp.sizes_eq, FExp.kids, List.map_map]; rfl
  | fact e => cases e with | mk o a b c n ks => simp only [Part.size, Part.kids, FFact.size, FFact.sizes_eq, FFact.kids, List.map_map]; rfl

theorem Part.nodes_size : ∀ (n : Nat) (p : Part) (d : Nat), p.size ≤ n → (p.nodes d).length = p.size := by
  intro n
  induction n with
  | zero => intro p d h; rw [Part.size_eq] at h; omega
  | succ n ih =>
    intro p d h
    rw [Part.nodes_eq, List.length_cons, List.length_flatMap, Part.size_eq, Nat.add_comm]
    congr 2
    refine List.map_congr_left fun k hk => ih k _ ?_
    have := Part.kids_size hk; omega

set_option maxRecDepth 10000 in
theorem look_spec (p : Part) (most : Nat) (s : Store) (hp : p.size < big) (hs : p.Short) (hm : most < 9223372036854775807) :
    ACalls Try.prog 76 [p.av, .int .i64 (most : Int)] s (fun o s' => s' = s ∧ ((lookB p most = true ∧ o = .ret (.int .i64 (p.size : Int))) ∨ (lookB p most = false ∧ o = .panic unf))) := by
  have hb : big = 1099511627776 := rfl
  have hlen := p.nodes_size _ 1 (Nat.le_refl _)
  refine ACalls.of_CW tysOk call76 Try.func76 rfl rfl ?_
  repeat (first | with_reducible refine CW.seq ?_ | with_reducible refine andThen_normal ?_ | refine CW.reg (RL.run tysOk rfl (RL.nil ?_)) | refine CW.reg ?_)
  refine RL.alloc tysOk rfl rfl rfl rfl rfl rfl rfl (fun b5 hb5 => ?_)
  refine RL.storeP tysOk rfl rfl rfl rfl rfl rfl rfl rfl rfl (Store.set_same _ _ _) rfl ?_
  rw [Store.set_set]
  repeat (first | with_reducible refine CW.seq ?_ | with_reducible refine andThen_normal ?_ | refine CW.reg ?_ | refine RL.nil ?_ | refine RL.step tysOk rfl rfl rfl rfl ?_)
  refine RL.callP rfl rfl rfl rfl rfl (nodes_spec p _) ?_
  repeat (first | with_reducible refine andThen_normal ?_ | with_reducible refine CW.block ?_ | refine RL.nil ?_)
  refine CW.rangeNodes p rfl rfl rfl hp (fun rem s' => rem.length ≤ p.size ∧ s' = s.set b5 (.box 3 [.int .i64 ((p.size - rem.length : Nat) : Int)]) ∧ p.size - rem.length ≤ most ∧ lookB p most = (rem.all nodeOk && decide (p.size ≤ most)))
    (fun _ _ => False) (fun v s' => v = unf ∧ lookB p most = false ∧ ∃ x, s' = s.set b5 x) ?_ ?_ ?_ ?_ ?_
  · refine ⟨by omega, by rw [hlen, Nat.sub_self]; rfl, by omega, ?_⟩
    rw [lookB, hlen, Bool.and_comm]
  · rintro d x rem s₁ hmem ⟨h1, rfl, h2, h3⟩
    simp only [List.length_cons] at h1 h2
    repeat (first | with_reducible refine CW.seq ?_ | with_reducible refine andThen_normal ?_ | with_reducible refine CW.block ?_ | refine CW.reg (RL.run tysOk rfl (RL.nil ?_)) | refine CW.reg ?_ | refine RL.nil ?_ | refine RL.step tysOk rfl rfl rfl rfl ?_ | refine RL.loadP tysOk rfl rfl rfl rfl rfl rfl (Store.set_same _ _ _) rfl ?_ | (refine RL.storeP tysOk rfl rfl rfl rfl rfl rfl rfl rfl rfl (Store.set_same _ _ _) rfl ?_; try with_reducible rw [Store.set_set]))
    have he : IntKind.wrap .i64 (((p.size - ((d, x) :: rem).length : Nat) : Int) + 1) = ((p.size - rem.length : Nat) : Int) := by
      rw [i64_wrap (by simp; omega) (by simp; omega)]; simp; omega
    simp only [he, setL]
    refine needR rfl rfl rfl rfl rfl (fun h4 => ?_) (fun h4 => ?_)
    · repeat (first | with_reducible refine andThen_normal ?_ | refine CW.reg ?_ | refine RL.nil ?_ | refine RL.step tysOk rfl rfl rfl rfl ?_)
      refine RL.call rfl rfl rfl rfl rfl (node_spec x d _ (hs _ hmem)) ?_ ?_
      · rintro y s' ⟨rfl, ⟨h5, ⟨⟩⟩ | ⟨-, h⟩⟩
        · repeat (first | with_reducible refine inBlock_normal ?_ | refine RL.nil ?_)
          refine ⟨by omega, rfl, by simpa using h4, ?_⟩
          rw [h3, List.all_cons, show nodeOk (d, x) = true from h5, Bool.true_and]
        · cases h
      · rintro y s' ⟨rfl, ⟨-, h⟩ | ⟨h5, ⟨⟩⟩⟩
        · cases h
        · repeat (first | with_reducible refine inBlock_panic ?_)
          refine ⟨rfl, ?_, _, rfl⟩
          rw [h3, List.all_cons, show nodeOk (d, x) = false from h5]; rfl
    · repeat (first | with_reducible refine andThen_panic ?_ | with_reducible refine inBlock_panic ?_)
      refine ⟨rfl, ?_, _, rfl⟩
      have : ¬ p.size ≤ most := by simp at h4; omega
      rw [h3, decide_eq_false this, Bool.and_false]
  · rintro s' ⟨-, rfl, h2, h3⟩
    repeat (first | with_reducible refine CW.seq ?_ | with_reducible refine andThen_normal ?_ | with_reducible refine inBlock_normal ?_ | with_reducible refine CW.ret ?_ | refine CW.reg ?_ | refine RL.nil ?_ | refine RL.step tysOk rfl rfl rfl rfl ?_ | refine RL.loadP tysOk rfl rfl rfl rfl rfl rfl (Store.set_same _ _ _) rfl ?_)
    refine ⟨_, _, s, rfl, AVle.refl _, Store.sub_set _ _ _ hb5, rfl, .inl ⟨?_, by simp⟩⟩
    simp [h3]; simpa using h2
  · intro j s' h; exact h.elim
  · rintro v s' ⟨rfl, h1, x, rfl⟩
    repeat (first | with_reducible refine andThen_panic ?_ | with_reducible refine inBlock_panic ?_)
    exact ⟨_, s, AVle.refl _, Store.sub_set _ _ _ hb5, rfl, .inr ⟨h1, rfl⟩⟩
end Go.Proofs.Ytaafacnoddjhgaa

