/-
  NARROWER THAN 'FOR EVERY INPUT', by the rows' own cells (each row's printed sentence says how): FormCanons: loops · FormAlikes: loops · FormFrees: loops.
  DERIVED. THE GIVEN ROWS OF THIS SEAT. 3 by the template 'for every input the law returns true; each argument reads behind the call as it read before'; 0 by the template 'total and deterministic' (their statements: YtaafacnoddjhgaaGreatTotals.lean).
  GIVEN WITH THE SEED: the statements are not yours to turn. If you find one false, say at which input.
  Laid BY PROGRAM, IN A SANDBOX (cutbox-rows.mjs): the forced cells as the released guide's own fill.sh prints them over the translation 23c20ebf6d90c4d4… (all of the seat's roots in one cut). By AI agents, Wed Nov 11 2026. No macro, syntax, notation, axiom, sorry.
-/
import Derived.Test.YtaafacnoddjhgaaGreatChecked
import GoSem.Claim
import GoSem.ClaimJoined
import GoSem.ClaimMapViews
import Derived.JoinedTies
import Derived.KernelRfl
namespace Go.Proofs.YtaafacnoddjhgaaGreat
/- THE CELL 'sum', in the pinned program and in every row, IS THE sha256 OF THE DUMP (.gsa) THAT YtaafacnoddjhgaaGreatProg.lean LOADS. Nothing in Lean hashes anything: it is a label: what it is worth is what the hold of that sum in a sandbox is worth. -/
noncomputable def Tryz.pinned : Pinned := { name := "ytaafacnoddjhgaagreat", sum := "23c20ebf6d90c4d46f1b54599bad5dc9d18cba02292c6ec7d25c9444ba9b5fde", checked := Tryz.checked }
namespace Rows
def none {H : Type} : Left H := { results := [], args := [] }

/-- 'consortlaw01.FormCanons': WHATEVER THE INPUT: true; the input reads as it did. -/
def formCanonsSpec : ChangeSpec := { name := "formCanons", fn := fun _ => fun
  | [d] => { results := [.lit (.bool true)], args := [d] }
  | _ => none }
def formCanonsRow : OpenClaim := { program := "ytaafacnoddjhgaagreat", sum := "23c20ebf6d90c4d46f1b54599bad5dc9d18cba02292c6ec7d25c9444ba9b5fde", func := "consort/consortlaw01.FormCanons", spec := "formCanons", unfollowed := true, recurses := true, loops := true, apart := false }
def FormCanonsSaid : Prop := formCanonsRow.holds Tryz.pinned (OpenSpec.ofChange formCanonsSpec)

/-- ITS FALSE NEIGHBOUR: 'it returns false'. Refute it at one input. -/
def formCanonsWrong : ChangeSpec := { name := "formCanons", fn := fun _ => fun
  | [d] => { results := [.lit (.bool false)], args := [d] }
  | _ => none }
def FormCanonsWrongFalsely : Prop := formCanonsRow.holds Tryz.pinned (OpenSpec.ofChange formCanonsWrong)

/-- 'consortlaw01.FormAlikes': WHATEVER THE INPUT: true; the input reads as it did. -/
def formAlikesSpec : ChangeSpec := { name := "formAlikes", fn := fun _ => fun
  | [d1, d2] => { results := [.lit (.bool true)], args := [d1, d2] }
  | _ => none }
def formAlikesRow : OpenClaim := { program := "ytaafacnoddjhgaagreat", sum := "23c20ebf6d90c4d46f1b54599bad5dc9d18cba02292c6ec7d25c9444ba9b5fde", func := "consort/consortlaw01.FormAlikes", spec := "formAlikes", unfollowed := true, recurses := true, loops := true, apart := false }
def FormAlikesSaid : Prop := formAlikesRow.holds Tryz.pinned (OpenSpec.ofChange formAlikesSpec)

/-- ITS FALSE NEIGHBOUR: 'it returns false'. Refute it at one input. -/
def formAlikesWrong : ChangeSpec := { name := "formAlikes", fn := fun _ => fun
  | [d1, d2] => { results := [.lit (.bool false)], args := [d1, d2] }
  | _ => none }
def FormAlikesWrongFalsely : Prop := formAlikesRow.holds Tryz.pinned (OpenSpec.ofChange formAlikesWrong)

/-- 'consortlaw01.FormFrees': WHATEVER THE INPUT: true; the input reads as it did. -/
def formFreesSpec : ChangeSpec := { name := "formFrees", fn := fun _ => fun
  | [d] => { results := [.lit (.bool true)], args := [d] }
  | _ => none }
def formFreesRow : OpenClaim := { program := "ytaafacnoddjhgaagreat", sum := "23c20ebf6d90c4d46f1b54599bad5dc9d18cba02292c6ec7d25c9444ba9b5fde", func := "consort/consortlaw01.FormFrees", spec := "formFrees", unfollowed := true, recurses := true, loops := true, apart := false }
def FormFreesSaid : Prop := formFreesRow.holds Tryz.pinned (OpenSpec.ofChange formFreesSpec)

/-- ITS FALSE NEIGHBOUR: 'it returns false'. Refute it at one input. -/
def formFreesWrong : ChangeSpec := { name := "formFrees", fn := fun _ => fun
  | [d] => { results := [.lit (.bool false)], args := [d] }
  | _ => none }
def FormFreesWrongFalsely : Prop := formFreesRow.holds Tryz.pinned (OpenSpec.ofChange formFreesWrong)

/- THE SECOND FORM. 'bulk': how many values and letters a reading holds, each counted each time it is reached (what is shared counts as often as it is met; a slice's spare places count too). A statement '..UptoSaid' is the law's where the arguments, and the package variables that the reading takes, are together of bulk at most 1048576: NARROWER than '..Said'. Prove '..Said' where nothing that the law and all that it calls make is longer than what came in: it says more and counts as full. Else prove '..UptoSaid'. A law counts once. -/
mutual
def uptoBulk {H : Type} : DataW H → Nat
  | .lit (.string bytes) => bytes.length + 1
  | .lit _ => 1
  | .nil => 1
  | .ptr d => uptoBulk d + 1
  | .slice elems spare => uptoBulkAll elems + uptoBulkAll spare + 1
  | .agg parts => uptoBulkAll parts + 1
  | .iface _ d => uptoBulk d + 1
  | .map entries => uptoBulkEntries entries + 1
  | .held _ => 1
def uptoBulkAll {H : Type} : List (DataW H) → Nat
  | [] => 0
  | d :: r => uptoBulk d + uptoBulkAll r
def uptoBulkEntries {H : Type} : List (Lit × DataW H) → Nat
  | [] => 0
  | x :: r => uptoBulkEntry x + uptoBulkEntries r
def uptoBulkEntry {H : Type} : Lit × DataW H → Nat
  | (.string bytes, d) => bytes.length + uptoBulk d + 1
  | (_, d) => uptoBulk d + 1
 end
def uptoSmall : (H : Type) → List (DataW H) → Bool := fun _ ds => decide (uptoBulkAll ds ≤ 1048576)
def OpenSpec.upto (s : _root_.Go.ChangeSpec) : _root_.Go.OpenSpec := { _root_.Go.OpenSpec.ofChange s with cond := some uptoSmall }

/-- 'consortlaw01.FormCanons', WHERE WHAT IT READS IS OF BULK AT MOST 1048576: true; the input reads as it did. -/
def formCanonsUptoRow : OpenClaim := { program := "ytaafacnoddjhgaagreat", sum := "23c20ebf6d90c4d46f1b54599bad5dc9d18cba02292c6ec7d25c9444ba9b5fde", func := "consort/consortlaw01.FormCanons", spec := "formCanons", unfollowed := true, recurses := true, loops := true, apart := false, narrowed := true }
def FormCanonsUptoSaid : Prop := formCanonsUptoRow.holds Tryz.pinned (OpenSpec.upto formCanonsSpec)

/-- 'consortlaw01.FormAlikes', WHERE WHAT IT READS IS OF BULK AT MOST 1048576: true; the input reads as it did. -/
def formAlikesUptoRow : OpenClaim := { program := "ytaafacnoddjhgaagreat", sum := "23c20ebf6d90c4d46f1b54599bad5dc9d18cba02292c6ec7d25c9444ba9b5fde", func := "consort/consortlaw01.FormAlikes", spec := "formAlikes", unfollowed := true, recurses := true, loops := true, apart := false, narrowed := true }
def FormAlikesUptoSaid : Prop := formAlikesUptoRow.holds Tryz.pinned (OpenSpec.upto formAlikesSpec)

/-- 'consortlaw01.FormFrees', WHERE WHAT IT READS IS OF BULK AT MOST 1048576: true; the input reads as it did. -/
def formFreesUptoRow : OpenClaim := { program := "ytaafacnoddjhgaagreat", sum := "23c20ebf6d90c4d46f1b54599bad5dc9d18cba02292c6ec7d25c9444ba9b5fde", func := "consort/consortlaw01.FormFrees", spec := "formFrees", unfollowed := true, recurses := true, loops := true, apart := false, narrowed := true }
def FormFreesUptoSaid : Prop := formFreesUptoRow.holds Tryz.pinned (OpenSpec.upto formFreesSpec)

end Rows
end Go.Proofs.YtaafacnoddjhgaaGreat
