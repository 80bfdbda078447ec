/-
  NARROWER THAN 'FOR EVERY INPUT', by the rows' own cells (each row's printed sentence says how): FormChecks: loops · FormPuts: loops · FormLists: loops · FormSubsts: loops · FormShapes: loops.
  DERIVED. THE GIVEN ROWS OF THIS SEAT. 6 by the template 'for every input the law returns true; each argument reads behind the call as it read before'; 0 by the template 'total and deterministic' (their statements: YtaafacnoddjhgaaTotals.lean).
  GIVEN WITH THE SEED: the statements are not yours to turn. If you find one false, say at which input.
  Laid BY PROGRAM, IN A SANDBOX (cutbox-rows.mjs): the forced cells as the released guide's own fill.sh prints them over the translation 0760c7782c88dc73… (all of the seat's roots in one cut). By AI agents, Wed Nov 11 2026. No macro, syntax, notation, axiom, sorry.
-/
import Derived.Test.YtaafacnoddjhgaaChecked
import GoSem.Claim
import GoSem.ClaimJoined
import GoSem.ClaimMapViews
import Derived.JoinedTies
import Derived.KernelRfl
namespace Go.Proofs.Ytaafacnoddjhgaa
/- THE CELL 'sum', in the pinned program and in every row, IS THE sha256 OF THE DUMP (.gsa) THAT YtaafacnoddjhgaaProg.lean LOADS. Nothing in Lean hashes anything: it is a label: what it is worth is what the hold of that sum in a sandbox is worth. -/
noncomputable def Try.pinned : Pinned := { name := "ytaafacnoddjhgaa", sum := "0760c7782c88dc731c14cad6a5b5d86e52516e191eeb6776dc506168ddb5a06f", checked := Try.checked }
namespace Rows
def none {H : Type} : Left H := { results := [], args := [] }

/-- 'consortlaw01.FormNames': WHATEVER THE INPUT: true; the input reads as it did. -/
def formNamesSpec : ChangeSpec := { name := "formNames", fn := fun _ => fun
  | [d1, d2] => { results := [.lit (.bool true)], args := [d1, d2] }
  | _ => none }
def formNamesRow : OpenClaim := { program := "ytaafacnoddjhgaa", sum := "0760c7782c88dc731c14cad6a5b5d86e52516e191eeb6776dc506168ddb5a06f", func := "consort/consortlaw01.FormNames", spec := "formNames", unfollowed := true, recurses := true, apart := false }
def FormNamesSaid : Prop := formNamesRow.holds Try.pinned (OpenSpec.ofChange formNamesSpec)

/-- ITS FALSE NEIGHBOUR: 'it returns false'. Refute it at one input. -/
def formNamesWrong : ChangeSpec := { name := "formNames", fn := fun _ => fun
  | [d1, d2] => { results := [.lit (.bool false)], args := [d1, d2] }
  | _ => none }
def FormNamesWrongFalsely : Prop := formNamesRow.holds Try.pinned (OpenSpec.ofChange formNamesWrong)

/-- 'consortlaw01.FormChecks': WHATEVER THE INPUT: true; the input reads as it did. -/
def formChecksSpec : ChangeSpec := { name := "formChecks", fn := fun _ => fun
  | [d] => { results := [.lit (.bool true)], args := [d] }
  | _ => none }
def formChecksRow : OpenClaim := { program := "ytaafacnoddjhgaa", sum := "0760c7782c88dc731c14cad6a5b5d86e52516e191eeb6776dc506168ddb5a06f", func := "consort/consortlaw01.FormChecks", spec := "formChecks", unfollowed := true, recurses := true, loops := true, apart := false }
def FormChecksSaid : Prop := formChecksRow.holds Try.pinned (OpenSpec.ofChange formChecksSpec)

/-- ITS FALSE NEIGHBOUR: 'it returns false'. Refute it at one input. -/
def formChecksWrong : ChangeSpec := { name := "formChecks", fn := fun _ => fun
  | [d] => { results := [.lit (.bool false)], args := [d] }
  | _ => none }
def FormChecksWrongFalsely : Prop := formChecksRow.holds Try.pinned (OpenSpec.ofChange formChecksWrong)

/-- 'consortlaw01.FormPuts': WHATEVER THE INPUT: true; the input reads as it did. -/
def formPutsSpec : ChangeSpec := { name := "formPuts", fn := fun _ => fun
  | [d1, d2, d3] => { results := [.lit (.bool true)], args := [d1, d2, d3] }
  | _ => none }
def formPutsRow : OpenClaim := { program := "ytaafacnoddjhgaa", sum := "0760c7782c88dc731c14cad6a5b5d86e52516e191eeb6776dc506168ddb5a06f", func := "consort/consortlaw01.FormPuts", spec := "formPuts", unfollowed := true, recurses := true, loops := true, apart := false }
def FormPutsSaid : Prop := formPutsRow.holds Try.pinned (OpenSpec.ofChange formPutsSpec)

/-- ITS FALSE NEIGHBOUR: 'it returns false'. Refute it at one input. -/
def formPutsWrong : ChangeSpec := { name := "formPuts", fn := fun _ => fun
  | [d1, d2, d3] => { results := [.lit (.bool false)], args := [d1, d2, d3] }
  | _ => none }
def FormPutsWrongFalsely : Prop := formPutsRow.holds Try.pinned (OpenSpec.ofChange formPutsWrong)

/-- 'consortlaw01.FormLists': WHATEVER THE INPUT: true; the input reads as it did. -/
def formListsSpec : ChangeSpec := { name := "formLists", fn := fun _ => fun
  | [d1, d2] => { results := [.lit (.bool true)], args := [d1, d2] }
  | _ => none }
def formListsRow : OpenClaim := { program := "ytaafacnoddjhgaa", sum := "0760c7782c88dc731c14cad6a5b5d86e52516e191eeb6776dc506168ddb5a06f", func := "consort/consortlaw01.FormLists", spec := "formLists", unfollowed := true, recurses := true, loops := true, apart := false }
def FormListsSaid : Prop := formListsRow.holds Try.pinned (OpenSpec.ofChange formListsSpec)

/-- ITS FALSE NEIGHBOUR: 'it returns false'. Refute it at one input. -/
def formListsWrong : ChangeSpec := { name := "formLists", fn := fun _ => fun
  | [d1, d2] => { results := [.lit (.bool false)], args := [d1, d2] }
  | _ => none }
def FormListsWrongFalsely : Prop := formListsRow.holds Try.pinned (OpenSpec.ofChange formListsWrong)

/-- 'consortlaw01.FormSubsts': WHATEVER THE INPUT: true; the input reads as it did. -/
def formSubstsSpec : ChangeSpec := { name := "formSubsts", fn := fun _ => fun
  | [d1, d2, d3, d4, d5] => { results := [.lit (.bool true)], args := [d1, d2, d3, d4, d5] }
  | _ => none }
def formSubstsRow : OpenClaim := { program := "ytaafacnoddjhgaa", sum := "0760c7782c88dc731c14cad6a5b5d86e52516e191eeb6776dc506168ddb5a06f", func := "consort/consortlaw01.FormSubsts", spec := "formSubsts", unfollowed := true, recurses := true, loops := true, apart := false }
def FormSubstsSaid : Prop := formSubstsRow.holds Try.pinned (OpenSpec.ofChange formSubstsSpec)

/-- ITS FALSE NEIGHBOUR: 'it returns false'. Refute it at one input. -/
def formSubstsWrong : ChangeSpec := { name := "formSubsts", fn := fun _ => fun
  | [d1, d2, d3, d4, d5] => { results := [.lit (.bool false)], args := [d1, d2, d3, d4, d5] }
  | _ => none }
def FormSubstsWrongFalsely : Prop := formSubstsRow.holds Try.pinned (OpenSpec.ofChange formSubstsWrong)

/-- 'consortlaw01.FormShapes': WHATEVER THE INPUT: true; the input reads as it did. -/
def formShapesSpec : ChangeSpec := { name := "formShapes", fn := fun _ => fun
  | [d1, d2] => { results := [.lit (.bool true)], args := [d1, d2] }
  | _ => none }
def formShapesRow : OpenClaim := { program := "ytaafacnoddjhgaa", sum := "0760c7782c88dc731c14cad6a5b5d86e52516e191eeb6776dc506168ddb5a06f", func := "consort/consortlaw01.FormShapes", spec := "formShapes", unfollowed := true, recurses := true, loops := true, apart := false }
def FormShapesSaid : Prop := formShapesRow.holds Try.pinned (OpenSpec.ofChange formShapesSpec)

/-- ITS FALSE NEIGHBOUR: 'it returns false'. Refute it at one input. -/
def formShapesWrong : ChangeSpec := { name := "formShapes", fn := fun _ => fun
  | [d1, d2] => { results := [.lit (.bool false)], args := [d1, d2] }
  | _ => none }
def FormShapesWrongFalsely : Prop := formShapesRow.holds Try.pinned (OpenSpec.ofChange formShapesWrong)

/- THE SECOND FORM. 'bulk': how many values and letters a reading holds, each counted each time it is reached (what is shared counts as often as it is met; a slice's spare places count too). A statement '..UptoSaid' is the law's where the arguments, and the package variables that the reading takes, are together of bulk at most 1048576: NARROWER than '..Said'. Prove '..Said' where nothing that the law and all that it calls make is longer than what came in: it says more and counts as full. Else prove '..UptoSaid'. A law counts once. -/
mutual
def uptoBulk {H : Type} : DataW H → Nat
  | .lit (.string bytes) => bytes.length + 1
  | .lit _ => 1
  | .nil => 1
  | .ptr d => uptoBulk d + 1
  | .slice elems spare => uptoBulkAll elems + uptoBulkAll spare + 1
  | .agg parts => uptoBulkAll parts + 1
  | .iface _ d => uptoBulk d + 1
  | .map entries => uptoBulkEntries entries + 1
  | .held _ => 1
def uptoBulkAll {H : Type} : List (DataW H) → Nat
  | [] => 0
  | d :: r => uptoBulk d + uptoBulkAll r
def uptoBulkEntries {H : Type} : List (Lit × DataW H) → Nat
  | [] => 0
  | x :: r => uptoBulkEntry x + uptoBulkEntries r
def uptoBulkEntry {H : Type} : Lit × DataW H → Nat
  | (.string bytes, d) => bytes.length + uptoBulk d + 1
  | (_, d) => uptoBulk d + 1
 end
def uptoSmall : (H : Type) → List (DataW H) → Bool := fun _ ds => decide (uptoBulkAll ds ≤ 1048576)
def OpenSpec.upto (s : _root_.Go.ChangeSpec) : _root_.Go.OpenSpec := { _root_.Go.OpenSpec.ofChange s with cond := some uptoSmall }

/-- 'consortlaw01.FormNames', WHERE WHAT IT READS IS OF BULK AT MOST 1048576: true; the input reads as it did. -/
def formNamesUptoRow : OpenClaim := { program := "ytaafacnoddjhgaa", sum := "0760c7782c88dc731c14cad6a5b5d86e52516e191eeb6776dc506168ddb5a06f", func := "consort/consortlaw01.FormNames", spec := "formNames", unfollowed := true, recurses := true, apart := false, narrowed := true }
def FormNamesUptoSaid : Prop := formNamesUptoRow.holds Try.pinned (OpenSpec.upto formNamesSpec)

/-- 'consortlaw01.FormChecks', WHERE WHAT IT READS IS OF BULK AT MOST 1048576: true; the input reads as it did. -/
def formChecksUptoRow : OpenClaim := { program := "ytaafacnoddjhgaa", sum := "0760c7782c88dc731c14cad6a5b5d86e52516e191eeb6776dc506168ddb5a06f", func := "consort/consortlaw01.FormChecks", spec := "formChecks", unfollowed := true, recurses := true, loops := true, apart := false, narrowed := true }
def FormChecksUptoSaid : Prop := formChecksUptoRow.holds Try.pinned (OpenSpec.upto formChecksSpec)

/-- 'consortlaw01.FormPuts', WHERE WHAT IT READS IS OF BULK AT MOST 1048576: true; the input reads as it did. -/
def formPutsUptoRow : OpenClaim := { program := "ytaafacnoddjhgaa", sum := "0760c7782c88dc731c14cad6a5b5d86e52516e191eeb6776dc506168ddb5a06f", func := "consort/consortlaw01.FormPuts", spec := "formPuts", unfollowed := true, recurses := true, loops := true, apart := false, narrowed := true }
def FormPutsUptoSaid : Prop := formPutsUptoRow.holds Try.pinned (OpenSpec.upto formPutsSpec)

/-- 'consortlaw01.FormLists', WHERE WHAT IT READS IS OF BULK AT MOST 1048576: true; the input reads as it did. -/
def formListsUptoRow : OpenClaim := { program := "ytaafacnoddjhgaa", sum := "0760c7782c88dc731c14cad6a5b5d86e52516e191eeb6776dc506168ddb5a06f", func := "consort/consortlaw01.FormLists", spec := "formLists", unfollowed := true, recurses := true, loops := true, apart := false, narrowed := true }
def FormListsUptoSaid : Prop := formListsUptoRow.holds Try.pinned (OpenSpec.upto formListsSpec)

/-- 'consortlaw01.FormSubsts', WHERE WHAT IT READS IS OF BULK AT MOST 1048576: true; the input reads as it did. -/
def formSubstsUptoRow : OpenClaim := { program := "ytaafacnoddjhgaa", sum := "0760c7782c88dc731c14cad6a5b5d86e52516e191eeb6776dc506168ddb5a06f", func := "consort/consortlaw01.FormSubsts", spec := "formSubsts", unfollowed := true, recurses := true, loops := true, apart := false, narrowed := true }
def FormSubstsUptoSaid : Prop := formSubstsUptoRow.holds Try.pinned (OpenSpec.upto formSubstsSpec)

/-- 'consortlaw01.FormShapes', WHERE WHAT IT READS IS OF BULK AT MOST 1048576: true; the input reads as it did. -/
def formShapesUptoRow : OpenClaim := { program := "ytaafacnoddjhgaa", sum := "0760c7782c88dc731c14cad6a5b5d86e52516e191eeb6776dc506168ddb5a06f", func := "consort/consortlaw01.FormShapes", spec := "formShapes", unfollowed := true, recurses := true, loops := true, apart := false, narrowed := true }
def FormShapesUptoSaid : Prop := formShapesUptoRow.holds Try.pinned (OpenSpec.upto formShapesSpec)

end Rows
end Go.Proofs.Ytaafacnoddjhgaa
