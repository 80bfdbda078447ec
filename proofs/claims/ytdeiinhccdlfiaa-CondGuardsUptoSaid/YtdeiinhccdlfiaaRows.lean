/-
  NARROWER THAN 'FOR EVERY INPUT', by the rows' own cells (each row's printed sentence says how): CondErrors: loops · CondGuards: loops · CondFuel: loops · CondChecks: loops · CondPlained: loops · CondCaught: loops · CondSeqs: loops · CondChoice: loops · CondEvents: loops.
  DERIVED. THE GIVEN ROWS OF THIS SEAT. 10 by the template 'for every input the law returns true; each argument reads behind the call as it read before'; 0 by the template 'total and deterministic' (their statements: YtdeiinhccdlfiaaTotals.lean).
  GIVEN WITH THE SEED: the statements are not yours to turn. If you find one false, say at which input.
  Laid BY PROGRAM, IN A SANDBOX (cutbox-rows.mjs): the forced cells as the released guide's own fill.sh prints them over the translation 2201917500dd5429… (all of the seat's roots in one cut). By AI agents, Wed Nov 11 2026. No macro, syntax, notation, axiom, sorry.
-/
import Derived.Test.YtdeiinhccdlfiaaChecked
import GoSem.Claim
import GoSem.ClaimJoined
import GoSem.ClaimMapViews
import Derived.JoinedTies
import Derived.KernelRfl
namespace Go.Proofs.Ytdeiinhccdlfiaa
/- THE CELL 'sum', in the pinned program and in every row, IS THE sha256 OF THE DUMP (.gsa) THAT YtdeiinhccdlfiaaProg.lean LOADS. Nothing in Lean hashes anything: it is a label: what it is worth is what the hold of that sum in a sandbox is worth. -/
noncomputable def Try.pinned : Pinned := { name := "ytdeiinhccdlfiaa", sum := "2201917500dd542951f5ebac491c324dda2582e4d372c2a190aaeafcd20da00c", checked := Try.checked }
namespace Rows
def none {H : Type} : Left H := { results := [], args := [] }

/-- 'consortlaw19.CondErrors': WHATEVER THE INPUT: true; the input reads as it did. -/
def condErrorsSpec : ChangeSpec := { name := "condErrors", fn := fun _ => fun
  | [d] => { results := [.lit (.bool true)], args := [d] }
  | _ => none }
def condErrorsRow : OpenClaim := { program := "ytdeiinhccdlfiaa", sum := "2201917500dd542951f5ebac491c324dda2582e4d372c2a190aaeafcd20da00c", func := "consort/consortlaw19.CondErrors", spec := "condErrors", unfollowed := true, recurses := true, loops := true, apart := false }
def CondErrorsSaid : Prop := condErrorsRow.holds Try.pinned (OpenSpec.ofChange condErrorsSpec)

/-- ITS FALSE NEIGHBOUR: 'it returns false'. Refute it at one input. -/
def condErrorsWrong : ChangeSpec := { name := "condErrors", fn := fun _ => fun
  | [d] => { results := [.lit (.bool false)], args := [d] }
  | _ => none }
def CondErrorsWrongFalsely : Prop := condErrorsRow.holds Try.pinned (OpenSpec.ofChange condErrorsWrong)

/-- 'consortlaw19.CondGuards': WHATEVER THE INPUT: true; the input reads as it did. -/
def condGuardsSpec : ChangeSpec := { name := "condGuards", fn := fun _ => fun
  | [d] => { results := [.lit (.bool true)], args := [d] }
  | _ => none }
def condGuardsRow : OpenClaim := { program := "ytdeiinhccdlfiaa", sum := "2201917500dd542951f5ebac491c324dda2582e4d372c2a190aaeafcd20da00c", func := "consort/consortlaw19.CondGuards", spec := "condGuards", unfollowed := true, recurses := true, loops := true, apart := false }
def CondGuardsSaid : Prop := condGuardsRow.holds Try.pinned (OpenSpec.ofChange condGuardsSpec)

/-- ITS FALSE NEIGHBOUR: 'it returns false'. Refute it at one input. -/
def condGuardsWrong : ChangeSpec := { name := "condGuards", fn := fun _ => fun
  | [d] => { results := [.lit (.bool false)], args := [d] }
  | _ => none }
def CondGuardsWrongFalsely : Prop := condGuardsRow.holds Try.pinned (OpenSpec.ofChange condGuardsWrong)

/-- 'consortlaw19.CondFuel': WHATEVER THE INPUT: true; the input reads as it did. -/
def condFuelSpec : ChangeSpec := { name := "condFuel", fn := fun _ => fun
  | [d1, d2] => { results := [.lit (.bool true)], args := [d1, d2] }
  | _ => none }
def condFuelRow : OpenClaim := { program := "ytdeiinhccdlfiaa", sum := "2201917500dd542951f5ebac491c324dda2582e4d372c2a190aaeafcd20da00c", func := "consort/consortlaw19.CondFuel", spec := "condFuel", unfollowed := true, recurses := true, loops := true, apart := false }
def CondFuelSaid : Prop := condFuelRow.holds Try.pinned (OpenSpec.ofChange condFuelSpec)

/-- ITS FALSE NEIGHBOUR: 'it returns false'. Refute it at one input. -/
def condFuelWrong : ChangeSpec := { name := "condFuel", fn := fun _ => fun
  | [d1, d2] => { results := [.lit (.bool false)], args := [d1, d2] }
  | _ => none }
def CondFuelWrongFalsely : Prop := condFuelRow.holds Try.pinned (OpenSpec.ofChange condFuelWrong)

/-- 'consortlaw19.CondChecks': WHATEVER THE INPUT: true; the input reads as it did. -/
def condChecksSpec : ChangeSpec := { name := "condChecks", fn := fun _ => fun
  | [d] => { results := [.lit (.bool true)], args := [d] }
  | _ => none }
def condChecksRow : OpenClaim := { program := "ytdeiinhccdlfiaa", sum := "2201917500dd542951f5ebac491c324dda2582e4d372c2a190aaeafcd20da00c", func := "consort/consortlaw19.CondChecks", spec := "condChecks", unfollowed := true, recurses := true, loops := true, apart := false }
def CondChecksSaid : Prop := condChecksRow.holds Try.pinned (OpenSpec.ofChange condChecksSpec)

/-- ITS FALSE NEIGHBOUR: 'it returns false'. Refute it at one input. -/
def condChecksWrong : ChangeSpec := { name := "condChecks", fn := fun _ => fun
  | [d] => { results := [.lit (.bool false)], args := [d] }
  | _ => none }
def CondChecksWrongFalsely : Prop := condChecksRow.holds Try.pinned (OpenSpec.ofChange condChecksWrong)

/-- 'consortlaw19.CondPlained': WHATEVER THE INPUT: true; the input reads as it did. -/
def condPlainedSpec : ChangeSpec := { name := "condPlained", fn := fun _ => fun
  | [d] => { results := [.lit (.bool true)], args := [d] }
  | _ => none }
def condPlainedRow : OpenClaim := { program := "ytdeiinhccdlfiaa", sum := "2201917500dd542951f5ebac491c324dda2582e4d372c2a190aaeafcd20da00c", func := "consort/consortlaw19.CondPlained", spec := "condPlained", unfollowed := true, recurses := true, loops := true, apart := false }
def CondPlainedSaid : Prop := condPlainedRow.holds Try.pinned (OpenSpec.ofChange condPlainedSpec)

/-- ITS FALSE NEIGHBOUR: 'it returns false'. Refute it at one input. -/
def condPlainedWrong : ChangeSpec := { name := "condPlained", fn := fun _ => fun
  | [d] => { results := [.lit (.bool false)], args := [d] }
  | _ => none }
def CondPlainedWrongFalsely : Prop := condPlainedRow.holds Try.pinned (OpenSpec.ofChange condPlainedWrong)

/-- 'consortlaw19.CondCaught': WHATEVER THE INPUT: true; the input reads as it did. -/
def condCaughtSpec : ChangeSpec := { name := "condCaught", fn := fun _ => fun
  | [d] => { results := [.lit (.bool true)], args := [d] }
  | _ => none }
def condCaughtRow : OpenClaim := { program := "ytdeiinhccdlfiaa", sum := "2201917500dd542951f5ebac491c324dda2582e4d372c2a190aaeafcd20da00c", func := "consort/consortlaw19.CondCaught", spec := "condCaught", unfollowed := true, recurses := true, loops := true, apart := false }
def CondCaughtSaid : Prop := condCaughtRow.holds Try.pinned (OpenSpec.ofChange condCaughtSpec)

/-- ITS FALSE NEIGHBOUR: 'it returns false'. Refute it at one input. -/
def condCaughtWrong : ChangeSpec := { name := "condCaught", fn := fun _ => fun
  | [d] => { results := [.lit (.bool false)], args := [d] }
  | _ => none }
def CondCaughtWrongFalsely : Prop := condCaughtRow.holds Try.pinned (OpenSpec.ofChange condCaughtWrong)

/-- 'consortlaw19.CondSeqs': WHATEVER THE INPUT: true; the input reads as it did. -/
def condSeqsSpec : ChangeSpec := { name := "condSeqs", fn := fun _ => fun
  | [d1, d2, d3] => { results := [.lit (.bool true)], args := [d1, d2, d3] }
  | _ => none }
def condSeqsRow : OpenClaim := { program := "ytdeiinhccdlfiaa", sum := "2201917500dd542951f5ebac491c324dda2582e4d372c2a190aaeafcd20da00c", func := "consort/consortlaw19.CondSeqs", spec := "condSeqs", unfollowed := true, recurses := true, loops := true, apart := false }
def CondSeqsSaid : Prop := condSeqsRow.holds Try.pinned (OpenSpec.ofChange condSeqsSpec)

/-- ITS FALSE NEIGHBOUR: 'it returns false'. Refute it at one input. -/
def condSeqsWrong : ChangeSpec := { name := "condSeqs", fn := fun _ => fun
  | [d1, d2, d3] => { results := [.lit (.bool false)], args := [d1, d2, d3] }
  | _ => none }
def CondSeqsWrongFalsely : Prop := condSeqsRow.holds Try.pinned (OpenSpec.ofChange condSeqsWrong)

/-- 'consortlaw19.CondChoice': WHATEVER THE INPUT: true; the input reads as it did. -/
def condChoiceSpec : ChangeSpec := { name := "condChoice", fn := fun _ => fun
  | [d] => { results := [.lit (.bool true)], args := [d] }
  | _ => none }
def condChoiceRow : OpenClaim := { program := "ytdeiinhccdlfiaa", sum := "2201917500dd542951f5ebac491c324dda2582e4d372c2a190aaeafcd20da00c", func := "consort/consortlaw19.CondChoice", spec := "condChoice", unfollowed := true, recurses := true, loops := true, apart := false }
def CondChoiceSaid : Prop := condChoiceRow.holds Try.pinned (OpenSpec.ofChange condChoiceSpec)

/-- ITS FALSE NEIGHBOUR: 'it returns false'. Refute it at one input. -/
def condChoiceWrong : ChangeSpec := { name := "condChoice", fn := fun _ => fun
  | [d] => { results := [.lit (.bool false)], args := [d] }
  | _ => none }
def CondChoiceWrongFalsely : Prop := condChoiceRow.holds Try.pinned (OpenSpec.ofChange condChoiceWrong)

/-- 'consortlaw19.CondKnown': WHATEVER THE INPUT: true; the input reads as it did. -/
def condKnownSpec : ChangeSpec := { name := "condKnown", fn := fun _ => fun
  | [] => { results := [.lit (.bool true)], args := [] }
  | _ => none }
def condKnownRow : OpenClaim := { program := "ytdeiinhccdlfiaa", sum := "2201917500dd542951f5ebac491c324dda2582e4d372c2a190aaeafcd20da00c", func := "consort/consortlaw19.CondKnown", spec := "condKnown", unfollowed := true, recurses := true, apart := false }
def CondKnownSaid : Prop := condKnownRow.holds Try.pinned (OpenSpec.ofChange condKnownSpec)

/-- ITS FALSE NEIGHBOUR: 'it returns false'. Refute it at one input. -/
def condKnownWrong : ChangeSpec := { name := "condKnown", fn := fun _ => fun
  | [] => { results := [.lit (.bool false)], args := [] }
  | _ => none }
def CondKnownWrongFalsely : Prop := condKnownRow.holds Try.pinned (OpenSpec.ofChange condKnownWrong)

/-- 'consortlaw19.CondEvents': WHATEVER THE INPUT: true; the input reads as it did. -/
def condEventsSpec : ChangeSpec := { name := "condEvents", fn := fun _ => fun
  | [d] => { results := [.lit (.bool true)], args := [d] }
  | _ => none }
def condEventsRow : OpenClaim := { program := "ytdeiinhccdlfiaa", sum := "2201917500dd542951f5ebac491c324dda2582e4d372c2a190aaeafcd20da00c", func := "consort/consortlaw19.CondEvents", spec := "condEvents", unfollowed := true, recurses := true, loops := true, apart := false }
def CondEventsSaid : Prop := condEventsRow.holds Try.pinned (OpenSpec.ofChange condEventsSpec)

/-- ITS FALSE NEIGHBOUR: 'it returns false'. Refute it at one input. -/
def condEventsWrong : ChangeSpec := { name := "condEvents", fn := fun _ => fun
  | [d] => { results := [.lit (.bool false)], args := [d] }
  | _ => none }
def CondEventsWrongFalsely : Prop := condEventsRow.holds Try.pinned (OpenSpec.ofChange condEventsWrong)

/- THE SECOND FORM. 'bulk': how many values and letters a reading holds, each counted each time it is reached (what is shared counts as often as it is met; a slice's spare places count too). A statement '..UptoSaid' is the law's where the arguments, and the package variables that the reading takes, are together of bulk at most 1048576: NARROWER than '..Said'. Prove '..Said' where nothing that the law and all that it calls make is longer than what came in: it says more and counts as full. Else prove '..UptoSaid'. A law counts once. -/
mutual
def uptoBulk {H : Type} : DataW H → Nat
  | .lit (.string bytes) => bytes.length + 1
  | .lit _ => 1
  | .nil => 1
  | .ptr d => uptoBulk d + 1
  | .slice elems spare => uptoBulkAll elems + uptoBulkAll spare + 1
  | .agg parts => uptoBulkAll parts + 1
  | .iface _ d => uptoBulk d + 1
  | .map entries => uptoBulkEntries entries + 1
  | .held _ => 1
def uptoBulkAll {H : Type} : List (DataW H) → Nat
  | [] => 0
  | d :: r => uptoBulk d + uptoBulkAll r
def uptoBulkEntries {H : Type} : List (Lit × DataW H) → Nat
  | [] => 0
  | x :: r => uptoBulkEntry x + uptoBulkEntries r
def uptoBulkEntry {H : Type} : Lit × DataW H → Nat
  | (.string bytes, d) => bytes.length + uptoBulk d + 1
  | (_, d) => uptoBulk d + 1
 end
def uptoSmall : (H : Type) → List (DataW H) → Bool := fun _ ds => decide (uptoBulkAll ds ≤ 1048576)
def OpenSpec.upto (s : _root_.Go.ChangeSpec) : _root_.Go.OpenSpec := { _root_.Go.OpenSpec.ofChange s with cond := some uptoSmall }

/-- 'consortlaw19.CondErrors', WHERE WHAT IT READS IS OF BULK AT MOST 1048576: true; the input reads as it did. -/
def condErrorsUptoRow : OpenClaim := { program := "ytdeiinhccdlfiaa", sum := "2201917500dd542951f5ebac491c324dda2582e4d372c2a190aaeafcd20da00c", func := "consort/consortlaw19.CondErrors", spec := "condErrors", unfollowed := true, recurses := true, loops := true, apart := false, narrowed := true }
def CondErrorsUptoSaid : Prop := condErrorsUptoRow.holds Try.pinned (OpenSpec.upto condErrorsSpec)

/-- 'consortlaw19.CondGuards', WHERE WHAT IT READS IS OF BULK AT MOST 1048576: true; the input reads as it did. -/
def condGuardsUptoRow : OpenClaim := { program := "ytdeiinhccdlfiaa", sum := "2201917500dd542951f5ebac491c324dda2582e4d372c2a190aaeafcd20da00c", func := "consort/consortlaw19.CondGuards", spec := "condGuards", unfollowed := true, recurses := true, loops := true, apart := false, narrowed := true }
def CondGuardsUptoSaid : Prop := condGuardsUptoRow.holds Try.pinned (OpenSpec.upto condGuardsSpec)

/-- 'consortlaw19.CondFuel', WHERE WHAT IT READS IS OF BULK AT MOST 1048576: true; the input reads as it did. -/
def condFuelUptoRow : OpenClaim := { program := "ytdeiinhccdlfiaa", sum := "2201917500dd542951f5ebac491c324dda2582e4d372c2a190aaeafcd20da00c", func := "consort/consortlaw19.CondFuel", spec := "condFuel", unfollowed := true, recurses := true, loops := true, apart := false, narrowed := true }
def CondFuelUptoSaid : Prop := condFuelUptoRow.holds Try.pinned (OpenSpec.upto condFuelSpec)

/-- 'consortlaw19.CondChecks', WHERE WHAT IT READS IS OF BULK AT MOST 1048576: true; the input reads as it did. -/
def condChecksUptoRow : OpenClaim := { program := "ytdeiinhccdlfiaa", sum := "2201917500dd542951f5ebac491c324dda2582e4d372c2a190aaeafcd20da00c", func := "consort/consortlaw19.CondChecks", spec := "condChecks", unfollowed := true, recurses := true, loops := true, apart := false, narrowed := true }
def CondChecksUptoSaid : Prop := condChecksUptoRow.holds Try.pinned (OpenSpec.upto condChecksSpec)

/-- 'consortlaw19.CondPlained', WHERE WHAT IT READS IS OF BULK AT MOST 1048576: true; the input reads as it did. -/
def condPlainedUptoRow : OpenClaim := { program := "ytdeiinhccdlfiaa", sum := "2201917500dd542951f5ebac491c324dda2582e4d372c2a190aaeafcd20da00c", func := "consort/consortlaw19.CondPlained", spec := "condPlained", unfollowed := true, recurses := true, loops := true, apart := false, narrowed := true }
def CondPlainedUptoSaid : Prop := condPlainedUptoRow.holds Try.pinned (OpenSpec.upto condPlainedSpec)

/-- 'consortlaw19.CondCaught', WHERE WHAT IT READS IS OF BULK AT MOST 1048576: true; the input reads as it did. -/
def condCaughtUptoRow : OpenClaim := { program := "ytdeiinhccdlfiaa", sum := "2201917500dd542951f5ebac491c324dda2582e4d372c2a190aaeafcd20da00c", func := "consort/consortlaw19.CondCaught", spec := "condCaught", unfollowed := true, recurses := true, loops := true, apart := false, narrowed := true }
def CondCaughtUptoSaid : Prop := condCaughtUptoRow.holds Try.pinned (OpenSpec.upto condCaughtSpec)

/-- 'consortlaw19.CondSeqs', WHERE WHAT IT READS IS OF BULK AT MOST 1048576: true; the input reads as it did. -/
def condSeqsUptoRow : OpenClaim := { program := "ytdeiinhccdlfiaa", sum := "2201917500dd542951f5ebac491c324dda2582e4d372c2a190aaeafcd20da00c", func := "consort/consortlaw19.CondSeqs", spec := "condSeqs", unfollowed := true, recurses := true, loops := true, apart := false, narrowed := true }
def CondSeqsUptoSaid : Prop := condSeqsUptoRow.holds Try.pinned (OpenSpec.upto condSeqsSpec)

/-- 'consortlaw19.CondChoice', WHERE WHAT IT READS IS OF BULK AT MOST 1048576: true; the input reads as it did. -/
def condChoiceUptoRow : OpenClaim := { program := "ytdeiinhccdlfiaa", sum := "2201917500dd542951f5ebac491c324dda2582e4d372c2a190aaeafcd20da00c", func := "consort/consortlaw19.CondChoice", spec := "condChoice", unfollowed := true, recurses := true, loops := true, apart := false, narrowed := true }
def CondChoiceUptoSaid : Prop := condChoiceUptoRow.holds Try.pinned (OpenSpec.upto condChoiceSpec)

/-- 'consortlaw19.CondKnown', WHERE WHAT IT READS IS OF BULK AT MOST 1048576: true; the input reads as it did. -/
def condKnownUptoRow : OpenClaim := { program := "ytdeiinhccdlfiaa", sum := "2201917500dd542951f5ebac491c324dda2582e4d372c2a190aaeafcd20da00c", func := "consort/consortlaw19.CondKnown", spec := "condKnown", unfollowed := true, recurses := true, apart := false, narrowed := true }
def CondKnownUptoSaid : Prop := condKnownUptoRow.holds Try.pinned (OpenSpec.upto condKnownSpec)

/-- 'consortlaw19.CondEvents', WHERE WHAT IT READS IS OF BULK AT MOST 1048576: true; the input reads as it did. -/
def condEventsUptoRow : OpenClaim := { program := "ytdeiinhccdlfiaa", sum := "2201917500dd542951f5ebac491c324dda2582e4d372c2a190aaeafcd20da00c", func := "consort/consortlaw19.CondEvents", spec := "condEvents", unfollowed := true, recurses := true, loops := true, apart := false, narrowed := true }
def CondEventsUptoSaid : Prop := condEventsUptoRow.holds Try.pinned (OpenSpec.upto condEventsSpec)

end Rows
end Go.Proofs.Ytdeiinhccdlfiaa
