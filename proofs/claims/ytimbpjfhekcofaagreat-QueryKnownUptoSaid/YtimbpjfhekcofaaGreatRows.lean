/-
  NARROWER THAN 'FOR EVERY INPUT', by the rows' own cells (each row's printed sentence says how): QueryKnowns: loops · QueryViews: loops · QueryAnswers: loops · QueryPrunes: loops · QueryAnswered: loops · QuerySteady: loops · QueryMore: loops · QueryFinds: loops · QuerySound: loops · QueryDead: loops.
  DERIVED. THE GIVEN ROWS OF THIS SEAT. 11 by the template 'for every input the law returns true; each argument reads behind the call as it read before'; 0 by the template 'total and deterministic' (their statements: YtimbpjfhekcofaaGreatTotals.lean).
  GIVEN WITH THE SEED: the statements are not yours to turn. If you find one false, say at which input.
  Laid BY PROGRAM, IN A SANDBOX (cutbox-rows.mjs): the forced cells as the released guide's own fill.sh prints them over the translation 6caf35434536f2a6… (all of the seat's roots in one cut). By AI agents, Wed Nov 11 2026. No macro, syntax, notation, axiom, sorry.
-/
import Derived.Test.YtimbpjfhekcofaaGreatChecked
import GoSem.Claim
import GoSem.ClaimJoined
import GoSem.ClaimMapViews
import Derived.JoinedTies
import Derived.KernelRfl
namespace Go.Proofs.YtimbpjfhekcofaaGreat
/- THE CELL 'sum', in the pinned program and in every row, IS THE sha256 OF THE DUMP (.gsa) THAT YtimbpjfhekcofaaGreatProg.lean LOADS. Nothing in Lean hashes anything: it is a label: what it is worth is what the hold of that sum in a sandbox is worth. -/
noncomputable def Tryz.pinned : Pinned := { name := "ytimbpjfhekcofaagreat", sum := "6caf35434536f2a686c16ee94725e84fa84cb72bf7baff705380dc56feab4db3", checked := Tryz.checked }
namespace Rows
def none {H : Type} : Left H := { results := [], args := [] }

/-- 'consortlaw24.QueryKnowns': WHATEVER THE INPUT: true; the input reads as it did. -/
def queryKnownsSpec : ChangeSpec := { name := "queryKnowns", fn := fun _ => fun
  | [d1, d2, d3, d4] => { results := [.lit (.bool true)], args := [d1, d2, d3, d4] }
  | _ => none }
def queryKnownsRow : OpenClaim := { program := "ytimbpjfhekcofaagreat", sum := "6caf35434536f2a686c16ee94725e84fa84cb72bf7baff705380dc56feab4db3", func := "consort/consortlaw24.QueryKnowns", spec := "queryKnowns", unfollowed := true, recurses := true, loops := true, plainKeys := false, apart := false }
def QueryKnownsSaid : Prop := queryKnownsRow.holds Tryz.pinned (OpenSpec.ofChange queryKnownsSpec)

/-- ITS FALSE NEIGHBOUR: 'it returns false'. Refute it at one input. -/
def queryKnownsWrong : ChangeSpec := { name := "queryKnowns", fn := fun _ => fun
  | [d1, d2, d3, d4] => { results := [.lit (.bool false)], args := [d1, d2, d3, d4] }
  | _ => none }
def QueryKnownsWrongFalsely : Prop := queryKnownsRow.holds Tryz.pinned (OpenSpec.ofChange queryKnownsWrong)

/-- 'consortlaw24.QueryViews': WHATEVER THE INPUT: true; the input reads as it did. -/
def queryViewsSpec : ChangeSpec := { name := "queryViews", fn := fun _ => fun
  | [d1, d2] => { results := [.lit (.bool true)], args := [d1, d2] }
  | _ => none }
def queryViewsRow : OpenClaim := { program := "ytimbpjfhekcofaagreat", sum := "6caf35434536f2a686c16ee94725e84fa84cb72bf7baff705380dc56feab4db3", func := "consort/consortlaw24.QueryViews", spec := "queryViews", unfollowed := true, recurses := true, loops := true, plainKeys := false, apart := false }
def QueryViewsSaid : Prop := queryViewsRow.holds Tryz.pinned (OpenSpec.ofChange queryViewsSpec)

/-- ITS FALSE NEIGHBOUR: 'it returns false'. Refute it at one input. -/
def queryViewsWrong : ChangeSpec := { name := "queryViews", fn := fun _ => fun
  | [d1, d2] => { results := [.lit (.bool false)], args := [d1, d2] }
  | _ => none }
def QueryViewsWrongFalsely : Prop := queryViewsRow.holds Tryz.pinned (OpenSpec.ofChange queryViewsWrong)

/-- 'consortlaw24.QueryAnswers': WHATEVER THE INPUT: true; the input reads as it did. -/
def queryAnswersSpec : ChangeSpec := { name := "queryAnswers", fn := fun _ => fun
  | [d] => { results := [.lit (.bool true)], args := [d] }
  | _ => none }
def queryAnswersRow : OpenClaim := { program := "ytimbpjfhekcofaagreat", sum := "6caf35434536f2a686c16ee94725e84fa84cb72bf7baff705380dc56feab4db3", func := "consort/consortlaw24.QueryAnswers", spec := "queryAnswers", unfollowed := true, recurses := true, loops := true, plainKeys := false, apart := false }
def QueryAnswersSaid : Prop := queryAnswersRow.holds Tryz.pinned (OpenSpec.ofChange queryAnswersSpec)

/-- ITS FALSE NEIGHBOUR: 'it returns false'. Refute it at one input. -/
def queryAnswersWrong : ChangeSpec := { name := "queryAnswers", fn := fun _ => fun
  | [d] => { results := [.lit (.bool false)], args := [d] }
  | _ => none }
def QueryAnswersWrongFalsely : Prop := queryAnswersRow.holds Tryz.pinned (OpenSpec.ofChange queryAnswersWrong)

/-- 'consortlaw24.QueryPrunes': WHATEVER THE INPUT: true; the input reads as it did. -/
def queryPrunesSpec : ChangeSpec := { name := "queryPrunes", fn := fun _ => fun
  | [d1, d2] => { results := [.lit (.bool true)], args := [d1, d2] }
  | _ => none }
def queryPrunesRow : OpenClaim := { program := "ytimbpjfhekcofaagreat", sum := "6caf35434536f2a686c16ee94725e84fa84cb72bf7baff705380dc56feab4db3", func := "consort/consortlaw24.QueryPrunes", spec := "queryPrunes", unfollowed := true, recurses := true, loops := true, plainKeys := false, apart := false }
def QueryPrunesSaid : Prop := queryPrunesRow.holds Tryz.pinned (OpenSpec.ofChange queryPrunesSpec)

/-- ITS FALSE NEIGHBOUR: 'it returns false'. Refute it at one input. -/
def queryPrunesWrong : ChangeSpec := { name := "queryPrunes", fn := fun _ => fun
  | [d1, d2] => { results := [.lit (.bool false)], args := [d1, d2] }
  | _ => none }
def QueryPrunesWrongFalsely : Prop := queryPrunesRow.holds Tryz.pinned (OpenSpec.ofChange queryPrunesWrong)

/-- 'consortlaw24.QueryAnswered': WHATEVER THE INPUT: true; the input reads as it did. -/
def queryAnsweredSpec : ChangeSpec := { name := "queryAnswered", fn := fun _ => fun
  | [d1, d2] => { results := [.lit (.bool true)], args := [d1, d2] }
  | _ => none }
def queryAnsweredRow : OpenClaim := { program := "ytimbpjfhekcofaagreat", sum := "6caf35434536f2a686c16ee94725e84fa84cb72bf7baff705380dc56feab4db3", func := "consort/consortlaw24.QueryAnswered", spec := "queryAnswered", unfollowed := true, recurses := true, loops := true, plainKeys := false, apart := false }
def QueryAnsweredSaid : Prop := queryAnsweredRow.holds Tryz.pinned (OpenSpec.ofChange queryAnsweredSpec)

/-- ITS FALSE NEIGHBOUR: 'it returns false'. Refute it at one input. -/
def queryAnsweredWrong : ChangeSpec := { name := "queryAnswered", fn := fun _ => fun
  | [d1, d2] => { results := [.lit (.bool false)], args := [d1, d2] }
  | _ => none }
def QueryAnsweredWrongFalsely : Prop := queryAnsweredRow.holds Tryz.pinned (OpenSpec.ofChange queryAnsweredWrong)

/-- 'consortlaw24.QuerySteady': WHATEVER THE INPUT: true; the input reads as it did. -/
def querySteadySpec : ChangeSpec := { name := "querySteady", fn := fun _ => fun
  | [d1, d2, d3, d4, d5] => { results := [.lit (.bool true)], args := [d1, d2, d3, d4, d5] }
  | _ => none }
def querySteadyRow : OpenClaim := { program := "ytimbpjfhekcofaagreat", sum := "6caf35434536f2a686c16ee94725e84fa84cb72bf7baff705380dc56feab4db3", func := "consort/consortlaw24.QuerySteady", spec := "querySteady", unfollowed := true, recurses := true, loops := true, plainKeys := false, apart := false }
def QuerySteadySaid : Prop := querySteadyRow.holds Tryz.pinned (OpenSpec.ofChange querySteadySpec)

/-- ITS FALSE NEIGHBOUR: 'it returns false'. Refute it at one input. -/
def querySteadyWrong : ChangeSpec := { name := "querySteady", fn := fun _ => fun
  | [d1, d2, d3, d4, d5] => { results := [.lit (.bool false)], args := [d1, d2, d3, d4, d5] }
  | _ => none }
def QuerySteadyWrongFalsely : Prop := querySteadyRow.holds Tryz.pinned (OpenSpec.ofChange querySteadyWrong)

/-- 'consortlaw24.QueryMore': WHATEVER THE INPUT: true; the input reads as it did. -/
def queryMoreSpec : ChangeSpec := { name := "queryMore", fn := fun _ => fun
  | [d1, d2] => { results := [.lit (.bool true)], args := [d1, d2] }
  | _ => none }
def queryMoreRow : OpenClaim := { program := "ytimbpjfhekcofaagreat", sum := "6caf35434536f2a686c16ee94725e84fa84cb72bf7baff705380dc56feab4db3", func := "consort/consortlaw24.QueryMore", spec := "queryMore", unfollowed := true, recurses := true, loops := true, plainKeys := false, apart := false }
def QueryMoreSaid : Prop := queryMoreRow.holds Tryz.pinned (OpenSpec.ofChange queryMoreSpec)

/-- ITS FALSE NEIGHBOUR: 'it returns false'. Refute it at one input. -/
def queryMoreWrong : ChangeSpec := { name := "queryMore", fn := fun _ => fun
  | [d1, d2] => { results := [.lit (.bool false)], args := [d1, d2] }
  | _ => none }
def QueryMoreWrongFalsely : Prop := queryMoreRow.holds Tryz.pinned (OpenSpec.ofChange queryMoreWrong)

/-- 'consortlaw24.QueryKnown': WHATEVER THE INPUT: true; the input reads as it did. -/
def queryKnownSpec : ChangeSpec := { name := "queryKnown", fn := fun _ => fun
  | [] => { results := [.lit (.bool true)], args := [] }
  | _ => none }
def queryKnownRow : OpenClaim := { program := "ytimbpjfhekcofaagreat", sum := "6caf35434536f2a686c16ee94725e84fa84cb72bf7baff705380dc56feab4db3", func := "consort/consortlaw24.QueryKnown", spec := "queryKnown", unfollowed := true, recurses := true, plainKeys := false, apart := false }
def QueryKnownSaid : Prop := queryKnownRow.holds Tryz.pinned (OpenSpec.ofChange queryKnownSpec)

/-- ITS FALSE NEIGHBOUR: 'it returns false'. Refute it at one input. -/
def queryKnownWrong : ChangeSpec := { name := "queryKnown", fn := fun _ => fun
  | [] => { results := [.lit (.bool false)], args := [] }
  | _ => none }
def QueryKnownWrongFalsely : Prop := queryKnownRow.holds Tryz.pinned (OpenSpec.ofChange queryKnownWrong)

/-- 'consortlaw24.QueryFinds': WHATEVER THE INPUT: true; the input reads as it did. -/
def queryFindsSpec : ChangeSpec := { name := "queryFinds", fn := fun _ => fun
  | [d1, d2] => { results := [.lit (.bool true)], args := [d1, d2] }
  | _ => none }
def queryFindsRow : OpenClaim := { program := "ytimbpjfhekcofaagreat", sum := "6caf35434536f2a686c16ee94725e84fa84cb72bf7baff705380dc56feab4db3", func := "consort/consortlaw24.QueryFinds", spec := "queryFinds", unfollowed := true, recurses := true, loops := true, plainKeys := false, apart := false }
def QueryFindsSaid : Prop := queryFindsRow.holds Tryz.pinned (OpenSpec.ofChange queryFindsSpec)

/-- ITS FALSE NEIGHBOUR: 'it returns false'. Refute it at one input. -/
def queryFindsWrong : ChangeSpec := { name := "queryFinds", fn := fun _ => fun
  | [d1, d2] => { results := [.lit (.bool false)], args := [d1, d2] }
  | _ => none }
def QueryFindsWrongFalsely : Prop := queryFindsRow.holds Tryz.pinned (OpenSpec.ofChange queryFindsWrong)

/-- 'consortlaw24.QuerySound': WHATEVER THE INPUT: true; the input reads as it did. -/
def querySoundSpec : ChangeSpec := { name := "querySound", fn := fun _ => fun
  | [d1, d2, d3] => { results := [.lit (.bool true)], args := [d1, d2, d3] }
  | _ => none }
def querySoundRow : OpenClaim := { program := "ytimbpjfhekcofaagreat", sum := "6caf35434536f2a686c16ee94725e84fa84cb72bf7baff705380dc56feab4db3", func := "consort/consortlaw24.QuerySound", spec := "querySound", unfollowed := true, recurses := true, loops := true, plainKeys := false, apart := false }
def QuerySoundSaid : Prop := querySoundRow.holds Tryz.pinned (OpenSpec.ofChange querySoundSpec)

/-- ITS FALSE NEIGHBOUR: 'it returns false'. Refute it at one input. -/
def querySoundWrong : ChangeSpec := { name := "querySound", fn := fun _ => fun
  | [d1, d2, d3] => { results := [.lit (.bool false)], args := [d1, d2, d3] }
  | _ => none }
def QuerySoundWrongFalsely : Prop := querySoundRow.holds Tryz.pinned (OpenSpec.ofChange querySoundWrong)

/-- 'consortlaw24.QueryDead': WHATEVER THE INPUT: true; the input reads as it did. -/
def queryDeadSpec : ChangeSpec := { name := "queryDead", fn := fun _ => fun
  | [d1, d2, d3] => { results := [.lit (.bool true)], args := [d1, d2, d3] }
  | _ => none }
def queryDeadRow : OpenClaim := { program := "ytimbpjfhekcofaagreat", sum := "6caf35434536f2a686c16ee94725e84fa84cb72bf7baff705380dc56feab4db3", func := "consort/consortlaw24.QueryDead", spec := "queryDead", unfollowed := true, recurses := true, loops := true, plainKeys := false, apart := false }
def QueryDeadSaid : Prop := queryDeadRow.holds Tryz.pinned (OpenSpec.ofChange queryDeadSpec)

/-- ITS FALSE NEIGHBOUR: 'it returns false'. Refute it at one input. -/
def queryDeadWrong : ChangeSpec := { name := "queryDead", fn := fun _ => fun
  | [d1, d2, d3] => { results := [.lit (.bool false)], args := [d1, d2, d3] }
  | _ => none }
def QueryDeadWrongFalsely : Prop := queryDeadRow.holds Tryz.pinned (OpenSpec.ofChange queryDeadWrong)

/- THE SECOND FORM. 'bulk': how many values and letters a reading holds, each counted each time it is reached (what is shared counts as often as it is met; a slice's spare places count too). A statement '..UptoSaid' is the law's where the arguments, and the package variables that the reading takes, are together of bulk at most 1048576: NARROWER than '..Said'. Prove '..Said' where nothing that the law and all that it calls make is longer than what came in: it says more and counts as full. Else prove '..UptoSaid'. A law counts once. -/
mutual
def uptoBulk {H : Type} : DataW H → Nat
  | .lit (.string bytes) => bytes.length + 1
  | .lit _ => 1
  | .nil => 1
  | .ptr d => uptoBulk d + 1
  | .slice elems spare => uptoBulkAll elems + uptoBulkAll spare + 1
  | .agg parts => uptoBulkAll parts + 1
  | .iface _ d => uptoBulk d + 1
  | .map entries => uptoBulkEntries entries + 1
  | .held _ => 1
def uptoBulkAll {H : Type} : List (DataW H) → Nat
  | [] => 0
  | d :: r => uptoBulk d + uptoBulkAll r
def uptoBulkEntries {H : Type} : List (Lit × DataW H) → Nat
  | [] => 0
  | x :: r => uptoBulkEntry x + uptoBulkEntries r
def uptoBulkEntry {H : Type} : Lit × DataW H → Nat
  | (.string bytes, d) => bytes.length + uptoBulk d + 1
  | (_, d) => uptoBulk d + 1
 end
def uptoSmall : (H : Type) → List (DataW H) → Bool := fun _ ds => decide (uptoBulkAll ds ≤ 1048576)
def OpenSpec.upto (s : _root_.Go.ChangeSpec) : _root_.Go.OpenSpec := { _root_.Go.OpenSpec.ofChange s with cond := some uptoSmall }

/-- 'consortlaw24.QueryKnowns', WHERE WHAT IT READS IS OF BULK AT MOST 1048576: true; the input reads as it did. -/
def queryKnownsUptoRow : OpenClaim := { program := "ytimbpjfhekcofaagreat", sum := "6caf35434536f2a686c16ee94725e84fa84cb72bf7baff705380dc56feab4db3", func := "consort/consortlaw24.QueryKnowns", spec := "queryKnowns", unfollowed := true, recurses := true, loops := true, plainKeys := false, apart := false, narrowed := true }
def QueryKnownsUptoSaid : Prop := queryKnownsUptoRow.holds Tryz.pinned (OpenSpec.upto queryKnownsSpec)

/-- 'consortlaw24.QueryViews', WHERE WHAT IT READS IS OF BULK AT MOST 1048576: true; the input reads as it did. -/
def queryViewsUptoRow : OpenClaim := { program := "ytimbpjfhekcofaagreat", sum := "6caf35434536f2a686c16ee94725e84fa84cb72bf7baff705380dc56feab4db3", func := "consort/consortlaw24.QueryViews", spec := "queryViews", unfollowed := true, recurses := true, loops := true, plainKeys := false, apart := false, narrowed := true }
def QueryViewsUptoSaid : Prop := queryViewsUptoRow.holds Tryz.pinned (OpenSpec.upto queryViewsSpec)

/-- 'consortlaw24.QueryAnswers', WHERE WHAT IT READS IS OF BULK AT MOST 1048576: true; the input reads as it did. -/
def queryAnswersUptoRow : OpenClaim := { program := "ytimbpjfhekcofaagreat", sum := "6caf35434536f2a686c16ee94725e84fa84cb72bf7baff705380dc56feab4db3", func := "consort/consortlaw24.QueryAnswers", spec := "queryAnswers", unfollowed := true, recurses := true, loops := true, plainKeys := false, apart := false, narrowed := true }
def QueryAnswersUptoSaid : Prop := queryAnswersUptoRow.holds Tryz.pinned (OpenSpec.upto queryAnswersSpec)

/-- 'consortlaw24.QueryPrunes', WHERE WHAT IT READS IS OF BULK AT MOST 1048576: true; the input reads as it did. -/
def queryPrunesUptoRow : OpenClaim := { program := "ytimbpjfhekcofaagreat", sum := "6caf35434536f2a686c16ee94725e84fa84cb72bf7baff705380dc56feab4db3", func := "consort/consortlaw24.QueryPrunes", spec := "queryPrunes", unfollowed := true, recurses := true, loops := true, plainKeys := false, apart := false, narrowed := true }
def QueryPrunesUptoSaid : Prop := queryPrunesUptoRow.holds Tryz.pinned (OpenSpec.upto queryPrunesSpec)

/-- 'consortlaw24.QueryAnswered', WHERE WHAT IT READS IS OF BULK AT MOST 1048576: true; the input reads as it did. -/
def queryAnsweredUptoRow : OpenClaim := { program := "ytimbpjfhekcofaagreat", sum := "6caf35434536f2a686c16ee94725e84fa84cb72bf7baff705380dc56feab4db3", func := "consort/consortlaw24.QueryAnswered", spec := "queryAnswered", unfollowed := true, recurses := true, loops := true, plainKeys := false, apart := false, narrowed := true }
def QueryAnsweredUptoSaid : Prop := queryAnsweredUptoRow.holds Tryz.pinned (OpenSpec.upto queryAnsweredSpec)

/-- 'consortlaw24.QuerySteady', WHERE WHAT IT READS IS OF BULK AT MOST 1048576: true; the input reads as it did. -/
def querySteadyUptoRow : OpenClaim := { program := "ytimbpjfhekcofaagreat", sum := "6caf35434536f2a686c16ee94725e84fa84cb72bf7baff705380dc56feab4db3", func := "consort/consortlaw24.QuerySteady", spec := "querySteady", unfollowed := true, recurses := true, loops := true, plainKeys := false, apart := false, narrowed := true }
def QuerySteadyUptoSaid : Prop := querySteadyUptoRow.holds Tryz.pinned (OpenSpec.upto querySteadySpec)

/-- 'consortlaw24.QueryMore', WHERE WHAT IT READS IS OF BULK AT MOST 1048576: true; the input reads as it did. -/
def queryMoreUptoRow : OpenClaim := { program := "ytimbpjfhekcofaagreat", sum := "6caf35434536f2a686c16ee94725e84fa84cb72bf7baff705380dc56feab4db3", func := "consort/consortlaw24.QueryMore", spec := "queryMore", unfollowed := true, recurses := true, loops := true, plainKeys := false, apart := false, narrowed := true }
def QueryMoreUptoSaid : Prop := queryMoreUptoRow.holds Tryz.pinned (OpenSpec.upto queryMoreSpec)

/-- 'consortlaw24.QueryKnown', WHERE WHAT IT READS IS OF BULK AT MOST 1048576: true; the input reads as it did. -/
def queryKnownUptoRow : OpenClaim := { program := "ytimbpjfhekcofaagreat", sum := "6caf35434536f2a686c16ee94725e84fa84cb72bf7baff705380dc56feab4db3", func := "consort/consortlaw24.QueryKnown", spec := "queryKnown", unfollowed := true, recurses := true, plainKeys := false, apart := false, narrowed := true }
def QueryKnownUptoSaid : Prop := queryKnownUptoRow.holds Tryz.pinned (OpenSpec.upto queryKnownSpec)

/-- 'consortlaw24.QueryFinds', WHERE WHAT IT READS IS OF BULK AT MOST 1048576: true; the input reads as it did. -/
def queryFindsUptoRow : OpenClaim := { program := "ytimbpjfhekcofaagreat", sum := "6caf35434536f2a686c16ee94725e84fa84cb72bf7baff705380dc56feab4db3", func := "consort/consortlaw24.QueryFinds", spec := "queryFinds", unfollowed := true, recurses := true, loops := true, plainKeys := false, apart := false, narrowed := true }
def QueryFindsUptoSaid : Prop := queryFindsUptoRow.holds Tryz.pinned (OpenSpec.upto queryFindsSpec)

/-- 'consortlaw24.QuerySound', WHERE WHAT IT READS IS OF BULK AT MOST 1048576: true; the input reads as it did. -/
def querySoundUptoRow : OpenClaim := { program := "ytimbpjfhekcofaagreat", sum := "6caf35434536f2a686c16ee94725e84fa84cb72bf7baff705380dc56feab4db3", func := "consort/consortlaw24.QuerySound", spec := "querySound", unfollowed := true, recurses := true, loops := true, plainKeys := false, apart := false, narrowed := true }
def QuerySoundUptoSaid : Prop := querySoundUptoRow.holds Tryz.pinned (OpenSpec.upto querySoundSpec)

/-- 'consortlaw24.QueryDead', WHERE WHAT IT READS IS OF BULK AT MOST 1048576: true; the input reads as it did. -/
def queryDeadUptoRow : OpenClaim := { program := "ytimbpjfhekcofaagreat", sum := "6caf35434536f2a686c16ee94725e84fa84cb72bf7baff705380dc56feab4db3", func := "consort/consortlaw24.QueryDead", spec := "queryDead", unfollowed := true, recurses := true, loops := true, plainKeys := false, apart := false, narrowed := true }
def QueryDeadUptoSaid : Prop := queryDeadUptoRow.holds Tryz.pinned (OpenSpec.upto queryDeadSpec)

end Rows
end Go.Proofs.YtimbpjfhekcofaaGreat
