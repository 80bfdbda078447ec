/-
  NARROWER THAN 'FOR EVERY INPUT', by the rows' own cells (each row's printed sentence says how): TreeBests: loops · TreeFinds: loops · TreeViews: loops · TreeOnce: loops · TreeMore: loops · TreeRights: loops · TreeSame: loops · TreeLeast: loops.
  DERIVED. THE GIVEN ROWS OF THIS SEAT. 10 by the template 'for every input the law returns true; each argument reads behind the call as it read before'; 0 by the template 'total and deterministic' (their statements: YtnafpeohfbglmaaGreatTotals.lean).
  GIVEN WITH THE SEED: the statements are not yours to turn. If you find one false, say at which input.
  Laid BY PROGRAM, IN A SANDBOX (cutbox-rows.mjs): the forced cells as the released guide's own fill.sh prints them over the translation 740bb784692f5edd… (all of the seat's roots in one cut). By AI agents, Wed Nov 11 2026. No macro, syntax, notation, axiom, sorry.
-/
import Derived.Test.YtnafpeohfbglmaaGreatChecked
import GoSem.Claim
import GoSem.ClaimJoined
import GoSem.ClaimMapViews
import Derived.JoinedTies
import Derived.KernelRfl
namespace Go.Proofs.YtnafpeohfbglmaaGreat
/- THE CELL 'sum', in the pinned program and in every row, IS THE sha256 OF THE DUMP (.gsa) THAT YtnafpeohfbglmaaGreatProg.lean LOADS. Nothing in Lean hashes anything: it is a label: what it is worth is what the hold of that sum in a sandbox is worth. -/
noncomputable def Tryz.pinned : Pinned := { name := "ytnafpeohfbglmaagreat", sum := "740bb784692f5edd25ca406013564b36df3b984921368e8841da0af23a1af0ad", checked := Tryz.checked }
namespace Rows
def none {H : Type} : Left H := { results := [], args := [] }

/-- 'consortlaw10.TreeBests': WHATEVER THE INPUT: true; the input reads as it did. -/
def treeBestsSpec : ChangeSpec := { name := "treeBests", fn := fun _ => fun
  | [d1, d2] => { results := [.lit (.bool true)], args := [d1, d2] }
  | _ => none }
def treeBestsRow : OpenClaim := { program := "ytnafpeohfbglmaagreat", sum := "740bb784692f5edd25ca406013564b36df3b984921368e8841da0af23a1af0ad", func := "consort/consortlaw10.TreeBests", spec := "treeBests", unfollowed := true, recurses := true, loops := true, plainKeys := false, apart := false }
def TreeBestsSaid : Prop := treeBestsRow.holds Tryz.pinned (OpenSpec.ofChange treeBestsSpec)

/-- ITS FALSE NEIGHBOUR: 'it returns false'. Refute it at one input. -/
def treeBestsWrong : ChangeSpec := { name := "treeBests", fn := fun _ => fun
  | [d1, d2] => { results := [.lit (.bool false)], args := [d1, d2] }
  | _ => none }
def TreeBestsWrongFalsely : Prop := treeBestsRow.holds Tryz.pinned (OpenSpec.ofChange treeBestsWrong)

/-- 'consortlaw10.TreeSmalls': WHATEVER THE INPUT: true; the input reads as it did. -/
def treeSmallsSpec : ChangeSpec := { name := "treeSmalls", fn := fun _ => fun
  | [d] => { results := [.lit (.bool true)], args := [d] }
  | _ => none }
def treeSmallsRow : OpenClaim := { program := "ytnafpeohfbglmaagreat", sum := "740bb784692f5edd25ca406013564b36df3b984921368e8841da0af23a1af0ad", func := "consort/consortlaw10.TreeSmalls", spec := "treeSmalls", unfollowed := true, recurses := true, plainKeys := false, apart := false }
def TreeSmallsSaid : Prop := treeSmallsRow.holds Tryz.pinned (OpenSpec.ofChange treeSmallsSpec)

/-- ITS FALSE NEIGHBOUR: 'it returns false'. Refute it at one input. -/
def treeSmallsWrong : ChangeSpec := { name := "treeSmalls", fn := fun _ => fun
  | [d] => { results := [.lit (.bool false)], args := [d] }
  | _ => none }
def TreeSmallsWrongFalsely : Prop := treeSmallsRow.holds Tryz.pinned (OpenSpec.ofChange treeSmallsWrong)

/-- 'consortlaw10.TreeFinds': WHATEVER THE INPUT: true; the input reads as it did. -/
def treeFindsSpec : ChangeSpec := { name := "treeFinds", fn := fun _ => fun
  | [d1, d2, d3] => { results := [.lit (.bool true)], args := [d1, d2, d3] }
  | _ => none }
def treeFindsRow : OpenClaim := { program := "ytnafpeohfbglmaagreat", sum := "740bb784692f5edd25ca406013564b36df3b984921368e8841da0af23a1af0ad", func := "consort/consortlaw10.TreeFinds", spec := "treeFinds", unfollowed := true, recurses := true, loops := true, plainKeys := false, apart := false }
def TreeFindsSaid : Prop := treeFindsRow.holds Tryz.pinned (OpenSpec.ofChange treeFindsSpec)

/-- ITS FALSE NEIGHBOUR: 'it returns false'. Refute it at one input. -/
def treeFindsWrong : ChangeSpec := { name := "treeFinds", fn := fun _ => fun
  | [d1, d2, d3] => { results := [.lit (.bool false)], args := [d1, d2, d3] }
  | _ => none }
def TreeFindsWrongFalsely : Prop := treeFindsRow.holds Tryz.pinned (OpenSpec.ofChange treeFindsWrong)

/-- 'consortlaw10.TreeViews': WHATEVER THE INPUT: true; the input reads as it did. -/
def treeViewsSpec : ChangeSpec := { name := "treeViews", fn := fun _ => fun
  | [d1, d2, d3] => { results := [.lit (.bool true)], args := [d1, d2, d3] }
  | _ => none }
def treeViewsRow : OpenClaim := { program := "ytnafpeohfbglmaagreat", sum := "740bb784692f5edd25ca406013564b36df3b984921368e8841da0af23a1af0ad", func := "consort/consortlaw10.TreeViews", spec := "treeViews", unfollowed := true, recurses := true, loops := true, plainKeys := false, apart := false }
def TreeViewsSaid : Prop := treeViewsRow.holds Tryz.pinned (OpenSpec.ofChange treeViewsSpec)

/-- ITS FALSE NEIGHBOUR: 'it returns false'. Refute it at one input. -/
def treeViewsWrong : ChangeSpec := { name := "treeViews", fn := fun _ => fun
  | [d1, d2, d3] => { results := [.lit (.bool false)], args := [d1, d2, d3] }
  | _ => none }
def TreeViewsWrongFalsely : Prop := treeViewsRow.holds Tryz.pinned (OpenSpec.ofChange treeViewsWrong)

/-- 'consortlaw10.TreeOnce': WHATEVER THE INPUT: true; the input reads as it did. -/
def treeOnceSpec : ChangeSpec := { name := "treeOnce", fn := fun _ => fun
  | [d1, d2] => { results := [.lit (.bool true)], args := [d1, d2] }
  | _ => none }
def treeOnceRow : OpenClaim := { program := "ytnafpeohfbglmaagreat", sum := "740bb784692f5edd25ca406013564b36df3b984921368e8841da0af23a1af0ad", func := "consort/consortlaw10.TreeOnce", spec := "treeOnce", unfollowed := true, recurses := true, loops := true, plainKeys := false, apart := false }
def TreeOnceSaid : Prop := treeOnceRow.holds Tryz.pinned (OpenSpec.ofChange treeOnceSpec)

/-- ITS FALSE NEIGHBOUR: 'it returns false'. Refute it at one input. -/
def treeOnceWrong : ChangeSpec := { name := "treeOnce", fn := fun _ => fun
  | [d1, d2] => { results := [.lit (.bool false)], args := [d1, d2] }
  | _ => none }
def TreeOnceWrongFalsely : Prop := treeOnceRow.holds Tryz.pinned (OpenSpec.ofChange treeOnceWrong)

/-- 'consortlaw10.TreeMore': WHATEVER THE INPUT: true; the input reads as it did. -/
def treeMoreSpec : ChangeSpec := { name := "treeMore", fn := fun _ => fun
  | [d1, d2, d3] => { results := [.lit (.bool true)], args := [d1, d2, d3] }
  | _ => none }
def treeMoreRow : OpenClaim := { program := "ytnafpeohfbglmaagreat", sum := "740bb784692f5edd25ca406013564b36df3b984921368e8841da0af23a1af0ad", func := "consort/consortlaw10.TreeMore", spec := "treeMore", unfollowed := true, recurses := true, loops := true, plainKeys := false, apart := false }
def TreeMoreSaid : Prop := treeMoreRow.holds Tryz.pinned (OpenSpec.ofChange treeMoreSpec)

/-- ITS FALSE NEIGHBOUR: 'it returns false'. Refute it at one input. -/
def treeMoreWrong : ChangeSpec := { name := "treeMore", fn := fun _ => fun
  | [d1, d2, d3] => { results := [.lit (.bool false)], args := [d1, d2, d3] }
  | _ => none }
def TreeMoreWrongFalsely : Prop := treeMoreRow.holds Tryz.pinned (OpenSpec.ofChange treeMoreWrong)

/-- 'consortlaw10.TreeKnown': WHATEVER THE INPUT: true; the input reads as it did. -/
def treeKnownSpec : ChangeSpec := { name := "treeKnown", fn := fun _ => fun
  | [] => { results := [.lit (.bool true)], args := [] }
  | _ => none }
def treeKnownRow : OpenClaim := { program := "ytnafpeohfbglmaagreat", sum := "740bb784692f5edd25ca406013564b36df3b984921368e8841da0af23a1af0ad", func := "consort/consortlaw10.TreeKnown", spec := "treeKnown", unfollowed := true, recurses := true, plainKeys := false, apart := false }
def TreeKnownSaid : Prop := treeKnownRow.holds Tryz.pinned (OpenSpec.ofChange treeKnownSpec)

/-- ITS FALSE NEIGHBOUR: 'it returns false'. Refute it at one input. -/
def treeKnownWrong : ChangeSpec := { name := "treeKnown", fn := fun _ => fun
  | [] => { results := [.lit (.bool false)], args := [] }
  | _ => none }
def TreeKnownWrongFalsely : Prop := treeKnownRow.holds Tryz.pinned (OpenSpec.ofChange treeKnownWrong)

/-- 'consortlaw10.TreeRights': WHATEVER THE INPUT: true; the input reads as it did. -/
def treeRightsSpec : ChangeSpec := { name := "treeRights", fn := fun _ => fun
  | [d1, d2, d3] => { results := [.lit (.bool true)], args := [d1, d2, d3] }
  | _ => none }
def treeRightsRow : OpenClaim := { program := "ytnafpeohfbglmaagreat", sum := "740bb784692f5edd25ca406013564b36df3b984921368e8841da0af23a1af0ad", func := "consort/consortlaw10.TreeRights", spec := "treeRights", unfollowed := true, recurses := true, loops := true, plainKeys := false, apart := false }
def TreeRightsSaid : Prop := treeRightsRow.holds Tryz.pinned (OpenSpec.ofChange treeRightsSpec)

/-- ITS FALSE NEIGHBOUR: 'it returns false'. Refute it at one input. -/
def treeRightsWrong : ChangeSpec := { name := "treeRights", fn := fun _ => fun
  | [d1, d2, d3] => { results := [.lit (.bool false)], args := [d1, d2, d3] }
  | _ => none }
def TreeRightsWrongFalsely : Prop := treeRightsRow.holds Tryz.pinned (OpenSpec.ofChange treeRightsWrong)

/-- 'consortlaw10.TreeSame': WHATEVER THE INPUT: true; the input reads as it did. -/
def treeSameSpec : ChangeSpec := { name := "treeSame", fn := fun _ => fun
  | [d1, d2, d3] => { results := [.lit (.bool true)], args := [d1, d2, d3] }
  | _ => none }
def treeSameRow : OpenClaim := { program := "ytnafpeohfbglmaagreat", sum := "740bb784692f5edd25ca406013564b36df3b984921368e8841da0af23a1af0ad", func := "consort/consortlaw10.TreeSame", spec := "treeSame", unfollowed := true, recurses := true, loops := true, plainKeys := false, apart := false }
def TreeSameSaid : Prop := treeSameRow.holds Tryz.pinned (OpenSpec.ofChange treeSameSpec)

/-- ITS FALSE NEIGHBOUR: 'it returns false'. Refute it at one input. -/
def treeSameWrong : ChangeSpec := { name := "treeSame", fn := fun _ => fun
  | [d1, d2, d3] => { results := [.lit (.bool false)], args := [d1, d2, d3] }
  | _ => none }
def TreeSameWrongFalsely : Prop := treeSameRow.holds Tryz.pinned (OpenSpec.ofChange treeSameWrong)

/-- 'consortlaw10.TreeLeast': WHATEVER THE INPUT: true; the input reads as it did. -/
def treeLeastSpec : ChangeSpec := { name := "treeLeast", fn := fun _ => fun
  | [d1, d2, d3] => { results := [.lit (.bool true)], args := [d1, d2, d3] }
  | _ => none }
def treeLeastRow : OpenClaim := { program := "ytnafpeohfbglmaagreat", sum := "740bb784692f5edd25ca406013564b36df3b984921368e8841da0af23a1af0ad", func := "consort/consortlaw10.TreeLeast", spec := "treeLeast", unfollowed := true, recurses := true, loops := true, plainKeys := false, apart := false }
def TreeLeastSaid : Prop := treeLeastRow.holds Tryz.pinned (OpenSpec.ofChange treeLeastSpec)

/-- ITS FALSE NEIGHBOUR: 'it returns false'. Refute it at one input. -/
def treeLeastWrong : ChangeSpec := { name := "treeLeast", fn := fun _ => fun
  | [d1, d2, d3] => { results := [.lit (.bool false)], args := [d1, d2, d3] }
  | _ => none }
def TreeLeastWrongFalsely : Prop := treeLeastRow.holds Tryz.pinned (OpenSpec.ofChange treeLeastWrong)

/- THE SECOND FORM. 'bulk': how many values and letters a reading holds, each counted each time it is reached (what is shared counts as often as it is met; a slice's spare places count too). A statement '..UptoSaid' is the law's where the arguments, and the package variables that the reading takes, are together of bulk at most 1048576: NARROWER than '..Said'. Prove '..Said' where nothing that the law and all that it calls make is longer than what came in: it says more and counts as full. Else prove '..UptoSaid'. A law counts once. -/
mutual
def uptoBulk {H : Type} : DataW H → Nat
  | .lit (.string bytes) => bytes.length + 1
  | .lit _ => 1
  | .nil => 1
  | .ptr d => uptoBulk d + 1
  | .slice elems spare => uptoBulkAll elems + uptoBulkAll spare + 1
  | .agg parts => uptoBulkAll parts + 1
  | .iface _ d => uptoBulk d + 1
  | .map entries => uptoBulkEntries entries + 1
  | .held _ => 1
def uptoBulkAll {H : Type} : List (DataW H) → Nat
  | [] => 0
  | d :: r => uptoBulk d + uptoBulkAll r
def uptoBulkEntries {H : Type} : List (Lit × DataW H) → Nat
  | [] => 0
  | x :: r => uptoBulkEntry x + uptoBulkEntries r
def uptoBulkEntry {H : Type} : Lit × DataW H → Nat
  | (.string bytes, d) => bytes.length + uptoBulk d + 1
  | (_, d) => uptoBulk d + 1
 end
def uptoSmall : (H : Type) → List (DataW H) → Bool := fun _ ds => decide (uptoBulkAll ds ≤ 1048576)
def OpenSpec.upto (s : _root_.Go.ChangeSpec) : _root_.Go.OpenSpec := { _root_.Go.OpenSpec.ofChange s with cond := some uptoSmall }

/-- 'consortlaw10.TreeBests', WHERE WHAT IT READS IS OF BULK AT MOST 1048576: true; the input reads as it did. -/
def treeBestsUptoRow : OpenClaim := { program := "ytnafpeohfbglmaagreat", sum := "740bb784692f5edd25ca406013564b36df3b984921368e8841da0af23a1af0ad", func := "consort/consortlaw10.TreeBests", spec := "treeBests", unfollowed := true, recurses := true, loops := true, plainKeys := false, apart := false, narrowed := true }
def TreeBestsUptoSaid : Prop := treeBestsUptoRow.holds Tryz.pinned (OpenSpec.upto treeBestsSpec)

/-- 'consortlaw10.TreeSmalls', WHERE WHAT IT READS IS OF BULK AT MOST 1048576: true; the input reads as it did. -/
def treeSmallsUptoRow : OpenClaim := { program := "ytnafpeohfbglmaagreat", sum := "740bb784692f5edd25ca406013564b36df3b984921368e8841da0af23a1af0ad", func := "consort/consortlaw10.TreeSmalls", spec := "treeSmalls", unfollowed := true, recurses := true, plainKeys := false, apart := false, narrowed := true }
def TreeSmallsUptoSaid : Prop := treeSmallsUptoRow.holds Tryz.pinned (OpenSpec.upto treeSmallsSpec)

/-- 'consortlaw10.TreeFinds', WHERE WHAT IT READS IS OF BULK AT MOST 1048576: true; the input reads as it did. -/
def treeFindsUptoRow : OpenClaim := { program := "ytnafpeohfbglmaagreat", sum := "740bb784692f5edd25ca406013564b36df3b984921368e8841da0af23a1af0ad", func := "consort/consortlaw10.TreeFinds", spec := "treeFinds", unfollowed := true, recurses := true, loops := true, plainKeys := false, apart := false, narrowed := true }
def TreeFindsUptoSaid : Prop := treeFindsUptoRow.holds Tryz.pinned (OpenSpec.upto treeFindsSpec)

/-- 'consortlaw10.TreeViews', WHERE WHAT IT READS IS OF BULK AT MOST 1048576: true; the input reads as it did. -/
def treeViewsUptoRow : OpenClaim := { program := "ytnafpeohfbglmaagreat", sum := "740bb784692f5edd25ca406013564b36df3b984921368e8841da0af23a1af0ad", func := "consort/consortlaw10.TreeViews", spec := "treeViews", unfollowed := true, recurses := true, loops := true, plainKeys := false, apart := false, narrowed := true }
def TreeViewsUptoSaid : Prop := treeViewsUptoRow.holds Tryz.pinned (OpenSpec.upto treeViewsSpec)

/-- 'consortlaw10.TreeOnce', WHERE WHAT IT READS IS OF BULK AT MOST 1048576: true; the input reads as it did. -/
def treeOnceUptoRow : OpenClaim := { program := "ytnafpeohfbglmaagreat", sum := "740bb784692f5edd25ca406013564b36df3b984921368e8841da0af23a1af0ad", func := "consort/consortlaw10.TreeOnce", spec := "treeOnce", unfollowed := true, recurses := true, loops := true, plainKeys := false, apart := false, narrowed := true }
def TreeOnceUptoSaid : Prop := treeOnceUptoRow.holds Tryz.pinned (OpenSpec.upto treeOnceSpec)

/-- 'consortlaw10.TreeMore', WHERE WHAT IT READS IS OF BULK AT MOST 1048576: true; the input reads as it did. -/
def treeMoreUptoRow : OpenClaim := { program := "ytnafpeohfbglmaagreat", sum := "740bb784692f5edd25ca406013564b36df3b984921368e8841da0af23a1af0ad", func := "consort/consortlaw10.TreeMore", spec := "treeMore", unfollowed := true, recurses := true, loops := true, plainKeys := false, apart := false, narrowed := true }
def TreeMoreUptoSaid : Prop := treeMoreUptoRow.holds Tryz.pinned (OpenSpec.upto treeMoreSpec)

/-- 'consortlaw10.TreeKnown', WHERE WHAT IT READS IS OF BULK AT MOST 1048576: true; the input reads as it did. -/
def treeKnownUptoRow : OpenClaim := { program := "ytnafpeohfbglmaagreat", sum := "740bb784692f5edd25ca406013564b36df3b984921368e8841da0af23a1af0ad", func := "consort/consortlaw10.TreeKnown", spec := "treeKnown", unfollowed := true, recurses := true, plainKeys := false, apart := false, narrowed := true }
def TreeKnownUptoSaid : Prop := treeKnownUptoRow.holds Tryz.pinned (OpenSpec.upto treeKnownSpec)

/-- 'consortlaw10.TreeRights', WHERE WHAT IT READS IS OF BULK AT MOST 1048576: true; the input reads as it did. -/
def treeRightsUptoRow : OpenClaim := { program := "ytnafpeohfbglmaagreat", sum := "740bb784692f5edd25ca406013564b36df3b984921368e8841da0af23a1af0ad", func := "consort/consortlaw10.TreeRights", spec := "treeRights", unfollowed := true, recurses := true, loops := true, plainKeys := false, apart := false, narrowed := true }
def TreeRightsUptoSaid : Prop := treeRightsUptoRow.holds Tryz.pinned (OpenSpec.upto treeRightsSpec)

/-- 'consortlaw10.TreeSame', WHERE WHAT IT READS IS OF BULK AT MOST 1048576: true; the input reads as it did. -/
def treeSameUptoRow : OpenClaim := { program := "ytnafpeohfbglmaagreat", sum := "740bb784692f5edd25ca406013564b36df3b984921368e8841da0af23a1af0ad", func := "consort/consortlaw10.TreeSame", spec := "treeSame", unfollowed := true, recurses := true, loops := true, plainKeys := false, apart := false, narrowed := true }
def TreeSameUptoSaid : Prop := treeSameUptoRow.holds Tryz.pinned (OpenSpec.upto treeSameSpec)

/-- 'consortlaw10.TreeLeast', WHERE WHAT IT READS IS OF BULK AT MOST 1048576: true; the input reads as it did. -/
def treeLeastUptoRow : OpenClaim := { program := "ytnafpeohfbglmaagreat", sum := "740bb784692f5edd25ca406013564b36df3b984921368e8841da0af23a1af0ad", func := "consort/consortlaw10.TreeLeast", spec := "treeLeast", unfollowed := true, recurses := true, loops := true, plainKeys := false, apart := false, narrowed := true }
def TreeLeastUptoSaid : Prop := treeLeastUptoRow.holds Tryz.pinned (OpenSpec.upto treeLeastSpec)

end Rows
end Go.Proofs.YtnafpeohfbglmaaGreat
