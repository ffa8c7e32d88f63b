/-
  No cell of these rows narrows 'for every input' (looked for: loops, veiled, ifaces, maps, wideKeys, modest, calm, conditions, laid).
  DERIVED. THE GIVEN ROWS OF THIS SEAT. 12 by the template 'for every input the law returns true; each argument reads behind the call as it read before'; 0 by the template 'total and deterministic' (their statements: YtbdifkeoiodalaaTotals.lean).
  GIVEN WITH THE SEED: the statements are not yours to turn. If you find one false, say at which input.
  Laid BY PROGRAM, IN A SANDBOX (cutbox-rows.mjs): the forced cells as the released guide's own fill.sh prints them over the translation 88fdb8c844371f3a… (all of the seat's roots in one cut). By AI agents, Wed Nov 11 2026. No macro, syntax, notation, axiom, sorry.
-/
import Derived.Test.YtbdifkeoiodalaaChecked
import GoSem.Claim
import GoSem.ClaimJoined
import GoSem.ClaimMapViews
import Derived.JoinedTies
import Derived.KernelRfl
namespace Go.Proofs.Ytbdifkeoiodalaa
/- THE CELL 'sum', in the pinned program and in every row, IS THE sha256 OF THE DUMP (.gsa) THAT YtbdifkeoiodalaaProg.lean LOADS. Nothing in Lean hashes anything: it is a label: what it is worth is what the hold of that sum in a sandbox is worth. -/
noncomputable def Try.pinned : Pinned := { name := "ytbdifkeoiodalaa", sum := "88fdb8c844371f3a9394969ed03ad69ff40e8ba9af0f9c27af1d0793953554b1", checked := Try.checked }
namespace Rows
def none {H : Type} : Left H := { results := [], args := [] }

/-- 'laws.FnExactRotateHead': WHATEVER THE INPUT: true; the input reads as it did. -/
def fnExactRotateHeadSpec : ChangeSpec := { name := "fnExactRotateHead", fn := fun _ => fun
  | [d1, d2, d3, d4] => { results := [.lit (.bool true)], args := [d1, d2, d3, d4] }
  | _ => none }
def fnExactRotateHeadRow : OpenClaim := { program := "ytbdifkeoiodalaa", sum := "88fdb8c844371f3a9394969ed03ad69ff40e8ba9af0f9c27af1d0793953554b1", func := "loop.example/g00588/laws.FnExactRotateHead", spec := "fnExactRotateHead", unfollowed := true, recurses := true, apart := false }
def FnExactRotateHeadSaid : Prop := fnExactRotateHeadRow.holds Try.pinned (OpenSpec.ofChange fnExactRotateHeadSpec)

/-- ITS FALSE NEIGHBOUR: 'it returns false'. Refute it at one input. -/
def fnExactRotateHeadWrong : ChangeSpec := { name := "fnExactRotateHead", fn := fun _ => fun
  | [d1, d2, d3, d4] => { results := [.lit (.bool false)], args := [d1, d2, d3, d4] }
  | _ => none }
def FnExactRotateHeadWrongFalsely : Prop := fnExactRotateHeadRow.holds Try.pinned (OpenSpec.ofChange fnExactRotateHeadWrong)

/-- 'laws.FnExactNameHead': WHATEVER THE INPUT: true; the input reads as it did. -/
def fnExactNameHeadSpec : ChangeSpec := { name := "fnExactNameHead", fn := fun _ => fun
  | [d1, d2, d3, d4, d5, d6] => { results := [.lit (.bool true)], args := [d1, d2, d3, d4, d5, d6] }
  | _ => none }
def fnExactNameHeadRow : OpenClaim := { program := "ytbdifkeoiodalaa", sum := "88fdb8c844371f3a9394969ed03ad69ff40e8ba9af0f9c27af1d0793953554b1", func := "loop.example/g00588/laws.FnExactNameHead", spec := "fnExactNameHead", unfollowed := true, recurses := true, apart := false }
def FnExactNameHeadSaid : Prop := fnExactNameHeadRow.holds Try.pinned (OpenSpec.ofChange fnExactNameHeadSpec)

/-- ITS FALSE NEIGHBOUR: 'it returns false'. Refute it at one input. -/
def fnExactNameHeadWrong : ChangeSpec := { name := "fnExactNameHead", fn := fun _ => fun
  | [d1, d2, d3, d4, d5, d6] => { results := [.lit (.bool false)], args := [d1, d2, d3, d4, d5, d6] }
  | _ => none }
def FnExactNameHeadWrongFalsely : Prop := fnExactNameHeadRow.holds Try.pinned (OpenSpec.ofChange fnExactNameHeadWrong)

/-- 'laws.FnExactJudgeHead': WHATEVER THE INPUT: true; the input reads as it did. -/
def fnExactJudgeHeadSpec : ChangeSpec := { name := "fnExactJudgeHead", fn := fun _ => fun
  | [d1, d2, d3, d4] => { results := [.lit (.bool true)], args := [d1, d2, d3, d4] }
  | _ => none }
def fnExactJudgeHeadRow : OpenClaim := { program := "ytbdifkeoiodalaa", sum := "88fdb8c844371f3a9394969ed03ad69ff40e8ba9af0f9c27af1d0793953554b1", func := "loop.example/g00588/laws.FnExactJudgeHead", spec := "fnExactJudgeHead", unfollowed := true, recurses := true, apart := false }
def FnExactJudgeHeadSaid : Prop := fnExactJudgeHeadRow.holds Try.pinned (OpenSpec.ofChange fnExactJudgeHeadSpec)

/-- ITS FALSE NEIGHBOUR: 'it returns false'. Refute it at one input. -/
def fnExactJudgeHeadWrong : ChangeSpec := { name := "fnExactJudgeHead", fn := fun _ => fun
  | [d1, d2, d3, d4] => { results := [.lit (.bool false)], args := [d1, d2, d3, d4] }
  | _ => none }
def FnExactJudgeHeadWrongFalsely : Prop := fnExactJudgeHeadRow.holds Try.pinned (OpenSpec.ofChange fnExactJudgeHeadWrong)

/-- 'laws.FnExactEqualKnown': WHATEVER THE INPUT: true; the input reads as it did. -/
def fnExactEqualKnownSpec : ChangeSpec := { name := "fnExactEqualKnown", fn := fun _ => fun
  | [d1, d2] => { results := [.lit (.bool true)], args := [d1, d2] }
  | _ => none }
def fnExactEqualKnownRow : OpenClaim := { program := "ytbdifkeoiodalaa", sum := "88fdb8c844371f3a9394969ed03ad69ff40e8ba9af0f9c27af1d0793953554b1", func := "loop.example/g00588/laws.FnExactEqualKnown", spec := "fnExactEqualKnown", unfollowed := true, recurses := true, apart := false }
def FnExactEqualKnownSaid : Prop := fnExactEqualKnownRow.holds Try.pinned (OpenSpec.ofChange fnExactEqualKnownSpec)

/-- ITS FALSE NEIGHBOUR: 'it returns false'. Refute it at one input. -/
def fnExactEqualKnownWrong : ChangeSpec := { name := "fnExactEqualKnown", fn := fun _ => fun
  | [d1, d2] => { results := [.lit (.bool false)], args := [d1, d2] }
  | _ => none }
def FnExactEqualKnownWrongFalsely : Prop := fnExactEqualKnownRow.holds Try.pinned (OpenSpec.ofChange fnExactEqualKnownWrong)

/-- 'laws.FnExactEqualServers': WHATEVER THE INPUT: true; the input reads as it did. -/
def fnExactEqualServersSpec : ChangeSpec := { name := "fnExactEqualServers", fn := fun _ => fun
  | [d1, d2] => { results := [.lit (.bool true)], args := [d1, d2] }
  | _ => none }
def fnExactEqualServersRow : OpenClaim := { program := "ytbdifkeoiodalaa", sum := "88fdb8c844371f3a9394969ed03ad69ff40e8ba9af0f9c27af1d0793953554b1", func := "loop.example/g00588/laws.FnExactEqualServers", spec := "fnExactEqualServers", unfollowed := true, recurses := true, apart := false }
def FnExactEqualServersSaid : Prop := fnExactEqualServersRow.holds Try.pinned (OpenSpec.ofChange fnExactEqualServersSpec)

/-- ITS FALSE NEIGHBOUR: 'it returns false'. Refute it at one input. -/
def fnExactEqualServersWrong : ChangeSpec := { name := "fnExactEqualServers", fn := fun _ => fun
  | [d1, d2] => { results := [.lit (.bool false)], args := [d1, d2] }
  | _ => none }
def FnExactEqualServersWrongFalsely : Prop := fnExactEqualServersRow.holds Try.pinned (OpenSpec.ofChange fnExactEqualServersWrong)

/-- 'laws.FnExactEqualAnswers': WHATEVER THE INPUT: true; the input reads as it did. -/
def fnExactEqualAnswersSpec : ChangeSpec := { name := "fnExactEqualAnswers", fn := fun _ => fun
  | [d1, d2] => { results := [.lit (.bool true)], args := [d1, d2] }
  | _ => none }
def fnExactEqualAnswersRow : OpenClaim := { program := "ytbdifkeoiodalaa", sum := "88fdb8c844371f3a9394969ed03ad69ff40e8ba9af0f9c27af1d0793953554b1", func := "loop.example/g00588/laws.FnExactEqualAnswers", spec := "fnExactEqualAnswers", unfollowed := true, recurses := true, apart := false }
def FnExactEqualAnswersSaid : Prop := fnExactEqualAnswersRow.holds Try.pinned (OpenSpec.ofChange fnExactEqualAnswersSpec)

/-- ITS FALSE NEIGHBOUR: 'it returns false'. Refute it at one input. -/
def fnExactEqualAnswersWrong : ChangeSpec := { name := "fnExactEqualAnswers", fn := fun _ => fun
  | [d1, d2] => { results := [.lit (.bool false)], args := [d1, d2] }
  | _ => none }
def FnExactEqualAnswersWrongFalsely : Prop := fnExactEqualAnswersRow.holds Try.pinned (OpenSpec.ofChange fnExactEqualAnswersWrong)

/-- 'laws.FnExactIsChain': WHATEVER THE INPUT: true; the input reads as it did. -/
def fnExactIsChainSpec : ChangeSpec := { name := "fnExactIsChain", fn := fun _ => fun
  | [d] => { results := [.lit (.bool true)], args := [d] }
  | _ => none }
def fnExactIsChainRow : OpenClaim := { program := "ytbdifkeoiodalaa", sum := "88fdb8c844371f3a9394969ed03ad69ff40e8ba9af0f9c27af1d0793953554b1", func := "loop.example/g00588/laws.FnExactIsChain", spec := "fnExactIsChain", unfollowed := true, recurses := true, apart := false }
def FnExactIsChainSaid : Prop := fnExactIsChainRow.holds Try.pinned (OpenSpec.ofChange fnExactIsChainSpec)

/-- ITS FALSE NEIGHBOUR: 'it returns false'. Refute it at one input. -/
def fnExactIsChainWrong : ChangeSpec := { name := "fnExactIsChain", fn := fun _ => fun
  | [d] => { results := [.lit (.bool false)], args := [d] }
  | _ => none }
def FnExactIsChainWrongFalsely : Prop := fnExactIsChainRow.holds Try.pinned (OpenSpec.ofChange fnExactIsChainWrong)

/-- 'laws.FnExactIsFork': WHATEVER THE INPUT: true; the input reads as it did. -/
def fnExactIsForkSpec : ChangeSpec := { name := "fnExactIsFork", fn := fun _ => fun
  | [d] => { results := [.lit (.bool true)], args := [d] }
  | _ => none }
def fnExactIsForkRow : OpenClaim := { program := "ytbdifkeoiodalaa", sum := "88fdb8c844371f3a9394969ed03ad69ff40e8ba9af0f9c27af1d0793953554b1", func := "loop.example/g00588/laws.FnExactIsFork", spec := "fnExactIsFork", unfollowed := true, recurses := true, apart := false }
def FnExactIsForkSaid : Prop := fnExactIsForkRow.holds Try.pinned (OpenSpec.ofChange fnExactIsForkSpec)

/-- ITS FALSE NEIGHBOUR: 'it returns false'. Refute it at one input. -/
def fnExactIsForkWrong : ChangeSpec := { name := "fnExactIsFork", fn := fun _ => fun
  | [d] => { results := [.lit (.bool false)], args := [d] }
  | _ => none }
def FnExactIsForkWrongFalsely : Prop := fnExactIsForkRow.holds Try.pinned (OpenSpec.ofChange fnExactIsForkWrong)

/-- 'laws.FnExactForkZone': WHATEVER THE INPUT: true; the input reads as it did. -/
def fnExactForkZoneSpec : ChangeSpec := { name := "fnExactForkZone", fn := fun _ => fun
  | [d] => { results := [.lit (.bool true)], args := [d] }
  | _ => none }
def fnExactForkZoneRow : OpenClaim := { program := "ytbdifkeoiodalaa", sum := "88fdb8c844371f3a9394969ed03ad69ff40e8ba9af0f9c27af1d0793953554b1", func := "loop.example/g00588/laws.FnExactForkZone", spec := "fnExactForkZone", unfollowed := true, recurses := true, apart := false }
def FnExactForkZoneSaid : Prop := fnExactForkZoneRow.holds Try.pinned (OpenSpec.ofChange fnExactForkZoneSpec)

/-- ITS FALSE NEIGHBOUR: 'it returns false'. Refute it at one input. -/
def fnExactForkZoneWrong : ChangeSpec := { name := "fnExactForkZone", fn := fun _ => fun
  | [d] => { results := [.lit (.bool false)], args := [d] }
  | _ => none }
def FnExactForkZoneWrongFalsely : Prop := fnExactForkZoneRow.holds Try.pinned (OpenSpec.ofChange fnExactForkZoneWrong)

/-- 'laws.FnExactEqualLooks': WHATEVER THE INPUT: true; the input reads as it did. -/
def fnExactEqualLooksSpec : ChangeSpec := { name := "fnExactEqualLooks", fn := fun _ => fun
  | [d1, d2] => { results := [.lit (.bool true)], args := [d1, d2] }
  | _ => none }
def fnExactEqualLooksRow : OpenClaim := { program := "ytbdifkeoiodalaa", sum := "88fdb8c844371f3a9394969ed03ad69ff40e8ba9af0f9c27af1d0793953554b1", func := "loop.example/g00588/laws.FnExactEqualLooks", spec := "fnExactEqualLooks", unfollowed := true, recurses := true, apart := false }
def FnExactEqualLooksSaid : Prop := fnExactEqualLooksRow.holds Try.pinned (OpenSpec.ofChange fnExactEqualLooksSpec)

/-- ITS FALSE NEIGHBOUR: 'it returns false'. Refute it at one input. -/
def fnExactEqualLooksWrong : ChangeSpec := { name := "fnExactEqualLooks", fn := fun _ => fun
  | [d1, d2] => { results := [.lit (.bool false)], args := [d1, d2] }
  | _ => none }
def FnExactEqualLooksWrongFalsely : Prop := fnExactEqualLooksRow.holds Try.pinned (OpenSpec.ofChange fnExactEqualLooksWrong)

/-- 'laws.FnExactOwnersAt': WHATEVER THE INPUT: true; the input reads as it did. -/
def fnExactOwnersAtSpec : ChangeSpec := { name := "fnExactOwnersAt", fn := fun _ => fun
  | [d1, d2] => { results := [.lit (.bool true)], args := [d1, d2] }
  | _ => none }
def fnExactOwnersAtRow : OpenClaim := { program := "ytbdifkeoiodalaa", sum := "88fdb8c844371f3a9394969ed03ad69ff40e8ba9af0f9c27af1d0793953554b1", func := "loop.example/g00588/laws.FnExactOwnersAt", spec := "fnExactOwnersAt", unfollowed := true, recurses := true, apart := false }
def FnExactOwnersAtSaid : Prop := fnExactOwnersAtRow.holds Try.pinned (OpenSpec.ofChange fnExactOwnersAtSpec)

/-- ITS FALSE NEIGHBOUR: 'it returns false'. Refute it at one input. -/
def fnExactOwnersAtWrong : ChangeSpec := { name := "fnExactOwnersAt", fn := fun _ => fun
  | [d1, d2] => { results := [.lit (.bool false)], args := [d1, d2] }
  | _ => none }
def FnExactOwnersAtWrongFalsely : Prop := fnExactOwnersAtRow.holds Try.pinned (OpenSpec.ofChange fnExactOwnersAtWrong)

/-- 'laws.FnExactBelievedOf': WHATEVER THE INPUT: true; the input reads as it did. -/
def fnExactBelievedOfSpec : ChangeSpec := { name := "fnExactBelievedOf", fn := fun _ => fun
  | [d] => { results := [.lit (.bool true)], args := [d] }
  | _ => none }
def fnExactBelievedOfRow : OpenClaim := { program := "ytbdifkeoiodalaa", sum := "88fdb8c844371f3a9394969ed03ad69ff40e8ba9af0f9c27af1d0793953554b1", func := "loop.example/g00588/laws.FnExactBelievedOf", spec := "fnExactBelievedOf", apart := false }
def FnExactBelievedOfSaid : Prop := fnExactBelievedOfRow.holds Try.pinned (OpenSpec.ofChange fnExactBelievedOfSpec)

/-- ITS FALSE NEIGHBOUR: 'it returns false'. Refute it at one input. -/
def fnExactBelievedOfWrong : ChangeSpec := { name := "fnExactBelievedOf", fn := fun _ => fun
  | [d] => { results := [.lit (.bool false)], args := [d] }
  | _ => none }
def FnExactBelievedOfWrongFalsely : Prop := fnExactBelievedOfRow.holds Try.pinned (OpenSpec.ofChange fnExactBelievedOfWrong)

/- THE SECOND FORM. 'bulk': how many values and letters a reading holds, each counted each time it is reached (what is shared counts as often as it is met; a slice's spare places count too). A statement '..UptoSaid' is the law's where the arguments, and the package variables that the reading takes, are together of bulk at most 1048576: NARROWER than '..Said'. Prove '..Said' where nothing that the law and all that it calls make is longer than what came in: it says more and counts as full. Else prove '..UptoSaid'. A law counts once. -/
mutual
def uptoBulk {H : Type} : DataW H → Nat
  | .lit (.string bytes) => bytes.length + 1
  | .lit _ => 1
  | .nil => 1
  | .ptr d => uptoBulk d + 1
  | .slice elems spare => uptoBulkAll elems + uptoBulkAll spare + 1
  | .agg parts => uptoBulkAll parts + 1
  | .iface _ d => uptoBulk d + 1
  | .map entries => uptoBulkEntries entries + 1
  | .held _ => 1
def uptoBulkAll {H : Type} : List (DataW H) → Nat
  | [] => 0
  | d :: r => uptoBulk d + uptoBulkAll r
def uptoBulkEntries {H : Type} : List (Lit × DataW H) → Nat
  | [] => 0
  | x :: r => uptoBulkEntry x + uptoBulkEntries r
def uptoBulkEntry {H : Type} : Lit × DataW H → Nat
  | (.string bytes, d) => bytes.length + uptoBulk d + 1
  | (_, d) => uptoBulk d + 1
 end
def uptoSmall : (H : Type) → List (DataW H) → Bool := fun _ ds => decide (uptoBulkAll ds ≤ 1048576)
def OpenSpec.upto (s : _root_.Go.ChangeSpec) : _root_.Go.OpenSpec := { _root_.Go.OpenSpec.ofChange s with cond := some uptoSmall }

/-- 'laws.FnExactRotateHead', WHERE WHAT IT READS IS OF BULK AT MOST 1048576: true; the input reads as it did. -/
def fnExactRotateHeadUptoRow : OpenClaim := { program := "ytbdifkeoiodalaa", sum := "88fdb8c844371f3a9394969ed03ad69ff40e8ba9af0f9c27af1d0793953554b1", func := "loop.example/g00588/laws.FnExactRotateHead", spec := "fnExactRotateHead", unfollowed := true, recurses := true, apart := false, narrowed := true }
def FnExactRotateHeadUptoSaid : Prop := fnExactRotateHeadUptoRow.holds Try.pinned (OpenSpec.upto fnExactRotateHeadSpec)

/-- 'laws.FnExactNameHead', WHERE WHAT IT READS IS OF BULK AT MOST 1048576: true; the input reads as it did. -/
def fnExactNameHeadUptoRow : OpenClaim := { program := "ytbdifkeoiodalaa", sum := "88fdb8c844371f3a9394969ed03ad69ff40e8ba9af0f9c27af1d0793953554b1", func := "loop.example/g00588/laws.FnExactNameHead", spec := "fnExactNameHead", unfollowed := true, recurses := true, apart := false, narrowed := true }
def FnExactNameHeadUptoSaid : Prop := fnExactNameHeadUptoRow.holds Try.pinned (OpenSpec.upto fnExactNameHeadSpec)

/-- 'laws.FnExactJudgeHead', WHERE WHAT IT READS IS OF BULK AT MOST 1048576: true; the input reads as it did. -/
def fnExactJudgeHeadUptoRow : OpenClaim := { program := "ytbdifkeoiodalaa", sum := "88fdb8c844371f3a9394969ed03ad69ff40e8ba9af0f9c27af1d0793953554b1", func := "loop.example/g00588/laws.FnExactJudgeHead", spec := "fnExactJudgeHead", unfollowed := true, recurses := true, apart := false, narrowed := true }
def FnExactJudgeHeadUptoSaid : Prop := fnExactJudgeHeadUptoRow.holds Try.pinned (OpenSpec.upto fnExactJudgeHeadSpec)

/-- 'laws.FnExactEqualKnown', WHERE WHAT IT READS IS OF BULK AT MOST 1048576: true; the input reads as it did. -/
def fnExactEqualKnownUptoRow : OpenClaim := { program := "ytbdifkeoiodalaa", sum := "88fdb8c844371f3a9394969ed03ad69ff40e8ba9af0f9c27af1d0793953554b1", func := "loop.example/g00588/laws.FnExactEqualKnown", spec := "fnExactEqualKnown", unfollowed := true, recurses := true, apart := false, narrowed := true }
def FnExactEqualKnownUptoSaid : Prop := fnExactEqualKnownUptoRow.holds Try.pinned (OpenSpec.upto fnExactEqualKnownSpec)

/-- 'laws.FnExactEqualServers', WHERE WHAT IT READS IS OF BULK AT MOST 1048576: true; the input reads as it did. -/
def fnExactEqualServersUptoRow : OpenClaim := { program := "ytbdifkeoiodalaa", sum := "88fdb8c844371f3a9394969ed03ad69ff40e8ba9af0f9c27af1d0793953554b1", func := "loop.example/g00588/laws.FnExactEqualServers", spec := "fnExactEqualServers", unfollowed := true, recurses := true, apart := false, narrowed := true }
def FnExactEqualServersUptoSaid : Prop := fnExactEqualServersUptoRow.holds Try.pinned (OpenSpec.upto fnExactEqualServersSpec)

/-- 'laws.FnExactEqualAnswers', WHERE WHAT IT READS IS OF BULK AT MOST 1048576: true; the input reads as it did. -/
def fnExactEqualAnswersUptoRow : OpenClaim := { program := "ytbdifkeoiodalaa", sum := "88fdb8c844371f3a9394969ed03ad69ff40e8ba9af0f9c27af1d0793953554b1", func := "loop.example/g00588/laws.FnExactEqualAnswers", spec := "fnExactEqualAnswers", unfollowed := true, recurses := true, apart := false, narrowed := true }
def FnExactEqualAnswersUptoSaid : Prop := fnExactEqualAnswersUptoRow.holds Try.pinned (OpenSpec.upto fnExactEqualAnswersSpec)

/-- 'laws.FnExactIsChain', WHERE WHAT IT READS IS OF BULK AT MOST 1048576: true; the input reads as it did. -/
def fnExactIsChainUptoRow : OpenClaim := { program := "ytbdifkeoiodalaa", sum := "88fdb8c844371f3a9394969ed03ad69ff40e8ba9af0f9c27af1d0793953554b1", func := "loop.example/g00588/laws.FnExactIsChain", spec := "fnExactIsChain", unfollowed := true, recurses := true, apart := false, narrowed := true }
def FnExactIsChainUptoSaid : Prop := fnExactIsChainUptoRow.holds Try.pinned (OpenSpec.upto fnExactIsChainSpec)

/-- 'laws.FnExactIsFork', WHERE WHAT IT READS IS OF BULK AT MOST 1048576: true; the input reads as it did. -/
def fnExactIsForkUptoRow : OpenClaim := { program := "ytbdifkeoiodalaa", sum := "88fdb8c844371f3a9394969ed03ad69ff40e8ba9af0f9c27af1d0793953554b1", func := "loop.example/g00588/laws.FnExactIsFork", spec := "fnExactIsFork", unfollowed := true, recurses := true, apart := false, narrowed := true }
def FnExactIsForkUptoSaid : Prop := fnExactIsForkUptoRow.holds Try.pinned (OpenSpec.upto fnExactIsForkSpec)

/-- 'laws.FnExactForkZone', WHERE WHAT IT READS IS OF BULK AT MOST 1048576: true; the input reads as it did. -/
def fnExactForkZoneUptoRow : OpenClaim := { program := "ytbdifkeoiodalaa", sum := "88fdb8c844371f3a9394969ed03ad69ff40e8ba9af0f9c27af1d0793953554b1", func := "loop.example/g00588/laws.FnExactForkZone", spec := "fnExactForkZone", unfollowed := true, recurses := true, apart := false, narrowed := true }
def FnExactForkZoneUptoSaid : Prop := fnExactForkZoneUptoRow.holds Try.pinned (OpenSpec.upto fnExactForkZoneSpec)

/-- 'laws.FnExactEqualLooks', WHERE WHAT IT READS IS OF BULK AT MOST 1048576: true; the input reads as it did. -/
def fnExactEqualLooksUptoRow : OpenClaim := { program := "ytbdifkeoiodalaa", sum := "88fdb8c844371f3a9394969ed03ad69ff40e8ba9af0f9c27af1d0793953554b1", func := "loop.example/g00588/laws.FnExactEqualLooks", spec := "fnExactEqualLooks", unfollowed := true, recurses := true, apart := false, narrowed := true }
def FnExactEqualLooksUptoSaid : Prop := fnExactEqualLooksUptoRow.holds Try.pinned (OpenSpec.upto fnExactEqualLooksSpec)

/-- 'laws.FnExactOwnersAt', WHERE WHAT IT READS IS OF BULK AT MOST 1048576: true; the input reads as it did. -/
def fnExactOwnersAtUptoRow : OpenClaim := { program := "ytbdifkeoiodalaa", sum := "88fdb8c844371f3a9394969ed03ad69ff40e8ba9af0f9c27af1d0793953554b1", func := "loop.example/g00588/laws.FnExactOwnersAt", spec := "fnExactOwnersAt", unfollowed := true, recurses := true, apart := false, narrowed := true }
def FnExactOwnersAtUptoSaid : Prop := fnExactOwnersAtUptoRow.holds Try.pinned (OpenSpec.upto fnExactOwnersAtSpec)

/-- 'laws.FnExactBelievedOf', WHERE WHAT IT READS IS OF BULK AT MOST 1048576: true; the input reads as it did. -/
def fnExactBelievedOfUptoRow : OpenClaim := { program := "ytbdifkeoiodalaa", sum := "88fdb8c844371f3a9394969ed03ad69ff40e8ba9af0f9c27af1d0793953554b1", func := "loop.example/g00588/laws.FnExactBelievedOf", spec := "fnExactBelievedOf", apart := false, narrowed := true }
def FnExactBelievedOfUptoSaid : Prop := fnExactBelievedOfUptoRow.holds Try.pinned (OpenSpec.upto fnExactBelievedOfSpec)

end Rows
end Go.Proofs.Ytbdifkeoiodalaa
