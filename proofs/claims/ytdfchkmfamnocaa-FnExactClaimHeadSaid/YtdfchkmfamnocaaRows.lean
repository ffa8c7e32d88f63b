/-
  No cell of these rows narrows 'for every input' (looked for: loops, veiled, ifaces, maps, wideKeys, modest, calm, conditions, laid).
  DERIVED. THE GIVEN ROWS OF THIS SEAT. 10 by the template 'for every input the law returns true; each argument reads behind the call as it read before'; 0 by the template 'total and deterministic' (their statements: YtdfchkmfamnocaaTotals.lean).
  GIVEN WITH THE SEED: the statements are not yours to turn. If you find one false, say at which input.
  Laid BY PROGRAM, IN A SANDBOX (cutbox-rows.mjs): the forced cells as the released guide's own fill.sh prints them over the translation 3fdc17b01fd0bbd3… (all of the seat's roots in one cut). By AI agents, Wed Nov 11 2026. No macro, syntax, notation, axiom, sorry.
-/
import Derived.Test.YtdfchkmfamnocaaChecked
import GoSem.Claim
import GoSem.ClaimJoined
import GoSem.ClaimMapViews
import Derived.JoinedTies
import Derived.KernelRfl
namespace Go.Proofs.Ytdfchkmfamnocaa
/- THE CELL 'sum', in the pinned program and in every row, IS THE sha256 OF THE DUMP (.gsa) THAT YtdfchkmfamnocaaProg.lean LOADS. Nothing in Lean hashes anything: it is a label: what it is worth is what the hold of that sum in a sandbox is worth. -/
noncomputable def Try.pinned : Pinned := { name := "ytdfchkmfamnocaa", sum := "3fdc17b01fd0bbd3c674cb4bce4a6d5adb0bf7fcf2ca5df154624bb7bdbf4365", checked := Try.checked }
namespace Rows
def none {H : Type} : Left H := { results := [], args := [] }

/-- 'laws.FnExactCountConfirms': WHATEVER THE INPUT: true; the input reads as it did. -/
def fnExactCountConfirmsSpec : ChangeSpec := { name := "fnExactCountConfirms", fn := fun _ => fun
  | [d1, d2, d3] => { results := [.lit (.bool true)], args := [d1, d2, d3] }
  | _ => none }
def fnExactCountConfirmsRow : OpenClaim := { program := "ytdfchkmfamnocaa", sum := "3fdc17b01fd0bbd3c674cb4bce4a6d5adb0bf7fcf2ca5df154624bb7bdbf4365", func := "loop.example/g00588/laws.FnExactCountConfirms", spec := "fnExactCountConfirms", unfollowed := true, recurses := true, apart := false }
def FnExactCountConfirmsSaid : Prop := fnExactCountConfirmsRow.holds Try.pinned (OpenSpec.ofChange fnExactCountConfirmsSpec)

/-- ITS FALSE NEIGHBOUR: 'it returns false'. Refute it at one input. -/
def fnExactCountConfirmsWrong : ChangeSpec := { name := "fnExactCountConfirms", fn := fun _ => fun
  | [d1, d2, d3] => { results := [.lit (.bool false)], args := [d1, d2, d3] }
  | _ => none }
def FnExactCountConfirmsWrongFalsely : Prop := fnExactCountConfirmsRow.holds Try.pinned (OpenSpec.ofChange fnExactCountConfirmsWrong)

/-- 'laws.FnExactIsConfirmed': WHATEVER THE INPUT: true; the input reads as it did. -/
def fnExactIsConfirmedSpec : ChangeSpec := { name := "fnExactIsConfirmed", fn := fun _ => fun
  | [d1, d2, d3] => { results := [.lit (.bool true)], args := [d1, d2, d3] }
  | _ => none }
def fnExactIsConfirmedRow : OpenClaim := { program := "ytdfchkmfamnocaa", sum := "3fdc17b01fd0bbd3c674cb4bce4a6d5adb0bf7fcf2ca5df154624bb7bdbf4365", func := "loop.example/g00588/laws.FnExactIsConfirmed", spec := "fnExactIsConfirmed", unfollowed := true, recurses := true, apart := false }
def FnExactIsConfirmedSaid : Prop := fnExactIsConfirmedRow.holds Try.pinned (OpenSpec.ofChange fnExactIsConfirmedSpec)

/-- ITS FALSE NEIGHBOUR: 'it returns false'. Refute it at one input. -/
def fnExactIsConfirmedWrong : ChangeSpec := { name := "fnExactIsConfirmed", fn := fun _ => fun
  | [d1, d2, d3] => { results := [.lit (.bool false)], args := [d1, d2, d3] }
  | _ => none }
def FnExactIsConfirmedWrongFalsely : Prop := fnExactIsConfirmedRow.holds Try.pinned (OpenSpec.ofChange fnExactIsConfirmedWrong)

/-- 'laws.FnExactEqualForks': WHATEVER THE INPUT: true; the input reads as it did. -/
def fnExactEqualForksSpec : ChangeSpec := { name := "fnExactEqualForks", fn := fun _ => fun
  | [d1, d2] => { results := [.lit (.bool true)], args := [d1, d2] }
  | _ => none }
def fnExactEqualForksRow : OpenClaim := { program := "ytdfchkmfamnocaa", sum := "3fdc17b01fd0bbd3c674cb4bce4a6d5adb0bf7fcf2ca5df154624bb7bdbf4365", func := "loop.example/g00588/laws.FnExactEqualForks", spec := "fnExactEqualForks", apart := false }
def FnExactEqualForksSaid : Prop := fnExactEqualForksRow.holds Try.pinned (OpenSpec.ofChange fnExactEqualForksSpec)

/-- ITS FALSE NEIGHBOUR: 'it returns false'. Refute it at one input. -/
def fnExactEqualForksWrong : ChangeSpec := { name := "fnExactEqualForks", fn := fun _ => fun
  | [d1, d2] => { results := [.lit (.bool false)], args := [d1, d2] }
  | _ => none }
def FnExactEqualForksWrongFalsely : Prop := fnExactEqualForksRow.holds Try.pinned (OpenSpec.ofChange fnExactEqualForksWrong)

/-- 'laws.FnExactNextHead': WHATEVER THE INPUT: true; the input reads as it did. -/
def fnExactNextHeadSpec : ChangeSpec := { name := "fnExactNextHead", fn := fun _ => fun
  | [d1, d2, d3, d4] => { results := [.lit (.bool true)], args := [d1, d2, d3, d4] }
  | _ => none }
def fnExactNextHeadRow : OpenClaim := { program := "ytdfchkmfamnocaa", sum := "3fdc17b01fd0bbd3c674cb4bce4a6d5adb0bf7fcf2ca5df154624bb7bdbf4365", func := "loop.example/g00588/laws.FnExactNextHead", spec := "fnExactNextHead", unfollowed := true, recurses := true, apart := false }
def FnExactNextHeadSaid : Prop := fnExactNextHeadRow.holds Try.pinned (OpenSpec.ofChange fnExactNextHeadSpec)

/-- ITS FALSE NEIGHBOUR: 'it returns false'. Refute it at one input. -/
def fnExactNextHeadWrong : ChangeSpec := { name := "fnExactNextHead", fn := fun _ => fun
  | [d1, d2, d3, d4] => { results := [.lit (.bool false)], args := [d1, d2, d3, d4] }
  | _ => none }
def FnExactNextHeadWrongFalsely : Prop := fnExactNextHeadRow.holds Try.pinned (OpenSpec.ofChange fnExactNextHeadWrong)

/-- 'laws.FnExactTurnFork': WHATEVER THE INPUT: true; the input reads as it did. -/
def fnExactTurnForkSpec : ChangeSpec := { name := "fnExactTurnFork", fn := fun _ => fun
  | [d] => { results := [.lit (.bool true)], args := [d] }
  | _ => none }
def fnExactTurnForkRow : OpenClaim := { program := "ytdfchkmfamnocaa", sum := "3fdc17b01fd0bbd3c674cb4bce4a6d5adb0bf7fcf2ca5df154624bb7bdbf4365", func := "loop.example/g00588/laws.FnExactTurnFork", spec := "fnExactTurnFork", apart := false }
def FnExactTurnForkSaid : Prop := fnExactTurnForkRow.holds Try.pinned (OpenSpec.ofChange fnExactTurnForkSpec)

/-- ITS FALSE NEIGHBOUR: 'it returns false'. Refute it at one input. -/
def fnExactTurnForkWrong : ChangeSpec := { name := "fnExactTurnFork", fn := fun _ => fun
  | [d] => { results := [.lit (.bool false)], args := [d] }
  | _ => none }
def FnExactTurnForkWrongFalsely : Prop := fnExactTurnForkRow.holds Try.pinned (OpenSpec.ofChange fnExactTurnForkWrong)

/-- 'laws.FnExactRotateHead': WHATEVER THE INPUT: true; the input reads as it did. -/
def fnExactRotateHeadSpec : ChangeSpec := { name := "fnExactRotateHead", fn := fun _ => fun
  | [d1, d2, d3, d4] => { results := [.lit (.bool true)], args := [d1, d2, d3, d4] }
  | _ => none }
def fnExactRotateHeadRow : OpenClaim := { program := "ytdfchkmfamnocaa", sum := "3fdc17b01fd0bbd3c674cb4bce4a6d5adb0bf7fcf2ca5df154624bb7bdbf4365", func := "loop.example/g00588/laws.FnExactRotateHead", spec := "fnExactRotateHead", unfollowed := true, recurses := true, apart := false }
def FnExactRotateHeadSaid : Prop := fnExactRotateHeadRow.holds Try.pinned (OpenSpec.ofChange fnExactRotateHeadSpec)

/-- ITS FALSE NEIGHBOUR: 'it returns false'. Refute it at one input. -/
def fnExactRotateHeadWrong : ChangeSpec := { name := "fnExactRotateHead", fn := fun _ => fun
  | [d1, d2, d3, d4] => { results := [.lit (.bool false)], args := [d1, d2, d3, d4] }
  | _ => none }
def FnExactRotateHeadWrongFalsely : Prop := fnExactRotateHeadRow.holds Try.pinned (OpenSpec.ofChange fnExactRotateHeadWrong)

/-- 'laws.FnExactNameHead': WHATEVER THE INPUT: true; the input reads as it did. -/
def fnExactNameHeadSpec : ChangeSpec := { name := "fnExactNameHead", fn := fun _ => fun
  | [d1, d2, d3, d4, d5, d6] => { results := [.lit (.bool true)], args := [d1, d2, d3, d4, d5, d6] }
  | _ => none }
def fnExactNameHeadRow : OpenClaim := { program := "ytdfchkmfamnocaa", sum := "3fdc17b01fd0bbd3c674cb4bce4a6d5adb0bf7fcf2ca5df154624bb7bdbf4365", func := "loop.example/g00588/laws.FnExactNameHead", spec := "fnExactNameHead", unfollowed := true, recurses := true, apart := false }
def FnExactNameHeadSaid : Prop := fnExactNameHeadRow.holds Try.pinned (OpenSpec.ofChange fnExactNameHeadSpec)

/-- ITS FALSE NEIGHBOUR: 'it returns false'. Refute it at one input. -/
def fnExactNameHeadWrong : ChangeSpec := { name := "fnExactNameHead", fn := fun _ => fun
  | [d1, d2, d3, d4, d5, d6] => { results := [.lit (.bool false)], args := [d1, d2, d3, d4, d5, d6] }
  | _ => none }
def FnExactNameHeadWrongFalsely : Prop := fnExactNameHeadRow.holds Try.pinned (OpenSpec.ofChange fnExactNameHeadWrong)

/-- 'laws.FnExactClaimHead': WHATEVER THE INPUT: true; the input reads as it did. -/
def fnExactClaimHeadSpec : ChangeSpec := { name := "fnExactClaimHead", fn := fun _ => fun
  | [d1, d2, d3] => { results := [.lit (.bool true)], args := [d1, d2, d3] }
  | _ => none }
def fnExactClaimHeadRow : OpenClaim := { program := "ytdfchkmfamnocaa", sum := "3fdc17b01fd0bbd3c674cb4bce4a6d5adb0bf7fcf2ca5df154624bb7bdbf4365", func := "loop.example/g00588/laws.FnExactClaimHead", spec := "fnExactClaimHead", unfollowed := true, recurses := true, apart := false }
def FnExactClaimHeadSaid : Prop := fnExactClaimHeadRow.holds Try.pinned (OpenSpec.ofChange fnExactClaimHeadSpec)

/-- ITS FALSE NEIGHBOUR: 'it returns false'. Refute it at one input. -/
def fnExactClaimHeadWrong : ChangeSpec := { name := "fnExactClaimHead", fn := fun _ => fun
  | [d1, d2, d3] => { results := [.lit (.bool false)], args := [d1, d2, d3] }
  | _ => none }
def FnExactClaimHeadWrongFalsely : Prop := fnExactClaimHeadRow.holds Try.pinned (OpenSpec.ofChange fnExactClaimHeadWrong)

/-- 'laws.FnExactJudgeHead': WHATEVER THE INPUT: true; the input reads as it did. -/
def fnExactJudgeHeadSpec : ChangeSpec := { name := "fnExactJudgeHead", fn := fun _ => fun
  | [d1, d2, d3, d4] => { results := [.lit (.bool true)], args := [d1, d2, d3, d4] }
  | _ => none }
def fnExactJudgeHeadRow : OpenClaim := { program := "ytdfchkmfamnocaa", sum := "3fdc17b01fd0bbd3c674cb4bce4a6d5adb0bf7fcf2ca5df154624bb7bdbf4365", func := "loop.example/g00588/laws.FnExactJudgeHead", spec := "fnExactJudgeHead", unfollowed := true, recurses := true, apart := false }
def FnExactJudgeHeadSaid : Prop := fnExactJudgeHeadRow.holds Try.pinned (OpenSpec.ofChange fnExactJudgeHeadSpec)

/-- ITS FALSE NEIGHBOUR: 'it returns false'. Refute it at one input. -/
def fnExactJudgeHeadWrong : ChangeSpec := { name := "fnExactJudgeHead", fn := fun _ => fun
  | [d1, d2, d3, d4] => { results := [.lit (.bool false)], args := [d1, d2, d3, d4] }
  | _ => none }
def FnExactJudgeHeadWrongFalsely : Prop := fnExactJudgeHeadRow.holds Try.pinned (OpenSpec.ofChange fnExactJudgeHeadWrong)

/-- 'laws.FnExactSignNext': WHATEVER THE INPUT: true; the input reads as it did. -/
def fnExactSignNextSpec : ChangeSpec := { name := "fnExactSignNext", fn := fun _ => fun
  | [d1, d2, d3] => { results := [.lit (.bool true)], args := [d1, d2, d3] }
  | _ => none }
def fnExactSignNextRow : OpenClaim := { program := "ytdfchkmfamnocaa", sum := "3fdc17b01fd0bbd3c674cb4bce4a6d5adb0bf7fcf2ca5df154624bb7bdbf4365", func := "loop.example/g00588/laws.FnExactSignNext", spec := "fnExactSignNext", apart := false }
def FnExactSignNextSaid : Prop := fnExactSignNextRow.holds Try.pinned (OpenSpec.ofChange fnExactSignNextSpec)

/-- ITS FALSE NEIGHBOUR: 'it returns false'. Refute it at one input. -/
def fnExactSignNextWrong : ChangeSpec := { name := "fnExactSignNext", fn := fun _ => fun
  | [d1, d2, d3] => { results := [.lit (.bool false)], args := [d1, d2, d3] }
  | _ => none }
def FnExactSignNextWrongFalsely : Prop := fnExactSignNextRow.holds Try.pinned (OpenSpec.ofChange fnExactSignNextWrong)

/- THE SECOND FORM. 'bulk': how many values and letters a reading holds, each counted each time it is reached (what is shared counts as often as it is met; a slice's spare places count too). A statement '..UptoSaid' is the law's where the arguments, and the package variables that the reading takes, are together of bulk at most 1048576: NARROWER than '..Said'. Prove '..Said' where nothing that the law and all that it calls make is longer than what came in: it says more and counts as full. Else prove '..UptoSaid'. A law counts once. -/
mutual
def uptoBulk {H : Type} : DataW H → Nat
  | .lit (.string bytes) => bytes.length + 1
  | .lit _ => 1
  | .nil => 1
  | .ptr d => uptoBulk d + 1
  | .slice elems spare => uptoBulkAll elems + uptoBulkAll spare + 1
  | .agg parts => uptoBulkAll parts + 1
  | .iface _ d => uptoBulk d + 1
  | .map entries => uptoBulkEntries entries + 1
  | .held _ => 1
def uptoBulkAll {H : Type} : List (DataW H) → Nat
  | [] => 0
  | d :: r => uptoBulk d + uptoBulkAll r
def uptoBulkEntries {H : Type} : List (Lit × DataW H) → Nat
  | [] => 0
  | x :: r => uptoBulkEntry x + uptoBulkEntries r
def uptoBulkEntry {H : Type} : Lit × DataW H → Nat
  | (.string bytes, d) => bytes.length + uptoBulk d + 1
  | (_, d) => uptoBulk d + 1
 end
def uptoSmall : (H : Type) → List (DataW H) → Bool := fun _ ds => decide (uptoBulkAll ds ≤ 1048576)
def OpenSpec.upto (s : _root_.Go.ChangeSpec) : _root_.Go.OpenSpec := { _root_.Go.OpenSpec.ofChange s with cond := some uptoSmall }

/-- 'laws.FnExactCountConfirms', WHERE WHAT IT READS IS OF BULK AT MOST 1048576: true; the input reads as it did. -/
def fnExactCountConfirmsUptoRow : OpenClaim := { program := "ytdfchkmfamnocaa", sum := "3fdc17b01fd0bbd3c674cb4bce4a6d5adb0bf7fcf2ca5df154624bb7bdbf4365", func := "loop.example/g00588/laws.FnExactCountConfirms", spec := "fnExactCountConfirms", unfollowed := true, recurses := true, apart := false, narrowed := true }
def FnExactCountConfirmsUptoSaid : Prop := fnExactCountConfirmsUptoRow.holds Try.pinned (OpenSpec.upto fnExactCountConfirmsSpec)

/-- 'laws.FnExactIsConfirmed', WHERE WHAT IT READS IS OF BULK AT MOST 1048576: true; the input reads as it did. -/
def fnExactIsConfirmedUptoRow : OpenClaim := { program := "ytdfchkmfamnocaa", sum := "3fdc17b01fd0bbd3c674cb4bce4a6d5adb0bf7fcf2ca5df154624bb7bdbf4365", func := "loop.example/g00588/laws.FnExactIsConfirmed", spec := "fnExactIsConfirmed", unfollowed := true, recurses := true, apart := false, narrowed := true }
def FnExactIsConfirmedUptoSaid : Prop := fnExactIsConfirmedUptoRow.holds Try.pinned (OpenSpec.upto fnExactIsConfirmedSpec)

/-- 'laws.FnExactEqualForks', WHERE WHAT IT READS IS OF BULK AT MOST 1048576: true; the input reads as it did. -/
def fnExactEqualForksUptoRow : OpenClaim := { program := "ytdfchkmfamnocaa", sum := "3fdc17b01fd0bbd3c674cb4bce4a6d5adb0bf7fcf2ca5df154624bb7bdbf4365", func := "loop.example/g00588/laws.FnExactEqualForks", spec := "fnExactEqualForks", apart := false, narrowed := true }
def FnExactEqualForksUptoSaid : Prop := fnExactEqualForksUptoRow.holds Try.pinned (OpenSpec.upto fnExactEqualForksSpec)

/-- 'laws.FnExactNextHead', WHERE WHAT IT READS IS OF BULK AT MOST 1048576: true; the input reads as it did. -/
def fnExactNextHeadUptoRow : OpenClaim := { program := "ytdfchkmfamnocaa", sum := "3fdc17b01fd0bbd3c674cb4bce4a6d5adb0bf7fcf2ca5df154624bb7bdbf4365", func := "loop.example/g00588/laws.FnExactNextHead", spec := "fnExactNextHead", unfollowed := true, recurses := true, apart := false, narrowed := true }
def FnExactNextHeadUptoSaid : Prop := fnExactNextHeadUptoRow.holds Try.pinned (OpenSpec.upto fnExactNextHeadSpec)

/-- 'laws.FnExactTurnFork', WHERE WHAT IT READS IS OF BULK AT MOST 1048576: true; the input reads as it did. -/
def fnExactTurnForkUptoRow : OpenClaim := { program := "ytdfchkmfamnocaa", sum := "3fdc17b01fd0bbd3c674cb4bce4a6d5adb0bf7fcf2ca5df154624bb7bdbf4365", func := "loop.example/g00588/laws.FnExactTurnFork", spec := "fnExactTurnFork", apart := false, narrowed := true }
def FnExactTurnForkUptoSaid : Prop := fnExactTurnForkUptoRow.holds Try.pinned (OpenSpec.upto fnExactTurnForkSpec)

/-- 'laws.FnExactRotateHead', WHERE WHAT IT READS IS OF BULK AT MOST 1048576: true; the input reads as it did. -/
def fnExactRotateHeadUptoRow : OpenClaim := { program := "ytdfchkmfamnocaa", sum := "3fdc17b01fd0bbd3c674cb4bce4a6d5adb0bf7fcf2ca5df154624bb7bdbf4365", func := "loop.example/g00588/laws.FnExactRotateHead", spec := "fnExactRotateHead", unfollowed := true, recurses := true, apart := false, narrowed := true }
def FnExactRotateHeadUptoSaid : Prop := fnExactRotateHeadUptoRow.holds Try.pinned (OpenSpec.upto fnExactRotateHeadSpec)

/-- 'laws.FnExactNameHead', WHERE WHAT IT READS IS OF BULK AT MOST 1048576: true; the input reads as it did. -/
def fnExactNameHeadUptoRow : OpenClaim := { program := "ytdfchkmfamnocaa", sum := "3fdc17b01fd0bbd3c674cb4bce4a6d5adb0bf7fcf2ca5df154624bb7bdbf4365", func := "loop.example/g00588/laws.FnExactNameHead", spec := "fnExactNameHead", unfollowed := true, recurses := true, apart := false, narrowed := true }
def FnExactNameHeadUptoSaid : Prop := fnExactNameHeadUptoRow.holds Try.pinned (OpenSpec.upto fnExactNameHeadSpec)

/-- 'laws.FnExactClaimHead', WHERE WHAT IT READS IS OF BULK AT MOST 1048576: true; the input reads as it did. -/
def fnExactClaimHeadUptoRow : OpenClaim := { program := "ytdfchkmfamnocaa", sum := "3fdc17b01fd0bbd3c674cb4bce4a6d5adb0bf7fcf2ca5df154624bb7bdbf4365", func := "loop.example/g00588/laws.FnExactClaimHead", spec := "fnExactClaimHead", unfollowed := true, recurses := true, apart := false, narrowed := true }
def FnExactClaimHeadUptoSaid : Prop := fnExactClaimHeadUptoRow.holds Try.pinned (OpenSpec.upto fnExactClaimHeadSpec)

/-- 'laws.FnExactJudgeHead', WHERE WHAT IT READS IS OF BULK AT MOST 1048576: true; the input reads as it did. -/
def fnExactJudgeHeadUptoRow : OpenClaim := { program := "ytdfchkmfamnocaa", sum := "3fdc17b01fd0bbd3c674cb4bce4a6d5adb0bf7fcf2ca5df154624bb7bdbf4365", func := "loop.example/g00588/laws.FnExactJudgeHead", spec := "fnExactJudgeHead", unfollowed := true, recurses := true, apart := false, narrowed := true }
def FnExactJudgeHeadUptoSaid : Prop := fnExactJudgeHeadUptoRow.holds Try.pinned (OpenSpec.upto fnExactJudgeHeadSpec)

/-- 'laws.FnExactSignNext', WHERE WHAT IT READS IS OF BULK AT MOST 1048576: true; the input reads as it did. -/
def fnExactSignNextUptoRow : OpenClaim := { program := "ytdfchkmfamnocaa", sum := "3fdc17b01fd0bbd3c674cb4bce4a6d5adb0bf7fcf2ca5df154624bb7bdbf4365", func := "loop.example/g00588/laws.FnExactSignNext", spec := "fnExactSignNext", apart := false, narrowed := true }
def FnExactSignNextUptoSaid : Prop := fnExactSignNextUptoRow.holds Try.pinned (OpenSpec.upto fnExactSignNextSpec)

end Rows
end Go.Proofs.Ytdfchkmfamnocaa
