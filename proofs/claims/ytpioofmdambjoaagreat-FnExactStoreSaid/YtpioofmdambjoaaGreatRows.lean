/-
  No cell of these rows narrows 'for every input' (looked for: loops, veiled, ifaces, maps, wideKeys, modest, calm, conditions, laid).
  DERIVED. THE GIVEN ROWS OF THIS SEAT. 12 by the template 'for every input the law returns true; each argument reads behind the call as it read before'; 0 by the template 'total and deterministic' (their statements: YtpioofmdambjoaaGreatTotals.lean).
  GIVEN WITH THE SEED: the statements are not yours to turn. If you find one false, say at which input.
  Laid BY PROGRAM, IN A SANDBOX (cutbox-rows.mjs): the forced cells as the released guide's own fill.sh prints them over the translation e10fb7b081b8ff57… (all of the seat's roots in one cut). By AI agents, Wed Nov 11 2026. No macro, syntax, notation, axiom, sorry.
-/
import Derived.Test.YtpioofmdambjoaaGreatChecked
import GoSem.Claim
import GoSem.ClaimJoined
import GoSem.ClaimMapViews
import Derived.JoinedTies
import Derived.KernelRfl
namespace Go.Proofs.YtpioofmdambjoaaGreat
/- THE CELL 'sum', in the pinned program and in every row, IS THE sha256 OF THE DUMP (.gsa) THAT YtpioofmdambjoaaGreatProg.lean LOADS. Nothing in Lean hashes anything: it is a label: what it is worth is what the hold of that sum in a sandbox is worth. -/
noncomputable def Tryz.pinned : Pinned := { name := "ytpioofmdambjoaagreat", sum := "e10fb7b081b8ff57592c609cd8653cb22698ec77232297a0bc7b0e2a1a34bc08", checked := Tryz.checked }
namespace Rows
def none {H : Type} : Left H := { results := [], args := [] }

/-- 'laws.FnExactChangeHead': WHATEVER THE INPUT: true; the input reads as it did. -/
def fnExactChangeHeadSpec : ChangeSpec := { name := "fnExactChangeHead", fn := fun _ => fun
  | [d1, d2, d3, d4] => { results := [.lit (.bool true)], args := [d1, d2, d3, d4] }
  | _ => none }
def fnExactChangeHeadRow : OpenClaim := { program := "ytpioofmdambjoaagreat", sum := "e10fb7b081b8ff57592c609cd8653cb22698ec77232297a0bc7b0e2a1a34bc08", func := "loop.example/g00588/laws.FnExactChangeHead", spec := "fnExactChangeHead", inPlace := ["internal/bytealg.abigen_runtime_cmpstring"], unfollowed := true, recurses := true, apart := false }
def FnExactChangeHeadSaid : Prop := fnExactChangeHeadRow.holds Tryz.pinned (OpenSpec.ofChange fnExactChangeHeadSpec)

/-- ITS FALSE NEIGHBOUR: 'it returns false'. Refute it at one input. -/
def fnExactChangeHeadWrong : ChangeSpec := { name := "fnExactChangeHead", fn := fun _ => fun
  | [d1, d2, d3, d4] => { results := [.lit (.bool false)], args := [d1, d2, d3, d4] }
  | _ => none }
def FnExactChangeHeadWrongFalsely : Prop := fnExactChangeHeadRow.holds Tryz.pinned (OpenSpec.ofChange fnExactChangeHeadWrong)

/-- 'laws.FnExactForkIn': WHATEVER THE INPUT: true; the input reads as it did. -/
def fnExactForkInSpec : ChangeSpec := { name := "fnExactForkIn", fn := fun _ => fun
  | [d1, d2] => { results := [.lit (.bool true)], args := [d1, d2] }
  | _ => none }
def fnExactForkInRow : OpenClaim := { program := "ytpioofmdambjoaagreat", sum := "e10fb7b081b8ff57592c609cd8653cb22698ec77232297a0bc7b0e2a1a34bc08", func := "loop.example/g00588/laws.FnExactForkIn", spec := "fnExactForkIn", unfollowed := true, recurses := true, apart := false }
def FnExactForkInSaid : Prop := fnExactForkInRow.holds Tryz.pinned (OpenSpec.ofChange fnExactForkInSpec)

/-- ITS FALSE NEIGHBOUR: 'it returns false'. Refute it at one input. -/
def fnExactForkInWrong : ChangeSpec := { name := "fnExactForkIn", fn := fun _ => fun
  | [d1, d2] => { results := [.lit (.bool false)], args := [d1, d2] }
  | _ => none }
def FnExactForkInWrongFalsely : Prop := fnExactForkInRow.holds Tryz.pinned (OpenSpec.ofChange fnExactForkInWrong)

/-- 'laws.FnExactConfirm': WHATEVER THE INPUT: true; the input reads as it did. -/
def fnExactConfirmSpec : ChangeSpec := { name := "fnExactConfirm", fn := fun _ => fun
  | [d1, d2] => { results := [.lit (.bool true)], args := [d1, d2] }
  | _ => none }
def fnExactConfirmRow : OpenClaim := { program := "ytpioofmdambjoaagreat", sum := "e10fb7b081b8ff57592c609cd8653cb22698ec77232297a0bc7b0e2a1a34bc08", func := "loop.example/g00588/laws.FnExactConfirm", spec := "fnExactConfirm", unfollowed := true, recurses := true, apart := false }
def FnExactConfirmSaid : Prop := fnExactConfirmRow.holds Tryz.pinned (OpenSpec.ofChange fnExactConfirmSpec)

/-- ITS FALSE NEIGHBOUR: 'it returns false'. Refute it at one input. -/
def fnExactConfirmWrong : ChangeSpec := { name := "fnExactConfirm", fn := fun _ => fun
  | [d1, d2] => { results := [.lit (.bool false)], args := [d1, d2] }
  | _ => none }
def FnExactConfirmWrongFalsely : Prop := fnExactConfirmRow.holds Tryz.pinned (OpenSpec.ofChange fnExactConfirmWrong)

/-- 'laws.FnExactIsZone': WHATEVER THE INPUT: true; the input reads as it did. -/
def fnExactIsZoneSpec : ChangeSpec := { name := "fnExactIsZone", fn := fun _ => fun
  | [d] => { results := [.lit (.bool true)], args := [d] }
  | _ => none }
def fnExactIsZoneRow : OpenClaim := { program := "ytpioofmdambjoaagreat", sum := "e10fb7b081b8ff57592c609cd8653cb22698ec77232297a0bc7b0e2a1a34bc08", func := "loop.example/g00588/laws.FnExactIsZone", spec := "fnExactIsZone", inPlace := ["internal/bytealg.abigen_runtime_cmpstring"], unfollowed := true, recurses := true, apart := false }
def FnExactIsZoneSaid : Prop := fnExactIsZoneRow.holds Tryz.pinned (OpenSpec.ofChange fnExactIsZoneSpec)

/-- ITS FALSE NEIGHBOUR: 'it returns false'. Refute it at one input. -/
def fnExactIsZoneWrong : ChangeSpec := { name := "fnExactIsZone", fn := fun _ => fun
  | [d] => { results := [.lit (.bool false)], args := [d] }
  | _ => none }
def FnExactIsZoneWrongFalsely : Prop := fnExactIsZoneRow.holds Tryz.pinned (OpenSpec.ofChange fnExactIsZoneWrong)

/-- 'laws.FnExactZoneId': WHATEVER THE INPUT: true; the input reads as it did. -/
def fnExactZoneIdSpec : ChangeSpec := { name := "fnExactZoneId", fn := fun _ => fun
  | [d] => { results := [.lit (.bool true)], args := [d] }
  | _ => none }
def fnExactZoneIdRow : OpenClaim := { program := "ytpioofmdambjoaagreat", sum := "e10fb7b081b8ff57592c609cd8653cb22698ec77232297a0bc7b0e2a1a34bc08", func := "loop.example/g00588/laws.FnExactZoneId", spec := "fnExactZoneId", inPlace := ["internal/bytealg.abigen_runtime_cmpstring"], unfollowed := true, recurses := true, apart := false }
def FnExactZoneIdSaid : Prop := fnExactZoneIdRow.holds Tryz.pinned (OpenSpec.ofChange fnExactZoneIdSpec)

/-- ITS FALSE NEIGHBOUR: 'it returns false'. Refute it at one input. -/
def fnExactZoneIdWrong : ChangeSpec := { name := "fnExactZoneId", fn := fun _ => fun
  | [d] => { results := [.lit (.bool false)], args := [d] }
  | _ => none }
def FnExactZoneIdWrongFalsely : Prop := fnExactZoneIdRow.holds Tryz.pinned (OpenSpec.ofChange fnExactZoneIdWrong)

/-- 'laws.FnExactNewZone': WHATEVER THE INPUT: true; the input reads as it did. -/
def fnExactNewZoneSpec : ChangeSpec := { name := "fnExactNewZone", fn := fun _ => fun
  | [d1, d2, d3, d4, d5] => { results := [.lit (.bool true)], args := [d1, d2, d3, d4, d5] }
  | _ => none }
def fnExactNewZoneRow : OpenClaim := { program := "ytpioofmdambjoaagreat", sum := "e10fb7b081b8ff57592c609cd8653cb22698ec77232297a0bc7b0e2a1a34bc08", func := "loop.example/g00588/laws.FnExactNewZone", spec := "fnExactNewZone", inPlace := ["internal/bytealg.abigen_runtime_cmpstring"], unfollowed := true, recurses := true, apart := false }
def FnExactNewZoneSaid : Prop := fnExactNewZoneRow.holds Tryz.pinned (OpenSpec.ofChange fnExactNewZoneSpec)

/-- ITS FALSE NEIGHBOUR: 'it returns false'. Refute it at one input. -/
def fnExactNewZoneWrong : ChangeSpec := { name := "fnExactNewZone", fn := fun _ => fun
  | [d1, d2, d3, d4, d5] => { results := [.lit (.bool false)], args := [d1, d2, d3, d4, d5] }
  | _ => none }
def FnExactNewZoneWrongFalsely : Prop := fnExactNewZoneRow.holds Tryz.pinned (OpenSpec.ofChange fnExactNewZoneWrong)

/-- 'laws.FnExactIsServer': WHATEVER THE INPUT: true; the input reads as it did. -/
def fnExactIsServerSpec : ChangeSpec := { name := "fnExactIsServer", fn := fun _ => fun
  | [d] => { results := [.lit (.bool true)], args := [d] }
  | _ => none }
def fnExactIsServerRow : OpenClaim := { program := "ytpioofmdambjoaagreat", sum := "e10fb7b081b8ff57592c609cd8653cb22698ec77232297a0bc7b0e2a1a34bc08", func := "loop.example/g00588/laws.FnExactIsServer", spec := "fnExactIsServer", inPlace := ["internal/bytealg.abigen_runtime_cmpstring"], unfollowed := true, recurses := true, apart := false }
def FnExactIsServerSaid : Prop := fnExactIsServerRow.holds Tryz.pinned (OpenSpec.ofChange fnExactIsServerSpec)

/-- ITS FALSE NEIGHBOUR: 'it returns false'. Refute it at one input. -/
def fnExactIsServerWrong : ChangeSpec := { name := "fnExactIsServer", fn := fun _ => fun
  | [d] => { results := [.lit (.bool false)], args := [d] }
  | _ => none }
def FnExactIsServerWrongFalsely : Prop := fnExactIsServerRow.holds Tryz.pinned (OpenSpec.ofChange fnExactIsServerWrong)

/-- 'laws.FnExactServedZone': WHATEVER THE INPUT: true; the input reads as it did. -/
def fnExactServedZoneSpec : ChangeSpec := { name := "fnExactServedZone", fn := fun _ => fun
  | [d1, d2] => { results := [.lit (.bool true)], args := [d1, d2] }
  | _ => none }
def fnExactServedZoneRow : OpenClaim := { program := "ytpioofmdambjoaagreat", sum := "e10fb7b081b8ff57592c609cd8653cb22698ec77232297a0bc7b0e2a1a34bc08", func := "loop.example/g00588/laws.FnExactServedZone", spec := "fnExactServedZone", inPlace := ["internal/bytealg.abigen_runtime_cmpstring"], unfollowed := true, recurses := true, apart := false }
def FnExactServedZoneSaid : Prop := fnExactServedZoneRow.holds Tryz.pinned (OpenSpec.ofChange fnExactServedZoneSpec)

/-- ITS FALSE NEIGHBOUR: 'it returns false'. Refute it at one input. -/
def fnExactServedZoneWrong : ChangeSpec := { name := "fnExactServedZone", fn := fun _ => fun
  | [d1, d2] => { results := [.lit (.bool false)], args := [d1, d2] }
  | _ => none }
def FnExactServedZoneWrongFalsely : Prop := fnExactServedZoneRow.holds Tryz.pinned (OpenSpec.ofChange fnExactServedZoneWrong)

/-- 'laws.FnExactCheckAnswer': WHATEVER THE INPUT: true; the input reads as it did. -/
def fnExactCheckAnswerSpec : ChangeSpec := { name := "fnExactCheckAnswer", fn := fun _ => fun
  | [d1, d2, d3, d4] => { results := [.lit (.bool true)], args := [d1, d2, d3, d4] }
  | _ => none }
def fnExactCheckAnswerRow : OpenClaim := { program := "ytpioofmdambjoaagreat", sum := "e10fb7b081b8ff57592c609cd8653cb22698ec77232297a0bc7b0e2a1a34bc08", func := "loop.example/g00588/laws.FnExactCheckAnswer", spec := "fnExactCheckAnswer", inPlace := ["internal/bytealg.abigen_runtime_cmpstring"], unfollowed := true, recurses := true, apart := false }
def FnExactCheckAnswerSaid : Prop := fnExactCheckAnswerRow.holds Tryz.pinned (OpenSpec.ofChange fnExactCheckAnswerSpec)

/-- ITS FALSE NEIGHBOUR: 'it returns false'. Refute it at one input. -/
def fnExactCheckAnswerWrong : ChangeSpec := { name := "fnExactCheckAnswer", fn := fun _ => fun
  | [d1, d2, d3, d4] => { results := [.lit (.bool false)], args := [d1, d2, d3, d4] }
  | _ => none }
def FnExactCheckAnswerWrongFalsely : Prop := fnExactCheckAnswerRow.holds Tryz.pinned (OpenSpec.ofChange fnExactCheckAnswerWrong)

/-- 'laws.FnExactEntryIn': WHATEVER THE INPUT: true; the input reads as it did. -/
def fnExactEntryInSpec : ChangeSpec := { name := "fnExactEntryIn", fn := fun _ => fun
  | [d1, d2, d3, d4] => { results := [.lit (.bool true)], args := [d1, d2, d3, d4] }
  | _ => none }
def fnExactEntryInRow : OpenClaim := { program := "ytpioofmdambjoaagreat", sum := "e10fb7b081b8ff57592c609cd8653cb22698ec77232297a0bc7b0e2a1a34bc08", func := "loop.example/g00588/laws.FnExactEntryIn", spec := "fnExactEntryIn", inPlace := ["internal/bytealg.abigen_runtime_cmpstring"], unfollowed := true, recurses := true, apart := false }
def FnExactEntryInSaid : Prop := fnExactEntryInRow.holds Tryz.pinned (OpenSpec.ofChange fnExactEntryInSpec)

/-- ITS FALSE NEIGHBOUR: 'it returns false'. Refute it at one input. -/
def fnExactEntryInWrong : ChangeSpec := { name := "fnExactEntryIn", fn := fun _ => fun
  | [d1, d2, d3, d4] => { results := [.lit (.bool false)], args := [d1, d2, d3, d4] }
  | _ => none }
def FnExactEntryInWrongFalsely : Prop := fnExactEntryInRow.holds Tryz.pinned (OpenSpec.ofChange fnExactEntryInWrong)

/-- 'laws.FnExactPublish': WHATEVER THE INPUT: true; the input reads as it did. -/
def fnExactPublishSpec : ChangeSpec := { name := "fnExactPublish", fn := fun _ => fun
  | [d1, d2, d3, d4] => { results := [.lit (.bool true)], args := [d1, d2, d3, d4] }
  | _ => none }
def fnExactPublishRow : OpenClaim := { program := "ytpioofmdambjoaagreat", sum := "e10fb7b081b8ff57592c609cd8653cb22698ec77232297a0bc7b0e2a1a34bc08", func := "loop.example/g00588/laws.FnExactPublish", spec := "fnExactPublish", inPlace := ["internal/bytealg.abigen_runtime_cmpstring"], unfollowed := true, recurses := true, apart := false }
def FnExactPublishSaid : Prop := fnExactPublishRow.holds Tryz.pinned (OpenSpec.ofChange fnExactPublishSpec)

/-- ITS FALSE NEIGHBOUR: 'it returns false'. Refute it at one input. -/
def fnExactPublishWrong : ChangeSpec := { name := "fnExactPublish", fn := fun _ => fun
  | [d1, d2, d3, d4] => { results := [.lit (.bool false)], args := [d1, d2, d3, d4] }
  | _ => none }
def FnExactPublishWrongFalsely : Prop := fnExactPublishRow.holds Tryz.pinned (OpenSpec.ofChange fnExactPublishWrong)

/-- 'laws.FnExactStore': WHATEVER THE INPUT: true; the input reads as it did. -/
def fnExactStoreSpec : ChangeSpec := { name := "fnExactStore", fn := fun _ => fun
  | [d1, d2] => { results := [.lit (.bool true)], args := [d1, d2] }
  | _ => none }
def fnExactStoreRow : OpenClaim := { program := "ytpioofmdambjoaagreat", sum := "e10fb7b081b8ff57592c609cd8653cb22698ec77232297a0bc7b0e2a1a34bc08", func := "loop.example/g00588/laws.FnExactStore", spec := "fnExactStore", inPlace := ["internal/bytealg.abigen_runtime_cmpstring"], unfollowed := true, recurses := true, apart := false }
def FnExactStoreSaid : Prop := fnExactStoreRow.holds Tryz.pinned (OpenSpec.ofChange fnExactStoreSpec)

/-- ITS FALSE NEIGHBOUR: 'it returns false'. Refute it at one input. -/
def fnExactStoreWrong : ChangeSpec := { name := "fnExactStore", fn := fun _ => fun
  | [d1, d2] => { results := [.lit (.bool false)], args := [d1, d2] }
  | _ => none }
def FnExactStoreWrongFalsely : Prop := fnExactStoreRow.holds Tryz.pinned (OpenSpec.ofChange fnExactStoreWrong)

/- THE SECOND FORM. 'bulk': how many values and letters a reading holds, each counted each time it is reached (what is shared counts as often as it is met; a slice's spare places count too). A statement '..UptoSaid' is the law's where the arguments, and the package variables that the reading takes, are together of bulk at most 1048576: NARROWER than '..Said'. Prove '..Said' where nothing that the law and all that it calls make is longer than what came in: it says more and counts as full. Else prove '..UptoSaid'. A law counts once. -/
mutual
def uptoBulk {H : Type} : DataW H → Nat
  | .lit (.string bytes) => bytes.length + 1
  | .lit _ => 1
  | .nil => 1
  | .ptr d => uptoBulk d + 1
  | .slice elems spare => uptoBulkAll elems + uptoBulkAll spare + 1
  | .agg parts => uptoBulkAll parts + 1
  | .iface _ d => uptoBulk d + 1
  | .map entries => uptoBulkEntries entries + 1
  | .held _ => 1
def uptoBulkAll {H : Type} : List (DataW H) → Nat
  | [] => 0
  | d :: r => uptoBulk d + uptoBulkAll r
def uptoBulkEntries {H : Type} : List (Lit × DataW H) → Nat
  | [] => 0
  | x :: r => uptoBulkEntry x + uptoBulkEntries r
def uptoBulkEntry {H : Type} : Lit × DataW H → Nat
  | (.string bytes, d) => bytes.length + uptoBulk d + 1
  | (_, d) => uptoBulk d + 1
 end
def uptoSmall : (H : Type) → List (DataW H) → Bool := fun _ ds => decide (uptoBulkAll ds ≤ 1048576)
def OpenSpec.upto (s : _root_.Go.ChangeSpec) : _root_.Go.OpenSpec := { _root_.Go.OpenSpec.ofChange s with cond := some uptoSmall }

/-- 'laws.FnExactChangeHead', WHERE WHAT IT READS IS OF BULK AT MOST 1048576: true; the input reads as it did. -/
def fnExactChangeHeadUptoRow : OpenClaim := { program := "ytpioofmdambjoaagreat", sum := "e10fb7b081b8ff57592c609cd8653cb22698ec77232297a0bc7b0e2a1a34bc08", func := "loop.example/g00588/laws.FnExactChangeHead", spec := "fnExactChangeHead", inPlace := ["internal/bytealg.abigen_runtime_cmpstring"], unfollowed := true, recurses := true, apart := false, narrowed := true }
def FnExactChangeHeadUptoSaid : Prop := fnExactChangeHeadUptoRow.holds Tryz.pinned (OpenSpec.upto fnExactChangeHeadSpec)

/-- 'laws.FnExactForkIn', WHERE WHAT IT READS IS OF BULK AT MOST 1048576: true; the input reads as it did. -/
def fnExactForkInUptoRow : OpenClaim := { program := "ytpioofmdambjoaagreat", sum := "e10fb7b081b8ff57592c609cd8653cb22698ec77232297a0bc7b0e2a1a34bc08", func := "loop.example/g00588/laws.FnExactForkIn", spec := "fnExactForkIn", unfollowed := true, recurses := true, apart := false, narrowed := true }
def FnExactForkInUptoSaid : Prop := fnExactForkInUptoRow.holds Tryz.pinned (OpenSpec.upto fnExactForkInSpec)

/-- 'laws.FnExactConfirm', WHERE WHAT IT READS IS OF BULK AT MOST 1048576: true; the input reads as it did. -/
def fnExactConfirmUptoRow : OpenClaim := { program := "ytpioofmdambjoaagreat", sum := "e10fb7b081b8ff57592c609cd8653cb22698ec77232297a0bc7b0e2a1a34bc08", func := "loop.example/g00588/laws.FnExactConfirm", spec := "fnExactConfirm", unfollowed := true, recurses := true, apart := false, narrowed := true }
def FnExactConfirmUptoSaid : Prop := fnExactConfirmUptoRow.holds Tryz.pinned (OpenSpec.upto fnExactConfirmSpec)

/-- 'laws.FnExactIsZone', WHERE WHAT IT READS IS OF BULK AT MOST 1048576: true; the input reads as it did. -/
def fnExactIsZoneUptoRow : OpenClaim := { program := "ytpioofmdambjoaagreat", sum := "e10fb7b081b8ff57592c609cd8653cb22698ec77232297a0bc7b0e2a1a34bc08", func := "loop.example/g00588/laws.FnExactIsZone", spec := "fnExactIsZone", inPlace := ["internal/bytealg.abigen_runtime_cmpstring"], unfollowed := true, recurses := true, apart := false, narrowed := true }
def FnExactIsZoneUptoSaid : Prop := fnExactIsZoneUptoRow.holds Tryz.pinned (OpenSpec.upto fnExactIsZoneSpec)

/-- 'laws.FnExactZoneId', WHERE WHAT IT READS IS OF BULK AT MOST 1048576: true; the input reads as it did. -/
def fnExactZoneIdUptoRow : OpenClaim := { program := "ytpioofmdambjoaagreat", sum := "e10fb7b081b8ff57592c609cd8653cb22698ec77232297a0bc7b0e2a1a34bc08", func := "loop.example/g00588/laws.FnExactZoneId", spec := "fnExactZoneId", inPlace := ["internal/bytealg.abigen_runtime_cmpstring"], unfollowed := true, recurses := true, apart := false, narrowed := true }
def FnExactZoneIdUptoSaid : Prop := fnExactZoneIdUptoRow.holds Tryz.pinned (OpenSpec.upto fnExactZoneIdSpec)

/-- 'laws.FnExactNewZone', WHERE WHAT IT READS IS OF BULK AT MOST 1048576: true; the input reads as it did. -/
def fnExactNewZoneUptoRow : OpenClaim := { program := "ytpioofmdambjoaagreat", sum := "e10fb7b081b8ff57592c609cd8653cb22698ec77232297a0bc7b0e2a1a34bc08", func := "loop.example/g00588/laws.FnExactNewZone", spec := "fnExactNewZone", inPlace := ["internal/bytealg.abigen_runtime_cmpstring"], unfollowed := true, recurses := true, apart := false, narrowed := true }
def FnExactNewZoneUptoSaid : Prop := fnExactNewZoneUptoRow.holds Tryz.pinned (OpenSpec.upto fnExactNewZoneSpec)

/-- 'laws.FnExactIsServer', WHERE WHAT IT READS IS OF BULK AT MOST 1048576: true; the input reads as it did. -/
def fnExactIsServerUptoRow : OpenClaim := { program := "ytpioofmdambjoaagreat", sum := "e10fb7b081b8ff57592c609cd8653cb22698ec77232297a0bc7b0e2a1a34bc08", func := "loop.example/g00588/laws.FnExactIsServer", spec := "fnExactIsServer", inPlace := ["internal/bytealg.abigen_runtime_cmpstring"], unfollowed := true, recurses := true, apart := false, narrowed := true }
def FnExactIsServerUptoSaid : Prop := fnExactIsServerUptoRow.holds Tryz.pinned (OpenSpec.upto fnExactIsServerSpec)

/-- 'laws.FnExactServedZone', WHERE WHAT IT READS IS OF BULK AT MOST 1048576: true; the input reads as it did. -/
def fnExactServedZoneUptoRow : OpenClaim := { program := "ytpioofmdambjoaagreat", sum := "e10fb7b081b8ff57592c609cd8653cb22698ec77232297a0bc7b0e2a1a34bc08", func := "loop.example/g00588/laws.FnExactServedZone", spec := "fnExactServedZone", inPlace := ["internal/bytealg.abigen_runtime_cmpstring"], unfollowed := true, recurses := true, apart := false, narrowed := true }
def FnExactServedZoneUptoSaid : Prop := fnExactServedZoneUptoRow.holds Tryz.pinned (OpenSpec.upto fnExactServedZoneSpec)

/-- 'laws.FnExactCheckAnswer', WHERE WHAT IT READS IS OF BULK AT MOST 1048576: true; the input reads as it did. -/
def fnExactCheckAnswerUptoRow : OpenClaim := { program := "ytpioofmdambjoaagreat", sum := "e10fb7b081b8ff57592c609cd8653cb22698ec77232297a0bc7b0e2a1a34bc08", func := "loop.example/g00588/laws.FnExactCheckAnswer", spec := "fnExactCheckAnswer", inPlace := ["internal/bytealg.abigen_runtime_cmpstring"], unfollowed := true, recurses := true, apart := false, narrowed := true }
def FnExactCheckAnswerUptoSaid : Prop := fnExactCheckAnswerUptoRow.holds Tryz.pinned (OpenSpec.upto fnExactCheckAnswerSpec)

/-- 'laws.FnExactEntryIn', WHERE WHAT IT READS IS OF BULK AT MOST 1048576: true; the input reads as it did. -/
def fnExactEntryInUptoRow : OpenClaim := { program := "ytpioofmdambjoaagreat", sum := "e10fb7b081b8ff57592c609cd8653cb22698ec77232297a0bc7b0e2a1a34bc08", func := "loop.example/g00588/laws.FnExactEntryIn", spec := "fnExactEntryIn", inPlace := ["internal/bytealg.abigen_runtime_cmpstring"], unfollowed := true, recurses := true, apart := false, narrowed := true }
def FnExactEntryInUptoSaid : Prop := fnExactEntryInUptoRow.holds Tryz.pinned (OpenSpec.upto fnExactEntryInSpec)

/-- 'laws.FnExactPublish', WHERE WHAT IT READS IS OF BULK AT MOST 1048576: true; the input reads as it did. -/
def fnExactPublishUptoRow : OpenClaim := { program := "ytpioofmdambjoaagreat", sum := "e10fb7b081b8ff57592c609cd8653cb22698ec77232297a0bc7b0e2a1a34bc08", func := "loop.example/g00588/laws.FnExactPublish", spec := "fnExactPublish", inPlace := ["internal/bytealg.abigen_runtime_cmpstring"], unfollowed := true, recurses := true, apart := false, narrowed := true }
def FnExactPublishUptoSaid : Prop := fnExactPublishUptoRow.holds Tryz.pinned (OpenSpec.upto fnExactPublishSpec)

/-- 'laws.FnExactStore', WHERE WHAT IT READS IS OF BULK AT MOST 1048576: true; the input reads as it did. -/
def fnExactStoreUptoRow : OpenClaim := { program := "ytpioofmdambjoaagreat", sum := "e10fb7b081b8ff57592c609cd8653cb22698ec77232297a0bc7b0e2a1a34bc08", func := "loop.example/g00588/laws.FnExactStore", spec := "fnExactStore", inPlace := ["internal/bytealg.abigen_runtime_cmpstring"], unfollowed := true, recurses := true, apart := false, narrowed := true }
def FnExactStoreUptoSaid : Prop := fnExactStoreUptoRow.holds Tryz.pinned (OpenSpec.upto fnExactStoreSpec)

end Rows
end Go.Proofs.YtpioofmdambjoaaGreat
