/-
  No cell of these rows narrows 'for every input' (looked for: loops, veiled, ifaces, maps, wideKeys, modest, calm, conditions, laid).
  DERIVED. THE GIVEN ROWS OF THIS SEAT. 12 by the template 'for every input the law returns true; each argument reads behind the call as it read before'; 0 by the template 'total and deterministic' (their statements: YtmplinobompncaaGreatTotals.lean).
  GIVEN WITH THE SEED: the statements are not yours to turn. If you find one false, say at which input.
  Laid BY PROGRAM, IN A SANDBOX (cutbox-rows.mjs): the forced cells as the released guide's own fill.sh prints them over the translation d637c8dc8e01c2b5… (all of the seat's roots in one cut). By AI agents, Wed Nov 11 2026. No macro, syntax, notation, axiom, sorry.
-/
import Derived.Test.YtmplinobompncaaGreatChecked
import GoSem.Claim
import GoSem.ClaimJoined
import GoSem.ClaimMapViews
import Derived.JoinedTies
import Derived.KernelRfl
namespace Go.Proofs.YtmplinobompncaaGreat
/- THE CELL 'sum', in the pinned program and in every row, IS THE sha256 OF THE DUMP (.gsa) THAT YtmplinobompncaaGreatProg.lean LOADS. Nothing in Lean hashes anything: it is a label: what it is worth is what the hold of that sum in a sandbox is worth. -/
noncomputable def Tryz.pinned : Pinned := { name := "ytmplinobompncaagreat", sum := "d637c8dc8e01c2b5b1f4b8239ba18778e4355ec4391277eae372d3ab2f6dbe7f", checked := Tryz.checked }
namespace Rows
def none {H : Type} : Left H := { results := [], args := [] }

/-- 'laws.FnExactAsk': WHATEVER THE INPUT: true; the input reads as it did. -/
def fnExactAskSpec : ChangeSpec := { name := "fnExactAsk", fn := fun _ => fun
  | [d1, d2, d3] => { results := [.lit (.bool true)], args := [d1, d2, d3] }
  | _ => none }
def fnExactAskRow : OpenClaim := { program := "ytmplinobompncaagreat", sum := "d637c8dc8e01c2b5b1f4b8239ba18778e4355ec4391277eae372d3ab2f6dbe7f", func := "loop.example/g00588/laws.FnExactAsk", spec := "fnExactAsk", inPlace := ["internal/bytealg.abigen_runtime_cmpstring"], unfollowed := true, recurses := true, apart := false }
def FnExactAskSaid : Prop := fnExactAskRow.holds Tryz.pinned (OpenSpec.ofChange fnExactAskSpec)

/-- ITS FALSE NEIGHBOUR: 'it returns false'. Refute it at one input. -/
def fnExactAskWrong : ChangeSpec := { name := "fnExactAsk", fn := fun _ => fun
  | [d1, d2, d3] => { results := [.lit (.bool false)], args := [d1, d2, d3] }
  | _ => none }
def FnExactAskWrongFalsely : Prop := fnExactAskRow.holds Tryz.pinned (OpenSpec.ofChange fnExactAskWrong)

/-- 'laws.FnExactAskAll': WHATEVER THE INPUT: true; the input reads as it did. -/
def fnExactAskAllSpec : ChangeSpec := { name := "fnExactAskAll", fn := fun _ => fun
  | [d1, d2, d3] => { results := [.lit (.bool true)], args := [d1, d2, d3] }
  | _ => none }
def fnExactAskAllRow : OpenClaim := { program := "ytmplinobompncaagreat", sum := "d637c8dc8e01c2b5b1f4b8239ba18778e4355ec4391277eae372d3ab2f6dbe7f", func := "loop.example/g00588/laws.FnExactAskAll", spec := "fnExactAskAll", inPlace := ["internal/bytealg.abigen_runtime_cmpstring"], unfollowed := true, recurses := true, apart := false }
def FnExactAskAllSaid : Prop := fnExactAskAllRow.holds Tryz.pinned (OpenSpec.ofChange fnExactAskAllSpec)

/-- ITS FALSE NEIGHBOUR: 'it returns false'. Refute it at one input. -/
def fnExactAskAllWrong : ChangeSpec := { name := "fnExactAskAll", fn := fun _ => fun
  | [d1, d2, d3] => { results := [.lit (.bool false)], args := [d1, d2, d3] }
  | _ => none }
def FnExactAskAllWrongFalsely : Prop := fnExactAskAllRow.holds Tryz.pinned (OpenSpec.ofChange fnExactAskAllWrong)

/-- 'laws.FnChains': WHATEVER THE INPUT: true; the input reads as it did. -/
def fnChainsSpec : ChangeSpec := { name := "fnChains", fn := fun _ => fun
  | [d] => { results := [.lit (.bool true)], args := [d] }
  | _ => none }
def fnChainsRow : OpenClaim := { program := "ytmplinobompncaagreat", sum := "d637c8dc8e01c2b5b1f4b8239ba18778e4355ec4391277eae372d3ab2f6dbe7f", func := "loop.example/g00588/laws.FnChains", spec := "fnChains", unfollowed := true, recurses := true, apart := false }
def FnChainsSaid : Prop := fnChainsRow.holds Tryz.pinned (OpenSpec.ofChange fnChainsSpec)

/-- ITS FALSE NEIGHBOUR: 'it returns false'. Refute it at one input. -/
def fnChainsWrong : ChangeSpec := { name := "fnChains", fn := fun _ => fun
  | [d] => { results := [.lit (.bool false)], args := [d] }
  | _ => none }
def FnChainsWrongFalsely : Prop := fnChainsRow.holds Tryz.pinned (OpenSpec.ofChange fnChainsWrong)

/-- 'laws.FnWitnesses': WHATEVER THE INPUT: true; the input reads as it did. -/
def fnWitnessesSpec : ChangeSpec := { name := "fnWitnesses", fn := fun _ => fun
  | [d] => { results := [.lit (.bool true)], args := [d] }
  | _ => none }
def fnWitnessesRow : OpenClaim := { program := "ytmplinobompncaagreat", sum := "d637c8dc8e01c2b5b1f4b8239ba18778e4355ec4391277eae372d3ab2f6dbe7f", func := "loop.example/g00588/laws.FnWitnesses", spec := "fnWitnesses", unfollowed := true, recurses := true, apart := false }
def FnWitnessesSaid : Prop := fnWitnessesRow.holds Tryz.pinned (OpenSpec.ofChange fnWitnessesSpec)

/-- ITS FALSE NEIGHBOUR: 'it returns false'. Refute it at one input. -/
def fnWitnessesWrong : ChangeSpec := { name := "fnWitnesses", fn := fun _ => fun
  | [d] => { results := [.lit (.bool false)], args := [d] }
  | _ => none }
def FnWitnessesWrongFalsely : Prop := fnWitnessesRow.holds Tryz.pinned (OpenSpec.ofChange fnWitnessesWrong)

/-- 'laws.FnActs': WHATEVER THE INPUT: true; the input reads as it did. -/
def fnActsSpec : ChangeSpec := { name := "fnActs", fn := fun _ => fun
  | [d] => { results := [.lit (.bool true)], args := [d] }
  | _ => none }
def fnActsRow : OpenClaim := { program := "ytmplinobompncaagreat", sum := "d637c8dc8e01c2b5b1f4b8239ba18778e4355ec4391277eae372d3ab2f6dbe7f", func := "loop.example/g00588/laws.FnActs", spec := "fnActs", inPlace := ["internal/bytealg.abigen_runtime_cmpstring"], unfollowed := true, recurses := true, apart := false }
def FnActsSaid : Prop := fnActsRow.holds Tryz.pinned (OpenSpec.ofChange fnActsSpec)

/-- ITS FALSE NEIGHBOUR: 'it returns false'. Refute it at one input. -/
def fnActsWrong : ChangeSpec := { name := "fnActs", fn := fun _ => fun
  | [d] => { results := [.lit (.bool false)], args := [d] }
  | _ => none }
def FnActsWrongFalsely : Prop := fnActsRow.holds Tryz.pinned (OpenSpec.ofChange fnActsWrong)

/-- 'laws.FnExactBlameOf': WHATEVER THE INPUT: true; the input reads as it did. -/
def fnExactBlameOfSpec : ChangeSpec := { name := "fnExactBlameOf", fn := fun _ => fun
  | [d] => { results := [.lit (.bool true)], args := [d] }
  | _ => none }
def fnExactBlameOfRow : OpenClaim := { program := "ytmplinobompncaagreat", sum := "d637c8dc8e01c2b5b1f4b8239ba18778e4355ec4391277eae372d3ab2f6dbe7f", func := "loop.example/g00588/laws.FnExactBlameOf", spec := "fnExactBlameOf", unfollowed := true, recurses := true, apart := false }
def FnExactBlameOfSaid : Prop := fnExactBlameOfRow.holds Tryz.pinned (OpenSpec.ofChange fnExactBlameOfSpec)

/-- ITS FALSE NEIGHBOUR: 'it returns false'. Refute it at one input. -/
def fnExactBlameOfWrong : ChangeSpec := { name := "fnExactBlameOf", fn := fun _ => fun
  | [d] => { results := [.lit (.bool false)], args := [d] }
  | _ => none }
def FnExactBlameOfWrongFalsely : Prop := fnExactBlameOfRow.holds Tryz.pinned (OpenSpec.ofChange fnExactBlameOfWrong)

/-- 'laws.FnPublished': WHATEVER THE INPUT: true; the input reads as it did. -/
def fnPublishedSpec : ChangeSpec := { name := "fnPublished", fn := fun _ => fun
  | [d] => { results := [.lit (.bool true)], args := [d] }
  | _ => none }
def fnPublishedRow : OpenClaim := { program := "ytmplinobompncaagreat", sum := "d637c8dc8e01c2b5b1f4b8239ba18778e4355ec4391277eae372d3ab2f6dbe7f", func := "loop.example/g00588/laws.FnPublished", spec := "fnPublished", inPlace := ["internal/bytealg.abigen_runtime_cmpstring"], unfollowed := true, recurses := true, apart := false }
def FnPublishedSaid : Prop := fnPublishedRow.holds Tryz.pinned (OpenSpec.ofChange fnPublishedSpec)

/-- ITS FALSE NEIGHBOUR: 'it returns false'. Refute it at one input. -/
def fnPublishedWrong : ChangeSpec := { name := "fnPublished", fn := fun _ => fun
  | [d] => { results := [.lit (.bool false)], args := [d] }
  | _ => none }
def FnPublishedWrongFalsely : Prop := fnPublishedRow.holds Tryz.pinned (OpenSpec.ofChange fnPublishedWrong)

/-- 'laws.FnExactChangeZone': WHATEVER THE INPUT: true; the input reads as it did. -/
def fnExactChangeZoneSpec : ChangeSpec := { name := "fnExactChangeZone", fn := fun _ => fun
  | [d1, d2, d3, d4, d5] => { results := [.lit (.bool true)], args := [d1, d2, d3, d4, d5] }
  | _ => none }
def fnExactChangeZoneRow : OpenClaim := { program := "ytmplinobompncaagreat", sum := "d637c8dc8e01c2b5b1f4b8239ba18778e4355ec4391277eae372d3ab2f6dbe7f", func := "loop.example/g00588/laws.FnExactChangeZone", spec := "fnExactChangeZone", inPlace := ["internal/bytealg.abigen_runtime_cmpstring"], unfollowed := true, recurses := true, apart := false }
def FnExactChangeZoneSaid : Prop := fnExactChangeZoneRow.holds Tryz.pinned (OpenSpec.ofChange fnExactChangeZoneSpec)

/-- ITS FALSE NEIGHBOUR: 'it returns false'. Refute it at one input. -/
def fnExactChangeZoneWrong : ChangeSpec := { name := "fnExactChangeZone", fn := fun _ => fun
  | [d1, d2, d3, d4, d5] => { results := [.lit (.bool false)], args := [d1, d2, d3, d4, d5] }
  | _ => none }
def FnExactChangeZoneWrongFalsely : Prop := fnExactChangeZoneRow.holds Tryz.pinned (OpenSpec.ofChange fnExactChangeZoneWrong)

/-- 'laws.FnExactRenewZone': WHATEVER THE INPUT: true; the input reads as it did. -/
def fnExactRenewZoneSpec : ChangeSpec := { name := "fnExactRenewZone", fn := fun _ => fun
  | [d1, d2, d3, d4] => { results := [.lit (.bool true)], args := [d1, d2, d3, d4] }
  | _ => none }
def fnExactRenewZoneRow : OpenClaim := { program := "ytmplinobompncaagreat", sum := "d637c8dc8e01c2b5b1f4b8239ba18778e4355ec4391277eae372d3ab2f6dbe7f", func := "loop.example/g00588/laws.FnExactRenewZone", spec := "fnExactRenewZone", inPlace := ["internal/bytealg.abigen_runtime_cmpstring"], unfollowed := true, recurses := true, apart := false }
def FnExactRenewZoneSaid : Prop := fnExactRenewZoneRow.holds Tryz.pinned (OpenSpec.ofChange fnExactRenewZoneSpec)

/-- ITS FALSE NEIGHBOUR: 'it returns false'. Refute it at one input. -/
def fnExactRenewZoneWrong : ChangeSpec := { name := "fnExactRenewZone", fn := fun _ => fun
  | [d1, d2, d3, d4] => { results := [.lit (.bool false)], args := [d1, d2, d3, d4] }
  | _ => none }
def FnExactRenewZoneWrongFalsely : Prop := fnExactRenewZoneRow.holds Tryz.pinned (OpenSpec.ofChange fnExactRenewZoneWrong)

/-- 'laws.FnForks': WHATEVER THE INPUT: true; the input reads as it did. -/
def fnForksSpec : ChangeSpec := { name := "fnForks", fn := fun _ => fun
  | [d] => { results := [.lit (.bool true)], args := [d] }
  | _ => none }
def fnForksRow : OpenClaim := { program := "ytmplinobompncaagreat", sum := "d637c8dc8e01c2b5b1f4b8239ba18778e4355ec4391277eae372d3ab2f6dbe7f", func := "loop.example/g00588/laws.FnForks", spec := "fnForks", unfollowed := true, recurses := true, apart := false }
def FnForksSaid : Prop := fnForksRow.holds Tryz.pinned (OpenSpec.ofChange fnForksSpec)

/-- ITS FALSE NEIGHBOUR: 'it returns false'. Refute it at one input. -/
def fnForksWrong : ChangeSpec := { name := "fnForks", fn := fun _ => fun
  | [d] => { results := [.lit (.bool false)], args := [d] }
  | _ => none }
def FnForksWrongFalsely : Prop := fnForksRow.holds Tryz.pinned (OpenSpec.ofChange fnForksWrong)

/-- 'laws.FnExactAnswerFor': WHATEVER THE INPUT: true; the input reads as it did. -/
def fnExactAnswerForSpec : ChangeSpec := { name := "fnExactAnswerFor", fn := fun _ => fun
  | [d1, d2] => { results := [.lit (.bool true)], args := [d1, d2] }
  | _ => none }
def fnExactAnswerForRow : OpenClaim := { program := "ytmplinobompncaagreat", sum := "d637c8dc8e01c2b5b1f4b8239ba18778e4355ec4391277eae372d3ab2f6dbe7f", func := "loop.example/g00588/laws.FnExactAnswerFor", spec := "fnExactAnswerFor", inPlace := ["internal/bytealg.abigen_runtime_cmpstring"], unfollowed := true, recurses := true, apart := false }
def FnExactAnswerForSaid : Prop := fnExactAnswerForRow.holds Tryz.pinned (OpenSpec.ofChange fnExactAnswerForSpec)

/-- ITS FALSE NEIGHBOUR: 'it returns false'. Refute it at one input. -/
def fnExactAnswerForWrong : ChangeSpec := { name := "fnExactAnswerFor", fn := fun _ => fun
  | [d1, d2] => { results := [.lit (.bool false)], args := [d1, d2] }
  | _ => none }
def FnExactAnswerForWrongFalsely : Prop := fnExactAnswerForRow.holds Tryz.pinned (OpenSpec.ofChange fnExactAnswerForWrong)

/-- 'laws.FnAnswers': WHATEVER THE INPUT: true; the input reads as it did. -/
def fnAnswersSpec : ChangeSpec := { name := "fnAnswers", fn := fun _ => fun
  | [d] => { results := [.lit (.bool true)], args := [d] }
  | _ => none }
def fnAnswersRow : OpenClaim := { program := "ytmplinobompncaagreat", sum := "d637c8dc8e01c2b5b1f4b8239ba18778e4355ec4391277eae372d3ab2f6dbe7f", func := "loop.example/g00588/laws.FnAnswers", spec := "fnAnswers", inPlace := ["internal/bytealg.abigen_runtime_cmpstring"], unfollowed := true, recurses := true, apart := false }
def FnAnswersSaid : Prop := fnAnswersRow.holds Tryz.pinned (OpenSpec.ofChange fnAnswersSpec)

/-- ITS FALSE NEIGHBOUR: 'it returns false'. Refute it at one input. -/
def fnAnswersWrong : ChangeSpec := { name := "fnAnswers", fn := fun _ => fun
  | [d] => { results := [.lit (.bool false)], args := [d] }
  | _ => none }
def FnAnswersWrongFalsely : Prop := fnAnswersRow.holds Tryz.pinned (OpenSpec.ofChange fnAnswersWrong)

/- THE SECOND FORM. 'bulk': how many values and letters a reading holds, each counted each time it is reached (what is shared counts as often as it is met; a slice's spare places count too). A statement '..UptoSaid' is the law's where the arguments, and the package variables that the reading takes, are together of bulk at most 1048576: NARROWER than '..Said'. Prove '..Said' where nothing that the law and all that it calls make is longer than what came in: it says more and counts as full. Else prove '..UptoSaid'. A law counts once. -/
mutual
def uptoBulk {H : Type} : DataW H → Nat
  | .lit (.string bytes) => bytes.length + 1
  | .lit _ => 1
  | .nil => 1
  | .ptr d => uptoBulk d + 1
  | .slice elems spare => uptoBulkAll elems + uptoBulkAll spare + 1
  | .agg parts => uptoBulkAll parts + 1
  | .iface _ d => uptoBulk d + 1
  | .map entries => uptoBulkEntries entries + 1
  | .held _ => 1
def uptoBulkAll {H : Type} : List (DataW H) → Nat
  | [] => 0
  | d :: r => uptoBulk d + uptoBulkAll r
def uptoBulkEntries {H : Type} : List (Lit × DataW H) → Nat
  | [] => 0
  | x :: r => uptoBulkEntry x + uptoBulkEntries r
def uptoBulkEntry {H : Type} : Lit × DataW H → Nat
  | (.string bytes, d) => bytes.length + uptoBulk d + 1
  | (_, d) => uptoBulk d + 1
 end
def uptoSmall : (H : Type) → List (DataW H) → Bool := fun _ ds => decide (uptoBulkAll ds ≤ 1048576)
def OpenSpec.upto (s : _root_.Go.ChangeSpec) : _root_.Go.OpenSpec := { _root_.Go.OpenSpec.ofChange s with cond := some uptoSmall }

/-- 'laws.FnExactAsk', WHERE WHAT IT READS IS OF BULK AT MOST 1048576: true; the input reads as it did. -/
def fnExactAskUptoRow : OpenClaim := { program := "ytmplinobompncaagreat", sum := "d637c8dc8e01c2b5b1f4b8239ba18778e4355ec4391277eae372d3ab2f6dbe7f", func := "loop.example/g00588/laws.FnExactAsk", spec := "fnExactAsk", inPlace := ["internal/bytealg.abigen_runtime_cmpstring"], unfollowed := true, recurses := true, apart := false, narrowed := true }
def FnExactAskUptoSaid : Prop := fnExactAskUptoRow.holds Tryz.pinned (OpenSpec.upto fnExactAskSpec)

/-- 'laws.FnExactAskAll', WHERE WHAT IT READS IS OF BULK AT MOST 1048576: true; the input reads as it did. -/
def fnExactAskAllUptoRow : OpenClaim := { program := "ytmplinobompncaagreat", sum := "d637c8dc8e01c2b5b1f4b8239ba18778e4355ec4391277eae372d3ab2f6dbe7f", func := "loop.example/g00588/laws.FnExactAskAll", spec := "fnExactAskAll", inPlace := ["internal/bytealg.abigen_runtime_cmpstring"], unfollowed := true, recurses := true, apart := false, narrowed := true }
def FnExactAskAllUptoSaid : Prop := fnExactAskAllUptoRow.holds Tryz.pinned (OpenSpec.upto fnExactAskAllSpec)

/-- 'laws.FnChains', WHERE WHAT IT READS IS OF BULK AT MOST 1048576: true; the input reads as it did. -/
def fnChainsUptoRow : OpenClaim := { program := "ytmplinobompncaagreat", sum := "d637c8dc8e01c2b5b1f4b8239ba18778e4355ec4391277eae372d3ab2f6dbe7f", func := "loop.example/g00588/laws.FnChains", spec := "fnChains", unfollowed := true, recurses := true, apart := false, narrowed := true }
def FnChainsUptoSaid : Prop := fnChainsUptoRow.holds Tryz.pinned (OpenSpec.upto fnChainsSpec)

/-- 'laws.FnWitnesses', WHERE WHAT IT READS IS OF BULK AT MOST 1048576: true; the input reads as it did. -/
def fnWitnessesUptoRow : OpenClaim := { program := "ytmplinobompncaagreat", sum := "d637c8dc8e01c2b5b1f4b8239ba18778e4355ec4391277eae372d3ab2f6dbe7f", func := "loop.example/g00588/laws.FnWitnesses", spec := "fnWitnesses", unfollowed := true, recurses := true, apart := false, narrowed := true }
def FnWitnessesUptoSaid : Prop := fnWitnessesUptoRow.holds Tryz.pinned (OpenSpec.upto fnWitnessesSpec)

/-- 'laws.FnActs', WHERE WHAT IT READS IS OF BULK AT MOST 1048576: true; the input reads as it did. -/
def fnActsUptoRow : OpenClaim := { program := "ytmplinobompncaagreat", sum := "d637c8dc8e01c2b5b1f4b8239ba18778e4355ec4391277eae372d3ab2f6dbe7f", func := "loop.example/g00588/laws.FnActs", spec := "fnActs", inPlace := ["internal/bytealg.abigen_runtime_cmpstring"], unfollowed := true, recurses := true, apart := false, narrowed := true }
def FnActsUptoSaid : Prop := fnActsUptoRow.holds Tryz.pinned (OpenSpec.upto fnActsSpec)

/-- 'laws.FnExactBlameOf', WHERE WHAT IT READS IS OF BULK AT MOST 1048576: true; the input reads as it did. -/
def fnExactBlameOfUptoRow : OpenClaim := { program := "ytmplinobompncaagreat", sum := "d637c8dc8e01c2b5b1f4b8239ba18778e4355ec4391277eae372d3ab2f6dbe7f", func := "loop.example/g00588/laws.FnExactBlameOf", spec := "fnExactBlameOf", unfollowed := true, recurses := true, apart := false, narrowed := true }
def FnExactBlameOfUptoSaid : Prop := fnExactBlameOfUptoRow.holds Tryz.pinned (OpenSpec.upto fnExactBlameOfSpec)

/-- 'laws.FnPublished', WHERE WHAT IT READS IS OF BULK AT MOST 1048576: true; the input reads as it did. -/
def fnPublishedUptoRow : OpenClaim := { program := "ytmplinobompncaagreat", sum := "d637c8dc8e01c2b5b1f4b8239ba18778e4355ec4391277eae372d3ab2f6dbe7f", func := "loop.example/g00588/laws.FnPublished", spec := "fnPublished", inPlace := ["internal/bytealg.abigen_runtime_cmpstring"], unfollowed := true, recurses := true, apart := false, narrowed := true }
def FnPublishedUptoSaid : Prop := fnPublishedUptoRow.holds Tryz.pinned (OpenSpec.upto fnPublishedSpec)

/-- 'laws.FnExactChangeZone', WHERE WHAT IT READS IS OF BULK AT MOST 1048576: true; the input reads as it did. -/
def fnExactChangeZoneUptoRow : OpenClaim := { program := "ytmplinobompncaagreat", sum := "d637c8dc8e01c2b5b1f4b8239ba18778e4355ec4391277eae372d3ab2f6dbe7f", func := "loop.example/g00588/laws.FnExactChangeZone", spec := "fnExactChangeZone", inPlace := ["internal/bytealg.abigen_runtime_cmpstring"], unfollowed := true, recurses := true, apart := false, narrowed := true }
def FnExactChangeZoneUptoSaid : Prop := fnExactChangeZoneUptoRow.holds Tryz.pinned (OpenSpec.upto fnExactChangeZoneSpec)

/-- 'laws.FnExactRenewZone', WHERE WHAT IT READS IS OF BULK AT MOST 1048576: true; the input reads as it did. -/
def fnExactRenewZoneUptoRow : OpenClaim := { program := "ytmplinobompncaagreat", sum := "d637c8dc8e01c2b5b1f4b8239ba18778e4355ec4391277eae372d3ab2f6dbe7f", func := "loop.example/g00588/laws.FnExactRenewZone", spec := "fnExactRenewZone", inPlace := ["internal/bytealg.abigen_runtime_cmpstring"], unfollowed := true, recurses := true, apart := false, narrowed := true }
def FnExactRenewZoneUptoSaid : Prop := fnExactRenewZoneUptoRow.holds Tryz.pinned (OpenSpec.upto fnExactRenewZoneSpec)

/-- 'laws.FnForks', WHERE WHAT IT READS IS OF BULK AT MOST 1048576: true; the input reads as it did. -/
def fnForksUptoRow : OpenClaim := { program := "ytmplinobompncaagreat", sum := "d637c8dc8e01c2b5b1f4b8239ba18778e4355ec4391277eae372d3ab2f6dbe7f", func := "loop.example/g00588/laws.FnForks", spec := "fnForks", unfollowed := true, recurses := true, apart := false, narrowed := true }
def FnForksUptoSaid : Prop := fnForksUptoRow.holds Tryz.pinned (OpenSpec.upto fnForksSpec)

/-- 'laws.FnExactAnswerFor', WHERE WHAT IT READS IS OF BULK AT MOST 1048576: true; the input reads as it did. -/
def fnExactAnswerForUptoRow : OpenClaim := { program := "ytmplinobompncaagreat", sum := "d637c8dc8e01c2b5b1f4b8239ba18778e4355ec4391277eae372d3ab2f6dbe7f", func := "loop.example/g00588/laws.FnExactAnswerFor", spec := "fnExactAnswerFor", inPlace := ["internal/bytealg.abigen_runtime_cmpstring"], unfollowed := true, recurses := true, apart := false, narrowed := true }
def FnExactAnswerForUptoSaid : Prop := fnExactAnswerForUptoRow.holds Tryz.pinned (OpenSpec.upto fnExactAnswerForSpec)

/-- 'laws.FnAnswers', WHERE WHAT IT READS IS OF BULK AT MOST 1048576: true; the input reads as it did. -/
def fnAnswersUptoRow : OpenClaim := { program := "ytmplinobompncaagreat", sum := "d637c8dc8e01c2b5b1f4b8239ba18778e4355ec4391277eae372d3ab2f6dbe7f", func := "loop.example/g00588/laws.FnAnswers", spec := "fnAnswers", inPlace := ["internal/bytealg.abigen_runtime_cmpstring"], unfollowed := true, recurses := true, apart := false, narrowed := true }
def FnAnswersUptoSaid : Prop := fnAnswersUptoRow.holds Tryz.pinned (OpenSpec.upto fnAnswersSpec)

end Rows
end Go.Proofs.YtmplinobompncaaGreat
