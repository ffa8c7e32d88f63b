/-
  No cell of these rows narrows 'for every input' (looked for: loops, veiled, ifaces, maps, wideKeys, modest, calm, conditions, laid).
  DERIVED. THE GIVEN ROWS OF THIS SEAT. 6 by the template 'for every input the law returns true; each argument reads behind the call as it read before'; 0 by the template 'total and deterministic' (their statements: YtchhidcbfladhaaTotals.lean).
  GIVEN WITH THE SEED: the statements are not yours to turn. If you find one false, say at which input.
  Laid BY PROGRAM, IN A SANDBOX (cutbox-rows.mjs): the forced cells as the released guide's own fill.sh prints them over the translation 9004bcc644120d92… (all of the seat's roots in one cut). By AI agents, Wed Nov 11 2026. No macro, syntax, notation, axiom, sorry.
-/
import Derived.Test.YtchhidcbfladhaaChecked
import GoSem.Claim
import GoSem.ClaimJoined
import GoSem.ClaimMapViews
import Derived.JoinedTies
import Derived.KernelRfl
namespace Go.Proofs.Ytchhidcbfladhaa
/- THE CELL 'sum', in the pinned program and in every row, IS THE sha256 OF THE DUMP (.gsa) THAT YtchhidcbfladhaaProg.lean LOADS. Nothing in Lean hashes anything: it is a label: what it is worth is what the hold of that sum in a sandbox is worth. -/
noncomputable def Try.pinned : Pinned := { name := "ytchhidcbfladhaa", sum := "9004bcc644120d92244993a87c3da55190054d588923c9b561c1d6cdfafcd456", checked := Try.checked }
namespace Rows
def none {H : Type} : Left H := { results := [], args := [] }

/-- 'laws.FnExactAnswerName': WHATEVER THE INPUT: true; the input reads as it did. -/
def fnExactAnswerNameSpec : ChangeSpec := { name := "fnExactAnswerName", fn := fun _ => fun
  | [d] => { results := [.lit (.bool true)], args := [d] }
  | _ => none }
def fnExactAnswerNameRow : OpenClaim := { program := "ytchhidcbfladhaa", sum := "9004bcc644120d92244993a87c3da55190054d588923c9b561c1d6cdfafcd456", func := "loop.example/g00588/laws.FnExactAnswerName", spec := "fnExactAnswerName", apart := false }
def FnExactAnswerNameSaid : Prop := fnExactAnswerNameRow.holds Try.pinned (OpenSpec.ofChange fnExactAnswerNameSpec)

/-- ITS FALSE NEIGHBOUR: 'it returns false'. Refute it at one input. -/
def fnExactAnswerNameWrong : ChangeSpec := { name := "fnExactAnswerName", fn := fun _ => fun
  | [d] => { results := [.lit (.bool false)], args := [d] }
  | _ => none }
def FnExactAnswerNameWrongFalsely : Prop := fnExactAnswerNameRow.holds Try.pinned (OpenSpec.ofChange fnExactAnswerNameWrong)

/-- 'laws.FnExactCodeText': WHATEVER THE INPUT: true; the input reads as it did. -/
def fnExactCodeTextSpec : ChangeSpec := { name := "fnExactCodeText", fn := fun _ => fun
  | [d] => { results := [.lit (.bool true)], args := [d] }
  | _ => none }
def fnExactCodeTextRow : OpenClaim := { program := "ytchhidcbfladhaa", sum := "9004bcc644120d92244993a87c3da55190054d588923c9b561c1d6cdfafcd456", func := "loop.example/g00588/laws.FnExactCodeText", spec := "fnExactCodeText", apart := false }
def FnExactCodeTextSaid : Prop := fnExactCodeTextRow.holds Try.pinned (OpenSpec.ofChange fnExactCodeTextSpec)

/-- ITS FALSE NEIGHBOUR: 'it returns false'. Refute it at one input. -/
def fnExactCodeTextWrong : ChangeSpec := { name := "fnExactCodeText", fn := fun _ => fun
  | [d] => { results := [.lit (.bool false)], args := [d] }
  | _ => none }
def FnExactCodeTextWrongFalsely : Prop := fnExactCodeTextRow.holds Try.pinned (OpenSpec.ofChange fnExactCodeTextWrong)

/-- 'laws.FnExactMarkInts': WHATEVER THE INPUT: true; the input reads as it did. -/
def fnExactMarkIntsSpec : ChangeSpec := { name := "fnExactMarkInts", fn := fun _ => fun
  | [d] => { results := [.lit (.bool true)], args := [d] }
  | _ => none }
def fnExactMarkIntsRow : OpenClaim := { program := "ytchhidcbfladhaa", sum := "9004bcc644120d92244993a87c3da55190054d588923c9b561c1d6cdfafcd456", func := "loop.example/g00588/laws.FnExactMarkInts", spec := "fnExactMarkInts", apart := false }
def FnExactMarkIntsSaid : Prop := fnExactMarkIntsRow.holds Try.pinned (OpenSpec.ofChange fnExactMarkIntsSpec)

/-- ITS FALSE NEIGHBOUR: 'it returns false'. Refute it at one input. -/
def fnExactMarkIntsWrong : ChangeSpec := { name := "fnExactMarkInts", fn := fun _ => fun
  | [d] => { results := [.lit (.bool false)], args := [d] }
  | _ => none }
def FnExactMarkIntsWrongFalsely : Prop := fnExactMarkIntsRow.holds Try.pinned (OpenSpec.ofChange fnExactMarkIntsWrong)

/-- 'laws.FnExactEqualWitnesses': WHATEVER THE INPUT: true; the input reads as it did. -/
def fnExactEqualWitnessesSpec : ChangeSpec := { name := "fnExactEqualWitnesses", fn := fun _ => fun
  | [d1, d2] => { results := [.lit (.bool true)], args := [d1, d2] }
  | _ => none }
def fnExactEqualWitnessesRow : OpenClaim := { program := "ytchhidcbfladhaa", sum := "9004bcc644120d92244993a87c3da55190054d588923c9b561c1d6cdfafcd456", func := "loop.example/g00588/laws.FnExactEqualWitnesses", spec := "fnExactEqualWitnesses", apart := false }
def FnExactEqualWitnessesSaid : Prop := fnExactEqualWitnessesRow.holds Try.pinned (OpenSpec.ofChange fnExactEqualWitnessesSpec)

/-- ITS FALSE NEIGHBOUR: 'it returns false'. Refute it at one input. -/
def fnExactEqualWitnessesWrong : ChangeSpec := { name := "fnExactEqualWitnesses", fn := fun _ => fun
  | [d1, d2] => { results := [.lit (.bool false)], args := [d1, d2] }
  | _ => none }
def FnExactEqualWitnessesWrongFalsely : Prop := fnExactEqualWitnessesRow.holds Try.pinned (OpenSpec.ofChange fnExactEqualWitnessesWrong)

/-- 'laws.FnExactIsWitness': WHATEVER THE INPUT: true; the input reads as it did. -/
def fnExactIsWitnessSpec : ChangeSpec := { name := "fnExactIsWitness", fn := fun _ => fun
  | [d] => { results := [.lit (.bool true)], args := [d] }
  | _ => none }
def fnExactIsWitnessRow : OpenClaim := { program := "ytchhidcbfladhaa", sum := "9004bcc644120d92244993a87c3da55190054d588923c9b561c1d6cdfafcd456", func := "loop.example/g00588/laws.FnExactIsWitness", spec := "fnExactIsWitness", unfollowed := true, recurses := true, apart := false }
def FnExactIsWitnessSaid : Prop := fnExactIsWitnessRow.holds Try.pinned (OpenSpec.ofChange fnExactIsWitnessSpec)

/-- ITS FALSE NEIGHBOUR: 'it returns false'. Refute it at one input. -/
def fnExactIsWitnessWrong : ChangeSpec := { name := "fnExactIsWitness", fn := fun _ => fun
  | [d] => { results := [.lit (.bool false)], args := [d] }
  | _ => none }
def FnExactIsWitnessWrongFalsely : Prop := fnExactIsWitnessRow.holds Try.pinned (OpenSpec.ofChange fnExactIsWitnessWrong)

/-- 'laws.FnExactMarkOf': WHATEVER THE INPUT: true; the input reads as it did. -/
def fnExactMarkOfSpec : ChangeSpec := { name := "fnExactMarkOf", fn := fun _ => fun
  | [d] => { results := [.lit (.bool true)], args := [d] }
  | _ => none }
def fnExactMarkOfRow : OpenClaim := { program := "ytchhidcbfladhaa", sum := "9004bcc644120d92244993a87c3da55190054d588923c9b561c1d6cdfafcd456", func := "loop.example/g00588/laws.FnExactMarkOf", spec := "fnExactMarkOf", apart := false }
def FnExactMarkOfSaid : Prop := fnExactMarkOfRow.holds Try.pinned (OpenSpec.ofChange fnExactMarkOfSpec)

/-- ITS FALSE NEIGHBOUR: 'it returns false'. Refute it at one input. -/
def fnExactMarkOfWrong : ChangeSpec := { name := "fnExactMarkOf", fn := fun _ => fun
  | [d] => { results := [.lit (.bool false)], args := [d] }
  | _ => none }
def FnExactMarkOfWrongFalsely : Prop := fnExactMarkOfRow.holds Try.pinned (OpenSpec.ofChange fnExactMarkOfWrong)

/- THE SECOND FORM. 'bulk': how many values and letters a reading holds, each counted each time it is reached (what is shared counts as often as it is met; a slice's spare places count too). A statement '..UptoSaid' is the law's where the arguments, and the package variables that the reading takes, are together of bulk at most 1048576: NARROWER than '..Said'. Prove '..Said' where nothing that the law and all that it calls make is longer than what came in: it says more and counts as full. Else prove '..UptoSaid'. A law counts once. -/
mutual
def uptoBulk {H : Type} : DataW H → Nat
  | .lit (.string bytes) => bytes.length + 1
  | .lit _ => 1
  | .nil => 1
  | .ptr d => uptoBulk d + 1
  | .slice elems spare => uptoBulkAll elems + uptoBulkAll spare + 1
  | .agg parts => uptoBulkAll parts + 1
  | .iface _ d => uptoBulk d + 1
  | .map entries => uptoBulkEntries entries + 1
  | .held _ => 1
def uptoBulkAll {H : Type} : List (DataW H) → Nat
  | [] => 0
  | d :: r => uptoBulk d + uptoBulkAll r
def uptoBulkEntries {H : Type} : List (Lit × DataW H) → Nat
  | [] => 0
  | x :: r => uptoBulkEntry x + uptoBulkEntries r
def uptoBulkEntry {H : Type} : Lit × DataW H → Nat
  | (.string bytes, d) => bytes.length + uptoBulk d + 1
  | (_, d) => uptoBulk d + 1
 end
def uptoSmall : (H : Type) → List (DataW H) → Bool := fun _ ds => decide (uptoBulkAll ds ≤ 1048576)
def OpenSpec.upto (s : _root_.Go.ChangeSpec) : _root_.Go.OpenSpec := { _root_.Go.OpenSpec.ofChange s with cond := some uptoSmall }

/-- 'laws.FnExactAnswerName', WHERE WHAT IT READS IS OF BULK AT MOST 1048576: true; the input reads as it did. -/
def fnExactAnswerNameUptoRow : OpenClaim := { program := "ytchhidcbfladhaa", sum := "9004bcc644120d92244993a87c3da55190054d588923c9b561c1d6cdfafcd456", func := "loop.example/g00588/laws.FnExactAnswerName", spec := "fnExactAnswerName", apart := false, narrowed := true }
def FnExactAnswerNameUptoSaid : Prop := fnExactAnswerNameUptoRow.holds Try.pinned (OpenSpec.upto fnExactAnswerNameSpec)

/-- 'laws.FnExactCodeText', WHERE WHAT IT READS IS OF BULK AT MOST 1048576: true; the input reads as it did. -/
def fnExactCodeTextUptoRow : OpenClaim := { program := "ytchhidcbfladhaa", sum := "9004bcc644120d92244993a87c3da55190054d588923c9b561c1d6cdfafcd456", func := "loop.example/g00588/laws.FnExactCodeText", spec := "fnExactCodeText", apart := false, narrowed := true }
def FnExactCodeTextUptoSaid : Prop := fnExactCodeTextUptoRow.holds Try.pinned (OpenSpec.upto fnExactCodeTextSpec)

/-- 'laws.FnExactMarkInts', WHERE WHAT IT READS IS OF BULK AT MOST 1048576: true; the input reads as it did. -/
def fnExactMarkIntsUptoRow : OpenClaim := { program := "ytchhidcbfladhaa", sum := "9004bcc644120d92244993a87c3da55190054d588923c9b561c1d6cdfafcd456", func := "loop.example/g00588/laws.FnExactMarkInts", spec := "fnExactMarkInts", apart := false, narrowed := true }
def FnExactMarkIntsUptoSaid : Prop := fnExactMarkIntsUptoRow.holds Try.pinned (OpenSpec.upto fnExactMarkIntsSpec)

/-- 'laws.FnExactEqualWitnesses', WHERE WHAT IT READS IS OF BULK AT MOST 1048576: true; the input reads as it did. -/
def fnExactEqualWitnessesUptoRow : OpenClaim := { program := "ytchhidcbfladhaa", sum := "9004bcc644120d92244993a87c3da55190054d588923c9b561c1d6cdfafcd456", func := "loop.example/g00588/laws.FnExactEqualWitnesses", spec := "fnExactEqualWitnesses", apart := false, narrowed := true }
def FnExactEqualWitnessesUptoSaid : Prop := fnExactEqualWitnessesUptoRow.holds Try.pinned (OpenSpec.upto fnExactEqualWitnessesSpec)

/-- 'laws.FnExactIsWitness', WHERE WHAT IT READS IS OF BULK AT MOST 1048576: true; the input reads as it did. -/
def fnExactIsWitnessUptoRow : OpenClaim := { program := "ytchhidcbfladhaa", sum := "9004bcc644120d92244993a87c3da55190054d588923c9b561c1d6cdfafcd456", func := "loop.example/g00588/laws.FnExactIsWitness", spec := "fnExactIsWitness", unfollowed := true, recurses := true, apart := false, narrowed := true }
def FnExactIsWitnessUptoSaid : Prop := fnExactIsWitnessUptoRow.holds Try.pinned (OpenSpec.upto fnExactIsWitnessSpec)

/-- 'laws.FnExactMarkOf', WHERE WHAT IT READS IS OF BULK AT MOST 1048576: true; the input reads as it did. -/
def fnExactMarkOfUptoRow : OpenClaim := { program := "ytchhidcbfladhaa", sum := "9004bcc644120d92244993a87c3da55190054d588923c9b561c1d6cdfafcd456", func := "loop.example/g00588/laws.FnExactMarkOf", spec := "fnExactMarkOf", apart := false, narrowed := true }
def FnExactMarkOfUptoSaid : Prop := fnExactMarkOfUptoRow.holds Try.pinned (OpenSpec.upto fnExactMarkOfSpec)

end Rows
end Go.Proofs.Ytchhidcbfladhaa
