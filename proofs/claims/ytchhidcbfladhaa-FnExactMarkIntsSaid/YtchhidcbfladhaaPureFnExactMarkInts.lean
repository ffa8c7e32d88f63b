/- Proves, in plain Lean, that the program's MarkInts returns what the reference's MarkInts returns, for every Mark. Conditions: none. -/
import Derived.Test.YtchhidcbfladhaaPFnExactMarkIntsx1
namespace Go.Proofs.Ytchhidcbfladhaa.Pure
open Go.RowKit Go.Proofs.Ytchhidcbfladhaa.PFnExactMarkInts Go.Proofs.YtchhidcbfladhaaW.PrintWords Go.Proofs.YtchhidcbfladhaaW.PrintLast
set_option linter.unusedSimpArgs false
theorem w1 : wrap64 1 = 1 := by kernel_rfl
theorem w2 : wrap64 2 = 2 := by kernel_rfl
theorem w3 : wrap64 3 = 3 := by kernel_rfl
theorem w4 : wrap64 4 = 4 := by kernel_rfl
theorem w5 : wrap64 5 = 5 := by kernel_rfl
theorem eq4 (a b c d : Int) : laws_eqIntS.f 6 [a, b, c, d] [a, b, c, d] = some true := by
  simp [laws_eqIntS.f, laws_eqIntS.l0, rd, w1, w2, w3, w4]
theorem mark4 (a b c d : Int) : laws_markIntS.f 6 [a, b, c, d] 1 = some (5, [1, 2, 3, 4]) := by
  simp [laws_markIntS.f, laws_markIntS.l0, w1, w2, w3, w4, w5]
theorem held4 : laws_heldIntS.f 6 [1, 2, 3, 4] 1 = some 5 := by kernel_rfl
theorem FnExactMarkInts (a b c : Int) : ∃ k, laws_FnExactMarkInts.f k a b c = some true := by
  refine ⟨6, ?_⟩
  unfold laws_FnExactMarkInts.f laws_toMark.f spec_MarkInts.f impl_MarkInts.f
  simp [eq4, mark4, held4]
end Go.Proofs.Ytchhidcbfladhaa.Pure
