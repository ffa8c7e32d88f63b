/- Proves, in plain Lean, that the program's CodeText returns what the reference's CodeText returns, for every int argument. Conditions: none. -/
import Derived.Test.YtchhidcbfladhaaPFnExactCodeTextx1
namespace Go.Proofs.Ytchhidcbfladhaa.Pure
open Go.RowKit Go.Proofs.Ytchhidcbfladhaa.PFnExactCodeText Go.Proofs.YtchhidcbfladhaaW.PrintWords Go.Proofs.YtchhidcbfladhaaW.PrintLast

/-- YOURS: ∀ (a0 : Int), (Lit.int .i64 a0).wf = true → laws_FnExactCodeText.f a0 = some true
What it reaches (each with k first where it has rounds; `.mono`: more rounds tell the same; `.l0`, ..: its loops, with `.mono_l`): spec_l1In.f, spec_CodeText.f, impl_InRange.f, impl_nameOf.f, impl_CodeText.f, laws_FnExactCodeText.f -/
theorem sameCodeText (a : Int) (h : impl_CodeText.f a = spec_CodeText.f a) (hs : (spec_CodeText.f a).isSome = true) :
    laws_FnExactCodeText.f a = some true := by
  unfold laws_FnExactCodeText.f; rw [h]
  cases e : spec_CodeText.f a with
  | none => rw [e] at hs; cases hs
  | some x => show (if x.toList = x.toList then some true else some false) = some true; rw [if_pos rfl]

theorem FnExactCodeText : laws_FnExactCodeText.Pure := by
  intro a0 _
  by_cases h1 : 1 ≤ a0
  · by_cases h6 : a0 ≤ 6
    · have hh : a0 = 1 ∨ a0 = 2 ∨ a0 = 3 ∨ a0 = 4 ∨ a0 = 5 ∨ a0 = 6 := by omega
      rcases hh with h | h | h | h | h | h <;> subst h <;> exact sameCodeText _ (by kernel_rfl) (by kernel_rfl)
    · have e1 : spec_l1In.f a0 1 6 = some false := by
        unfold spec_l1In.f; rw [if_pos h1]; simp [h6]
      have e2 : impl_InRange.f a0 1 6 = some false := by
        unfold impl_InRange.f; rw [if_pos h1]; simp [h6]
      have e3 : spec_CodeText.f a0 = some ⟨#[]⟩ := by
        unfold spec_CodeText.f; rw [e1]; rfl
      have e4 : impl_CodeText.f a0 = some ⟨#[]⟩ := by
        unfold impl_CodeText.f impl_nameOf.f
        show Option.bind ((impl_InRange.f a0 1 6).bind _) _ = _
        rw [e2]; rfl
      exact sameCodeText _ (by rw [e3, e4]) (by rw [e3]; rfl)
  · have e1 : spec_l1In.f a0 1 6 = some false := by
      unfold spec_l1In.f; rw [if_neg h1]
    have e2 : impl_InRange.f a0 1 6 = some false := by
      unfold impl_InRange.f; rw [if_neg h1]
    have e3 : spec_CodeText.f a0 = some ⟨#[]⟩ := by
      unfold spec_CodeText.f; rw [e1]; rfl
    have e4 : impl_CodeText.f a0 = some ⟨#[]⟩ := by
      unfold impl_CodeText.f impl_nameOf.f
      show Option.bind ((impl_InRange.f a0 1 6).bind _) _ = _
      rw [e2]; rfl
    exact sameCodeText _ (by rw [e3, e4]) (by rw [e3]; rfl)

end Go.Proofs.Ytchhidcbfladhaa.Pure
