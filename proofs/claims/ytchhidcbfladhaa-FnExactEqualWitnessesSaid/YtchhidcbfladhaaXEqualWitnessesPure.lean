/- The plain law of FnExactEqualWitnesses: what the printed functions compute is true, for all data in range. -/
import Derived.Test.YtchhidcbfladhaaXEqualWitnessesPure0
namespace Go.Proofs.Ytchhidcbfladhaa
open V
set_option linter.unusedVariables false
set_option linter.unusedSimpArgs false
def sizeMarkS (x : List TMark) : Nat := x.length
def sizeWitness (x : TWitness) : Nat := sizeMarkS x.2
theorem szMarkS_v (x0 : List TMark) (L : Int) (hx : x0.length ≤ 9223372036854775807) (h0 : 0 ≤ L) (h1 : L ≤ 1048576) : laws_szMarkS x0 L = some (if (sizeMarkS x0 : Int) ≤ L then L - sizeMarkS x0 else -1) := by
  unfold laws_szMarkS sizeMarkS
  rw [w64 (by omega) (by omega)]
  by_cases h : (x0.length : Int) ≤ L
  · rw [if_pos h, decide_eq_false (by omega), cond_f]
  · rw [if_neg h, decide_eq_true (by omega), cond_t]
theorem szWitness_v (x0 : TWitness) (L : Int) (hx : x0.2.length ≤ 9223372036854775807) (h0 : 0 ≤ L) (h1 : L ≤ 1048576) : laws_szWitness x0 L = some (if (sizeWitness x0 : Int) ≤ L then L - sizeWitness x0 else -1) := by
  unfold laws_szWitness sizeWitness
  rw [szMarkS_v _ _ hx h0 h1, bind_s]
  by_cases h : (sizeMarkS x0.2 : Int) ≤ L
  · rw [if_pos h, decide_eq_false (by omega), cond_f]
  · rw [if_neg h, decide_eq_true (by omega), cond_t]
theorem toMarkS_l (x0 : List TMark) (hx : x0.length ≤ 1048576) : ∀ i n, i ≤ x0.length → x0.length - i < n → ∀ ys, ys = x0.take i ++ List.replicate (x0.length - i) dMark → laws_toMarkS.l6 x0 n (i : Int) ys = some x0 := by
  refine idx_ind ?_ ?_
  · intro n ys hy
    subst hy
    rw [laws_toMarkS.u6]
    simp only [laws_toMarkS.g6, lt_f (Nat.le_refl _), cond_f]
    simp
  · intro i n hi ih ys hy
    have hyl : i < ys.length := by subst hy; simp; omega
    rw [laws_toMarkS.u6]
    simp only [laws_toMarkS.g6, lt_t hi, lt_t hyl, ge_t, cond_t, laws_toMark, bind_s, w64_succ (i := i) (by omega), Int.toNat_natCast, at_n hi]
    exact ih _ (fill_set hy hi)
theorem toMarkS_v (x0 : List TMark) (hx : sizeMarkS x0 ≤ 1048576) : laws_toMarkS x0 = some x0 := by
  unfold sizeMarkS at hx
  unfold laws_toMarkS
  simp only [laws_toMarkS.b, beq_self_eq_true, cond_t, ge_t, Int.toNat_natCast]
  rw [decide_eq_true (by omega), cond_t]
  have := toMarkS_l x0 hx 0 KK (Nat.zero_le _) (KK_gt (by omega)) _ rfl
  simpa using this
theorem toWitness_v (x0 : TWitness) (hx : sizeWitness x0 ≤ 1048576) : laws_toWitness x0 = some x0 := by
  unfold laws_toWitness
  rw [toMarkS_v _ hx, bind_s]
theorem eqMark_v (a : TMark) : laws_eqMark a a = some true := by
  unfold laws_eqMark
  simp only [bne_self, cond_f]
theorem eqMarkS_l (x0 : List TMark) (hx : x0.length ≤ 1152921504606846976) : ∀ i n, i ≤ x0.length → x0.length - i < n → laws_eqMarkS.l8 x0 x0 n (i : Int) = some true := by
  refine idx_ind ?_ ?_
  · intro n
    rw [laws_eqMarkS.u8]
    simp only [laws_eqMarkS.g8, lt_f (Nat.le_refl _), cond_f]
  · intro i n hi ih
    rw [laws_eqMarkS.u8]
    simp only [laws_eqMarkS.g8, lt_t hi, ge_t, cond_t, bind_s, w64_succ (i := i) (by omega), eqMark_v, Bool.not_true, cond_f]
    exact ih
theorem eqMarkS_v (x0 : List TMark) (hx : sizeMarkS x0 ≤ 1152921504606846976) : laws_eqMarkS x0 x0 = some true := by
  unfold laws_eqMarkS
  simp only [laws_eqMarkS.b, len_eq (rfl : x0.length = x0.length), cond_f]
  have := eqMarkS_l x0 hx 0 KK (Nat.zero_le _) (KK_gt (by unfold sizeMarkS at hx; omega))
  simpa using this
theorem eqWitness_v (a : TWitness) (hx : sizeWitness a ≤ 1152921504606846976) : laws_eqWitness a a = some true := by
  unfold laws_eqWitness
  simp only [bne_self, cond_f, eqMarkS_v a.2 hx, bind_s, Bool.not_true]
theorem markEq (a b : TMark) : ((a.1 == b.1) && ((a.2.1 == b.2.1) && ((a.2.2 == b.2.2) && true))) = decide (a = b) := by
  obtain ⟨a1, a2, a3⟩ := a
  obtain ⟨b1, b2, b3⟩ := b
  by_cases h1 : a1 = b1 <;> by_cases h2 : a2 = b2 <;> by_cases h3 : a3 = b3 <;> simp [h1, h2, h3]
theorem slices_Equal_impl_Mark_l (x0 x1 : List TMark) (hl : x0.length = x1.length) (hx : x0.length ≤ 1152921504606846976) : ∀ i n, i ≤ x0.length → x0.length - i < n → slices_Equal_impl_Mark.l8 x0 x1 n (x0.length : Int) (i : Int) = some (decide (x0.drop i = x1.drop i)) := by
  refine idx_ind ?_ ?_
  · intro n
    rw [slices_Equal_impl_Mark.u8]
    simp only [slices_Equal_impl_Mark.g8, lt_f (Nat.le_refl _), cond_f]
    rw [List.drop_length, hl, List.drop_length]; simp
  · intro i n hi ih
    have hi' : i < x1.length := by omega
    rw [slices_Equal_impl_Mark.u8]
    simp only [slices_Equal_impl_Mark.g8, lt_t hi, lt_t hi', ge_t, cond_t, w64_succ (i := i) (by omega), Int.toNat_natCast, at_n hi, at_n hi', markEq]
    rw [dec_step (drop_eq hi hi')]
    by_cases he : x0[i] = x1[i]
    · simp only [he, decide_true, Bool.not_true, cond_f, Bool.true_and]
      exact ih
    · simp only [he, decide_false, Bool.not_false, cond_t, Bool.false_and]
theorem slices_Equal_impl_Mark_v (x0 x1 : List TMark) (hx : x0.length ≤ 1152921504606846976) : slices_Equal_impl_Mark x0 x1 = some (decide (x0 = x1)) := by
  unfold slices_Equal_impl_Mark
  by_cases hl : x0.length = x1.length
  · simp only [slices_Equal_impl_Mark.b, len_eq hl, cond_f]
    have := slices_Equal_impl_Mark_l x0 x1 hl hx 0 KK (Nat.zero_le _) (KK_gt (by omega))
    simpa using this
  · simp only [slices_Equal_impl_Mark.b, len_ne hl, cond_t]
    rw [decide_eq_false (fun h => hl (by rw [h]))]
theorem spec_EqualWitnesses_l (x0 x1 : TWitness) (hl : x0.2.length = x1.2.length) (hx : x0.2.length ≤ 1152921504606846976) : ∀ i n, i ≤ x0.2.length → x0.2.length - i < n → spec_EqualWitnesses.l8 x0 x1 n (i : Int) = some (decide (x0.2.drop i = x1.2.drop i)) := by
  refine idx_ind ?_ ?_
  · intro n
    rw [spec_EqualWitnesses.u8]
    simp only [spec_EqualWitnesses.g8, lt_f (Nat.le_refl _), cond_f]
    rw [List.drop_length, hl, List.drop_length]; simp
  · intro i n hi ih
    have hi' : i < x1.2.length := by omega
    rw [spec_EqualWitnesses.u8]
    simp only [spec_EqualWitnesses.g8, lt_t hi, lt_t hi', ge_t, cond_t, w64_succ (i := i) (by omega), Int.toNat_natCast, at_n hi, at_n hi', markEq]
    rw [dec_step (drop_eq hi hi')]
    by_cases he : x0.2[i] = x1.2[i]
    · simp only [he, decide_true, Bool.not_true, cond_f, Bool.true_and]
      exact ih
    · simp only [he, decide_false, Bool.not_false, cond_t, Bool.false_and]
theorem spec_EqualWitnesses_v (x0 x1 : TWitness) (hx : x0.2.length ≤ 1152921504606846976) : spec_EqualWitnesses x0 x1 = some (x0.1 == x1.1 && decide (x0.2 = x1.2)) := by
  unfold spec_EqualWitnesses
  by_cases h1 : x0.1 = x1.1
  · simp only [spec_EqualWitnesses.b, spec_EqualWitnesses.l7, spec_EqualWitnesses.g7, h1, bne_self, cond_f, beq_self_eq_true, Bool.true_and]
    by_cases hl : x0.2.length = x1.2.length
    · simp only [len_eq hl, cond_f]
      have := spec_EqualWitnesses_l x0 x1 hl hx 0 KK (Nat.zero_le _) (KK_gt (by omega))
      simpa using this
    · simp only [len_ne hl, cond_t]
      rw [decide_eq_false (fun h => hl (by rw [h]))]
  · have e1 : (x0.1 != x1.1) = true := by simpa using h1
    have e2 : (x0.1 == x1.1) = false := by simpa using h1
    simp only [spec_EqualWitnesses.b, e1, e2, cond_t, Bool.false_and]
theorem impl_EqualWitnesses_v (x0 x1 : TWitness) (hx : x0.2.length ≤ 1152921504606846976) : impl_EqualWitnesses x0 x1 = some (x0.1 == x1.1 && decide (x0.2 = x1.2)) := by
  unfold impl_EqualWitnesses
  rw [slices_Equal_impl_Mark_v _ _ hx, bind_s]
  cases x0.1 == x1.1 <;> rfl
theorem pure_FnExactEqualWitnesses (x0 x1 : TWitness) (h0 : x0.2.length ≤ 9223372036854775807) (h1 : x1.2.length ≤ 9223372036854775807) : laws_FnExactEqualWitnesses x0 x1 = some true := by
  unfold laws_FnExactEqualWitnesses
  rw [szWitness_v _ _ h0 (by omega) (by omega), bind_s]
  by_cases hs0 : (sizeWitness x0 : Int) ≤ 1048576
  · rw [if_pos hs0, decide_eq_false (by omega), cond_f, szWitness_v _ _ h1 (by omega) (by omega), bind_s]
    by_cases hs1 : (sizeWitness x1 : Int) ≤ 1048576 - sizeWitness x0
    · have b0 : sizeWitness x0 ≤ 1048576 := by omega
      have b1 : sizeWitness x1 ≤ 1048576 := by omega
      have c0 : x0.2.length ≤ 1048576 := b0
      rw [if_pos hs1, decide_eq_false (by omega), cond_f]
      simp only [toWitness_v _ b0, toWitness_v _ b1, bind_s, spec_EqualWitnesses_v x0 x1 (by omega), impl_EqualWitnesses_v x0 x1 (by omega), beq_self_eq_true, Bool.not_true, cond_f, eqWitness_v x0 (by omega), eqWitness_v x1 (by omega)]
    · rw [if_neg hs1, decide_eq_true (by omega), cond_t]
  · rw [if_neg hs0, decide_eq_true (by omega), cond_t]

end Go.Proofs.Ytchhidcbfladhaa
