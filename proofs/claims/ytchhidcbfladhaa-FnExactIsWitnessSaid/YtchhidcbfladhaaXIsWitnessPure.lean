/- The plain law of FnExactIsWitness: what the printed functions compute is true, for all data in range. -/
import Derived.Test.YtchhidcbfladhaaXIsWitnessPure0
namespace Go.Proofs.Ytchhidcbfladhaa
open V
set_option linter.unusedVariables false
set_option linter.unusedSimpArgs false
def sizeMarkS (x : List TMark) : Nat := x.length
def sizeWitness (x : TWitness) : Nat := sizeMarkS x.2
theorem szMarkS_v (x0 : List TMark) (L : Int) (hx : x0.length ≤ 9223372036854775807) (h0 : 0 ≤ L) (h1 : L ≤ 1048576) : laws_szMarkS x0 L = some (if (sizeMarkS x0 : Int) ≤ L then L - sizeMarkS x0 else -1) := by
  unfold laws_szMarkS sizeMarkS
  rw [w64 (by omega) (by omega)]
  by_cases h : (x0.length : Int) ≤ L
  · rw [if_pos h, decide_eq_false (by omega), cond_f]
  · rw [if_neg h, decide_eq_true (by omega), cond_t]
theorem szWitness_v (x0 : TWitness) (L : Int) (hx : x0.2.length ≤ 9223372036854775807) (h0 : 0 ≤ L) (h1 : L ≤ 1048576) : laws_szWitness x0 L = some (if (sizeWitness x0 : Int) ≤ L then L - sizeWitness x0 else -1) := by
  unfold laws_szWitness sizeWitness
  rw [szMarkS_v _ _ hx h0 h1, bind_s]
  by_cases h : (sizeMarkS x0.2 : Int) ≤ L
  · rw [if_pos h, decide_eq_false (by omega), cond_f]
  · rw [if_neg h, decide_eq_true (by omega), cond_t]
theorem toMarkS_l (x0 : List TMark) (hx : x0.length ≤ 1048576) : ∀ i n, i ≤ x0.length → x0.length - i < n → ∀ ys, ys = x0.take i ++ List.replicate (x0.length - i) dMark → laws_toMarkS.l6 x0 n (i : Int) ys = some x0 := by
  refine idx_ind ?_ ?_
  · intro n ys hy
    subst hy
    rw [laws_toMarkS.u6]
    simp only [laws_toMarkS.g6, lt_f (Nat.le_refl _), cond_f]
    simp
  · intro i n hi ih ys hy
    have hyl : i < ys.length := by subst hy; simp; omega
    rw [laws_toMarkS.u6]
    simp only [laws_toMarkS.g6, lt_t hi, lt_t hyl, ge_t, cond_t, laws_toMark, bind_s, w64_succ (i := i) (by omega), Int.toNat_natCast, at_n hi]
    exact ih _ (fill_set hy hi)
theorem toMarkS_v (x0 : List TMark) (hx : sizeMarkS x0 ≤ 1048576) : laws_toMarkS x0 = some x0 := by
  unfold sizeMarkS at hx
  unfold laws_toMarkS
  simp only [laws_toMarkS.b, beq_self_eq_true, cond_t, ge_t, Int.toNat_natCast]
  rw [decide_eq_true (by omega), cond_t]
  have := toMarkS_l x0 hx 0 KK (Nat.zero_le _) (KK_gt (by omega)) _ rfl
  simpa using this
theorem toWitness_v (x0 : TWitness) (hx : sizeWitness x0 ≤ 1048576) : laws_toWitness x0 = some x0 := by
  unfold laws_toWitness
  rw [toMarkS_v _ hx, bind_s]
theorem eqMark_v (a : TMark) : laws_eqMark a a = some true := by
  unfold laws_eqMark
  simp only [bne_self, cond_f]
theorem eqMarkS_l (x0 : List TMark) (hx : x0.length ≤ 1152921504606846976) : ∀ i n, i ≤ x0.length → x0.length - i < n → laws_eqMarkS.l8 x0 x0 n (i : Int) = some true := by
  refine idx_ind ?_ ?_
  · intro n
    rw [laws_eqMarkS.u8]
    simp only [laws_eqMarkS.g8, lt_f (Nat.le_refl _), cond_f]
  · intro i n hi ih
    rw [laws_eqMarkS.u8]
    simp only [laws_eqMarkS.g8, lt_t hi, ge_t, cond_t, bind_s, w64_succ (i := i) (by omega), eqMark_v, Bool.not_true, cond_f]
    exact ih
theorem eqMarkS_v (x0 : List TMark) (hx : sizeMarkS x0 ≤ 1152921504606846976) : laws_eqMarkS x0 x0 = some true := by
  unfold laws_eqMarkS
  simp only [laws_eqMarkS.b, len_eq (rfl : x0.length = x0.length), cond_f]
  have := eqMarkS_l x0 hx 0 KK (Nat.zero_le _) (KK_gt (by unfold sizeMarkS at hx; omega))
  simpa using this
theorem eqWitness_v (a : TWitness) (hx : sizeWitness a ≤ 1152921504606846976) : laws_eqWitness a a = some true := by
  unfold laws_eqWitness
  simp only [bne_self, cond_f, eqMarkS_v a.2 hx, bind_s, Bool.not_true]
theorem l1In_v (a b c : Int) : spec_l1In a b c = some (decide (b ≤ a) && decide (a ≤ c)) := by
  show (bif decide (b ≤ a) then some (decide (a ≤ c)) else some false) = _
  cases decide (b ≤ a) <;> rfl
theorem InRange_v (a b c : Int) : impl_InRange a b c = some (decide (b ≤ a) && decide (a ≤ c)) := by
  show (bif decide (b ≤ a) then some (decide (a ≤ c)) else some false) = _
  cases decide (b ≤ a) <;> rfl
def fnd {α : Type} (p : α → Bool) : List α → Int → Int
  | [], _ => -1
  | x :: xs, k => bif p x then k else fnd p xs (k + 1)
theorem fnd_cons {α : Type} (p : α → Bool) (x : α) (xs : List α) (k : Int) : fnd p (x :: xs) k = bif p x then k else fnd p xs (k + 1) := rfl
theorem fnd_step {α : Type} (p : α → Bool) {xs : List α} {i : Nat} (h : i < xs.length) : fnd p (xs.drop i) (i : Int) = bif p xs[i] then (i : Int) else fnd p (xs.drop (i + 1)) ((i + 1 : Nat) : Int) := by
  rw [List.drop_eq_getElem_cons h, fnd_cons]; rfl
theorem fnd_last {α : Type} (p : α → Bool) (xs : List α) (k : Int) : fnd p (xs.drop xs.length) k = -1 := by
  rw [List.drop_length]; rfl
theorem fnd_ge {α : Type} (p : α → Bool) (xs : List α) : ∀ k : Int, 0 ≤ k → decide (fnd p xs k ≥ 0) = xs.any p := by
  induction xs with
  | nil => intro k hk; rfl
  | cons x t ih =>
    intro k hk
    rw [fnd_cons, List.any_cons]
    cases p x with
    | true => rw [cond_t, Bool.true_or]; exact decide_eq_true hk
    | false => rw [cond_f, Bool.false_or]; exact ih _ (by omega)
theorem fnd_lo {α : Type} (p : α → Bool) (xs : List α) : ∀ k : Int, fnd p xs k = -1 ∨ k ≤ fnd p xs k := by
  induction xs with
  | nil => intro k; exact .inl rfl
  | cons x t ih =>
    intro k
    rw [fnd_cons]
    cases p x with
    | true => rw [cond_t]; right; omega
    | false => rw [cond_f]; rcases ih (k + 1) with h | h
               · exact .inl h
               · right; omega
theorem fnd_at {α : Type} (p : α → Bool) (xs : List α) : ∀ (k : Int) (i : Nat) (h : i < xs.length), p xs[i] = true → (fnd p xs k != k + i) = (xs.take i).any p := by
  induction xs with
  | nil => intro k i h; simp at h
  | cons x t ih =>
    intro k i h hp
    cases i with
    | zero =>
      have hx : p x = true := hp
      rw [fnd_cons, hx, cond_t]; simp
    | succ i =>
      rw [fnd_cons, List.take_succ_cons, List.any_cons]
      cases hx : p x with
      | true => rw [cond_t, Bool.true_or]; simp; omega
      | false =>
        rw [cond_f, Bool.false_or, ← ih (k + 1) i (by simpa using h) (by simpa using hp)]
        congr 1; omega
theorem and_bif (a b : Bool) : (bif a then b else false) = (a && b) := by cases a <;> rfl
def ofMk (a b : Int) (m : TMark) : Bool := m.1 == a && m.2.1 == b
theorem l19Find_l (x0 : TWitness) (a b : Int) (hx : x0.2.length ≤ 1048576) : ∀ i n, i ≤ x0.2.length → x0.2.length - i < n → spec_l19Find.l4 x0 a b n (i : Int) = some (fnd (ofMk a b) (x0.2.drop i) (i : Int)) := by
  refine idx_ind ?_ ?_
  · intro n
    rw [spec_l19Find.u4]
    simp only [spec_l19Find.g4, lt_f (Nat.le_refl _), cond_f, fnd_last]
  · intro i n hi ih
    rw [spec_l19Find.u4]
    simp only [spec_l19Find.g4, lt_t hi, ge_t, cond_t, w64_succ (i := i) (by omega), Int.toNat_natCast, at_n hi, fnd_step _ hi, ih]
    unfold ofMk
    cases (x0.2[i].1 == a) <;> cases (x0.2[i].2.1 == b) <;> rfl
theorem l19Find_v (x0 : TWitness) (a b : Int) (hx : x0.2.length ≤ 1048576) : spec_l19Find x0 a b = some (fnd (ofMk a b) x0.2 0) := by
  unfold spec_l19Find
  have := l19Find_l x0 a b hx 0 KK (Nat.zero_le _) (KK_gt (by omega))
  simpa [spec_l19Find.b] using this
theorem IndexFunc_Mark_l (x0 : List TMark) (x1 : TMark × Unit) (hx : x0.length ≤ 1048576) : ∀ i n, i ≤ x0.length → x0.length - i < n → slices_IndexFunc_impl_Mark.l4 x0 x1 n (x0.length : Int) (i : Int) = some (fnd (ofMk x1.1.1 x1.1.2.1) (x0.drop i) (i : Int)) := by
  refine idx_ind ?_ ?_
  · intro n
    rw [slices_IndexFunc_impl_Mark.u4]
    simp only [slices_IndexFunc_impl_Mark.g4, lt_f (Nat.le_refl _), cond_f, fnd_last]
  · intro i n hi ih
    rw [slices_IndexFunc_impl_Mark.u4]
    simp only [slices_IndexFunc_impl_Mark.g4, lt_t hi, ge_t, cond_t, w64_succ (i := i) (by omega), Int.toNat_natCast, at_n hi, fnd_step _ hi, ih]
    unfold impl_Mark_isOf ofMk
    rw [Bool.beq_comm (a := x0[i].1), Bool.beq_comm (a := x0[i].2.1)]
    cases (x1.1.1 == x0[i].1) <;> cases (x1.1.2.1 == x0[i].2.1) <;> rfl
theorem ContainsFunc_Mark_v (x0 : List TMark) (x1 : TMark × Unit) (hx : x0.length ≤ 1048576) : slices_ContainsFunc_impl_Mark x0 x1 = some (x0.any (ofMk x1.1.1 x1.1.2.1)) := by
  have h := IndexFunc_Mark_l x0 x1 hx 0 KK (Nat.zero_le _) (KK_gt (by omega))
  have e : slices_IndexFunc_impl_Mark x0 x1 = some (fnd (ofMk x1.1.1 x1.1.2.1) x0 0) := by
    unfold slices_IndexFunc_impl_Mark
    simpa [slices_IndexFunc_impl_Mark.b] using h
  unfold slices_ContainsFunc_impl_Mark
  rw [show ((x1.1, x1.2) : TMark × Unit) = x1 from rfl, e, bind_s, fnd_ge _ _ _ (Int.le_refl 0)]
def okMk (xs : List TMark) (i : Nat) (m : TMark) : Bool := (decide (0 ≤ m.1) && decide (m.1 ≤ 2147483646)) && ((decide (0 ≤ m.2.2) && decide (m.2.2 ≤ 2147483646)) && ((decide (0 ≤ m.2.1) && decide (m.2.1 ≤ 200)) && !(xs.take i).any (ofMk m.1 m.2.1)))
theorem IsWitness_l (x0 : TWitness) (hx : x0.2.length ≤ 1048576) : ∀ i n, i ≤ x0.2.length → x0.2.length - i < n → spec_IsWitness.l4 x0 n (i : Int) = impl_IsWitness.l4 x0 n (x0.2.length : Int) (i : Int) ∧ ∃ b, impl_IsWitness.l4 x0 n (x0.2.length : Int) (i : Int) = some b := by
  refine idx_ind ?_ ?_
  · intro n
    rw [spec_IsWitness.u4, impl_IsWitness.u4]
    simp only [spec_IsWitness.g4, impl_IsWitness.g4, lt_f (Nat.le_refl _), cond_f, l1In_v, impl_isKey, InRange_v, bind_s]
    refine ⟨trivial, ?_⟩
    cases (decide (1 ≤ x0.1) && decide (x0.1 ≤ 99)) <;> exact ⟨_, rfl⟩
  · intro i n hi ih
    obtain ⟨e, b, hb⟩ := ih
    have ht : (x0.2.take i).length ≤ 1048576 := by simp; omega
    have hp : ofMk x0.2[i].1 x0.2[i].2.1 x0.2[i] = true := by unfold ofMk; simp
    have hf := fnd_at (ofMk x0.2[i].1 x0.2[i].2.1) x0.2 0 i hi hp
    rw [Int.zero_add] at hf
    rw [spec_IsWitness.u4, impl_IsWitness.u4]
    have hle : decide ((i : Int) ≤ (x0.2.length : Int)) = true := decide_eq_true (by omega)
    simp only [spec_IsWitness.g4, impl_IsWitness.g4, lt_t hi, ge_t, cond_t, l1In_v, impl_isDigest, InRange_v, bind_s, w64_succ (i := i) (by omega), Int.toNat_natCast, at_n hi, l19Find_v _ _ _ hx, ContainsFunc_Mark_v _ _ ht, hle, decide_eq_true (Int.le_refl 0), hf, e, hb, and_self]
    cases (decide (0 ≤ x0.2[i].1) && decide (x0.2[i].1 ≤ 2147483646)) <;> cases (decide (0 ≤ x0.2[i].2.2) && decide (x0.2[i].2.2 ≤ 2147483646)) <;> cases (decide (0 ≤ x0.2[i].2.1) && decide (x0.2[i].2.1 ≤ 200)) <;> cases ((x0.2.take i).any (ofMk x0.2[i].1 x0.2[i].2.1)) <;> simp
theorem IsWitness_v (x0 : TWitness) (hx : x0.2.length ≤ 1048576) : ∃ b, spec_IsWitness x0 = some b ∧ impl_IsWitness x0 = some b := by
  obtain ⟨e, b, hb⟩ := IsWitness_l x0 hx 0 KK (Nat.zero_le _) (KK_gt (by omega))
  refine ⟨b, ?_, ?_⟩
  · unfold spec_IsWitness
    rw [← hb, ← e]; rfl
  · unfold impl_IsWitness
    rw [← hb]; rfl
theorem pure_FnExactIsWitness (x0 : TWitness) (h0 : x0.2.length ≤ 9223372036854775807) : laws_FnExactIsWitness x0 = some true := by
  unfold laws_FnExactIsWitness
  rw [szWitness_v _ _ h0 (by omega) (by omega), bind_s]
  by_cases hs0 : (sizeWitness x0 : Int) ≤ 1048576
  · have b0 : sizeWitness x0 ≤ 1048576 := by omega
    have c0 : x0.2.length ≤ 1048576 := b0
    obtain ⟨b, e1, e2⟩ := IsWitness_v x0 c0
    rw [if_pos hs0, decide_eq_false (by omega), cond_f]
    simp only [toWitness_v _ b0, bind_s, e1, e2, beq_self_eq_true, Bool.not_true, cond_f, eqWitness_v x0 (by omega)]
  · rw [if_neg hs0, decide_eq_true (by omega), cond_t]

end Go.Proofs.Ytchhidcbfladhaa
