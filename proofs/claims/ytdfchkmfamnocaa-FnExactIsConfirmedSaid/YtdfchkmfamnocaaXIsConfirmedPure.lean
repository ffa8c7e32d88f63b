/- The plain law of FnExactIsConfirmed: what the printed functions compute is true, for all data in range. -/
import Derived.Test.YtdfchkmfamnocaaXIsConfirmedPure0
namespace Go.Proofs.Ytdfchkmfamnocaa
open V
set_option linter.unusedVariables false
set_option linter.unusedSimpArgs false
theorem l1In_v (a b c : Int) : spec_l1In a b c = some (decide (b ≤ a) && decide (a ≤ c)) := by
  show (bif decide (b ≤ a) then some (decide (a ≤ c)) else some false) = _
  cases decide (b ≤ a) <;> rfl
theorem InRange_v (a b c : Int) : impl_InRange a b c = some (decide (b ≤ a) && decide (a ≤ c)) := by
  show (bif decide (b ≤ a) then some (decide (a ≤ c)) else some false) = _
  cases decide (b ≤ a) <;> rfl
def fnd {α : Type} (p : α → Bool) : List α → Int → Int
  | [], _ => -1
  | x :: xs, k => bif p x then k else fnd p xs (k + 1)
theorem fnd_cons {α : Type} (p : α → Bool) (x : α) (xs : List α) (k : Int) : fnd p (x :: xs) k = bif p x then k else fnd p xs (k + 1) := rfl
theorem fnd_step {α : Type} (p : α → Bool) {xs : List α} {i : Nat} (h : i < xs.length) : fnd p (xs.drop i) (i : Int) = bif p xs[i] then (i : Int) else fnd p (xs.drop (i + 1)) ((i + 1 : Nat) : Int) := by
  rw [List.drop_eq_getElem_cons h, fnd_cons]; rfl
theorem fnd_last {α : Type} (p : α → Bool) (xs : List α) (k : Int) : fnd p (xs.drop xs.length) k = -1 := by
  rw [List.drop_length]; rfl
theorem fnd_ge {α : Type} (p : α → Bool) (xs : List α) : ∀ k : Int, 0 ≤ k → decide (fnd p xs k ≥ 0) = xs.any p := by
  induction xs with
  | nil => intro k hk; rfl
  | cons x t ih =>
    intro k hk
    rw [fnd_cons, List.any_cons]
    cases p x with
    | true => rw [cond_t, Bool.true_or]; exact decide_eq_true hk
    | false => rw [cond_f, Bool.false_or]; exact ih _ (by omega)
theorem fnd_lo {α : Type} (p : α → Bool) (xs : List α) : ∀ k : Int, fnd p xs k = -1 ∨ k ≤ fnd p xs k := by
  induction xs with
  | nil => intro k; exact .inl rfl
  | cons x t ih =>
    intro k
    rw [fnd_cons]
    cases p x with
    | true => rw [cond_t]; right; omega
    | false => rw [cond_f]; rcases ih (k + 1) with h | h
               · exact .inl h
               · right; omega
theorem fnd_at {α : Type} (p : α → Bool) (xs : List α) : ∀ (k : Int) (i : Nat) (h : i < xs.length), p xs[i] = true → (fnd p xs k != k + i) = (xs.take i).any p := by
  induction xs with
  | nil => intro k i h; simp at h
  | cons x t ih =>
    intro k i h hp
    cases i with
    | zero =>
      have hx : p x = true := hp
      rw [fnd_cons, hx, cond_t]; simp
    | succ i =>
      rw [fnd_cons, List.take_succ_cons, List.any_cons]
      cases hx : p x with
      | true => rw [cond_t, Bool.true_or]; simp; omega
      | false =>
        rw [cond_f, Bool.false_or, ← ih (k + 1) i (by simpa using h) (by simpa using hp)]
        congr 1; omega
theorem and_bif (a b : Bool) : (bif a then b else false) = (a && b) := by cases a <;> rfl
theorem szIntS_v (x0 : List Int) (L : Int) (hx : x0.length ≤ 9223372036854775807) (h0 : 0 ≤ L) (h1 : L ≤ 1048576) : laws_szIntS x0 L = some (if (x0.length : Int) ≤ L then L - x0.length else -1) := by
  unfold laws_szIntS
  rw [w64 (by omega) (by omega)]
  by_cases h : (x0.length : Int) ≤ L
  · rw [if_pos h, decide_eq_false (by omega), cond_f]
  · rw [if_neg h, decide_eq_true (by omega), cond_t]
theorem toIntS_l (x0 : List Int) (hx : x0.length ≤ 1048576) : ∀ i n, i ≤ x0.length → x0.length - i < n → ∀ ys, ys = x0.take i ++ List.replicate (x0.length - i) (0 : Int) → laws_toIntS.l6 x0 n (i : Int) ys = some x0 := by
  refine idx_ind ?_ ?_
  · intro n ys hy
    subst hy
    rw [laws_toIntS.u6]
    simp only [laws_toIntS.g6, lt_f (Nat.le_refl _), cond_f]
    simp
  · intro i n hi ih ys hy
    have hyl : i < ys.length := by subst hy; simp; omega
    rw [laws_toIntS.u6]
    simp only [laws_toIntS.g6, lt_t hi, lt_t hyl, ge_t, cond_t, bind_s, w64_succ (i := i) (by omega), Int.toNat_natCast, at_n hi]
    exact ih _ (fill_set hy hi)
theorem toIntS_v (x0 : List Int) (hx : x0.length ≤ 1048576) : laws_toIntS x0 = some x0 := by
  unfold laws_toIntS
  simp only [laws_toIntS.b, beq_self_eq_true, cond_t, ge_t, Int.toNat_natCast]
  rw [decide_eq_true (by omega), cond_t]
  have := toIntS_l x0 hx 0 KK (Nat.zero_le _) (KK_gt (by omega)) _ rfl
  simpa using this
theorem eqIntS_l (x0 : List Int) (hx : x0.length ≤ 1152921504606846976) : ∀ i n, i ≤ x0.length → x0.length - i < n → laws_eqIntS.l8 x0 x0 n (i : Int) = some true := by
  refine idx_ind ?_ ?_
  · intro n
    rw [laws_eqIntS.u8]
    simp only [laws_eqIntS.g8, lt_f (Nat.le_refl _), cond_f]
  · intro i n hi ih
    rw [laws_eqIntS.u8]
    simp only [laws_eqIntS.g8, lt_t hi, ge_t, cond_t, bind_s, w64_succ (i := i) (by omega), bne_self, cond_f]
    exact ih
theorem eqIntS_v (x0 : List Int) (hx : x0.length ≤ 1152921504606846976) : laws_eqIntS x0 x0 = some true := by
  unfold laws_eqIntS
  simp only [laws_eqIntS.b, len_eq (rfl : x0.length = x0.length), cond_f]
  have := eqIntS_l x0 hx 0 KK (Nat.zero_le _) (KK_gt (by omega))
  simpa using this
theorem szKeys_v (x0 : TKeys) (L : Int) (hx : x0.1.length ≤ 9223372036854775807) (h0 : 0 ≤ L) (h1 : L ≤ 1048576) : laws_szKeys x0 L = some (if (x0.1.length : Int) ≤ L then L - x0.1.length else -1) := by
  unfold laws_szKeys
  rw [szIntS_v _ _ hx h0 h1, bind_s]
  by_cases h : (x0.1.length : Int) ≤ L
  · rw [if_pos h, decide_eq_false (by omega), cond_f]
  · rw [if_neg h, decide_eq_true (by omega), cond_t]
theorem toKeys_v (x0 : TKeys) (hx : x0.1.length ≤ 1048576) : laws_toKeys x0 = some x0 := by
  unfold laws_toKeys
  rw [toIntS_v _ hx, bind_s]
theorem eqKeys_v (a : TKeys) (hx : a.1.length ≤ 1152921504606846976) : laws_eqKeys a a = some true := by
  unfold laws_eqKeys
  simp only [bne_self, cond_f, eqIntS_v a.1 hx, bind_s, Bool.not_true]
def hk1 (x : THead) : TKeys := (x.2.2.2.2.2.2.2.2.1, x.2.2.2.2.2.2.2.2.2.1)
def hk2 (x : THead) : TKeys := (x.2.2.2.2.2.2.2.2.2.2.1, x.2.2.2.2.2.2.2.2.2.2.2.1)
def hk3 (x : THead) : TKeys := (x.2.2.2.2.2.2.2.2.2.2.2.2.2.1, x.2.2.2.2.2.2.2.2.2.2.2.2.2.2.1)
def sizeHead (x : THead) : Nat := (hk1 x).1.length + (hk2 x).1.length + (hk3 x).1.length
structure HeadMax (x : THead) : Prop where
  a : (hk1 x).1.length ≤ 9223372036854775807
  b : (hk2 x).1.length ≤ 9223372036854775807
  c : (hk3 x).1.length ≤ 9223372036854775807
theorem szHead_v (x0 : THead) (L : Int) (hx : HeadMax x0) (h0 : 0 ≤ L) (h1 : L ≤ 1048576) : laws_szHead x0 L = some (if (sizeHead x0 : Int) ≤ L then L - sizeHead x0 else -1) := by
  show ((laws_szKeys (hk1 x0) L).bind fun y1 => bif decide (y1 < (0 : Int)) then some (-1 : Int) else (laws_szKeys (hk2 x0) y1).bind fun y2 => bif decide (y2 < (0 : Int)) then some (-1 : Int) else (laws_szKeys (hk3 x0) y2).bind fun y3 => bif decide (y3 < (0 : Int)) then some (-1 : Int) else some y3) = _
  unfold sizeHead
  rw [szKeys_v _ _ hx.a h0 h1, bind_s]
  by_cases g1 : ((hk1 x0).1.length : Int) ≤ L
  · rw [if_pos g1, decide_eq_false (by omega), cond_f, szKeys_v _ _ hx.b (by omega) (by omega), bind_s]
    by_cases g2 : ((hk2 x0).1.length : Int) ≤ L - (hk1 x0).1.length
    · rw [if_pos g2, decide_eq_false (by omega), cond_f, szKeys_v _ _ hx.c (by omega) (by omega), bind_s]
      by_cases g3 : ((hk3 x0).1.length : Int) ≤ L - (hk1 x0).1.length - (hk2 x0).1.length
      · rw [if_pos g3, decide_eq_false (by omega), cond_f, if_pos (by omega)]
        congr 1; omega
      · rw [if_neg g3, decide_eq_true (by omega), cond_t, if_neg (by omega)]
    · rw [if_neg g2, decide_eq_true (by omega), cond_t, if_neg (by omega)]
  · rw [if_neg g1, decide_eq_true (by omega), cond_t, if_neg (by omega)]
theorem toHead_v (x0 : THead) (hx : sizeHead x0 ≤ 1048576) : laws_toHead x0 = some x0 := by
  unfold sizeHead at hx
  have e1 := toKeys_v (hk1 x0) (by omega)
  have e2 := toKeys_v (hk2 x0) (by omega)
  have e3 := toKeys_v (hk3 x0) (by omega)
  unfold hk1 at e1
  unfold hk2 at e2
  unfold hk3 at e3
  unfold laws_toHead
  rw [e1, bind_s, e2, bind_s, e3, bind_s]
theorem eqHead_v (a : THead) (hx : sizeHead a ≤ 1152921504606846976) : laws_eqHead a a = some true := by
  unfold sizeHead at hx
  have e1 := eqKeys_v (hk1 a) (by omega)
  have e2 := eqKeys_v (hk2 a) (by omega)
  have e3 := eqKeys_v (hk3 a) (by omega)
  unfold hk1 at e1
  unfold hk2 at e2
  unfold hk3 at e3
  unfold laws_eqHead
  simp only [bne_self, cond_f, e1, e2, e3, bind_s, Bool.not_true, beq_self_eq_true]
theorem Grow_v (n : Int) (h0 : 0 ≤ n) (h1 : n < 68719476736) : slices_Grow_int [] n = some [] := by
  have e0 : IntKind.i64.wrap ((0 : Int) - ((0 : Nat) : Int)) = 0 := w64 (by omega) (by omega)
  have e1 : IntKind.i64.wrap (n - 0) = n := by rw [w64 (by omega) (by omega)]; omega
  unfold slices_Grow_int
  simp only [slices_Grow_int.b, slices_Grow_int.l7, slices_Grow_int.g7, e0, e1]
  rw [decide_eq_false (by omega), cond_f]
  by_cases h : n > 0
  · rw [decide_eq_true h, cond_t, decide_eq_true (by omega), cond_t, decide_eq_true h1, cond_t, decide_eq_true (by omega), cond_t, decide_eq_true (by omega), cond_t, decide_eq_true (by omega), cond_t]
    simp
  · rw [decide_eq_false h, cond_f]
theorem Concat_l22 (x0 : List (List Int)) (hl : x0.length < 1152921504606846976) : ∀ i n, i ≤ x0.length → x0.length - i < n → ∀ acc : List Int, acc.length + (x0.drop i).flatten.length < 68719476736 → slices_Concat_int.l22 x0 n (x0.length : Int) (i : Int) acc = some (acc ++ (x0.drop i).flatten) := by
  refine idx_ind ?_ ?_
  · intro n acc ha
    rw [slices_Concat_int.u22]
    simp only [slices_Concat_int.g22, lt_f (Nat.le_refl _), cond_f, List.drop_length, List.flatten_nil, List.append_nil]
  · intro i n hi ih acc ha
    rw [List.drop_eq_getElem_cons hi, List.flatten_cons] at ha ⊢
    rw [List.length_append] at ha
    rw [slices_Concat_int.u22]
    simp only [slices_Concat_int.g22, lt_t hi, ge_t, cond_t, w64_succ (i := i) (by omega), Int.toNat_natCast, at_n hi]
    rw [decide_eq_true (by omega), cond_t, ih _ (by rw [List.length_append]; omega), List.append_assoc]
theorem Concat_l6 (x0 : List (List Int)) (hl : x0.length < 1152921504606846976) (hf : x0.flatten.length < 68719476736) : ∀ i n, i ≤ x0.length → x0.length - i < n → ∀ s : Int, 0 ≤ s → s + (x0.drop i).flatten.length < 68719476736 → slices_Concat_int.l6 x0 n s (x0.length : Int) (i : Int) = some x0.flatten := by
  refine idx_ind ?_ ?_
  · intro n s h0 ha
    rw [slices_Concat_int.u6]
    rw [List.drop_length, List.flatten_nil] at ha
    simp only [slices_Concat_int.g6, lt_f (Nat.le_refl _), cond_f]
    rw [Grow_v s h0 (by simpa using ha), bind_s]
    have := Concat_l22 x0 hl 0 KK (Nat.zero_le _) (KK_gt (by omega)) [] (by simpa using hf)
    simpa using this
  · intro i n hi ih s h0 ha
    rw [List.drop_eq_getElem_cons hi, List.flatten_cons, List.length_append] at ha
    rw [slices_Concat_int.u6]
    simp only [slices_Concat_int.g6, lt_t hi, ge_t, cond_t, w64_succ (i := i) (by omega), Int.toNat_natCast, at_n hi]
    rw [w64 (n := s + (x0[i].length : Int)) (by omega) (by omega), decide_eq_false (by omega), cond_f, ih _ (by omega) (by omega)]
theorem Concat_v (x0 : List (List Int)) (hl : x0.length < 1152921504606846976) (hf : x0.flatten.length < 68719476736) : slices_Concat_int x0 = some x0.flatten := by
  have := Concat_l6 x0 hl hf 0 KK (Nat.zero_le _) (KK_gt (by omega)) 0 (Int.le_refl 0) (by rw [List.drop_zero, Int.zero_add]; omega)
  exact this
theorem tmod_b (a : Int) {m : Int} (h : 0 < m) : -m < Int.tmod a m ∧ Int.tmod a m < m := by
  refine ⟨?_, Int.tmod_lt_of_pos a h⟩
  have h1 := Int.lt_tmod_of_pos a h
  omega
theorem Mod_eq (a b : Int) : spec_Mod a b = impl_Mod a b := by
  unfold spec_Mod impl_Mod
  rw [l1In_v, InRange_v]
def mod2 (a : Int) : Int := Int.tmod (IntKind.i64.wrap (Int.tmod a 2147483647 + 2147483647)) 2147483647
theorem Mod_v (a : Int) : impl_Mod a 2147483647 = some (mod2 a) := by
  unfold impl_Mod mod2
  rw [InRange_v, bind_s]
  rw [decide_eq_true (by omega), decide_eq_true (by omega), Bool.and_self, Bool.not_true, cond_f]
  rw [show ((2147483647 : Int) == 0) = false from by decide, cond_f, cond_f]
def hstep (h a : Int) : Int := Int.tmod (IntKind.i64.wrap ((IntKind.i64.wrap ((IntKind.i64.wrap (h * (1000003 : Int))) + mod2 a)) + (13 : Int))) (2147483647 : Int)
theorem sHash_l (x0 : List Int) (hx : x0.length ≤ 1152921504606846976) : ∀ i n, i ≤ x0.length → x0.length - i < n → ∀ h : Int, spec_Hash.l6 x0 n h (i : Int) = some ((x0.drop i).foldl hstep h) := by
  refine idx_ind ?_ ?_
  · intro n h
    rw [spec_Hash.u6]
    simp only [spec_Hash.g6, lt_f (Nat.le_refl _), cond_f, List.drop_length, List.foldl_nil]
  · intro i n hi ih h
    rw [List.drop_eq_getElem_cons hi, List.foldl_cons]
    rw [spec_Hash.u6]
    simp only [spec_Hash.g6, lt_t hi, ge_t, cond_t, bind_s, w64_succ (i := i) (by omega), Int.toNat_natCast, at_n hi, Mod_eq, Mod_v]
    rw [show ((2147483647 : Int) == 0) = false from by decide, cond_f, ih]
    rfl
theorem iHash_l (x0 : List Int) (hx : x0.length ≤ 1152921504606846976) : ∀ i n, i ≤ x0.length → x0.length - i < n → ∀ h : Int, impl_Hash.l6 x0 n h (x0.length : Int) (i : Int) = some ((x0.drop i).foldl hstep h) := by
  refine idx_ind ?_ ?_
  · intro n h
    rw [impl_Hash.u6]
    simp only [impl_Hash.g6, lt_f (Nat.le_refl _), cond_f, List.drop_length, List.foldl_nil]
  · intro i n hi ih h
    rw [List.drop_eq_getElem_cons hi, List.foldl_cons]
    rw [impl_Hash.u6]
    simp only [impl_Hash.g6, lt_t hi, ge_t, cond_t, bind_s, w64_succ (i := i) (by omega), Int.toNat_natCast, at_n hi, Mod_v]
    rw [show ((2147483647 : Int) == 0) = false from by decide, cond_f, ih]
    rfl
theorem sHash_v (x0 : List Int) (hx : x0.length ≤ 1152921504606846976) : spec_Hash x0 = some (x0.foldl hstep 11) := by
  have := sHash_l x0 hx 0 KK (Nat.zero_le _) (KK_gt (by omega)) 11
  rw [List.drop_zero] at this
  exact this
theorem iHash_v (x0 : List Int) (hx : x0.length ≤ 1152921504606846976) : impl_Hash x0 = some (x0.foldl hstep 11) := by
  have := iHash_l x0 hx 0 KK (Nat.zero_le _) (KK_gt (by omega)) 11
  rw [List.drop_zero] at this
  exact this
def keysInts (k : TKeys) : List Int := [k.2, (k.1.length : Int)] ++ k.1
theorem keysInts_len (k : TKeys) : (keysInts k).length = k.1.length + 2 := by unfold keysInts; simp
theorem sKeysInts_v (k : TKeys) (h : k.1.length ≤ 1048576) : spec_KeysInts k = some (keysInts k) := by
  unfold spec_KeysInts keysInts
  rw [decide_eq_true (by simp; omega), cond_t]
theorem iKeysInts_v (k : TKeys) (h : k.1.length ≤ 1048576) : impl_KeysInts k = some (keysInts k) := by
  unfold impl_KeysInts keysInts
  rw [decide_eq_true (by simp; omega), cond_t]
def hd8 (x0 : THead) : List Int := [x0.1, x0.2.1, x0.2.2.1, x0.2.2.2.1, x0.2.2.2.2.1, x0.2.2.2.2.2.1, x0.2.2.2.2.2.2.1, x0.2.2.2.2.2.2.2.1]
def hde (x0 : THead) : List Int := [x0.2.2.2.2.2.2.2.2.2.2.2.2.1]
def hdb (x0 : THead) : List Int := [bif x0.2.2.2.2.2.2.2.2.2.2.2.2.2.2.2 then (1 : Int) else 0]
def headInts (x0 : THead) : List Int := ((((hd8 x0 ++ keysInts (hk1 x0)) ++ keysInts (hk2 x0)) ++ hde x0) ++ keysInts (hk3 x0)) ++ hdb x0
theorem headInts_len (x0 : THead) : (headInts x0).length = sizeHead x0 + 16 := by
  unfold headInts sizeHead
  simp only [List.length_append, keysInts_len]
  simp [hd8, hde, hdb]; omega
theorem app_le {α : Type} (a b : List α) : (a ++ b).length = a.length + b.length := List.length_append
theorem sHeadInts_v (x0 : THead) (h : sizeHead x0 ≤ 1048576) : spec_HeadInts x0 = some (headInts x0) := by
  have hs := h
  unfold sizeHead at hs
  have e1 := sKeysInts_v (hk1 x0) (by omega)
  have e2 := sKeysInts_v (hk2 x0) (by omega)
  have e3 := sKeysInts_v (hk3 x0) (by omega)
  have l1 := keysInts_len (hk1 x0)
  have l2 := keysInts_len (hk2 x0)
  have l3 := keysInts_len (hk3 x0)
  have l8 : (hd8 x0).length = 8 := rfl
  have le : (hde x0).length = 1 := rfl
  show ((spec_KeysInts (hk1 x0)).bind fun y1 => bif decide ((hd8 x0).length + y1.length < 68719476736) then (spec_KeysInts (hk2 x0)).bind fun y2 => bif decide ((hd8 x0 ++ y1).length + y2.length < 68719476736) then bif decide (((hd8 x0 ++ y1) ++ y2).length + (hde x0).length < 68719476736) then (spec_KeysInts (hk3 x0)).bind fun y3 => bif decide ((((hd8 x0 ++ y1) ++ y2) ++ hde x0).length + y3.length < 68719476736) then bif x0.2.2.2.2.2.2.2.2.2.2.2.2.2.2.2 then bif decide (((((hd8 x0 ++ y1) ++ y2) ++ hde x0) ++ y3).length + [(1 : Int)].length < 68719476736) then some (((((hd8 x0 ++ y1) ++ y2) ++ hde x0) ++ y3) ++ [(1 : Int)]) else none else bif decide (((((hd8 x0 ++ y1) ++ y2) ++ hde x0) ++ y3).length + [(0 : Int)].length < 68719476736) then some (((((hd8 x0 ++ y1) ++ y2) ++ hde x0) ++ y3) ++ [(0 : Int)]) else none else none else none else none else none) = _
  simp only [e1, e2, e3, bind_s, app_le, l1, l2, l3, l8, le, List.length_singleton]
  rw [decide_eq_true (by omega), cond_t, decide_eq_true (by omega), cond_t, decide_eq_true (by omega), cond_t, decide_eq_true (by omega), cond_t, decide_eq_true (by omega), cond_t]
  unfold headInts hdb
  cases x0.2.2.2.2.2.2.2.2.2.2.2.2.2.2.2 <;> rfl
theorem iHeadInts_v (x0 : THead) (h : sizeHead x0 ≤ 1048576) : impl_HeadInts x0 = some (headInts x0) := by
  have hs := h
  unfold sizeHead at hs
  have e1 := iKeysInts_v (hk1 x0) (by omega)
  have e2 := iKeysInts_v (hk2 x0) (by omega)
  have e3 := iKeysInts_v (hk3 x0) (by omega)
  have eb : impl_bit x0.2.2.2.2.2.2.2.2.2.2.2.2.2.2.2 = some (bif x0.2.2.2.2.2.2.2.2.2.2.2.2.2.2.2 then (1 : Int) else 0) := by
    unfold impl_bit
    cases x0.2.2.2.2.2.2.2.2.2.2.2.2.2.2.2 <;> rfl
  have ef : [hd8 x0, keysInts (hk1 x0), keysInts (hk2 x0), hde x0, keysInts (hk3 x0), hdb x0].flatten = headInts x0 := by
    simp [headInts]
  have ec := Concat_v [hd8 x0, keysInts (hk1 x0), keysInts (hk2 x0), hde x0, keysInts (hk3 x0), hdb x0] (by simp) (by rw [ef, headInts_len]; omega)
  rw [ef] at ec
  show ((impl_KeysInts (hk1 x0)).bind fun y1 => (impl_KeysInts (hk2 x0)).bind fun y2 => (impl_KeysInts (hk3 x0)).bind fun y3 => (impl_bit x0.2.2.2.2.2.2.2.2.2.2.2.2.2.2.2).bind fun y4 => (slices_Concat_int [hd8 x0, y1, y2, hde x0, y3, [y4]]).bind fun y5 => some y5) = _
  simp only [e1, e2, e3, eb, bind_s]
  rw [show [bif x0.2.2.2.2.2.2.2.2.2.2.2.2.2.2.2 then (1 : Int) else 0] = hdb x0 from rfl, ec, bind_s]
def headDigest (x0 : THead) : Int := ([(233 : Int)] ++ headInts x0).foldl hstep 11
theorem sHeadDigest_v (x0 : THead) (h : sizeHead x0 ≤ 1048576) : spec_HeadDigest x0 = some (headDigest x0) := by
  have hl := headInts_len x0
  unfold spec_HeadDigest headDigest
  rw [sHeadInts_v x0 h, bind_s, decide_eq_true (by simp [hl]; omega), cond_t, sHash_v _ (by simp [hl]; omega), bind_s]
theorem iHeadDigest_v (x0 : THead) (h : sizeHead x0 ≤ 1048576) : impl_HeadDigest x0 = some (headDigest x0) := by
  have hl := headInts_len x0
  unfold impl_HeadDigest headDigest
  rw [iHeadInts_v x0 h, bind_s, decide_eq_true (by simp [hl]; omega), cond_t, iHash_v _ (by simp [hl]; omega), bind_s]
def markOf (x0 : THead) : TMark := (x0.1, x0.2.1, headDigest x0)
theorem sMarkOf_v (x0 : THead) (h : sizeHead x0 ≤ 1048576) : spec_MarkOf x0 = some (markOf x0) := by
  unfold spec_MarkOf
  rw [sHeadDigest_v x0 h, bind_s]; rfl
theorem iMarkOf_v (x0 : THead) (h : sizeHead x0 ≤ 1048576) : impl_MarkOf x0 = some (markOf x0) := by
  unfold impl_MarkOf
  rw [iHeadDigest_v x0 h, bind_s]; rfl
theorem szSigS_v (x0 : List TSig) (L : Int) (hx : x0.length ≤ 9223372036854775807) (h0 : 0 ≤ L) (h1 : L ≤ 1048576) : laws_szSigS x0 L = some (if (x0.length : Int) ≤ L then L - x0.length else -1) := by
  unfold laws_szSigS
  rw [w64 (by omega) (by omega)]
  by_cases h : (x0.length : Int) ≤ L
  · rw [if_pos h, decide_eq_false (by omega), cond_f]
  · rw [if_neg h, decide_eq_true (by omega), cond_t]
theorem toSigS_l (x0 : List TSig) (hx : x0.length ≤ 1048576) : ∀ i n, i ≤ x0.length → x0.length - i < n → ∀ ys, ys = x0.take i ++ List.replicate (x0.length - i) dSig → laws_toSigS.l6 x0 n (i : Int) ys = some x0 := by
  refine idx_ind ?_ ?_
  · intro n ys hy
    subst hy
    rw [laws_toSigS.u6]
    simp only [laws_toSigS.g6, lt_f (Nat.le_refl _), cond_f]
    simp
  · intro i n hi ih ys hy
    have hyl : i < ys.length := by subst hy; simp; omega
    rw [laws_toSigS.u6]
    simp only [laws_toSigS.g6, lt_t hi, lt_t hyl, ge_t, cond_t, laws_toSig, bind_s, w64_succ (i := i) (by omega), Int.toNat_natCast, at_n hi]
    exact ih _ (fill_set hy hi)
theorem toSigS_v (x0 : List TSig) (hx : x0.length ≤ 1048576) : laws_toSigS x0 = some x0 := by
  unfold laws_toSigS
  simp only [laws_toSigS.b, beq_self_eq_true, cond_t, ge_t, Int.toNat_natCast]
  rw [decide_eq_true (by omega), cond_t]
  have := toSigS_l x0 hx 0 KK (Nat.zero_le _) (KK_gt (by omega)) _ rfl
  simpa using this
theorem eqSig_v (a : TSig) : laws_eqSig a a = some true := by
  unfold laws_eqSig
  simp only [bne_self, cond_f]
theorem eqSigS_l (x0 : List TSig) (hx : x0.length ≤ 1152921504606846976) : ∀ i n, i ≤ x0.length → x0.length - i < n → laws_eqSigS.l8 x0 x0 n (i : Int) = some true := by
  refine idx_ind ?_ ?_
  · intro n
    rw [laws_eqSigS.u8]
    simp only [laws_eqSigS.g8, lt_f (Nat.le_refl _), cond_f]
  · intro i n hi ih
    rw [laws_eqSigS.u8]
    simp only [laws_eqSigS.g8, lt_t hi, ge_t, cond_t, bind_s, w64_succ (i := i) (by omega), eqSig_v, Bool.not_true, cond_f]
    exact ih
theorem eqSigS_v (x0 : List TSig) (hx : x0.length ≤ 1152921504606846976) : laws_eqSigS x0 x0 = some true := by
  unfold laws_eqSigS
  simp only [laws_eqSigS.b, len_eq (rfl : x0.length = x0.length), cond_f]
  have := eqSigS_l x0 hx 0 KK (Nat.zero_le _) (KK_gt (by omega))
  simpa using this
def keyedHash (k : Int) (xs : List Int) : Int := (([k] ++ xs) ++ [k]).foldl hstep 11
theorem sKeyedHash_v (k : Int) (xs : List Int) (h : xs.length ≤ 16777216) : spec_KeyedHash k xs = some (keyedHash k xs) := by
  unfold spec_KeyedHash keyedHash
  rw [decide_eq_true (by simp; omega), cond_t, decide_eq_true (by simp; omega), cond_t, sHash_v _ (by simp; omega), bind_s]
theorem iKeyedHash_v (k : Int) (xs : List Int) (h : xs.length ≤ 16777216) : impl_KeyedHash k xs = some (keyedHash k xs) := by
  have ef : [[k], xs, [k]].flatten = ([k] ++ xs) ++ [k] := by simp
  have ec := Concat_v [[k], xs, [k]] (by simp) (by rw [ef]; simp; omega)
  rw [ef] at ec
  unfold impl_KeyedHash keyedHash
  rw [ec, bind_s, iHash_v _ (by simp; omega), bind_s]
def tagOf (k : Int) (xs : List Int) : Int := keyedHash k ([(223 : Int)] ++ xs)
theorem sTagOf_v (k : Int) (xs : List Int) (h : xs.length ≤ 8388608) : spec_TagOf k xs = some (tagOf k xs) := by
  unfold spec_TagOf tagOf
  rw [decide_eq_true (by simp; omega), cond_t, sKeyedHash_v _ _ (by simp; omega), bind_s]
theorem iTagOf_v (k : Int) (xs : List Int) (h : xs.length ≤ 8388608) : impl_TagOf k xs = some (tagOf k xs) := by
  unfold impl_TagOf tagOf
  rw [decide_eq_true (by simp; omega), cond_t, iKeyedHash_v _ _ (by simp; omega), bind_s]
theorem isKey_v (k : Int) : impl_isKey k = some (decide (1 ≤ k) && decide (k ≤ 99)) := by
  unfold impl_isKey
  rw [InRange_v, bind_s]
def isSigBy (s : TSig) (xs : List Int) : Bool := (decide (1 ≤ s.1) && decide (s.1 ≤ 99)) && (s.2 == tagOf s.1 xs)
theorem sIsSigBy_v (s : TSig) (xs : List Int) (h : xs.length ≤ 8388608) : spec_IsSigBy s xs = some (isSigBy s xs) := by
  unfold spec_IsSigBy isSigBy
  rw [l1In_v, bind_s, sTagOf_v _ _ h, bind_s]
  cases (decide (1 ≤ s.1) && decide (s.1 ≤ 99)) <;> rfl
theorem iIsSigBy_v (s : TSig) (xs : List Int) (h : xs.length ≤ 8388608) : impl_IsSigBy s xs = some (isSigBy s xs) := by
  unfold impl_IsSigBy isSigBy
  rw [isKey_v, bind_s, iTagOf_v _ _ h, bind_s]
  cases (decide (1 ≤ s.1) && decide (s.1 ≤ 99)) <;> rfl
def sgBy (k : Int) (xs : List Int) (s : TSig) : Bool := s.1 == k && isSigBy s xs
theorem IndexFunc_Sig_l (x0 : List TSig) (x1 : Unit × (Int × List Int)) (hx : x0.length ≤ 1048576) (hm : x1.2.2.length ≤ 8388608) : ∀ i n, i ≤ x0.length → x0.length - i < n → slices_IndexFunc_impl_Sig.l4 x0 x1 n (x0.length : Int) (i : Int) = some (fnd (sgBy x1.2.1 x1.2.2) (x0.drop i) (i : Int)) := by
  refine idx_ind ?_ ?_
  · intro n
    rw [slices_IndexFunc_impl_Sig.u4]
    simp only [slices_IndexFunc_impl_Sig.g4, lt_f (Nat.le_refl _), cond_f, fnd_last]
  · intro i n hi ih
    rw [slices_IndexFunc_impl_Sig.u4]
    simp only [slices_IndexFunc_impl_Sig.g4, impl_CountSigs_1, iIsSigBy_v _ _ hm, lt_t hi, ge_t, cond_t, bind_s, w64_succ (i := i) (by omega), Int.toNat_natCast, at_n hi, fnd_step _ hi, ih]
    unfold sgBy
    cases (x0[i].1 == x1.2.1) <;> cases (isSigBy x0[i] x1.2.2) <;> rfl
theorem ContainsFunc_Sig_v (x0 : List TSig) (k : Int) (xs : List Int) (hx : x0.length ≤ 1048576) (hm : xs.length ≤ 8388608) : slices_ContainsFunc_impl_Sig x0 ((), (k, xs)) = some (x0.any (sgBy k xs)) := by
  have h := IndexFunc_Sig_l x0 ((), (k, xs)) hx hm 0 KK (Nat.zero_le _) (KK_gt (by omega))
  have e : slices_IndexFunc_impl_Sig x0 ((), (k, xs)) = some (fnd (sgBy k xs) x0 0) := by
    unfold slices_IndexFunc_impl_Sig
    simpa [slices_IndexFunc_impl_Sig.b] using h
  unfold slices_ContainsFunc_impl_Sig
  rw [e, bind_s, fnd_ge _ _ _ (Int.le_refl 0)]
def cnt (p : Int → Bool) : List Int → Int → Int
  | [], c => c
  | k :: ks, c => cnt p ks (bif p k then c + 1 else c)
theorem cnt_step (p : Int → Bool) {ks : List Int} {i : Nat} (h : i < ks.length) (c : Int) : cnt p (ks.drop i) c = cnt p (ks.drop (i + 1)) (bif p ks[i] then c + 1 else c) := by
  rw [List.drop_eq_getElem_cons h]; rfl
theorem cnt_last (p : Int → Bool) (ks : List Int) (c : Int) : cnt p (ks.drop ks.length) c = c := by
  rw [List.drop_length]; rfl
def hasSig (sg : List TSig) (xs : List Int) (k : Int) : Bool := sg.any (sgBy k xs)
theorem iCountSigs_l (x0 : TKeys) (xs : List Int) (sg : List TSig) (hk : x0.1.length ≤ 1048576) (hs : sg.length ≤ 1048576) (hm : xs.length ≤ 8388608) : ∀ i n, i ≤ x0.1.length → x0.1.length - i < n → ∀ c : Int, 0 ≤ c → c ≤ i → impl_CountSigs.l6 x0 xs sg n c (x0.1.length : Int) (i : Int) = some (cnt (hasSig sg xs) (x0.1.drop i) c) := by
  refine idx_ind ?_ ?_
  · intro n c h0 h1
    rw [impl_CountSigs.u6]
    simp only [impl_CountSigs.g6, lt_f (Nat.le_refl _), cond_f, cnt_last]
  · intro i n hi ih c h0 h1
    rw [impl_CountSigs.u6]
    simp only [impl_CountSigs.g6, lt_t hi, ge_t, cond_t, bind_s, w64_succ (i := i) (by omega), Int.toNat_natCast, at_n hi, ContainsFunc_Sig_v _ _ _ hs hm, cnt_step _ hi, w64 (n := c + 1) (by omega) (by omega)]
    rw [show sg.any (sgBy x0.1[i] xs) = hasSig sg xs x0.1[i] from rfl]
    cases hasSig sg xs x0.1[i] with
    | true => rw [cond_t, cond_t]; exact ih _ (by omega) (by omega)
    | false => rw [cond_f, cond_f]; exact ih _ (by omega) (by omega)
theorem iCountSigs_v (x0 : TKeys) (xs : List Int) (sg : List TSig) (hk : x0.1.length ≤ 1048576) (hs : sg.length ≤ 1048576) (hm : xs.length ≤ 8388608) : impl_CountSigs x0 xs sg = some (cnt (hasSig sg xs) x0.1 0) := by
  have := iCountSigs_l x0 xs sg hk hs hm 0 KK (Nat.zero_le _) (KK_gt (by omega)) 0 (Int.le_refl 0) (by omega)
  rw [List.drop_zero] at this
  exact this
theorem sCountSigs_l12 (x0 : TKeys) (xs : List Int) (sg : List TSig) (hs : sg.length ≤ 1048576) (hm : xs.length ≤ 8388608) (c : Int) (j : Nat) (hj : j < x0.1.length) (r : Int → Int → Option Int) : ∀ i n, i ≤ sg.length → sg.length - i < n → spec_CountSigs.l12 x0 xs sg c (j : Int) r n (i : Int) = bif (sg.drop i).any (sgBy x0.1[j] xs) then r (IntKind.i64.wrap (c + 1)) (IntKind.i64.wrap ((j : Int) + 1)) else r c (IntKind.i64.wrap ((j : Int) + 1)) := by
  refine idx_ind ?_ ?_
  · intro n
    rw [spec_CountSigs.u12]
    simp only [spec_CountSigs.g12, lt_f (Nat.le_refl _), cond_f, List.drop_length, List.any_nil]
  · intro i n hi ih
    rw [spec_CountSigs.u12]
    simp only [spec_CountSigs.g12, spec_CountSigs.l19, spec_CountSigs.g19, lt_t hi, lt_t hj, ge_t, cond_t, cond_f, bind_s, w64_succ (i := i) (by omega), Int.toNat_natCast, at_n hi, at_n hj, sIsSigBy_v _ _ hm, ih]
    rw [List.drop_eq_getElem_cons hi, List.any_cons]
    rw [show sgBy x0.1[j] xs sg[i] = (sg[i].1 == x0.1[j] && isSigBy sg[i] xs) from rfl]
    cases (sg[i].1 == x0.1[j]) <;> cases (isSigBy sg[i] xs) <;> rfl
theorem sCountSigs_l (x0 : TKeys) (xs : List Int) (sg : List TSig) (hk : x0.1.length ≤ 1048576) (hs : sg.length ≤ 1048576) (hm : xs.length ≤ 8388608) : ∀ i n, i ≤ x0.1.length → x0.1.length - i < n → ∀ c : Int, 0 ≤ c → c ≤ i → spec_CountSigs.l6 x0 xs sg n c (i : Int) = some (cnt (hasSig sg xs) (x0.1.drop i) c) := by
  refine idx_ind ?_ ?_
  · intro n c h0 h1
    rw [spec_CountSigs.u6]
    simp only [spec_CountSigs.g6, lt_f (Nat.le_refl _), cond_f, cnt_last]
  · intro i n hi ih c h0 h1
    have hl := sCountSigs_l12 x0 xs sg hs hm c i hi (spec_CountSigs.l6 x0 xs sg n) 0 KK (Nat.zero_le _) (KK_gt (by omega))
    rw [List.drop_zero] at hl
    rw [spec_CountSigs.u6]
    simp only [spec_CountSigs.g6, lt_t hi, cond_t]
    refine Eq.trans hl ?_
    rw [w64_succ (i := i) (by omega), w64 (n := c + 1) (by omega) (by omega), cnt_step _ hi]
    rw [show sg.any (sgBy x0.1[i] xs) = hasSig sg xs x0.1[i] from rfl]
    cases hasSig sg xs x0.1[i] with
    | true => rw [cond_t, cond_t]; exact ih _ (by omega) (by omega)
    | false => rw [cond_f, cond_f]; exact ih _ (by omega) (by omega)
theorem sCountSigs_v (x0 : TKeys) (xs : List Int) (sg : List TSig) (hk : x0.1.length ≤ 1048576) (hs : sg.length ≤ 1048576) (hm : xs.length ≤ 8388608) : spec_CountSigs x0 xs sg = some (cnt (hasSig sg xs) x0.1 0) := by
  have := sCountSigs_l x0 xs sg hk hs hm 0 KK (Nat.zero_le _) (KK_gt (by omega)) 0 (Int.le_refl 0) (by omega)
  rw [List.drop_zero] at this
  exact this
def markInts (m : TMark) : List Int := [(241 : Int), m.1, m.2.1, m.2.2]
def countConfirms (k : TKeys) (h : THead) (sg : List TSig) : Int := cnt (hasSig sg (markInts (markOf h))) k.1 0
theorem sCountConfirms_v (k : TKeys) (h : THead) (sg : List TSig) (hk : k.1.length ≤ 1048576) (hh : sizeHead h ≤ 1048576) (hs : sg.length ≤ 1048576) : spec_CountConfirms k h sg = some (countConfirms k h sg) := by
  unfold spec_CountConfirms countConfirms
  rw [sMarkOf_v h hh, bind_s]
  unfold spec_MarkInts
  rw [bind_s, show ([(241 : Int), (markOf h).1, (markOf h).2.1, (markOf h).2.2] : List Int) = markInts (markOf h) from rfl, sCountSigs_v _ _ _ hk hs (by show 4 ≤ _; omega), bind_s]
theorem iCountConfirms_v (k : TKeys) (h : THead) (sg : List TSig) (hk : k.1.length ≤ 1048576) (hh : sizeHead h ≤ 1048576) (hs : sg.length ≤ 1048576) : impl_CountConfirms k h sg = some (countConfirms k h sg) := by
  unfold impl_CountConfirms countConfirms
  rw [iMarkOf_v h hh, bind_s]
  unfold impl_MarkInts
  rw [bind_s, show ([(241 : Int), (markOf h).1, (markOf h).2.1, (markOf h).2.2] : List Int) = markInts (markOf h) from rfl, iCountSigs_v _ _ _ hk hs (by show 4 ≤ _; omega), bind_s]
def gk (x0 : TKeys) (j : Nat) : Int := x0.1.getD j 0
theorem gk_def (x0 : TKeys) (j : Nat) : x0.1.getD j 0 = gk x0 j := rfl
def keysAsc (x0 : TKeys) (i : Nat) : Prop := ∀ j, j < x0.1.length → i ≤ j → 0 < j → gk x0 (j - 1) < gk x0 j
def keysIn (x0 : TKeys) (i : Nat) : Prop := ∀ j, j < x0.1.length → i ≤ j → (1 ≤ gk x0 j ∧ gk x0 j ≤ 99) ∧ (0 < j → gk x0 (j - 1) < gk x0 j)
def keysNeed (x0 : TKeys) : Prop := (1 ≤ (x0.1.length : Int) ∧ (x0.1.length : Int) ≤ 4) ∧ (1 ≤ x0.2 ∧ x0.2 ≤ (x0.1.length : Int))
theorem sIsKeys_l (x0 : TKeys) (hx : x0.1.length ≤ 1048576) : ∀ i n, i ≤ x0.1.length → x0.1.length - i < n → ∃ b, spec_IsKeys.l4 x0 n (i : Int) = some b ∧ (b = true ↔ keysIn x0 i ∧ keysNeed x0) := by
  refine idx_ind ?_ ?_
  · intro n
    rw [spec_IsKeys.u4]
    simp only [spec_IsKeys.g4, lt_f (Nat.le_refl _), cond_f, l1In_v, bind_s]
    refine ⟨(decide ((1 : Int) ≤ (x0.1.length : Int)) && decide ((x0.1.length : Int) ≤ 4)) && (decide (1 ≤ x0.2) && decide (x0.2 ≤ (x0.1.length : Int))), ?_, ?_⟩
    · cases (decide ((1 : Int) ≤ (x0.1.length : Int)) && decide ((x0.1.length : Int) ≤ 4)) <;> rfl
    · unfold keysIn keysNeed
      simp only [Bool.and_eq_true, decide_eq_true_eq]
      exact ⟨fun h => ⟨fun j h1 h2 => absurd h1 (by omega), h⟩, fun h => h.2⟩
  · intro i n hi ih
    obtain ⟨b, hb, hP⟩ := ih
    rw [spec_IsKeys.u4]
    simp only [spec_IsKeys.g4, lt_t hi, ge_t, cond_t, l1In_v, bind_s, w64_succ (i := i) (by omega), Int.toNat_natCast, hb, gk_def]
    by_cases hr : 1 ≤ gk x0 i ∧ gk x0 i ≤ 99
    · rw [decide_eq_true hr.1, decide_eq_true hr.2, Bool.and_self, Bool.not_true, cond_f]
      by_cases h0 : 0 < i
      · have ew : IntKind.i64.wrap ((i : Int) - 1) = ((i - 1 : Nat) : Int) := by rw [w64 (by omega) (by omega)]; omega
        simp only [decide_eq_true (show (i : Int) > 0 by omega), cond_t, ew, ge_t, lt_t (show i - 1 < x0.1.length by omega), Int.toNat_natCast, gk_def]
        by_cases ha : gk x0 (i - 1) < gk x0 i
        · rw [decide_eq_false (by omega), cond_f]
          refine ⟨b, rfl, hP.trans ⟨fun h => ⟨fun j h1 h2 => ?_, h.2⟩, fun h => ⟨fun j h1 h2 => h.1 j h1 (by omega), h.2⟩⟩⟩
          by_cases e : j = i
          · subst e; exact ⟨hr, fun _ => ha⟩
          · exact h.1 j h1 (by omega)
        · rw [decide_eq_true (by omega), cond_t]
          refine ⟨false, rfl, ⟨fun h => Bool.noConfusion h, fun h => absurd ((h.1 i hi (Nat.le_refl _)).2 h0) ha⟩⟩
      · rw [decide_eq_false (by omega), cond_f]
        refine ⟨b, rfl, hP.trans ⟨fun h => ⟨fun j h1 h2 => ?_, h.2⟩, fun h => ⟨fun j h1 h2 => h.1 j h1 (by omega), h.2⟩⟩⟩
        by_cases e : j = i
        · subst e; exact ⟨hr, fun h => absurd h h0⟩
        · exact h.1 j h1 (by omega)
    · have e : (decide (1 ≤ gk x0 i) && decide (gk x0 i ≤ 99)) = false := by
        cases hc : (decide (1 ≤ gk x0 i) && decide (gk x0 i ≤ 99))
        · rfl
        · simp only [Bool.and_eq_true, decide_eq_true_eq] at hc; exact absurd hc hr
      rw [e, Bool.not_false, cond_t]
      exact ⟨false, rfl, ⟨fun h => Bool.noConfusion h, fun h => absurd (h.1 i hi (Nat.le_refl _)).1 hr⟩⟩
theorem asc_l (x0 : TKeys) (hx : x0.1.length ≤ 1048576) : ∀ i n, i ≤ x0.1.length → x0.1.length - i < n → ∃ b, impl_ascending.l4 x0.1 n (x0.1.length : Int) (i : Int) = some b ∧ (b = true ↔ keysAsc x0 i) := by
  refine idx_ind ?_ ?_
  · intro n
    rw [impl_ascending.u4]
    simp only [impl_ascending.g4, lt_f (Nat.le_refl _), cond_f]
    exact ⟨true, rfl, ⟨fun _ j h1 h2 => absurd h1 (by omega), fun _ => rfl⟩⟩
  · intro i n hi ih
    obtain ⟨b, hb, hP⟩ := ih
    rw [impl_ascending.u4]
    simp only [impl_ascending.g4, lt_t hi, ge_t, cond_t, w64_succ (i := i) (by omega), Int.toNat_natCast, hb, gk_def]
    by_cases h0 : 0 < i
    · have ew : IntKind.i64.wrap ((i : Int) - 1) = ((i - 1 : Nat) : Int) := by rw [w64 (by omega) (by omega)]; omega
      simp only [decide_eq_true (show (i : Int) > 0 by omega), cond_t, ew, ge_t, lt_t (show i - 1 < x0.1.length by omega), Int.toNat_natCast, gk_def]
      by_cases ha : gk x0 (i - 1) < gk x0 i
      · rw [decide_eq_false (by omega), cond_f]
        refine ⟨b, rfl, hP.trans ⟨fun h j h1 h2 h3 => ?_, fun h j h1 h2 h3 => h j h1 (by omega) h3⟩⟩
        by_cases e : j = i
        · subst e; exact ha
        · exact h j h1 (by omega) h3
      · rw [decide_eq_true (by omega), cond_t]
        exact ⟨false, rfl, ⟨fun h => Bool.noConfusion h, fun h => absurd (h i hi (Nat.le_refl _) h0) ha⟩⟩
    · rw [decide_eq_false (by omega), cond_f]
      refine ⟨b, rfl, hP.trans ⟨fun h j h1 h2 h3 => h j h1 (by omega) h3, fun h j h1 h2 h3 => h j h1 (by omega) h3⟩⟩
theorem asc_le (x0 : TKeys) (h : keysAsc x0 0) (a : Nat) : ∀ b, a ≤ b → b < x0.1.length → gk x0 a ≤ gk x0 b := by
  intro b
  induction b with
  | zero => intro h1 _; have : a = 0 := by omega
            subst this; exact Int.le_refl _
  | succ b ih =>
    intro h1 h2
    by_cases e : a = b + 1
    · subst e; exact Int.le_refl _
    · have := ih (by omega) (by omega)
      have h3 := h (b + 1) h2 (by omega) (by omega)
      rw [show b + 1 - 1 = b from rfl] at h3
      omega
theorem keysIn_of (x0 : TKeys) (h : keysAsc x0 0) (h0 : 1 ≤ gk x0 0) (h1 : gk x0 (x0.1.length - 1) ≤ 99) : keysIn x0 0 := by
  intro j hj _
  have a := asc_le x0 h 0 j (by omega) hj
  have b := asc_le x0 h j (x0.1.length - 1) (by omega) (by omega)
  exact ⟨⟨by omega, by omega⟩, h j hj (by omega)⟩
theorem bool_eq {a b : Bool} (h : a = true ↔ b = true) : a = b := by cases a <;> cases b <;> simp_all
theorem IsKeys_v (x0 : TKeys) (hx : x0.1.length ≤ 1048576) : ∃ b, spec_IsKeys x0 = some b ∧ impl_IsKeys x0 = some b := by
  obtain ⟨s, hs, hS⟩ := sIsKeys_l x0 hx 0 KK (Nat.zero_le _) (KK_gt (by omega))
  obtain ⟨a, ha, hA⟩ := asc_l x0 hx 0 KK (Nat.zero_le _) (KK_gt (by omega))
  refine ⟨s, hs, ?_⟩
  have ea : impl_ascending x0.1 = some a := ha
  unfold impl_IsKeys
  rw [InRange_v, bind_s]
  by_cases hl : 1 ≤ (x0.1.length : Int) ∧ (x0.1.length : Int) ≤ 4
  · rw [decide_eq_true hl.1, decide_eq_true hl.2, Bool.and_self, cond_t, ea, bind_s]
    have ew : IntKind.i64.wrap ((x0.1.length : Int) - 1) = ((x0.1.length - 1 : Nat) : Int) := by rw [w64 (by omega) (by omega)]; omega
    cases a with
    | false =>
      rw [cond_f]
      have : s = false := by
        cases s with
        | false => rfl
        | true =>
          have h := (hS.mp rfl).1
          exact (hA.mpr (fun j h1 h2 h3 => (h j h1 h2).2 h3)).symm
      rw [this]
    | true =>
      have hasc := hA.mp rfl
      rw [cond_t, decide_eq_true (Int.le_refl 0), cond_t, decide_eq_true (by omega), cond_t, isKey_v, bind_s, ew, ge_t, cond_t, lt_t (by omega), cond_t, isKey_v, bind_s, InRange_v, bind_s, Int.toNat_natCast, show (0 : Int).toNat = 0 from rfl]
      rw [show x0.1.getD 0 0 = gk x0 0 from rfl, show x0.1.getD (x0.1.length - 1) 0 = gk x0 (x0.1.length - 1) from rfl]
      have e : s = ((decide (1 ≤ gk x0 0) && decide (gk x0 0 ≤ 99)) && ((decide (1 ≤ gk x0 (x0.1.length - 1)) && decide (gk x0 (x0.1.length - 1) ≤ 99)) && (decide (1 ≤ x0.2) && decide (x0.2 ≤ (x0.1.length : Int))))) := by
        refine bool_eq (hS.trans ?_)
        simp only [Bool.and_eq_true, decide_eq_true_eq]
        constructor
        · intro h
          exact ⟨(h.1 0 (by omega) (Nat.le_refl _)).1, (h.1 (x0.1.length - 1) (by omega) (by omega)).1, h.2.2⟩
        · intro h
          exact ⟨keysIn_of x0 hasc h.1.1 h.2.1.2, hl, h.2.2⟩
      rw [e]
      cases (decide (1 ≤ gk x0 0) && decide (gk x0 0 ≤ 99)) <;> cases (decide (1 ≤ gk x0 (x0.1.length - 1)) && decide (gk x0 (x0.1.length - 1) ≤ 99)) <;> rfl
  · have e : (decide (1 ≤ (x0.1.length : Int)) && decide ((x0.1.length : Int) ≤ 4)) = false := by
      cases hc : (decide (1 ≤ (x0.1.length : Int)) && decide ((x0.1.length : Int) ≤ 4))
      · rfl
      · simp only [Bool.and_eq_true, decide_eq_true_eq] at hc; exact absurd hc hl
    rw [e, cond_f]
    have : s = false := by
      cases s with
      | false => rfl
      | true => exact absurd (hS.mp rfl).2.1 hl
    rw [this]
theorem IsConfirmed_v (k : TKeys) (h : THead) (sg : List TSig) (hk : k.1.length ≤ 1048576) (hh : sizeHead h ≤ 1048576) (hs : sg.length ≤ 1048576) : ∃ b, spec_IsConfirmed k h sg = some b ∧ impl_IsConfirmed k h sg = some b := by
  obtain ⟨b, e1, e2⟩ := IsKeys_v k hk
  unfold spec_IsConfirmed impl_IsConfirmed
  simp only [e1, e2, bind_s, sCountConfirms_v _ _ _ hk hh hs, iCountConfirms_v _ _ _ hk hh hs]
  cases b with
  | true => exact ⟨_, rfl, rfl⟩
  | false => exact ⟨_, rfl, rfl⟩
theorem pure_FnExactIsConfirmed (x0 : TKeys) (x1 : THead) (x2 : List TSig) (h0 : x0.1.length ≤ 9223372036854775807) (h1 : HeadMax x1) (h2 : x2.length ≤ 9223372036854775807) : laws_FnExactIsConfirmed x0 x1 x2 = some true := by
  unfold laws_FnExactIsConfirmed
  rw [szKeys_v _ _ h0 (by omega) (by omega), bind_s]
  by_cases g1 : (x0.1.length : Int) ≤ 1048576
  · rw [if_pos g1, decide_eq_false (by omega), cond_f, szHead_v _ _ h1 (by omega) (by omega), bind_s]
    by_cases g2 : (sizeHead x1 : Int) ≤ 1048576 - x0.1.length
    · rw [if_pos g2, decide_eq_false (by omega), cond_f, szSigS_v _ _ h2 (by omega) (by omega), bind_s]
      by_cases g3 : (x2.length : Int) ≤ 1048576 - x0.1.length - sizeHead x1
      · have b0 : x0.1.length ≤ 1048576 := by omega
        have b1 : sizeHead x1 ≤ 1048576 := by omega
        have b2 : x2.length ≤ 1048576 := by omega
        obtain ⟨b, e1, e2⟩ := IsConfirmed_v _ _ _ b0 b1 b2
        rw [if_pos g3, decide_eq_false (by omega), cond_f]
        simp only [toKeys_v _ b0, toHead_v _ b1, toSigS_v _ b2, bind_s, e1, e2, beq_self_eq_true, cond_f, Bool.not_true, eqKeys_v x0 (by omega), eqHead_v x1 (by omega), eqSigS_v x2 (by omega)]
      · rw [if_neg g3, decide_eq_true (by omega), cond_t]
    · rw [if_neg g2, decide_eq_true (by omega), cond_t]
  · rw [if_neg g1, decide_eq_true (by omega), cond_t]

end Go.Proofs.Ytdfchkmfamnocaa
