/- The plain law of FnExactSignNext: what the printed functions compute is true, for all data in range. -/
import Derived.Test.YtdfchkmfamnocaaXSignNextPure0
namespace Go.Proofs.Ytdfchkmfamnocaa
open V
set_option linter.unusedVariables false
set_option linter.unusedSimpArgs false
def fnd {α : Type} (p : α → Bool) : List α → Int → Int
  | [], _ => -1
  | x :: xs, k => bif p x then k else fnd p xs (k + 1)
theorem fnd_cons {α : Type} (p : α → Bool) (x : α) (xs : List α) (k : Int) : fnd p (x :: xs) k = bif p x then k else fnd p xs (k + 1) := rfl
theorem fnd_step {α : Type} (p : α → Bool) {xs : List α} {i : Nat} (h : i < xs.length) : fnd p (xs.drop i) (i : Int) = bif p xs[i] then (i : Int) else fnd p (xs.drop (i + 1)) ((i + 1 : Nat) : Int) := by
  rw [List.drop_eq_getElem_cons h, fnd_cons]; rfl
theorem fnd_last {α : Type} (p : α → Bool) (xs : List α) (k : Int) : fnd p (xs.drop xs.length) k = -1 := by
  rw [List.drop_length]; rfl
theorem fnd_ge {α : Type} (p : α → Bool) (xs : List α) : ∀ k : Int, 0 ≤ k → decide (fnd p xs k ≥ 0) = xs.any p := by
  induction xs with
  | nil => intro k hk; rfl
  | cons x t ih =>
    intro k hk
    rw [fnd_cons, List.any_cons]
    cases p x with
    | true => rw [cond_t, Bool.true_or]; exact decide_eq_true hk
    | false => rw [cond_f, Bool.false_or]; exact ih _ (by omega)
theorem l1In_v (a b c : Int) : spec_l1In a b c = some (decide (b ≤ a) && decide (a ≤ c)) := by
  show (bif decide (b ≤ a) then some (decide (a ≤ c)) else some false) = _
  cases decide (b ≤ a) <;> rfl
theorem InRange_v (a b c : Int) : impl_InRange a b c = some (decide (b ≤ a) && decide (a ≤ c)) := by
  show (bif decide (b ≤ a) then some (decide (a ≤ c)) else some false) = _
  cases decide (b ≤ a) <;> rfl
theorem szIntS_v (x0 : List Int) (L : Int) (hx : x0.length ≤ 9223372036854775807) (h0 : 0 ≤ L) (h1 : L ≤ 1048576) : laws_szIntS x0 L = some (if (x0.length : Int) ≤ L then L - x0.length else -1) := by
  unfold laws_szIntS
  rw [w64 (by omega) (by omega)]
  by_cases h : (x0.length : Int) ≤ L
  · rw [if_pos h, decide_eq_false (by omega), cond_f]
  · rw [if_neg h, decide_eq_true (by omega), cond_t]
theorem toIntS_l (x0 : List Int) (hx : x0.length ≤ 1048576) : ∀ i n, i ≤ x0.length → x0.length - i < n → ∀ ys, ys = x0.take i ++ List.replicate (x0.length - i) (0 : Int) → laws_toIntS.l6 x0 n (i : Int) ys = some x0 := by
  refine idx_ind ?_ ?_
  · intro n ys hy
    subst hy
    rw [laws_toIntS.u6]
    simp only [laws_toIntS.g6, lt_f (Nat.le_refl _), cond_f]
    simp
  · intro i n hi ih ys hy
    have hyl : i < ys.length := by subst hy; simp; omega
    rw [laws_toIntS.u6]
    simp only [laws_toIntS.g6, lt_t hi, lt_t hyl, ge_t, cond_t, bind_s, w64_succ (i := i) (by omega), Int.toNat_natCast, at_n hi]
    exact ih _ (fill_set hy hi)
theorem toIntS_v (x0 : List Int) (hx : x0.length ≤ 1048576) : laws_toIntS x0 = some x0 := by
  unfold laws_toIntS
  simp only [laws_toIntS.b, beq_self_eq_true, cond_t, ge_t, Int.toNat_natCast]
  rw [decide_eq_true (by omega), cond_t]
  have := toIntS_l x0 hx 0 KK (Nat.zero_le _) (KK_gt (by omega)) _ rfl
  simpa using this
theorem eqIntS_l (x0 : List Int) (hx : x0.length ≤ 1152921504606846976) : ∀ i n, i ≤ x0.length → x0.length - i < n → laws_eqIntS.l8 x0 x0 n (i : Int) = some true := by
  refine idx_ind ?_ ?_
  · intro n
    rw [laws_eqIntS.u8]
    simp only [laws_eqIntS.g8, lt_f (Nat.le_refl _), cond_f]
  · intro i n hi ih
    rw [laws_eqIntS.u8]
    simp only [laws_eqIntS.g8, lt_t hi, ge_t, cond_t, bind_s, w64_succ (i := i) (by omega), bne_self, cond_f]
    exact ih
theorem eqIntS_v (x0 : List Int) (hx : x0.length ≤ 1152921504606846976) : laws_eqIntS x0 x0 = some true := by
  unfold laws_eqIntS
  simp only [laws_eqIntS.b, len_eq (rfl : x0.length = x0.length), cond_f]
  have := eqIntS_l x0 hx 0 KK (Nat.zero_le _) (KK_gt (by omega))
  simpa using this
theorem szKeys_v (x0 : TKeys) (L : Int) (hx : x0.1.length ≤ 9223372036854775807) (h0 : 0 ≤ L) (h1 : L ≤ 1048576) : laws_szKeys x0 L = some (if (x0.1.length : Int) ≤ L then L - x0.1.length else -1) := by
  unfold laws_szKeys
  rw [szIntS_v _ _ hx h0 h1, bind_s]
  by_cases h : (x0.1.length : Int) ≤ L
  · rw [if_pos h, decide_eq_false (by omega), cond_f]
  · rw [if_neg h, decide_eq_true (by omega), cond_t]
theorem toKeys_v (x0 : TKeys) (hx : x0.1.length ≤ 1048576) : laws_toKeys x0 = some x0 := by
  unfold laws_toKeys
  rw [toIntS_v _ hx, bind_s]
theorem eqKeys_v (a : TKeys) (hx : a.1.length ≤ 1152921504606846976) : laws_eqKeys a a = some true := by
  unfold laws_eqKeys
  simp only [bne_self, cond_f, eqIntS_v a.1 hx, bind_s, Bool.not_true]
def hk1 (x : THead) : TKeys := (x.2.2.2.2.2.2.2.2.1, x.2.2.2.2.2.2.2.2.2.1)
def hk2 (x : THead) : TKeys := (x.2.2.2.2.2.2.2.2.2.2.1, x.2.2.2.2.2.2.2.2.2.2.2.1)
def hk3 (x : THead) : TKeys := (x.2.2.2.2.2.2.2.2.2.2.2.2.2.1, x.2.2.2.2.2.2.2.2.2.2.2.2.2.2.1)
def sizeHead (x : THead) : Nat := (hk1 x).1.length + (hk2 x).1.length + (hk3 x).1.length
structure HeadMax (x : THead) : Prop where
  a : (hk1 x).1.length ≤ 9223372036854775807
  b : (hk2 x).1.length ≤ 9223372036854775807
  c : (hk3 x).1.length ≤ 9223372036854775807
theorem szHead_v (x0 : THead) (L : Int) (hx : HeadMax x0) (h0 : 0 ≤ L) (h1 : L ≤ 1048576) : laws_szHead x0 L = some (if (sizeHead x0 : Int) ≤ L then L - sizeHead x0 else -1) := by
  show ((laws_szKeys (hk1 x0) L).bind fun y1 => bif decide (y1 < (0 : Int)) then some (-1 : Int) else (laws_szKeys (hk2 x0) y1).bind fun y2 => bif decide (y2 < (0 : Int)) then some (-1 : Int) else (laws_szKeys (hk3 x0) y2).bind fun y3 => bif decide (y3 < (0 : Int)) then some (-1 : Int) else some y3) = _
  unfold sizeHead
  rw [szKeys_v _ _ hx.a h0 h1, bind_s]
  by_cases g1 : ((hk1 x0).1.length : Int) ≤ L
  · rw [if_pos g1, decide_eq_false (by omega), cond_f, szKeys_v _ _ hx.b (by omega) (by omega), bind_s]
    by_cases g2 : ((hk2 x0).1.length : Int) ≤ L - (hk1 x0).1.length
    · rw [if_pos g2, decide_eq_false (by omega), cond_f, szKeys_v _ _ hx.c (by omega) (by omega), bind_s]
      by_cases g3 : ((hk3 x0).1.length : Int) ≤ L - (hk1 x0).1.length - (hk2 x0).1.length
      · rw [if_pos g3, decide_eq_false (by omega), cond_f, if_pos (by omega)]
        congr 1; omega
      · rw [if_neg g3, decide_eq_true (by omega), cond_t, if_neg (by omega)]
    · rw [if_neg g2, decide_eq_true (by omega), cond_t, if_neg (by omega)]
  · rw [if_neg g1, decide_eq_true (by omega), cond_t, if_neg (by omega)]
theorem toHead_v (x0 : THead) (hx : sizeHead x0 ≤ 1048576) : laws_toHead x0 = some x0 := by
  unfold sizeHead at hx
  have e1 := toKeys_v (hk1 x0) (by omega)
  have e2 := toKeys_v (hk2 x0) (by omega)
  have e3 := toKeys_v (hk3 x0) (by omega)
  unfold hk1 at e1
  unfold hk2 at e2
  unfold hk3 at e3
  unfold laws_toHead
  rw [e1, bind_s, e2, bind_s, e3, bind_s]
theorem eqHead_v (a : THead) (hx : sizeHead a ≤ 1152921504606846976) : laws_eqHead a a = some true := by
  unfold sizeHead at hx
  have e1 := eqKeys_v (hk1 a) (by omega)
  have e2 := eqKeys_v (hk2 a) (by omega)
  have e3 := eqKeys_v (hk3 a) (by omega)
  unfold hk1 at e1
  unfold hk2 at e2
  unfold hk3 at e3
  unfold laws_eqHead
  simp only [bne_self, cond_f, e1, e2, e3, bind_s, Bool.not_true, beq_self_eq_true]
theorem eqSig_v (a : TSig) : laws_eqSig a a = some true := by
  unfold laws_eqSig
  simp only [bne_self, cond_f]
theorem eqSigS_l (x0 : List TSig) (hx : x0.length ≤ 1152921504606846976) : ∀ i n, i ≤ x0.length → x0.length - i < n → laws_eqSigS.l8 x0 x0 n (i : Int) = some true := by
  refine idx_ind ?_ ?_
  · intro n
    rw [laws_eqSigS.u8]
    simp only [laws_eqSigS.g8, lt_f (Nat.le_refl _), cond_f]
  · intro i n hi ih
    rw [laws_eqSigS.u8]
    simp only [laws_eqSigS.g8, lt_t hi, ge_t, cond_t, bind_s, w64_succ (i := i) (by omega), eqSig_v, Bool.not_true, cond_f]
    exact ih
theorem eqSigS_v (x0 : List TSig) (hx : x0.length ≤ 1152921504606846976) : laws_eqSigS x0 x0 = some true := by
  unfold laws_eqSigS
  simp only [laws_eqSigS.b, len_eq (rfl : x0.length = x0.length), cond_f]
  have := eqSigS_l x0 hx 0 KK (Nat.zero_le _) (KK_gt (by omega))
  simpa using this
def sdh (x : TSigned) : THead := (x.1, x.2.1, x.2.2.1, x.2.2.2.1, x.2.2.2.2.1, x.2.2.2.2.2.1, x.2.2.2.2.2.2.1, x.2.2.2.2.2.2.2.1, x.2.2.2.2.2.2.2.2.1, x.2.2.2.2.2.2.2.2.2.1, x.2.2.2.2.2.2.2.2.2.2.1, x.2.2.2.2.2.2.2.2.2.2.2.1, x.2.2.2.2.2.2.2.2.2.2.2.2.1, x.2.2.2.2.2.2.2.2.2.2.2.2.2.1, x.2.2.2.2.2.2.2.2.2.2.2.2.2.2.1, x.2.2.2.2.2.2.2.2.2.2.2.2.2.2.2.1)
def sds (x : TSigned) : List TSig := x.2.2.2.2.2.2.2.2.2.2.2.2.2.2.2.2
def sizeSigned (x : TSigned) : Nat := sizeHead (sdh x) + (sds x).length
theorem eqSigned_v (a : TSigned) (hx : sizeSigned a ≤ 1152921504606846976) : laws_eqSigned a a = some true := by
  unfold sizeSigned at hx
  have e1 := eqHead_v (sdh a) (by omega)
  have e2 := eqSigS_v (sds a) (by omega)
  unfold sdh at e1
  unfold sds at e2
  unfold laws_eqSigned
  simp only [e1, e2, bind_s, Bool.not_true, cond_f]
theorem Grow_v (n : Int) (h0 : 0 ≤ n) (h1 : n < 68719476736) : slices_Grow_int [] n = some [] := by
  have e0 : IntKind.i64.wrap ((0 : Int) - ((0 : Nat) : Int)) = 0 := w64 (by omega) (by omega)
  have e1 : IntKind.i64.wrap (n - 0) = n := by rw [w64 (by omega) (by omega)]; omega
  unfold slices_Grow_int
  simp only [slices_Grow_int.b, slices_Grow_int.l7, slices_Grow_int.g7, e0, e1]
  rw [decide_eq_false (by omega), cond_f]
  by_cases h : n > 0
  · rw [decide_eq_true h, cond_t, decide_eq_true (by omega), cond_t, decide_eq_true h1, cond_t, decide_eq_true (by omega), cond_t, decide_eq_true (by omega), cond_t, decide_eq_true (by omega), cond_t]
    simp
  · rw [decide_eq_false h, cond_f]
theorem Concat_l22 (x0 : List (List Int)) (hl : x0.length < 1152921504606846976) : ∀ i n, i ≤ x0.length → x0.length - i < n → ∀ acc : List Int, acc.length + (x0.drop i).flatten.length < 68719476736 → slices_Concat_int.l22 x0 n (x0.length : Int) (i : Int) acc = some (acc ++ (x0.drop i).flatten) := by
  refine idx_ind ?_ ?_
  · intro n acc ha
    rw [slices_Concat_int.u22]
    simp only [slices_Concat_int.g22, lt_f (Nat.le_refl _), cond_f, List.drop_length, List.flatten_nil, List.append_nil]
  · intro i n hi ih acc ha
    rw [List.drop_eq_getElem_cons hi, List.flatten_cons] at ha ⊢
    rw [List.length_append] at ha
    rw [slices_Concat_int.u22]
    simp only [slices_Concat_int.g22, lt_t hi, ge_t, cond_t, w64_succ (i := i) (by omega), Int.toNat_natCast, at_n hi]
    rw [decide_eq_true (by omega), cond_t, ih _ (by rw [List.length_append]; omega), List.append_assoc]
theorem Concat_l6 (x0 : List (List Int)) (hl : x0.length < 1152921504606846976) (hf : x0.flatten.length < 68719476736) : ∀ i n, i ≤ x0.length → x0.length - i < n → ∀ s : Int, 0 ≤ s → s + (x0.drop i).flatten.length < 68719476736 → slices_Concat_int.l6 x0 n s (x0.length : Int) (i : Int) = some x0.flatten := by
  refine idx_ind ?_ ?_
  · intro n s h0 ha
    rw [slices_Concat_int.u6]
    rw [List.drop_length, List.flatten_nil] at ha
    simp only [slices_Concat_int.g6, lt_f (Nat.le_refl _), cond_f]
    rw [Grow_v s h0 (by simpa using ha), bind_s]
    have := Concat_l22 x0 hl 0 KK (Nat.zero_le _) (KK_gt (by omega)) [] (by simpa using hf)
    simpa using this
  · intro i n hi ih s h0 ha
    rw [List.drop_eq_getElem_cons hi, List.flatten_cons, List.length_append] at ha
    rw [slices_Concat_int.u6]
    simp only [slices_Concat_int.g6, lt_t hi, ge_t, cond_t, w64_succ (i := i) (by omega), Int.toNat_natCast, at_n hi]
    rw [w64 (n := s + (x0[i].length : Int)) (by omega) (by omega), decide_eq_false (by omega), cond_f, ih _ (by omega) (by omega)]
theorem Concat_v (x0 : List (List Int)) (hl : x0.length < 1152921504606846976) (hf : x0.flatten.length < 68719476736) : slices_Concat_int x0 = some x0.flatten := by
  have := Concat_l6 x0 hl hf 0 KK (Nat.zero_le _) (KK_gt (by omega)) 0 (Int.le_refl 0) (by rw [List.drop_zero, Int.zero_add]; omega)
  exact this
theorem Mod_eq (a b : Int) : spec_Mod a b = impl_Mod a b := by
  unfold spec_Mod impl_Mod
  rw [l1In_v, InRange_v]
def mod2 (a : Int) : Int := Int.tmod (IntKind.i64.wrap (Int.tmod a 2147483647 + 2147483647)) 2147483647
theorem Mod_v (a : Int) : impl_Mod a 2147483647 = some (mod2 a) := by
  unfold impl_Mod mod2
  rw [InRange_v, bind_s]
  rw [decide_eq_true (by omega), decide_eq_true (by omega), Bool.and_self, Bool.not_true, cond_f]
  rw [show ((2147483647 : Int) == 0) = false from by decide, cond_f, cond_f]
def hstep (h a : Int) : Int := Int.tmod (IntKind.i64.wrap ((IntKind.i64.wrap ((IntKind.i64.wrap (h * (1000003 : Int))) + mod2 a)) + (13 : Int))) (2147483647 : Int)
theorem sHash_l (x0 : List Int) (hx : x0.length ≤ 1152921504606846976) : ∀ i n, i ≤ x0.length → x0.length - i < n → ∀ h : Int, spec_Hash.l6 x0 n h (i : Int) = some ((x0.drop i).foldl hstep h) := by
  refine idx_ind ?_ ?_
  · intro n h
    rw [spec_Hash.u6]
    simp only [spec_Hash.g6, lt_f (Nat.le_refl _), cond_f, List.drop_length, List.foldl_nil]
  · intro i n hi ih h
    rw [List.drop_eq_getElem_cons hi, List.foldl_cons]
    rw [spec_Hash.u6]
    simp only [spec_Hash.g6, lt_t hi, ge_t, cond_t, bind_s, w64_succ (i := i) (by omega), Int.toNat_natCast, at_n hi, Mod_eq, Mod_v]
    rw [show ((2147483647 : Int) == 0) = false from by decide, cond_f, ih]
    rfl
theorem iHash_l (x0 : List Int) (hx : x0.length ≤ 1152921504606846976) : ∀ i n, i ≤ x0.length → x0.length - i < n → ∀ h : Int, impl_Hash.l6 x0 n h (x0.length : Int) (i : Int) = some ((x0.drop i).foldl hstep h) := by
  refine idx_ind ?_ ?_
  · intro n h
    rw [impl_Hash.u6]
    simp only [impl_Hash.g6, lt_f (Nat.le_refl _), cond_f, List.drop_length, List.foldl_nil]
  · intro i n hi ih h
    rw [List.drop_eq_getElem_cons hi, List.foldl_cons]
    rw [impl_Hash.u6]
    simp only [impl_Hash.g6, lt_t hi, ge_t, cond_t, bind_s, w64_succ (i := i) (by omega), Int.toNat_natCast, at_n hi, Mod_v]
    rw [show ((2147483647 : Int) == 0) = false from by decide, cond_f, ih]
    rfl
theorem sHash_v (x0 : List Int) (hx : x0.length ≤ 1152921504606846976) : spec_Hash x0 = some (x0.foldl hstep 11) := by
  have := sHash_l x0 hx 0 KK (Nat.zero_le _) (KK_gt (by omega)) 11
  rw [List.drop_zero] at this
  exact this
theorem iHash_v (x0 : List Int) (hx : x0.length ≤ 1152921504606846976) : impl_Hash x0 = some (x0.foldl hstep 11) := by
  have := iHash_l x0 hx 0 KK (Nat.zero_le _) (KK_gt (by omega)) 11
  rw [List.drop_zero] at this
  exact this
def keysInts (k : TKeys) : List Int := [k.2, (k.1.length : Int)] ++ k.1
theorem keysInts_len (k : TKeys) : (keysInts k).length = k.1.length + 2 := by unfold keysInts; simp
theorem sKeysInts_v (k : TKeys) (h : k.1.length ≤ 1048576) : spec_KeysInts k = some (keysInts k) := by
  unfold spec_KeysInts keysInts
  rw [decide_eq_true (by simp; omega), cond_t]
theorem iKeysInts_v (k : TKeys) (h : k.1.length ≤ 1048576) : impl_KeysInts k = some (keysInts k) := by
  unfold impl_KeysInts keysInts
  rw [decide_eq_true (by simp; omega), cond_t]
def hd8 (x0 : THead) : List Int := [x0.1, x0.2.1, x0.2.2.1, x0.2.2.2.1, x0.2.2.2.2.1, x0.2.2.2.2.2.1, x0.2.2.2.2.2.2.1, x0.2.2.2.2.2.2.2.1]
def hde (x0 : THead) : List Int := [x0.2.2.2.2.2.2.2.2.2.2.2.2.1]
def hdb (x0 : THead) : List Int := [bif x0.2.2.2.2.2.2.2.2.2.2.2.2.2.2.2 then (1 : Int) else 0]
def headInts (x0 : THead) : List Int := ((((hd8 x0 ++ keysInts (hk1 x0)) ++ keysInts (hk2 x0)) ++ hde x0) ++ keysInts (hk3 x0)) ++ hdb x0
theorem headInts_len (x0 : THead) : (headInts x0).length = sizeHead x0 + 16 := by
  unfold headInts sizeHead
  simp only [List.length_append, keysInts_len]
  simp [hd8, hde, hdb]; omega
theorem app_le {α : Type} (a b : List α) : (a ++ b).length = a.length + b.length := List.length_append
theorem sHeadInts_v (x0 : THead) (h : sizeHead x0 ≤ 1048576) : spec_HeadInts x0 = some (headInts x0) := by
  have hs := h
  unfold sizeHead at hs
  have e1 := sKeysInts_v (hk1 x0) (by omega)
  have e2 := sKeysInts_v (hk2 x0) (by omega)
  have e3 := sKeysInts_v (hk3 x0) (by omega)
  have l1 := keysInts_len (hk1 x0)
  have l2 := keysInts_len (hk2 x0)
  have l3 := keysInts_len (hk3 x0)
  have l8 : (hd8 x0).length = 8 := rfl
  have le : (hde x0).length = 1 := rfl
  show ((spec_KeysInts (hk1 x0)).bind fun y1 => bif decide ((hd8 x0).length + y1.length < 68719476736) then (spec_KeysInts (hk2 x0)).bind fun y2 => bif decide ((hd8 x0 ++ y1).length + y2.length < 68719476736) then bif decide (((hd8 x0 ++ y1) ++ y2).length + (hde x0).length < 68719476736) then (spec_KeysInts (hk3 x0)).bind fun y3 => bif decide ((((hd8 x0 ++ y1) ++ y2) ++ hde x0).length + y3.length < 68719476736) then bif x0.2.2.2.2.2.2.2.2.2.2.2.2.2.2.2 then bif decide (((((hd8 x0 ++ y1) ++ y2) ++ hde x0) ++ y3).length + [(1 : Int)].length < 68719476736) then some (((((hd8 x0 ++ y1) ++ y2) ++ hde x0) ++ y3) ++ [(1 : Int)]) else none else bif decide (((((hd8 x0 ++ y1) ++ y2) ++ hde x0) ++ y3).length + [(0 : Int)].length < 68719476736) then some (((((hd8 x0 ++ y1) ++ y2) ++ hde x0) ++ y3) ++ [(0 : Int)]) else none else none else none else none else none) = _
  simp only [e1, e2, e3, bind_s, app_le, l1, l2, l3, l8, le, List.length_singleton]
  rw [decide_eq_true (by omega), cond_t, decide_eq_true (by omega), cond_t, decide_eq_true (by omega), cond_t, decide_eq_true (by omega), cond_t, decide_eq_true (by omega), cond_t]
  unfold headInts hdb
  cases x0.2.2.2.2.2.2.2.2.2.2.2.2.2.2.2 <;> rfl
theorem iHeadInts_v (x0 : THead) (h : sizeHead x0 ≤ 1048576) : impl_HeadInts x0 = some (headInts x0) := by
  have hs := h
  unfold sizeHead at hs
  have e1 := iKeysInts_v (hk1 x0) (by omega)
  have e2 := iKeysInts_v (hk2 x0) (by omega)
  have e3 := iKeysInts_v (hk3 x0) (by omega)
  have eb : impl_bit x0.2.2.2.2.2.2.2.2.2.2.2.2.2.2.2 = some (bif x0.2.2.2.2.2.2.2.2.2.2.2.2.2.2.2 then (1 : Int) else 0) := by
    unfold impl_bit
    cases x0.2.2.2.2.2.2.2.2.2.2.2.2.2.2.2 <;> rfl
  have ef : [hd8 x0, keysInts (hk1 x0), keysInts (hk2 x0), hde x0, keysInts (hk3 x0), hdb x0].flatten = headInts x0 := by
    simp [headInts]
  have ec := Concat_v [hd8 x0, keysInts (hk1 x0), keysInts (hk2 x0), hde x0, keysInts (hk3 x0), hdb x0] (by simp) (by rw [ef, headInts_len]; omega)
  rw [ef] at ec
  show ((impl_KeysInts (hk1 x0)).bind fun y1 => (impl_KeysInts (hk2 x0)).bind fun y2 => (impl_KeysInts (hk3 x0)).bind fun y3 => (impl_bit x0.2.2.2.2.2.2.2.2.2.2.2.2.2.2.2).bind fun y4 => (slices_Concat_int [hd8 x0, y1, y2, hde x0, y3, [y4]]).bind fun y5 => some y5) = _
  simp only [e1, e2, e3, eb, bind_s]
  rw [show [bif x0.2.2.2.2.2.2.2.2.2.2.2.2.2.2.2 then (1 : Int) else 0] = hdb x0 from rfl, ec, bind_s]
def keyedHash (k : Int) (xs : List Int) : Int := (([k] ++ xs) ++ [k]).foldl hstep 11
theorem sKeyedHash_v (k : Int) (xs : List Int) (h : xs.length ≤ 16777216) : spec_KeyedHash k xs = some (keyedHash k xs) := by
  unfold spec_KeyedHash keyedHash
  rw [decide_eq_true (by simp; omega), cond_t, decide_eq_true (by simp; omega), cond_t, sHash_v _ (by simp; omega), bind_s]
theorem iKeyedHash_v (k : Int) (xs : List Int) (h : xs.length ≤ 16777216) : impl_KeyedHash k xs = some (keyedHash k xs) := by
  have ef : [[k], xs, [k]].flatten = ([k] ++ xs) ++ [k] := by simp
  have ec := Concat_v [[k], xs, [k]] (by simp) (by rw [ef]; simp; omega)
  rw [ef] at ec
  unfold impl_KeyedHash keyedHash
  rw [ec, bind_s, iHash_v _ (by simp; omega), bind_s]
def tagOf (k : Int) (xs : List Int) : Int := keyedHash k ([(223 : Int)] ++ xs)
theorem sTagOf_v (k : Int) (xs : List Int) (h : xs.length ≤ 8388608) : spec_TagOf k xs = some (tagOf k xs) := by
  unfold spec_TagOf tagOf
  rw [decide_eq_true (by simp; omega), cond_t, sKeyedHash_v _ _ (by simp; omega), bind_s]
theorem iTagOf_v (k : Int) (xs : List Int) (h : xs.length ≤ 8388608) : impl_TagOf k xs = some (tagOf k xs) := by
  unfold impl_TagOf tagOf
  rw [decide_eq_true (by simp; omega), cond_t, iKeyedHash_v _ _ (by simp; omega), bind_s]
theorem set_take {α : Type} {ys : List α} {i : Nat} {c : α} (h : i < ys.length) : (ys.set i c).take (i + 1) = ys.take i ++ [c] := by
  rw [List.set_eq_take_append_cons_drop, if_pos h]
  have e : ys.take i ++ c :: ys.drop (i + 1) = (ys.take i ++ [c]) ++ ys.drop (i + 1) := by simp
  rw [e, List.take_left' (by simp; omega)]
def mInts (n : Nat) (k : Int) : List Int := (List.range n).map (fun (j : Nat) => k + (j : Int))
theorem mInts_succ (n : Nat) (k : Int) : mInts (n + 1) k = mInts n k ++ [k + n] := by
  unfold mInts
  rw [List.range_succ, List.map_append]; rfl
theorem mInts_len (n : Nat) (k : Int) : (mInts n k).length = n := by simp [mInts]
theorem mInts_at (n : Nat) (k : Int) (i : Nat) (h : i < (mInts n k).length) : (mInts n k)[i] = k + i := by simp [mInts]
theorem markIntS_l (len : Nat) (k : Int) (h0 : 0 ≤ k) (h1 : k ≤ 1099511627776) (hx : len ≤ 1048576) : ∀ i n, i ≤ len → len - i < n → ∀ ys : List Int, ∀ c : Int, ys.length = len → ys.take i = mInts i k → c = k + i → laws_markIntS.l4 n c (i : Int) ys = some (mInts len k, k + len) := by
  refine idx_ind ?_ ?_
  · intro n ys c hl hy hc
    rw [laws_markIntS.u4]
    simp only [laws_markIntS.g4, lt_f (Nat.le_of_eq hl), cond_f]
    rw [List.take_of_length_le (by omega)] at hy
    rw [hy, hc]
  · intro i n hi ih ys c hl hy hc
    have hi' : i < ys.length := by omega
    rw [laws_markIntS.u4]
    simp only [laws_markIntS.g4, lt_t hi', ge_t, cond_t, w64_succ (i := i) (by omega), Int.toNat_natCast, w64 (n := c + 1) (by omega) (by omega)]
    exact ih _ _ (by rw [List.length_set]; exact hl) (by rw [set_take hi', hy, mInts_succ, hc]) (by omega)
theorem markIntS_v (xs : List Int) (k : Int) (h0 : 0 ≤ k) (h1 : k ≤ 1099511627776) (hx : xs.length ≤ 1048576) : laws_markIntS xs k = some (mInts xs.length k, k + xs.length) :=
  markIntS_l xs.length k h0 h1 hx 0 KK (Nat.zero_le _) (KK_gt (by omega)) xs k rfl rfl (by omega)
theorem heldIntS_l (len : Nat) (k : Int) (h0 : 0 ≤ k) (h1 : k ≤ 1099511627776) (hx : len ≤ 1048576) : ∀ i n, i ≤ len → len - i < n → ∀ c : Int, c = k + i → laws_heldIntS.l4 (mInts len k) n c (i : Int) = some (k + len) := by
  refine idx_ind ?_ ?_
  · intro n c hc
    rw [laws_heldIntS.u4]
    simp only [laws_heldIntS.g4, lt_f (Nat.le_of_eq (mInts_len len k)), cond_f, hc]
  · intro i n hi ih c hc
    have hi' : i < (mInts len k).length := by rw [mInts_len]; exact hi
    rw [laws_heldIntS.u4]
    simp only [laws_heldIntS.g4, lt_t hi', ge_t, cond_t, w64_succ (i := i) (by omega), Int.toNat_natCast, w64 (n := c + 1) (by omega) (by omega), at_n hi', mInts_at]
    rw [← hc, bne_self, cond_f]
    exact ih _ (by omega)
theorem heldIntS_v (len : Nat) (k : Int) (h0 : 0 ≤ k) (h1 : k ≤ 1099511627776) (hx : len ≤ 1048576) : laws_heldIntS (mInts len k) k = some (k + len) :=
  heldIntS_l len k h0 h1 hx 0 KK (Nat.zero_le _) (KK_gt (by omega)) k (by omega)
theorem markKeys_v (x : TKeys) (k : Int) (h0 : 0 ≤ k) (h1 : k ≤ 1099511627776) (hx : x.1.length ≤ 1048576) : laws_markKeys x k = some (mInts x.1.length k, k + x.1.length) := by
  unfold laws_markKeys
  rw [markIntS_v _ _ h0 h1 hx, bind_s]
theorem heldKeys_v (n : Nat) (w : Int) (k : Int) (h0 : 0 ≤ k) (h1 : k ≤ 1099511627776) (hx : n ≤ 1048576) : laws_heldKeys (mInts n k, w) k = some (k + n) := by
  unfold laws_heldKeys
  rw [heldIntS_v _ _ h0 h1 hx, bind_s, decide_eq_false (by omega), cond_f]
def mh1 (x : THead) (k : Int) : List Int := mInts (hk1 x).1.length k
def mh2 (x : THead) (k : Int) : List Int := mInts (hk2 x).1.length (k + (hk1 x).1.length)
def mh3 (x : THead) (k : Int) : List Int := mInts (hk3 x).1.length (k + (hk1 x).1.length + (hk2 x).1.length)
theorem markHead_v (x : THead) (k : Int) (h0 : 0 ≤ k) (h1 : k ≤ 549755813888) (hx : sizeHead x ≤ 1048576) : laws_markHead x k = some (mh1 x k, mh2 x k, mh3 x k, k + sizeHead x) := by
  unfold sizeHead at hx
  show ((laws_markKeys (hk1 x) k).bind fun y1 => (laws_markKeys (hk2 x) y1.2).bind fun y2 => (laws_markKeys (hk3 x) y2.2).bind fun y3 => some (y1.1, y2.1, y3.1, y3.2)) = _
  rw [markKeys_v _ _ h0 (by omega) (by omega), bind_s, markKeys_v _ _ (by dsimp only; omega) (by dsimp only; omega) (by omega), bind_s, markKeys_v _ _ (by dsimp only; omega) (by dsimp only; omega) (by omega), bind_s]
  unfold sizeHead mh1 mh2 mh3
  rw [show k + (((hk1 x).1.length + (hk2 x).1.length + (hk3 x).1.length : Nat) : Int) = k + (hk1 x).1.length + (hk2 x).1.length + (hk3 x).1.length by omega]
def mkHead (x : THead) (a b c : List Int) : THead := (x.1, x.2.1, x.2.2.1, x.2.2.2.1, x.2.2.2.2.1, x.2.2.2.2.2.1, x.2.2.2.2.2.2.1, x.2.2.2.2.2.2.2.1, a, x.2.2.2.2.2.2.2.2.2.1, b, x.2.2.2.2.2.2.2.2.2.2.2.1, x.2.2.2.2.2.2.2.2.2.2.2.2.1, c, x.2.2.2.2.2.2.2.2.2.2.2.2.2.2.1, x.2.2.2.2.2.2.2.2.2.2.2.2.2.2.2)
theorem heldHead_v (x : THead) (k : Int) (h0 : 0 ≤ k) (h1 : k ≤ 549755813888) (hx : sizeHead x ≤ 1048576) : laws_heldHead (mkHead x (mh1 x k) (mh2 x k) (mh3 x k)) k = some (k + sizeHead x) := by
  unfold sizeHead at hx
  show ((laws_heldKeys (mh1 x k, (hk1 x).2) k).bind fun y1 => bif decide (y1 < (0 : Int)) then some (-1 : Int) else (laws_heldKeys (mh2 x k, (hk2 x).2) y1).bind fun y2 => bif decide (y2 < (0 : Int)) then some (-1 : Int) else (laws_heldKeys (mh3 x k, (hk3 x).2) y2).bind fun y3 => bif decide (y3 < (0 : Int)) then some (-1 : Int) else some y3) = _
  unfold mh1 mh2 mh3
  rw [heldKeys_v _ _ _ h0 (by omega) (by omega), bind_s, decide_eq_false (by omega), cond_f, heldKeys_v _ _ _ (by omega) (by omega) (by omega), bind_s, decide_eq_false (by omega), cond_f, heldKeys_v _ _ _ (by omega) (by omega) (by omega), bind_s, decide_eq_false (by omega), cond_f]
  unfold sizeHead
  congr 1; omega
def mSigs (n : Nat) (k : Int) : List TSig := (List.range n).map (fun (j : Nat) => (k + 2 * (j : Int), k + 2 * (j : Int) + 1))
theorem mSigs_succ (n : Nat) (k : Int) : mSigs (n + 1) k = mSigs n k ++ [(k + 2 * n, k + 2 * n + 1)] := by
  unfold mSigs
  rw [List.range_succ, List.map_append]; rfl
theorem mSigs_len (n : Nat) (k : Int) : (mSigs n k).length = n := by simp [mSigs]
theorem mSigs_at (n : Nat) (k : Int) (i : Nat) (h : i < (mSigs n k).length) : (mSigs n k)[i] = (k + 2 * i, k + 2 * i + 1) := by simp [mSigs]
theorem upd_sig (ys : List TSig) (i : Nat) (h : i < ys.length) (c d : Int) : upd (upd ys i (fun z => (c, z.2))) i (fun z => (z.1, d)) = ys.set i (c, d) := by
  rw [upd_set dSig, upd_set dSig, List.set_set]
  congr 1
  have : i < (ys.set i (c, (ys.getD i dSig).2)).length := by rw [List.length_set]; exact h
  rw [at_n this, List.getElem_set_self]
theorem upd_len (ys : List TSig) (i : Nat) (f : TSig → TSig) : (upd ys i f).length = ys.length := by
  rw [upd_set dSig, List.length_set]
theorem markSigS_l (len : Nat) (k : Int) (h0 : 0 ≤ k) (h1 : k ≤ 1099511627776) (hx : len ≤ 1048576) : ∀ i n, i ≤ len → len - i < n → ∀ ys : List TSig, ∀ c : Int, ys.length = len → ys.take i = mSigs i k → c = k + 2 * i → laws_markSigS.l4 n c (i : Int) ys = some (mSigs len k, k + 2 * len) := by
  refine idx_ind ?_ ?_
  · intro n ys c hl hy hc
    rw [laws_markSigS.u4]
    simp only [laws_markSigS.g4, lt_f (Nat.le_of_eq hl), cond_f]
    rw [List.take_of_length_le (by omega)] at hy
    rw [hy, hc]
  · intro i n hi ih ys c hl hy hc
    have hi' : i < ys.length := by omega
    rw [laws_markSigS.u4]
    simp only [laws_markSigS.g4, lt_t hi', ge_t, cond_t, w64_succ (i := i) (by omega), Int.toNat_natCast, w64 (n := c + 1) (by omega) (by omega), w64 (n := c + 1 + 1) (by omega) (by omega), upd_len, upd_sig _ _ hi']
    exact ih _ _ (by rw [List.length_set]; exact hl) (by rw [set_take hi', hy, mSigs_succ, hc]) (by omega)
theorem markSigS_v (xs : List TSig) (k : Int) (h0 : 0 ≤ k) (h1 : k ≤ 1099511627776) (hx : xs.length ≤ 1048576) : laws_markSigS xs k = some (mSigs xs.length k, k + 2 * xs.length) :=
  markSigS_l xs.length k h0 h1 hx 0 KK (Nat.zero_le _) (KK_gt (by omega)) xs k rfl rfl (by omega)
theorem heldSigS_l (len : Nat) (k : Int) (h0 : 0 ≤ k) (h1 : k ≤ 1099511627776) (hx : len ≤ 1048576) : ∀ i n, i ≤ len → len - i < n → ∀ c : Int, c = k + 2 * i → laws_heldSigS.l4 (mSigs len k) n c (i : Int) = some (k + 2 * len) := by
  refine idx_ind ?_ ?_
  · intro n c hc
    rw [laws_heldSigS.u4]
    simp only [laws_heldSigS.g4, lt_f (Nat.le_of_eq (mSigs_len len k)), cond_f, hc]
  · intro i n hi ih c hc
    have hi' : i < (mSigs len k).length := by rw [mSigs_len]; exact hi
    rw [laws_heldSigS.u4]
    simp only [laws_heldSigS.g4, lt_t hi', ge_t, cond_t, w64_succ (i := i) (by omega), Int.toNat_natCast, w64 (n := c + 1) (by omega) (by omega), w64 (n := c + 1 + 1) (by omega) (by omega), at_n hi', mSigs_at]
    rw [← hc, bne_self, cond_f, bne_self, cond_f]
    exact ih _ (by omega)
theorem heldSigS_v (len : Nat) (k : Int) (h0 : 0 ≤ k) (h1 : k ≤ 1099511627776) (hx : len ≤ 1048576) : laws_heldSigS (mSigs len k) k = some (k + 2 * len) :=
  heldSigS_l len k h0 h1 hx 0 KK (Nat.zero_le _) (KK_gt (by omega)) k (by omega)
def cntSigned (x : TSigned) : Nat := sizeHead (sdh x) + 2 * (sds x).length
def ms (x : TSigned) (k : Int) : List TSig := mSigs (sds x).length (k + sizeHead (sdh x))
theorem markSigned_v (x : TSigned) (k : Int) (h0 : 0 ≤ k) (h1 : k ≤ 274877906944) (hx : sizeSigned x ≤ 1048576) : laws_markSigned x k = some (mh1 (sdh x) k, mh2 (sdh x) k, mh3 (sdh x) k, ms x k, k + cntSigned x) := by
  unfold sizeSigned at hx
  show ((laws_markHead (sdh x) k).bind fun y1 => (laws_markSigS (sds x) y1.2.2.2).bind fun y2 => some (y1.1, y1.2.1, y1.2.2.1, y2.1, y2.2)) = _
  rw [markHead_v _ _ h0 (by omega) (by omega), bind_s, markSigS_v _ _ (by dsimp only; omega) (by dsimp only; omega) (by omega), bind_s]
  unfold cntSigned ms
  rw [show k + ((sizeHead (sdh x) + 2 * (sds x).length : Nat) : Int) = k + sizeHead (sdh x) + 2 * (sds x).length by omega]
def mkSigned (x : TSigned) (a b c : List Int) (d : List TSig) : TSigned := (x.1, x.2.1, x.2.2.1, x.2.2.2.1, x.2.2.2.2.1, x.2.2.2.2.2.1, x.2.2.2.2.2.2.1, x.2.2.2.2.2.2.2.1, a, x.2.2.2.2.2.2.2.2.2.1, b, x.2.2.2.2.2.2.2.2.2.2.2.1, x.2.2.2.2.2.2.2.2.2.2.2.2.1, c, x.2.2.2.2.2.2.2.2.2.2.2.2.2.2.1, x.2.2.2.2.2.2.2.2.2.2.2.2.2.2.2.1, d)
theorem heldSigned_v (x : TSigned) (k : Int) (h0 : 0 ≤ k) (h1 : k ≤ 274877906944) (hx : sizeSigned x ≤ 1048576) : laws_heldSigned (mkSigned x (mh1 (sdh x) k) (mh2 (sdh x) k) (mh3 (sdh x) k) (ms x k)) k = some (k + cntSigned x) := by
  unfold sizeSigned at hx
  show ((laws_heldHead (mkHead (sdh x) (mh1 (sdh x) k) (mh2 (sdh x) k) (mh3 (sdh x) k)) k).bind fun y1 => bif decide (y1 < (0 : Int)) then some (-1 : Int) else (laws_heldSigS (ms x k) y1).bind fun y2 => bif decide (y2 < (0 : Int)) then some (-1 : Int) else some y2) = _
  rw [heldHead_v _ _ h0 (by omega) (by omega), bind_s, decide_eq_false (by omega), cond_f]
  unfold ms
  rw [heldSigS_v _ _ (by omega) (by omega) (by omega), bind_s, decide_eq_false (by omega), cond_f]
  unfold cntSigned
  congr 1; omega
def ks (x : TSigned) (k : Int) : TSigned := mkSigned x (mh1 (sdh x) k) (mh2 (sdh x) k) (mh3 (sdh x) k) (ms x k)
theorem l6Copy_v (x : TKeys) (hx : x.1.length ≤ 1048576) : spec_l6Copy x = some x := by
  unfold spec_l6Copy
  rw [decide_eq_true (by simp; omega), cond_t]; rfl
theorem Clone_int_v (x : List Int) (hx : x.length ≤ 1048576) : slices_Clone_int x = some x := by
  have e : (bif decide (([] : List Int).length + x.length < 68719476736) then some ([] ++ x) else none) = some x := by
    rw [decide_eq_true (by simp; omega), cond_t]; rfl
  unfold slices_Clone_int
  rw [e]
  cases x with
  | nil => exact both_eq _
  | cons a t => rfl
theorem copyKeys_v (x : TKeys) (hx : x.1.length ≤ 1048576) : impl_copyKeys x = some x := by
  unfold impl_copyKeys
  rw [Clone_int_v _ hx, bind_s]
theorem l13Copy_v (x0 : THead) (hx : sizeHead x0 ≤ 1048576) : spec_l13Copy x0 = some x0 := by
  unfold sizeHead at hx
  have e1 := l6Copy_v (hk1 x0) (by omega)
  have e2 := l6Copy_v (hk2 x0) (by omega)
  have e3 := l6Copy_v (hk3 x0) (by omega)
  unfold hk1 at e1
  unfold hk2 at e2
  unfold hk3 at e3
  unfold spec_l13Copy
  rw [e1, bind_s, e2, bind_s, e3, bind_s]
theorem copyHead_v (x0 : THead) (hx : sizeHead x0 ≤ 1048576) : impl_copyHead x0 = some x0 := by
  unfold sizeHead at hx
  have e1 := copyKeys_v (hk1 x0) (by omega)
  have e2 := copyKeys_v (hk2 x0) (by omega)
  have e3 := copyKeys_v (hk3 x0) (by omega)
  unfold hk1 at e1
  unfold hk2 at e2
  unfold hk3 at e3
  unfold impl_copyHead
  rw [e1, bind_s, e2, bind_s, e3, bind_s]
def mkS (h : THead) (s : List TSig) : TSigned := (h.1, h.2.1, h.2.2.1, h.2.2.2.1, h.2.2.2.2.1, h.2.2.2.2.2.1, h.2.2.2.2.2.2.1, h.2.2.2.2.2.2.2.1, h.2.2.2.2.2.2.2.2.1, h.2.2.2.2.2.2.2.2.2.1, h.2.2.2.2.2.2.2.2.2.2.1, h.2.2.2.2.2.2.2.2.2.2.2.1, h.2.2.2.2.2.2.2.2.2.2.2.2.1, h.2.2.2.2.2.2.2.2.2.2.2.2.2.1, h.2.2.2.2.2.2.2.2.2.2.2.2.2.2.1, h.2.2.2.2.2.2.2.2.2.2.2.2.2.2.2, s)
def hasK (xs : List Int) (k : Int) : Bool := xs.any (fun a => a == k)
theorem l6Has_l (x0 : List Int) (k : Int) (hx : x0.length ≤ 1152921504606846976) : ∀ i n, i ≤ x0.length → x0.length - i < n → spec_l6Has.l4 x0 k n (i : Int) = some (hasK (x0.drop i) k) := by
  refine idx_ind ?_ ?_
  · intro n
    rw [spec_l6Has.u4]
    simp only [spec_l6Has.g4, lt_f (Nat.le_refl _), cond_f, List.drop_length]; rfl
  · intro i n hi ih
    rw [spec_l6Has.u4]
    simp only [spec_l6Has.g4, lt_t hi, ge_t, cond_t, w64_succ (i := i) (by omega), Int.toNat_natCast, at_n hi, ih]
    rw [List.drop_eq_getElem_cons hi]
    show _ = some ((x0[i] == k) || hasK (x0.drop (i + 1)) k)
    cases (x0[i] == k) <;> rfl
theorem l6Has_v (x0 : List Int) (k : Int) (hx : x0.length ≤ 1152921504606846976) : spec_l6Has x0 k = some (hasK x0 k) := by
  have := l6Has_l x0 k hx 0 KK (Nat.zero_le _) (KK_gt (by omega))
  rw [List.drop_zero] at this
  exact this
theorem Index_int_l (x0 : List Int) (k : Int) (hx : x0.length ≤ 1152921504606846976) : ∀ i n, i ≤ x0.length → x0.length - i < n → slices_Index_int.l4 x0 k n (x0.length : Int) (i : Int) = some (fnd (fun a => a == k) (x0.drop i) (i : Int)) := by
  refine idx_ind ?_ ?_
  · intro n
    rw [slices_Index_int.u4]
    simp only [slices_Index_int.g4, lt_f (Nat.le_refl _), cond_f, fnd_last]
  · intro i n hi ih
    rw [slices_Index_int.u4]
    simp only [slices_Index_int.g4, lt_t hi, ge_t, cond_t, w64_succ (i := i) (by omega), Int.toNat_natCast, at_n hi, fnd_step _ hi, ih]
    rw [Bool.beq_comm]
    cases (x0[i] == k) <;> rfl
theorem Contains_int_v (x0 : List Int) (k : Int) (hx : x0.length ≤ 1152921504606846976) : slices_Contains_int x0 k = some (hasK x0 k) := by
  have h := Index_int_l x0 k hx 0 KK (Nat.zero_le _) (KK_gt (by omega))
  rw [List.drop_zero] at h
  have e : slices_Index_int x0 k = some (fnd (fun a => a == k) x0 0) := h
  unfold slices_Contains_int
  rw [e, bind_s, fnd_ge _ _ _ (Int.le_refl 0)]; rfl
def signs (sk : List Int) (m : List Int) : List Int → List TSig → List TSig
  | [], acc => acc
  | k :: ks, acc => signs sk m ks (bif hasK sk k then acc ++ [(k, tagOf k m)] else acc)
theorem signs_step (sk m : List Int) {ks : List Int} {i : Nat} (h : i < ks.length) (acc : List TSig) : signs sk m (ks.drop i) acc = signs sk m (ks.drop (i + 1)) (bif hasK sk ks[i] then acc ++ [(ks[i], tagOf ks[i] m)] else acc) := by
  rw [List.drop_eq_getElem_cons h]; rfl
theorem signs_last (sk m ks : List Int) (acc : List TSig) : signs sk m (ks.drop ks.length) acc = acc := by
  rw [List.drop_length]; rfl
theorem signs_len (sk m ks : List Int) : ∀ acc : List TSig, (signs sk m ks acc).length ≤ acc.length + ks.length := by
  induction ks with
  | nil => intro acc; exact Nat.le_refl _
  | cons k ks ih =>
    intro acc
    show (signs sk m ks (bif hasK sk k then acc ++ [(k, tagOf k m)] else acc)).length ≤ _
    refine Nat.le_trans (ih _) ?_
    cases hasK sk k with
    | true => rw [cond_t, List.length_append, List.length_cons]; simp; omega
    | false => rw [cond_f, List.length_cons]; omega
theorem sSignBy_l (sk : List Int) (x1 : TKeys) (m : List Int) (hs : sk.length ≤ 1048576) (hk : x1.1.length ≤ 1048576) (hm : m.length ≤ 8388608) : ∀ i n, i ≤ x1.1.length → x1.1.length - i < n → ∀ acc : List TSig, acc.length ≤ i → spec_SignBy.l6 sk x1 m n (i : Int) acc = some (signs sk m (x1.1.drop i) acc) := by
  refine idx_ind ?_ ?_
  · intro n acc ha
    rw [spec_SignBy.u6]
    simp only [spec_SignBy.g6, lt_f (Nat.le_refl _), cond_f, signs_last]
  · intro i n hi ih acc ha
    rw [spec_SignBy.u6]
    simp only [spec_SignBy.g6, lt_t hi, ge_t, cond_t, bind_s, w64_succ (i := i) (by omega), Int.toNat_natCast, at_n hi, l6Has_v _ _ (show sk.length ≤ 1152921504606846976 by omega), sTagOf_v _ _ hm, signs_step _ _ hi]
    cases hasK sk x1.1[i] with
    | true =>
      rw [cond_t, cond_t, decide_eq_true (by simp; omega), cond_t]
      exact ih _ (by rw [List.length_append]; simp; omega)
    | false => rw [cond_f, cond_f]; exact ih _ (by omega)
theorem iSignBy_l (sk : List Int) (x1 : TKeys) (m : List Int) (hs : sk.length ≤ 1048576) (hk : x1.1.length ≤ 1048576) (hm : m.length ≤ 8388608) : ∀ i n, i ≤ x1.1.length → x1.1.length - i < n → ∀ acc : List TSig, acc.length ≤ i → impl_SignBy.l6 sk x1 m n (x1.1.length : Int) (i : Int) acc = some (signs sk m (x1.1.drop i) acc) := by
  refine idx_ind ?_ ?_
  · intro n acc ha
    rw [impl_SignBy.u6]
    simp only [impl_SignBy.g6, lt_f (Nat.le_refl _), cond_f, signs_last]
  · intro i n hi ih acc ha
    rw [impl_SignBy.u6]
    simp only [impl_SignBy.g6, lt_t hi, ge_t, cond_t, bind_s, w64_succ (i := i) (by omega), Int.toNat_natCast, at_n hi, Contains_int_v _ _ (show sk.length ≤ 1152921504606846976 by omega), iTagOf_v _ _ hm, signs_step _ _ hi]
    cases hasK sk x1.1[i] with
    | true =>
      rw [cond_t, cond_t, decide_eq_true (by simp; omega), cond_t]
      exact ih _ (by rw [List.length_append]; simp; omega)
    | false => rw [cond_f, cond_f]; exact ih _ (by omega)
theorem sSignBy_v (sk : List Int) (x1 : TKeys) (m : List Int) (hs : sk.length ≤ 1048576) (hk : x1.1.length ≤ 1048576) (hm : m.length ≤ 8388608) : spec_SignBy sk x1 m = some (signs sk m x1.1 []) := by
  have := sSignBy_l sk x1 m hs hk hm 0 KK (Nat.zero_le _) (KK_gt (by omega)) [] (Nat.le_refl _)
  rw [List.drop_zero] at this
  exact this
theorem iSignBy_v (sk : List Int) (x1 : TKeys) (m : List Int) (hs : sk.length ≤ 1048576) (hk : x1.1.length ≤ 1048576) (hm : m.length ≤ 8388608) : impl_SignBy sk x1 m = some (signs sk m x1.1 []) := by
  have := iSignBy_l sk x1 m hs hk hm 0 KK (Nat.zero_le _) (KK_gt (by omega)) [] (Nat.le_refl _)
  rw [List.drop_zero] at this
  exact this
def signHead (sk : List Int) (k : TKeys) (h : THead) : TSigned := mkS h (signs sk (headInts h) k.1 [])
theorem sSignHead_v (sk : List Int) (k : TKeys) (h : THead) (hs : sk.length ≤ 1048576) (hk : k.1.length ≤ 1048576) (hh : sizeHead h ≤ 1048576) : spec_SignHead sk k h = some (signHead sk k h) := by
  unfold spec_SignHead
  rw [l13Copy_v _ hh, bind_s, sHeadInts_v _ hh, bind_s, sSignBy_v _ _ _ hs hk (by rw [headInts_len]; omega), bind_s]; rfl
theorem iSignHead_v (sk : List Int) (k : TKeys) (h : THead) (hs : sk.length ≤ 1048576) (hk : k.1.length ≤ 1048576) (hh : sizeHead h ≤ 1048576) : impl_SignHead sk k h = some (signHead sk k h) := by
  unfold impl_SignHead
  rw [copyHead_v _ hh, bind_s, iHeadInts_v _ hh, bind_s, iSignBy_v _ _ _ hs hk (by rw [headInts_len]; omega), bind_s]; rfl
theorem signHead_size (sk : List Int) (k : TKeys) (h : THead) : sizeSigned (signHead sk k h) ≤ sizeHead h + k.1.length := by
  have := signs_len sk (headInts h) k.1 []
  show sizeHead h + (signs sk (headInts h) k.1 []).length ≤ _
  rw [List.length_nil, Nat.zero_add] at this
  omega
def signK (x0 x1 : THead) : TKeys := bif x1.2.2.1 == (2 : Int) then hk2 x0 else bif x1.2.2.1 == (3 : Int) then hk3 x0 else hk1 x0
theorem signK_le (x0 x1 : THead) : (signK x0 x1).1.length ≤ sizeHead x0 := by
  unfold signK sizeHead
  cases (x1.2.2.1 == (2 : Int)) <;> cases (x1.2.2.1 == (3 : Int)) <;> simp only [cond_t, cond_f] <;> omega
def signNext (x0 x1 : THead) (x2 : List Int) : TSigned := signHead x2 (signK x0 x1) x1
theorem sSignNext_v (x0 x1 : THead) (x2 : List Int) (h0 : sizeHead x0 ≤ 1048576) (h1 : sizeHead x1 ≤ 1048576) (h2 : x2.length ≤ 1048576) : spec_SignNext x0 x1 x2 = some (signNext x0 x1 x2) := by
  have hs := h0
  unfold sizeHead at hs
  show (bif x1.2.2.1 == (2 : Int) then (spec_SignHead x2 (hk2 x0) x1).bind fun y1 => some y1 else bif x1.2.2.1 == (3 : Int) then (spec_SignHead x2 (hk3 x0) x1).bind fun y2 => some y2 else (spec_SignHead x2 (hk1 x0) x1).bind fun y3 => some y3) = _
  rw [sSignHead_v _ _ _ h2 (by omega) h1, bind_s, sSignHead_v _ _ _ h2 (by omega) h1, bind_s, sSignHead_v _ _ _ h2 (by omega) h1, bind_s]
  unfold signNext signK
  cases (x1.2.2.1 == (2 : Int)) <;> cases (x1.2.2.1 == (3 : Int)) <;> rfl
theorem iSignNext_v (x0 x1 : THead) (x2 : List Int) (h0 : sizeHead x0 ≤ 1048576) (h1 : sizeHead x1 ≤ 1048576) (h2 : x2.length ≤ 1048576) : impl_SignNext x0 x1 x2 = some (signNext x0 x1 x2) := by
  have hs := h0
  unfold sizeHead at hs
  show (bif x1.2.2.1 == (2 : Int) then (impl_SignHead x2 (hk2 x0) x1).bind fun y1 => some y1 else bif x1.2.2.1 == (3 : Int) then (impl_SignHead x2 (hk3 x0) x1).bind fun y2 => some y2 else (impl_SignHead x2 (hk1 x0) x1).bind fun y3 => some y3) = _
  rw [iSignHead_v _ _ _ h2 (by omega) h1, bind_s, iSignHead_v _ _ _ h2 (by omega) h1, bind_s, iSignHead_v _ _ _ h2 (by omega) h1, bind_s]
  unfold signNext signK
  cases (x1.2.2.1 == (2 : Int)) <;> cases (x1.2.2.1 == (3 : Int)) <;> rfl
theorem signNext_tail (x0 x1 : THead) (x2 : List Int) (h : sizeHead x0 + sizeHead x1 ≤ 1048576) (h2 : x2.length ≤ 1048576) : laws_FnExactSignNext.l59 x0 x1 x2 (signNext x0 x1 x2) (signNext x0 x1 x2) = some true := by
  have b1 : sizeSigned (signNext x0 x1 x2) ≤ 1048576 := by
    have := signHead_size x2 (signK x0 x1) x1
    have := signK_le x0 x1
    unfold signNext
    omega
  have hh := heldSigned_v (signNext x0 x1 x2) 1 (by omega) (by omega) b1
  have hq := eqSigned_v (signNext x0 x1 x2) (by omega)
  have hi := iSignNext_v x0 x1 x2 (by omega) (by omega) h2
  unfold laws_FnExactSignNext.l59
  unfold laws_FnExactSignNext.g59
  rw [markSigned_v _ 1 (by omega) (by omega) b1, bind_s]
  generalize ht : signNext x0 x1 x2 = t at hh hq hi b1 ⊢
  show ((laws_heldSigned (mkSigned t (mh1 (sdh t) 1) (mh2 (sdh t) 1) (mh3 (sdh t) 1) (ms t 1)) 1).bind fun y23 => bif decide (y23 < (0 : Int)) then some false else bif y23 != (1 + (cntSigned t : Int)) then some false else (laws_toHead x0).bind fun y24 => (laws_toHead x1).bind fun y25 => (laws_toIntS x2).bind fun y26 => (impl_SignNext y24 y25 y26).bind fun y27 => (laws_eqSigned y27 t).bind fun y28 => bif !y28 then some false else (laws_heldSigned (mkSigned t (mh1 (sdh t) 1) (mh2 (sdh t) 1) (mh3 (sdh t) 1) (ms t 1)) 1).bind fun y29 => bif decide (y29 < (0 : Int)) then some false else bif y29 != (1 + (cntSigned t : Int)) then some false else some true) = _
  simp only [hh, bind_s, bne_self, cond_f, toHead_v x0 (show sizeHead x0 ≤ 1048576 by omega), toHead_v x1 (show sizeHead x1 ≤ 1048576 by omega), toIntS_v x2 h2, hi, hq, Bool.not_true]
  rw [decide_eq_false (by omega), cond_f, cond_f]
theorem pure_FnExactSignNext (x0 x1 : THead) (x2 : List Int) (h0 : HeadMax x0) (h1 : HeadMax x1) (h2 : x2.length ≤ 9223372036854775807) : laws_FnExactSignNext x0 x1 x2 = some true := by
  show (laws_FnExactSignNext.b x0 x1 x2 (fun y6 y10 => laws_FnExactSignNext.l59 x0 x1 x2 y6 y10)) = _
  unfold laws_FnExactSignNext.b
  by_cases g2 : (x2.length : Int) > 1048576
  · rw [decide_eq_true g2, cond_t]
  · rw [decide_eq_false g2, cond_f, szHead_v _ _ h0 (by omega) (by omega), bind_s]
    by_cases g0 : (sizeHead x0 : Int) ≤ 1048576
    · rw [if_pos g0, decide_eq_false (by omega), cond_f, szHead_v _ _ h1 (by omega) (by omega), bind_s]
      by_cases g1 : (sizeHead x1 : Int) ≤ 1048576 - sizeHead x0
      · have b0 : sizeHead x0 ≤ 1048576 := by omega
        have b1 : sizeHead x1 ≤ 1048576 := by omega
        have b2 : x2.length ≤ 1048576 := by omega
        have bs : sizeSigned (signNext x0 x1 x2) ≤ 1048576 := by
          have := signHead_size x2 (signK x0 x1) x1
          have := signK_le x0 x1
          unfold signNext
          omega
        rw [if_pos g1, decide_eq_false (by omega), cond_f]
        simp only [toHead_v _ b0, toHead_v _ b1, toIntS_v _ b2, bind_s, sSignNext_v _ _ _ b0 b1 b2, iSignNext_v _ _ _ b0 b1 b2, eqSigned_v (signNext x0 x1 x2) (show _ ≤ 1152921504606846976 by omega), eqHead_v x0 (show _ ≤ 1152921504606846976 by omega), eqHead_v x1 (show _ ≤ 1152921504606846976 by omega), eqIntS_v x2 (show _ ≤ 1152921504606846976 by omega), Bool.not_true, cond_f]
        rw [markHead_v x0 1 (by omega) (by omega) b0, bind_s]
        dsimp only
        rw [markHead_v x1 _ (by omega) (by omega) b1, bind_s]
        dsimp only
        rw [markIntS_v x2 _ (by omega) (by omega) b2, bind_s, decide_eq_false (by dsimp only; omega), cond_f]
        exact signNext_tail x0 x1 x2 (by omega) b2
      · rw [if_neg g1, decide_eq_true (by omega), cond_t]
    · rw [if_neg g0, decide_eq_true (by omega), cond_t]

end Go.Proofs.Ytdfchkmfamnocaa
