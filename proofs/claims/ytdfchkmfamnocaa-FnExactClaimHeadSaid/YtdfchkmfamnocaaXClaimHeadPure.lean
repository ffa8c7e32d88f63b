/- The plain law of FnExactClaimHead: what the printed functions compute is true, for all data in range. -/
import Derived.Test.YtdfchkmfamnocaaXClaimHeadPure0
namespace Go.Proofs.Ytdfchkmfamnocaa
open V
set_option linter.unusedVariables false
set_option linter.unusedSimpArgs false
theorem l1In_v (a b c : Int) : spec_l1In a b c = some (decide (b ≤ a) && decide (a ≤ c)) := by
  show (bif decide (b ≤ a) then some (decide (a ≤ c)) else some false) = _
  cases decide (b ≤ a) <;> rfl
theorem InRange_v (a b c : Int) : impl_InRange a b c = some (decide (b ≤ a) && decide (a ≤ c)) := by
  show (bif decide (b ≤ a) then some (decide (a ≤ c)) else some false) = _
  cases decide (b ≤ a) <;> rfl
theorem szIntS_v (x0 : List Int) (L : Int) (hx : x0.length ≤ 9223372036854775807) (h0 : 0 ≤ L) (h1 : L ≤ 1048576) : laws_szIntS x0 L = some (if (x0.length : Int) ≤ L then L - x0.length else -1) := by
  unfold laws_szIntS
  rw [w64 (by omega) (by omega)]
  by_cases h : (x0.length : Int) ≤ L
  · rw [if_pos h, decide_eq_false (by omega), cond_f]
  · rw [if_neg h, decide_eq_true (by omega), cond_t]
theorem toIntS_l (x0 : List Int) (hx : x0.length ≤ 1048576) : ∀ i n, i ≤ x0.length → x0.length - i < n → ∀ ys, ys = x0.take i ++ List.replicate (x0.length - i) (0 : Int) → laws_toIntS.l6 x0 n (i : Int) ys = some x0 := by
  refine idx_ind ?_ ?_
  · intro n ys hy
    subst hy
    rw [laws_toIntS.u6]
    simp only [laws_toIntS.g6, lt_f (Nat.le_refl _), cond_f]
    simp
  · intro i n hi ih ys hy
    have hyl : i < ys.length := by subst hy; simp; omega
    rw [laws_toIntS.u6]
    simp only [laws_toIntS.g6, lt_t hi, lt_t hyl, ge_t, cond_t, bind_s, w64_succ (i := i) (by omega), Int.toNat_natCast, at_n hi]
    exact ih _ (fill_set hy hi)
theorem toIntS_v (x0 : List Int) (hx : x0.length ≤ 1048576) : laws_toIntS x0 = some x0 := by
  unfold laws_toIntS
  simp only [laws_toIntS.b, beq_self_eq_true, cond_t, ge_t, Int.toNat_natCast]
  rw [decide_eq_true (by omega), cond_t]
  have := toIntS_l x0 hx 0 KK (Nat.zero_le _) (KK_gt (by omega)) _ rfl
  simpa using this
theorem eqIntS_l (x0 : List Int) (hx : x0.length ≤ 1152921504606846976) : ∀ i n, i ≤ x0.length → x0.length - i < n → laws_eqIntS.l8 x0 x0 n (i : Int) = some true := by
  refine idx_ind ?_ ?_
  · intro n
    rw [laws_eqIntS.u8]
    simp only [laws_eqIntS.g8, lt_f (Nat.le_refl _), cond_f]
  · intro i n hi ih
    rw [laws_eqIntS.u8]
    simp only [laws_eqIntS.g8, lt_t hi, ge_t, cond_t, bind_s, w64_succ (i := i) (by omega), bne_self, cond_f]
    exact ih
theorem eqIntS_v (x0 : List Int) (hx : x0.length ≤ 1152921504606846976) : laws_eqIntS x0 x0 = some true := by
  unfold laws_eqIntS
  simp only [laws_eqIntS.b, len_eq (rfl : x0.length = x0.length), cond_f]
  have := eqIntS_l x0 hx 0 KK (Nat.zero_le _) (KK_gt (by omega))
  simpa using this
theorem szKeys_v (x0 : TKeys) (L : Int) (hx : x0.1.length ≤ 9223372036854775807) (h0 : 0 ≤ L) (h1 : L ≤ 1048576) : laws_szKeys x0 L = some (if (x0.1.length : Int) ≤ L then L - x0.1.length else -1) := by
  unfold laws_szKeys
  rw [szIntS_v _ _ hx h0 h1, bind_s]
  by_cases h : (x0.1.length : Int) ≤ L
  · rw [if_pos h, decide_eq_false (by omega), cond_f]
  · rw [if_neg h, decide_eq_true (by omega), cond_t]
theorem toKeys_v (x0 : TKeys) (hx : x0.1.length ≤ 1048576) : laws_toKeys x0 = some x0 := by
  unfold laws_toKeys
  rw [toIntS_v _ hx, bind_s]
theorem eqKeys_v (a : TKeys) (hx : a.1.length ≤ 1152921504606846976) : laws_eqKeys a a = some true := by
  unfold laws_eqKeys
  simp only [bne_self, cond_f, eqIntS_v a.1 hx, bind_s, Bool.not_true]
def hk1 (x : THead) : TKeys := (x.2.2.2.2.2.2.2.2.1, x.2.2.2.2.2.2.2.2.2.1)
def hk2 (x : THead) : TKeys := (x.2.2.2.2.2.2.2.2.2.2.1, x.2.2.2.2.2.2.2.2.2.2.2.1)
def hk3 (x : THead) : TKeys := (x.2.2.2.2.2.2.2.2.2.2.2.2.2.1, x.2.2.2.2.2.2.2.2.2.2.2.2.2.2.1)
def sizeHead (x : THead) : Nat := (hk1 x).1.length + (hk2 x).1.length + (hk3 x).1.length
structure HeadMax (x : THead) : Prop where
  a : (hk1 x).1.length ≤ 9223372036854775807
  b : (hk2 x).1.length ≤ 9223372036854775807
  c : (hk3 x).1.length ≤ 9223372036854775807
theorem szHead_v (x0 : THead) (L : Int) (hx : HeadMax x0) (h0 : 0 ≤ L) (h1 : L ≤ 1048576) : laws_szHead x0 L = some (if (sizeHead x0 : Int) ≤ L then L - sizeHead x0 else -1) := by
  show ((laws_szKeys (hk1 x0) L).bind fun y1 => bif decide (y1 < (0 : Int)) then some (-1 : Int) else (laws_szKeys (hk2 x0) y1).bind fun y2 => bif decide (y2 < (0 : Int)) then some (-1 : Int) else (laws_szKeys (hk3 x0) y2).bind fun y3 => bif decide (y3 < (0 : Int)) then some (-1 : Int) else some y3) = _
  unfold sizeHead
  rw [szKeys_v _ _ hx.a h0 h1, bind_s]
  by_cases g1 : ((hk1 x0).1.length : Int) ≤ L
  · rw [if_pos g1, decide_eq_false (by omega), cond_f, szKeys_v _ _ hx.b (by omega) (by omega), bind_s]
    by_cases g2 : ((hk2 x0).1.length : Int) ≤ L - (hk1 x0).1.length
    · rw [if_pos g2, decide_eq_false (by omega), cond_f, szKeys_v _ _ hx.c (by omega) (by omega), bind_s]
      by_cases g3 : ((hk3 x0).1.length : Int) ≤ L - (hk1 x0).1.length - (hk2 x0).1.length
      · rw [if_pos g3, decide_eq_false (by omega), cond_f, if_pos (by omega)]
        congr 1; omega
      · rw [if_neg g3, decide_eq_true (by omega), cond_t, if_neg (by omega)]
    · rw [if_neg g2, decide_eq_true (by omega), cond_t, if_neg (by omega)]
  · rw [if_neg g1, decide_eq_true (by omega), cond_t, if_neg (by omega)]
theorem toHead_v (x0 : THead) (hx : sizeHead x0 ≤ 1048576) : laws_toHead x0 = some x0 := by
  unfold sizeHead at hx
  have e1 := toKeys_v (hk1 x0) (by omega)
  have e2 := toKeys_v (hk2 x0) (by omega)
  have e3 := toKeys_v (hk3 x0) (by omega)
  unfold hk1 at e1
  unfold hk2 at e2
  unfold hk3 at e3
  unfold laws_toHead
  rw [e1, bind_s, e2, bind_s, e3, bind_s]
theorem eqHead_v (a : THead) (hx : sizeHead a ≤ 1152921504606846976) : laws_eqHead a a = some true := by
  unfold sizeHead at hx
  have e1 := eqKeys_v (hk1 a) (by omega)
  have e2 := eqKeys_v (hk2 a) (by omega)
  have e3 := eqKeys_v (hk3 a) (by omega)
  unfold hk1 at e1
  unfold hk2 at e2
  unfold hk3 at e3
  unfold laws_eqHead
  simp only [bne_self, cond_f, e1, e2, e3, bind_s, Bool.not_true, beq_self_eq_true]
theorem Grow_v (n : Int) (h0 : 0 ≤ n) (h1 : n < 68719476736) : slices_Grow_int [] n = some [] := by
  have e0 : IntKind.i64.wrap ((0 : Int) - ((0 : Nat) : Int)) = 0 := w64 (by omega) (by omega)
  have e1 : IntKind.i64.wrap (n - 0) = n := by rw [w64 (by omega) (by omega)]; omega
  unfold slices_Grow_int
  simp only [slices_Grow_int.b, slices_Grow_int.l7, slices_Grow_int.g7, e0, e1]
  rw [decide_eq_false (by omega), cond_f]
  by_cases h : n > 0
  · rw [decide_eq_true h, cond_t, decide_eq_true (by omega), cond_t, decide_eq_true h1, cond_t, decide_eq_true (by omega), cond_t, decide_eq_true (by omega), cond_t, decide_eq_true (by omega), cond_t]
    simp
  · rw [decide_eq_false h, cond_f]
theorem Concat_l22 (x0 : List (List Int)) (hl : x0.length < 1152921504606846976) : ∀ i n, i ≤ x0.length → x0.length - i < n → ∀ acc : List Int, acc.length + (x0.drop i).flatten.length < 68719476736 → slices_Concat_int.l22 x0 n (x0.length : Int) (i : Int) acc = some (acc ++ (x0.drop i).flatten) := by
  refine idx_ind ?_ ?_
  · intro n acc ha
    rw [slices_Concat_int.u22]
    simp only [slices_Concat_int.g22, lt_f (Nat.le_refl _), cond_f, List.drop_length, List.flatten_nil, List.append_nil]
  · intro i n hi ih acc ha
    rw [List.drop_eq_getElem_cons hi, List.flatten_cons] at ha ⊢
    rw [List.length_append] at ha
    rw [slices_Concat_int.u22]
    simp only [slices_Concat_int.g22, lt_t hi, ge_t, cond_t, w64_succ (i := i) (by omega), Int.toNat_natCast, at_n hi]
    rw [decide_eq_true (by omega), cond_t, ih _ (by rw [List.length_append]; omega), List.append_assoc]
theorem Concat_l6 (x0 : List (List Int)) (hl : x0.length < 1152921504606846976) (hf : x0.flatten.length < 68719476736) : ∀ i n, i ≤ x0.length → x0.length - i < n → ∀ s : Int, 0 ≤ s → s + (x0.drop i).flatten.length < 68719476736 → slices_Concat_int.l6 x0 n s (x0.length : Int) (i : Int) = some x0.flatten := by
  refine idx_ind ?_ ?_
  · intro n s h0 ha
    rw [slices_Concat_int.u6]
    rw [List.drop_length, List.flatten_nil] at ha
    simp only [slices_Concat_int.g6, lt_f (Nat.le_refl _), cond_f]
    rw [Grow_v s h0 (by simpa using ha), bind_s]
    have := Concat_l22 x0 hl 0 KK (Nat.zero_le _) (KK_gt (by omega)) [] (by simpa using hf)
    simpa using this
  · intro i n hi ih s h0 ha
    rw [List.drop_eq_getElem_cons hi, List.flatten_cons, List.length_append] at ha
    rw [slices_Concat_int.u6]
    simp only [slices_Concat_int.g6, lt_t hi, ge_t, cond_t, w64_succ (i := i) (by omega), Int.toNat_natCast, at_n hi]
    rw [w64 (n := s + (x0[i].length : Int)) (by omega) (by omega), decide_eq_false (by omega), cond_f, ih _ (by omega) (by omega)]
theorem Concat_v (x0 : List (List Int)) (hl : x0.length < 1152921504606846976) (hf : x0.flatten.length < 68719476736) : slices_Concat_int x0 = some x0.flatten := by
  have := Concat_l6 x0 hl hf 0 KK (Nat.zero_le _) (KK_gt (by omega)) 0 (Int.le_refl 0) (by rw [List.drop_zero, Int.zero_add]; omega)
  exact this
theorem Mod_eq (a b : Int) : spec_Mod a b = impl_Mod a b := by
  unfold spec_Mod impl_Mod
  rw [l1In_v, InRange_v]
def mod2 (a : Int) : Int := Int.tmod (IntKind.i64.wrap (Int.tmod a 2147483647 + 2147483647)) 2147483647
theorem Mod_v (a : Int) : impl_Mod a 2147483647 = some (mod2 a) := by
  unfold impl_Mod mod2
  rw [InRange_v, bind_s]
  rw [decide_eq_true (by omega), decide_eq_true (by omega), Bool.and_self, Bool.not_true, cond_f]
  rw [show ((2147483647 : Int) == 0) = false from by decide, cond_f, cond_f]
def hstep (h a : Int) : Int := Int.tmod (IntKind.i64.wrap ((IntKind.i64.wrap ((IntKind.i64.wrap (h * (1000003 : Int))) + mod2 a)) + (13 : Int))) (2147483647 : Int)
theorem sHash_l (x0 : List Int) (hx : x0.length ≤ 1152921504606846976) : ∀ i n, i ≤ x0.length → x0.length - i < n → ∀ h : Int, spec_Hash.l6 x0 n h (i : Int) = some ((x0.drop i).foldl hstep h) := by
  refine idx_ind ?_ ?_
  · intro n h
    rw [spec_Hash.u6]
    simp only [spec_Hash.g6, lt_f (Nat.le_refl _), cond_f, List.drop_length, List.foldl_nil]
  · intro i n hi ih h
    rw [List.drop_eq_getElem_cons hi, List.foldl_cons]
    rw [spec_Hash.u6]
    simp only [spec_Hash.g6, lt_t hi, ge_t, cond_t, bind_s, w64_succ (i := i) (by omega), Int.toNat_natCast, at_n hi, Mod_eq, Mod_v]
    rw [show ((2147483647 : Int) == 0) = false from by decide, cond_f, ih]
    rfl
theorem iHash_l (x0 : List Int) (hx : x0.length ≤ 1152921504606846976) : ∀ i n, i ≤ x0.length → x0.length - i < n → ∀ h : Int, impl_Hash.l6 x0 n h (x0.length : Int) (i : Int) = some ((x0.drop i).foldl hstep h) := by
  refine idx_ind ?_ ?_
  · intro n h
    rw [impl_Hash.u6]
    simp only [impl_Hash.g6, lt_f (Nat.le_refl _), cond_f, List.drop_length, List.foldl_nil]
  · intro i n hi ih h
    rw [List.drop_eq_getElem_cons hi, List.foldl_cons]
    rw [impl_Hash.u6]
    simp only [impl_Hash.g6, lt_t hi, ge_t, cond_t, bind_s, w64_succ (i := i) (by omega), Int.toNat_natCast, at_n hi, Mod_v]
    rw [show ((2147483647 : Int) == 0) = false from by decide, cond_f, ih]
    rfl
theorem sHash_v (x0 : List Int) (hx : x0.length ≤ 1152921504606846976) : spec_Hash x0 = some (x0.foldl hstep 11) := by
  have := sHash_l x0 hx 0 KK (Nat.zero_le _) (KK_gt (by omega)) 11
  rw [List.drop_zero] at this
  exact this
theorem iHash_v (x0 : List Int) (hx : x0.length ≤ 1152921504606846976) : impl_Hash x0 = some (x0.foldl hstep 11) := by
  have := iHash_l x0 hx 0 KK (Nat.zero_le _) (KK_gt (by omega)) 11
  rw [List.drop_zero] at this
  exact this
def keysInts (k : TKeys) : List Int := [k.2, (k.1.length : Int)] ++ k.1
theorem keysInts_len (k : TKeys) : (keysInts k).length = k.1.length + 2 := by unfold keysInts; simp
theorem sKeysInts_v (k : TKeys) (h : k.1.length ≤ 1048576) : spec_KeysInts k = some (keysInts k) := by
  unfold spec_KeysInts keysInts
  rw [decide_eq_true (by simp; omega), cond_t]
theorem iKeysInts_v (k : TKeys) (h : k.1.length ≤ 1048576) : impl_KeysInts k = some (keysInts k) := by
  unfold impl_KeysInts keysInts
  rw [decide_eq_true (by simp; omega), cond_t]
def hd8 (x0 : THead) : List Int := [x0.1, x0.2.1, x0.2.2.1, x0.2.2.2.1, x0.2.2.2.2.1, x0.2.2.2.2.2.1, x0.2.2.2.2.2.2.1, x0.2.2.2.2.2.2.2.1]
def hde (x0 : THead) : List Int := [x0.2.2.2.2.2.2.2.2.2.2.2.2.1]
def hdb (x0 : THead) : List Int := [bif x0.2.2.2.2.2.2.2.2.2.2.2.2.2.2.2 then (1 : Int) else 0]
def headInts (x0 : THead) : List Int := ((((hd8 x0 ++ keysInts (hk1 x0)) ++ keysInts (hk2 x0)) ++ hde x0) ++ keysInts (hk3 x0)) ++ hdb x0
theorem headInts_len (x0 : THead) : (headInts x0).length = sizeHead x0 + 16 := by
  unfold headInts sizeHead
  simp only [List.length_append, keysInts_len]
  simp [hd8, hde, hdb]; omega
theorem app_le {α : Type} (a b : List α) : (a ++ b).length = a.length + b.length := List.length_append
theorem sHeadInts_v (x0 : THead) (h : sizeHead x0 ≤ 1048576) : spec_HeadInts x0 = some (headInts x0) := by
  have hs := h
  unfold sizeHead at hs
  have e1 := sKeysInts_v (hk1 x0) (by omega)
  have e2 := sKeysInts_v (hk2 x0) (by omega)
  have e3 := sKeysInts_v (hk3 x0) (by omega)
  have l1 := keysInts_len (hk1 x0)
  have l2 := keysInts_len (hk2 x0)
  have l3 := keysInts_len (hk3 x0)
  have l8 : (hd8 x0).length = 8 := rfl
  have le : (hde x0).length = 1 := rfl
  show ((spec_KeysInts (hk1 x0)).bind fun y1 => bif decide ((hd8 x0).length + y1.length < 68719476736) then (spec_KeysInts (hk2 x0)).bind fun y2 => bif decide ((hd8 x0 ++ y1).length + y2.length < 68719476736) then bif decide (((hd8 x0 ++ y1) ++ y2).length + (hde x0).length < 68719476736) then (spec_KeysInts (hk3 x0)).bind fun y3 => bif decide ((((hd8 x0 ++ y1) ++ y2) ++ hde x0).length + y3.length < 68719476736) then bif x0.2.2.2.2.2.2.2.2.2.2.2.2.2.2.2 then bif decide (((((hd8 x0 ++ y1) ++ y2) ++ hde x0) ++ y3).length + [(1 : Int)].length < 68719476736) then some (((((hd8 x0 ++ y1) ++ y2) ++ hde x0) ++ y3) ++ [(1 : Int)]) else none else bif decide (((((hd8 x0 ++ y1) ++ y2) ++ hde x0) ++ y3).length + [(0 : Int)].length < 68719476736) then some (((((hd8 x0 ++ y1) ++ y2) ++ hde x0) ++ y3) ++ [(0 : Int)]) else none else none else none else none else none) = _
  simp only [e1, e2, e3, bind_s, app_le, l1, l2, l3, l8, le, List.length_singleton]
  rw [decide_eq_true (by omega), cond_t, decide_eq_true (by omega), cond_t, decide_eq_true (by omega), cond_t, decide_eq_true (by omega), cond_t, decide_eq_true (by omega), cond_t]
  unfold headInts hdb
  cases x0.2.2.2.2.2.2.2.2.2.2.2.2.2.2.2 <;> rfl
theorem iHeadInts_v (x0 : THead) (h : sizeHead x0 ≤ 1048576) : impl_HeadInts x0 = some (headInts x0) := by
  have hs := h
  unfold sizeHead at hs
  have e1 := iKeysInts_v (hk1 x0) (by omega)
  have e2 := iKeysInts_v (hk2 x0) (by omega)
  have e3 := iKeysInts_v (hk3 x0) (by omega)
  have eb : impl_bit x0.2.2.2.2.2.2.2.2.2.2.2.2.2.2.2 = some (bif x0.2.2.2.2.2.2.2.2.2.2.2.2.2.2.2 then (1 : Int) else 0) := by
    unfold impl_bit
    cases x0.2.2.2.2.2.2.2.2.2.2.2.2.2.2.2 <;> rfl
  have ef : [hd8 x0, keysInts (hk1 x0), keysInts (hk2 x0), hde x0, keysInts (hk3 x0), hdb x0].flatten = headInts x0 := by
    simp [headInts]
  have ec := Concat_v [hd8 x0, keysInts (hk1 x0), keysInts (hk2 x0), hde x0, keysInts (hk3 x0), hdb x0] (by simp) (by rw [ef, headInts_len]; omega)
  rw [ef] at ec
  show ((impl_KeysInts (hk1 x0)).bind fun y1 => (impl_KeysInts (hk2 x0)).bind fun y2 => (impl_KeysInts (hk3 x0)).bind fun y3 => (impl_bit x0.2.2.2.2.2.2.2.2.2.2.2.2.2.2.2).bind fun y4 => (slices_Concat_int [hd8 x0, y1, y2, hde x0, y3, [y4]]).bind fun y5 => some y5) = _
  simp only [e1, e2, e3, eb, bind_s]
  rw [show [bif x0.2.2.2.2.2.2.2.2.2.2.2.2.2.2.2 then (1 : Int) else 0] = hdb x0 from rfl, ec, bind_s]
def headDigest (x0 : THead) : Int := ([(233 : Int)] ++ headInts x0).foldl hstep 11
theorem sHeadDigest_v (x0 : THead) (h : sizeHead x0 ≤ 1048576) : spec_HeadDigest x0 = some (headDigest x0) := by
  have hl := headInts_len x0
  unfold spec_HeadDigest headDigest
  rw [sHeadInts_v x0 h, bind_s, decide_eq_true (by simp [hl]; omega), cond_t, sHash_v _ (by simp [hl]; omega), bind_s]
theorem iHeadDigest_v (x0 : THead) (h : sizeHead x0 ≤ 1048576) : impl_HeadDigest x0 = some (headDigest x0) := by
  have hl := headInts_len x0
  unfold impl_HeadDigest headDigest
  rw [iHeadInts_v x0 h, bind_s, decide_eq_true (by simp [hl]; omega), cond_t, iHash_v _ (by simp [hl]; omega), bind_s]
theorem isKey_v (k : Int) : impl_isKey k = some (decide (1 ≤ k) && decide (k ≤ 99)) := by
  unfold impl_isKey
  rw [InRange_v, bind_s]
def gk (x0 : TKeys) (j : Nat) : Int := x0.1.getD j 0
theorem gk_def (x0 : TKeys) (j : Nat) : x0.1.getD j 0 = gk x0 j := rfl
def keysAsc (x0 : TKeys) (i : Nat) : Prop := ∀ j, j < x0.1.length → i ≤ j → 0 < j → gk x0 (j - 1) < gk x0 j
def keysIn (x0 : TKeys) (i : Nat) : Prop := ∀ j, j < x0.1.length → i ≤ j → (1 ≤ gk x0 j ∧ gk x0 j ≤ 99) ∧ (0 < j → gk x0 (j - 1) < gk x0 j)
def keysNeed (x0 : TKeys) : Prop := (1 ≤ (x0.1.length : Int) ∧ (x0.1.length : Int) ≤ 4) ∧ (1 ≤ x0.2 ∧ x0.2 ≤ (x0.1.length : Int))
theorem sIsKeys_l (x0 : TKeys) (hx : x0.1.length ≤ 1048576) : ∀ i n, i ≤ x0.1.length → x0.1.length - i < n → ∃ b, spec_IsKeys.l4 x0 n (i : Int) = some b ∧ (b = true ↔ keysIn x0 i ∧ keysNeed x0) := by
  refine idx_ind ?_ ?_
  · intro n
    rw [spec_IsKeys.u4]
    simp only [spec_IsKeys.g4, lt_f (Nat.le_refl _), cond_f, l1In_v, bind_s]
    refine ⟨(decide ((1 : Int) ≤ (x0.1.length : Int)) && decide ((x0.1.length : Int) ≤ 4)) && (decide (1 ≤ x0.2) && decide (x0.2 ≤ (x0.1.length : Int))), ?_, ?_⟩
    · cases (decide ((1 : Int) ≤ (x0.1.length : Int)) && decide ((x0.1.length : Int) ≤ 4)) <;> rfl
    · unfold keysIn keysNeed
      simp only [Bool.and_eq_true, decide_eq_true_eq]
      exact ⟨fun h => ⟨fun j h1 h2 => absurd h1 (by omega), h⟩, fun h => h.2⟩
  · intro i n hi ih
    obtain ⟨b, hb, hP⟩ := ih
    rw [spec_IsKeys.u4]
    simp only [spec_IsKeys.g4, lt_t hi, ge_t, cond_t, l1In_v, bind_s, w64_succ (i := i) (by omega), Int.toNat_natCast, hb, gk_def]
    by_cases hr : 1 ≤ gk x0 i ∧ gk x0 i ≤ 99
    · rw [decide_eq_true hr.1, decide_eq_true hr.2, Bool.and_self, Bool.not_true, cond_f]
      by_cases h0 : 0 < i
      · have ew : IntKind.i64.wrap ((i : Int) - 1) = ((i - 1 : Nat) : Int) := by rw [w64 (by omega) (by omega)]; omega
        simp only [decide_eq_true (show (i : Int) > 0 by omega), cond_t, ew, ge_t, lt_t (show i - 1 < x0.1.length by omega), Int.toNat_natCast, gk_def]
        by_cases ha : gk x0 (i - 1) < gk x0 i
        · rw [decide_eq_false (by omega), cond_f]
          refine ⟨b, rfl, hP.trans ⟨fun h => ⟨fun j h1 h2 => ?_, h.2⟩, fun h => ⟨fun j h1 h2 => h.1 j h1 (by omega), h.2⟩⟩⟩
          by_cases e : j = i
          · subst e; exact ⟨hr, fun _ => ha⟩
          · exact h.1 j h1 (by omega)
        · rw [decide_eq_true (by omega), cond_t]
          refine ⟨false, rfl, ⟨fun h => Bool.noConfusion h, fun h => absurd ((h.1 i hi (Nat.le_refl _)).2 h0) ha⟩⟩
      · rw [decide_eq_false (by omega), cond_f]
        refine ⟨b, rfl, hP.trans ⟨fun h => ⟨fun j h1 h2 => ?_, h.2⟩, fun h => ⟨fun j h1 h2 => h.1 j h1 (by omega), h.2⟩⟩⟩
        by_cases e : j = i
        · subst e; exact ⟨hr, fun h => absurd h h0⟩
        · exact h.1 j h1 (by omega)
    · have e : (decide (1 ≤ gk x0 i) && decide (gk x0 i ≤ 99)) = false := by
        cases hc : (decide (1 ≤ gk x0 i) && decide (gk x0 i ≤ 99))
        · rfl
        · simp only [Bool.and_eq_true, decide_eq_true_eq] at hc; exact absurd hc hr
      rw [e, Bool.not_false, cond_t]
      exact ⟨false, rfl, ⟨fun h => Bool.noConfusion h, fun h => absurd (h.1 i hi (Nat.le_refl _)).1 hr⟩⟩
theorem asc_l (x0 : TKeys) (hx : x0.1.length ≤ 1048576) : ∀ i n, i ≤ x0.1.length → x0.1.length - i < n → ∃ b, impl_ascending.l4 x0.1 n (x0.1.length : Int) (i : Int) = some b ∧ (b = true ↔ keysAsc x0 i) := by
  refine idx_ind ?_ ?_
  · intro n
    rw [impl_ascending.u4]
    simp only [impl_ascending.g4, lt_f (Nat.le_refl _), cond_f]
    exact ⟨true, rfl, ⟨fun _ j h1 h2 => absurd h1 (by omega), fun _ => rfl⟩⟩
  · intro i n hi ih
    obtain ⟨b, hb, hP⟩ := ih
    rw [impl_ascending.u4]
    simp only [impl_ascending.g4, lt_t hi, ge_t, cond_t, w64_succ (i := i) (by omega), Int.toNat_natCast, hb, gk_def]
    by_cases h0 : 0 < i
    · have ew : IntKind.i64.wrap ((i : Int) - 1) = ((i - 1 : Nat) : Int) := by rw [w64 (by omega) (by omega)]; omega
      simp only [decide_eq_true (show (i : Int) > 0 by omega), cond_t, ew, ge_t, lt_t (show i - 1 < x0.1.length by omega), Int.toNat_natCast, gk_def]
      by_cases ha : gk x0 (i - 1) < gk x0 i
      · rw [decide_eq_false (by omega), cond_f]
        refine ⟨b, rfl, hP.trans ⟨fun h j h1 h2 h3 => ?_, fun h j h1 h2 h3 => h j h1 (by omega) h3⟩⟩
        by_cases e : j = i
        · subst e; exact ha
        · exact h j h1 (by omega) h3
      · rw [decide_eq_true (by omega), cond_t]
        exact ⟨false, rfl, ⟨fun h => Bool.noConfusion h, fun h => absurd (h i hi (Nat.le_refl _) h0) ha⟩⟩
    · rw [decide_eq_false (by omega), cond_f]
      refine ⟨b, rfl, hP.trans ⟨fun h j h1 h2 h3 => h j h1 (by omega) h3, fun h j h1 h2 h3 => h j h1 (by omega) h3⟩⟩
theorem asc_le (x0 : TKeys) (h : keysAsc x0 0) (a : Nat) : ∀ b, a ≤ b → b < x0.1.length → gk x0 a ≤ gk x0 b := by
  intro b
  induction b with
  | zero => intro h1 _; have : a = 0 := by omega
            subst this; exact Int.le_refl _
  | succ b ih =>
    intro h1 h2
    by_cases e : a = b + 1
    · subst e; exact Int.le_refl _
    · have := ih (by omega) (by omega)
      have h3 := h (b + 1) h2 (by omega) (by omega)
      rw [show b + 1 - 1 = b from rfl] at h3
      omega
theorem keysIn_of (x0 : TKeys) (h : keysAsc x0 0) (h0 : 1 ≤ gk x0 0) (h1 : gk x0 (x0.1.length - 1) ≤ 99) : keysIn x0 0 := by
  intro j hj _
  have a := asc_le x0 h 0 j (by omega) hj
  have b := asc_le x0 h j (x0.1.length - 1) (by omega) (by omega)
  exact ⟨⟨by omega, by omega⟩, h j hj (by omega)⟩
theorem bool_eq {a b : Bool} (h : a = true ↔ b = true) : a = b := by cases a <;> cases b <;> simp_all
theorem IsKeys_v (x0 : TKeys) (hx : x0.1.length ≤ 1048576) : ∃ b, spec_IsKeys x0 = some b ∧ impl_IsKeys x0 = some b := by
  obtain ⟨s, hs, hS⟩ := sIsKeys_l x0 hx 0 KK (Nat.zero_le _) (KK_gt (by omega))
  obtain ⟨a, ha, hA⟩ := asc_l x0 hx 0 KK (Nat.zero_le _) (KK_gt (by omega))
  refine ⟨s, hs, ?_⟩
  have ea : impl_ascending x0.1 = some a := ha
  unfold impl_IsKeys
  rw [InRange_v, bind_s]
  by_cases hl : 1 ≤ (x0.1.length : Int) ∧ (x0.1.length : Int) ≤ 4
  · rw [decide_eq_true hl.1, decide_eq_true hl.2, Bool.and_self, cond_t, ea, bind_s]
    have ew : IntKind.i64.wrap ((x0.1.length : Int) - 1) = ((x0.1.length - 1 : Nat) : Int) := by rw [w64 (by omega) (by omega)]; omega
    cases a with
    | false =>
      rw [cond_f]
      have : s = false := by
        cases s with
        | false => rfl
        | true =>
          have h := (hS.mp rfl).1
          exact (hA.mpr (fun j h1 h2 h3 => (h j h1 h2).2 h3)).symm
      rw [this]
    | true =>
      have hasc := hA.mp rfl
      rw [cond_t, decide_eq_true (Int.le_refl 0), cond_t, decide_eq_true (by omega), cond_t, isKey_v, bind_s, ew, ge_t, cond_t, lt_t (by omega), cond_t, isKey_v, bind_s, InRange_v, bind_s, Int.toNat_natCast, show (0 : Int).toNat = 0 from rfl]
      rw [show x0.1.getD 0 0 = gk x0 0 from rfl, show x0.1.getD (x0.1.length - 1) 0 = gk x0 (x0.1.length - 1) from rfl]
      have e : s = ((decide (1 ≤ gk x0 0) && decide (gk x0 0 ≤ 99)) && ((decide (1 ≤ gk x0 (x0.1.length - 1)) && decide (gk x0 (x0.1.length - 1) ≤ 99)) && (decide (1 ≤ x0.2) && decide (x0.2 ≤ (x0.1.length : Int))))) := by
        refine bool_eq (hS.trans ?_)
        simp only [Bool.and_eq_true, decide_eq_true_eq]
        constructor
        · intro h
          exact ⟨(h.1 0 (by omega) (Nat.le_refl _)).1, (h.1 (x0.1.length - 1) (by omega) (by omega)).1, h.2.2⟩
        · intro h
          exact ⟨keysIn_of x0 hasc h.1.1 h.2.1.2, hl, h.2.2⟩
      rw [e]
      cases (decide (1 ≤ gk x0 0) && decide (gk x0 0 ≤ 99)) <;> cases (decide (1 ≤ gk x0 (x0.1.length - 1)) && decide (gk x0 (x0.1.length - 1) ≤ 99)) <;> rfl
  · have e : (decide (1 ≤ (x0.1.length : Int)) && decide ((x0.1.length : Int) ≤ 4)) = false := by
      cases hc : (decide (1 ≤ (x0.1.length : Int)) && decide ((x0.1.length : Int) ≤ 4))
      · rfl
      · simp only [Bool.and_eq_true, decide_eq_true_eq] at hc; exact absurd hc hl
    rw [e, cond_f]
    have : s = false := by
      cases s with
      | false => rfl
      | true => exact absurd (hS.mp rfl).2.1 hl
    rw [this]
theorem IsKeys_pos (x0 : TKeys) (hx : x0.1.length ≤ 1048576) (h : spec_IsKeys x0 = some true) : 1 ≤ x0.1.length := by
  obtain ⟨s, hs, hS⟩ := sIsKeys_l x0 hx 0 KK (Nat.zero_le _) (KK_gt (by omega))
  have e : spec_IsKeys x0 = some s := hs
  rw [h] at e
  injection e with e
  have := (hS.mp e.symm).2.1
  omega
noncomputable def keysB (k : TKeys) : Bool := (spec_IsKeys k).getD false
theorem sKeysB (k : TKeys) (hx : k.1.length ≤ 1048576) : spec_IsKeys k = some (keysB k) := by
  obtain ⟨b, h1, h2⟩ := IsKeys_v k hx
  unfold keysB
  rw [h1]; rfl
theorem iKeysB (k : TKeys) (hx : k.1.length ≤ 1048576) : impl_IsKeys k = some (keysB k) := by
  obtain ⟨b, h1, h2⟩ := IsKeys_v k hx
  unfold keysB
  rw [h1, h2]; rfl
def noK (k : TKeys) : Bool := k.2 == (0 : Int) && ((k.1.length : Int) == (0 : Int))
theorem sNoKeys_v (k : TKeys) : spec_NoKeys k = some (noK k) := by
  unfold spec_NoKeys noK
  cases (k.2 == (0 : Int)) <;> rfl
theorem iNoKeys_v (k : TKeys) : impl_NoKeys k = some (noK k) := by
  unfold impl_NoKeys noK
  cases (k.2 == (0 : Int)) <;> rfl
theorem keysB_no (k : TKeys) (hx : k.1.length ≤ 1048576) : (keysB k && noK k) = false := by
  cases h : keysB k with
  | false => rfl
  | true =>
    have := IsKeys_pos k hx (by rw [sKeysB k hx, h])
    unfold noK
    have e : ((k.1.length : Int) == (0 : Int)) = false := by rw [beq_eq_false_iff_ne]; omega
    rw [e, Bool.and_false]; rfl
def inR (a b c : Int) : Bool := decide (b ≤ a) && decide (a ≤ c)
theorem l1In_r (a b c : Int) : spec_l1In a b c = some (inR a b c) := l1In_v a b c
theorem InRange_r (a b c : Int) : impl_InRange a b c = some (inR a b c) := InRange_v a b c
theorem isDigest_r (a : Int) : impl_isDigest a = some (inR a 0 2147483646) := by
  unfold impl_isDigest
  rw [InRange_r, bind_s]
theorem bif_some {α : Type} (c : Bool) (a b : α) : (bif c then some a else some b) = some (bif c then a else b) := by cases c <;> rfl
theorem bif_ff (c a : Bool) : (bif c then a else false) = (c && a) := by cases c <;> rfl
theorem bif_fl (c a : Bool) : (bif c then false else a) = (!c && a) := by cases c <;> rfl
theorem bif_tl (c a : Bool) : (bif c then true else a) = (c || a) := by cases c <;> rfl
theorem bif_tr (c a : Bool) : (bif c then a else true) = (!c || a) := by cases c <;> rfl
def hr4 (x : THead) : Bool := inR x.1 0 2147483646 && (inR x.2.2.2.2.2.2.1 0 2147483646 && (inR x.2.2.2.2.2.2.2.1 0 2147483646 && (inR x.2.1 0 200 && inR x.2.2.1 1 3)))
def spanB (x : THead) : Bool := decide (x.2.2.2.1 ≥ 0) && (decide (x.2.2.2.1 ≤ x.2.2.2.2.1) && (decide (x.2.2.2.2.1 ≤ 100000) && decide (IntKind.i64.wrap (x.2.2.2.2.1 - x.2.2.2.1) ≤ 200)))
theorem span_eq (x : THead) (r : Bool) : (inR x.2.2.2.1 0 100000 && (inR x.2.2.2.2.1 x.2.2.2.1 100000 && (!decide (IntKind.i64.wrap (x.2.2.2.2.1 - x.2.2.2.1) > 200) && r))) = (spanB x && r) := by
  have : (inR x.2.2.2.1 0 100000 && (inR x.2.2.2.2.1 x.2.2.2.1 100000 && !decide (IntKind.i64.wrap (x.2.2.2.2.1 - x.2.2.2.1) > 200))) = spanB x := by
    unfold inR spanB
    generalize IntKind.i64.wrap (x.2.2.2.2.1 - x.2.2.2.1) = w
    refine bool_eq ?_
    simp only [Bool.and_eq_true, decide_eq_true_eq, Bool.not_eq_true', decide_eq_false_iff_not]
    omega
  rw [← this]
  simp only [Bool.and_assoc]
noncomputable def keyPart (x : THead) : Bool := (bif noK (hk2 x) then (x.2.2.2.2.2.2.2.2.2.2.2.2.1 == (0 : Int)) else (keysB (hk2 x) && inR x.2.2.2.2.2.2.2.2.2.2.2.2.1 1 500)) && (keysB (hk3 x) || (noK (hk3 x) && !x.2.2.2.2.2.2.2.2.2.2.2.2.2.2.2))
noncomputable def isHeadB (x : THead) : Bool := hr4 x && (spanB x && (inR x.2.2.2.2.2.1 0 12 && (keysB (hk1 x) && keyPart x)))
theorem sIsHead_v (x : THead) (hx : sizeHead x ≤ 1048576) : spec_IsHead x = some (isHeadB x) := by
  unfold sizeHead at hx
  have k1 := sKeysB (hk1 x) (by omega)
  have k2 := sKeysB (hk2 x) (by omega)
  have k3 := sKeysB (hk3 x) (by omega)
  have n2 := sNoKeys_v (hk2 x)
  have n3 := sNoKeys_v (hk3 x)
  have key : (bif noK (hk2 x) then (!(x.2.2.2.2.2.2.2.2.2.2.2.2.1 != (0 : Int)) && (keysB (hk3 x) || (noK (hk3 x) && !x.2.2.2.2.2.2.2.2.2.2.2.2.2.2.2))) else (keysB (hk2 x) && (inR x.2.2.2.2.2.2.2.2.2.2.2.2.1 1 500 && (keysB (hk3 x) || (noK (hk3 x) && !x.2.2.2.2.2.2.2.2.2.2.2.2.2.2.2))))) = keyPart x := by
    unfold keyPart
    cases noK (hk2 x) with
    | true => simp [bne]
    | false => simp only [cond_f, Bool.and_assoc]
  unfold hk1 at k1
  unfold hk2 at k2 n2
  unfold hk3 at k3 n3
  unfold spec_IsHead
  simp only [spec_IsHead.b, spec_IsHead.l7, spec_IsHead.g7, spec_IsHead.l11, spec_IsHead.g11, spec_IsHead.l21, spec_IsHead.g21, l1In_r, k1, k2, k3, n2, n3, bind_s, bif_some, bif_ff, bif_fl, bif_tl, bif_tr, Bool.not_not]
  unfold hk2 hk3 at key
  rw [key, span_eq]
  unfold isHeadB hr4 hk1
  simp only [Bool.and_assoc]
theorem iIsHead_v (x : THead) (hx : sizeHead x ≤ 1048576) : impl_IsHead x = some (isHeadB x) := by
  unfold sizeHead at hx
  have k1 := iKeysB (hk1 x) (by omega)
  have k2 := iKeysB (hk2 x) (by omega)
  have k3 := iKeysB (hk3 x) (by omega)
  have n2 := iNoKeys_v (hk2 x)
  have n3 := iNoKeys_v (hk3 x)
  have q3 := keysB_no (hk3 x) (by omega)
  have key : ((noK (hk2 x) || keysB (hk2 x)) && ((noK (hk3 x) || keysB (hk3 x)) && ((bif noK (hk2 x) then (x.2.2.2.2.2.2.2.2.2.2.2.2.1 == (0 : Int)) else inR x.2.2.2.2.2.2.2.2.2.2.2.2.1 1 500) && (!x.2.2.2.2.2.2.2.2.2.2.2.2.2.2.2 || !noK (hk3 x))))) = keyPart x := by
    unfold keyPart
    revert q3
    generalize (x.2.2.2.2.2.2.2.2.2.2.2.2.1 == (0 : Int)) = a
    generalize inR x.2.2.2.2.2.2.2.2.2.2.2.2.1 1 500 = b
    generalize x.2.2.2.2.2.2.2.2.2.2.2.2.2.2.2 = c
    cases noK (hk2 x) <;> cases keysB (hk2 x) <;> cases noK (hk3 x) <;> cases keysB (hk3 x) <;> cases a <;> cases b <;> cases c <;> decide
  unfold hk1 at k1
  unfold hk2 at k2 n2
  unfold hk3 at k3 n3
  unfold impl_IsHead
  simp only [impl_isMaybe, impl_isWait, impl_isSpan, isDigest_r, InRange_r, k1, k2, k3, n2, n3, bind_s, bif_some, bif_ff, bif_fl, bif_tl, bif_tr, Bool.not_not]
  unfold hk2 hk3 at key
  rw [key]
  unfold isHeadB hr4 spanB hk1
  simp only [Bool.and_assoc]
theorem isHeadB_span (x : THead) (h : isHeadB x = true) : 0 ≤ x.2.2.2.1 ∧ x.2.2.2.1 ≤ x.2.2.2.2.1 ∧ x.2.2.2.2.1 ≤ 100000 := by
  unfold isHeadB spanB at h
  simp only [Bool.and_eq_true, decide_eq_true_eq] at h
  omega
theorem set_take {α : Type} {ys : List α} {i : Nat} {c : α} (h : i < ys.length) : (ys.set i c).take (i + 1) = ys.take i ++ [c] := by
  rw [List.set_eq_take_append_cons_drop, if_pos h]
  have e : ys.take i ++ c :: ys.drop (i + 1) = (ys.take i ++ [c]) ++ ys.drop (i + 1) := by simp
  rw [e, List.take_left' (by simp; omega)]
def mInts (n : Nat) (k : Int) : List Int := (List.range n).map (fun (j : Nat) => k + (j : Int))
theorem mInts_succ (n : Nat) (k : Int) : mInts (n + 1) k = mInts n k ++ [k + n] := by
  unfold mInts
  rw [List.range_succ, List.map_append]; rfl
theorem mInts_len (n : Nat) (k : Int) : (mInts n k).length = n := by simp [mInts]
theorem mInts_at (n : Nat) (k : Int) (i : Nat) (h : i < (mInts n k).length) : (mInts n k)[i] = k + i := by simp [mInts]
theorem markIntS_l (len : Nat) (k : Int) (h0 : 0 ≤ k) (h1 : k ≤ 1099511627776) (hx : len ≤ 1048576) : ∀ i n, i ≤ len → len - i < n → ∀ ys : List Int, ∀ c : Int, ys.length = len → ys.take i = mInts i k → c = k + i → laws_markIntS.l4 n c (i : Int) ys = some (mInts len k, k + len) := by
  refine idx_ind ?_ ?_
  · intro n ys c hl hy hc
    rw [laws_markIntS.u4]
    simp only [laws_markIntS.g4, lt_f (Nat.le_of_eq hl), cond_f]
    rw [List.take_of_length_le (by omega)] at hy
    rw [hy, hc]
  · intro i n hi ih ys c hl hy hc
    have hi' : i < ys.length := by omega
    rw [laws_markIntS.u4]
    simp only [laws_markIntS.g4, lt_t hi', ge_t, cond_t, w64_succ (i := i) (by omega), Int.toNat_natCast, w64 (n := c + 1) (by omega) (by omega)]
    exact ih _ _ (by rw [List.length_set]; exact hl) (by rw [set_take hi', hy, mInts_succ, hc]) (by omega)
theorem markIntS_v (xs : List Int) (k : Int) (h0 : 0 ≤ k) (h1 : k ≤ 1099511627776) (hx : xs.length ≤ 1048576) : laws_markIntS xs k = some (mInts xs.length k, k + xs.length) :=
  markIntS_l xs.length k h0 h1 hx 0 KK (Nat.zero_le _) (KK_gt (by omega)) xs k rfl rfl (by omega)
theorem heldIntS_l (len : Nat) (k : Int) (h0 : 0 ≤ k) (h1 : k ≤ 1099511627776) (hx : len ≤ 1048576) : ∀ i n, i ≤ len → len - i < n → ∀ c : Int, c = k + i → laws_heldIntS.l4 (mInts len k) n c (i : Int) = some (k + len) := by
  refine idx_ind ?_ ?_
  · intro n c hc
    rw [laws_heldIntS.u4]
    simp only [laws_heldIntS.g4, lt_f (Nat.le_of_eq (mInts_len len k)), cond_f, hc]
  · intro i n hi ih c hc
    have hi' : i < (mInts len k).length := by rw [mInts_len]; exact hi
    rw [laws_heldIntS.u4]
    simp only [laws_heldIntS.g4, lt_t hi', ge_t, cond_t, w64_succ (i := i) (by omega), Int.toNat_natCast, w64 (n := c + 1) (by omega) (by omega), at_n hi', mInts_at]
    rw [← hc, bne_self, cond_f]
    exact ih _ (by omega)
theorem heldIntS_v (len : Nat) (k : Int) (h0 : 0 ≤ k) (h1 : k ≤ 1099511627776) (hx : len ≤ 1048576) : laws_heldIntS (mInts len k) k = some (k + len) :=
  heldIntS_l len k h0 h1 hx 0 KK (Nat.zero_le _) (KK_gt (by omega)) k (by omega)
theorem markKeys_v (x : TKeys) (k : Int) (h0 : 0 ≤ k) (h1 : k ≤ 1099511627776) (hx : x.1.length ≤ 1048576) : laws_markKeys x k = some (mInts x.1.length k, k + x.1.length) := by
  unfold laws_markKeys
  rw [markIntS_v _ _ h0 h1 hx, bind_s]
theorem heldKeys_v (n : Nat) (w : Int) (k : Int) (h0 : 0 ≤ k) (h1 : k ≤ 1099511627776) (hx : n ≤ 1048576) : laws_heldKeys (mInts n k, w) k = some (k + n) := by
  unfold laws_heldKeys
  rw [heldIntS_v _ _ h0 h1 hx, bind_s, decide_eq_false (by omega), cond_f]
def mh1 (x : THead) (k : Int) : List Int := mInts (hk1 x).1.length k
def mh2 (x : THead) (k : Int) : List Int := mInts (hk2 x).1.length (k + (hk1 x).1.length)
def mh3 (x : THead) (k : Int) : List Int := mInts (hk3 x).1.length (k + (hk1 x).1.length + (hk2 x).1.length)
theorem markHead_v (x : THead) (k : Int) (h0 : 0 ≤ k) (h1 : k ≤ 549755813888) (hx : sizeHead x ≤ 1048576) : laws_markHead x k = some (mh1 x k, mh2 x k, mh3 x k, k + sizeHead x) := by
  unfold sizeHead at hx
  show ((laws_markKeys (hk1 x) k).bind fun y1 => (laws_markKeys (hk2 x) y1.2).bind fun y2 => (laws_markKeys (hk3 x) y2.2).bind fun y3 => some (y1.1, y2.1, y3.1, y3.2)) = _
  rw [markKeys_v _ _ h0 (by omega) (by omega), bind_s, markKeys_v _ _ (by dsimp only; omega) (by dsimp only; omega) (by omega), bind_s, markKeys_v _ _ (by dsimp only; omega) (by dsimp only; omega) (by omega), bind_s]
  unfold sizeHead mh1 mh2 mh3
  rw [show k + (((hk1 x).1.length + (hk2 x).1.length + (hk3 x).1.length : Nat) : Int) = k + (hk1 x).1.length + (hk2 x).1.length + (hk3 x).1.length by omega]
def mkHead (x : THead) (a b c : List Int) : THead := (x.1, x.2.1, x.2.2.1, x.2.2.2.1, x.2.2.2.2.1, x.2.2.2.2.2.1, x.2.2.2.2.2.2.1, x.2.2.2.2.2.2.2.1, a, x.2.2.2.2.2.2.2.2.2.1, b, x.2.2.2.2.2.2.2.2.2.2.2.1, x.2.2.2.2.2.2.2.2.2.2.2.2.1, c, x.2.2.2.2.2.2.2.2.2.2.2.2.2.2.1, x.2.2.2.2.2.2.2.2.2.2.2.2.2.2.2)
theorem heldHead_v (x : THead) (k : Int) (h0 : 0 ≤ k) (h1 : k ≤ 549755813888) (hx : sizeHead x ≤ 1048576) : laws_heldHead (mkHead x (mh1 x k) (mh2 x k) (mh3 x k)) k = some (k + sizeHead x) := by
  unfold sizeHead at hx
  show ((laws_heldKeys (mh1 x k, (hk1 x).2) k).bind fun y1 => bif decide (y1 < (0 : Int)) then some (-1 : Int) else (laws_heldKeys (mh2 x k, (hk2 x).2) y1).bind fun y2 => bif decide (y2 < (0 : Int)) then some (-1 : Int) else (laws_heldKeys (mh3 x k, (hk3 x).2) y2).bind fun y3 => bif decide (y3 < (0 : Int)) then some (-1 : Int) else some y3) = _
  unfold mh1 mh2 mh3
  rw [heldKeys_v _ _ _ h0 (by omega) (by omega), bind_s, decide_eq_false (by omega), cond_f, heldKeys_v _ _ _ (by omega) (by omega) (by omega), bind_s, decide_eq_false (by omega), cond_f, heldKeys_v _ _ _ (by omega) (by omega) (by omega), bind_s, decide_eq_false (by omega), cond_f]
  unfold sizeHead
  congr 1; omega
theorem l6Copy_v (x : TKeys) (hx : x.1.length ≤ 1048576) : spec_l6Copy x = some x := by
  unfold spec_l6Copy
  rw [decide_eq_true (by simp; omega), cond_t]; rfl
theorem Clone_int_v (x : List Int) (hx : x.length ≤ 1048576) : slices_Clone_int x = some x := by
  have e : (bif decide (([] : List Int).length + x.length < 68719476736) then some ([] ++ x) else none) = some x := by
    rw [decide_eq_true (by simp; omega), cond_t]; rfl
  unfold slices_Clone_int
  rw [e]
  cases x with
  | nil => exact both_eq _
  | cons a t => rfl
theorem copyKeys_v (x : TKeys) (hx : x.1.length ≤ 1048576) : impl_copyKeys x = some x := by
  unfold impl_copyKeys
  rw [Clone_int_v _ hx, bind_s]
theorem l13Copy_v (x0 : THead) (hx : sizeHead x0 ≤ 1048576) : spec_l13Copy x0 = some x0 := by
  unfold sizeHead at hx
  have e1 := l6Copy_v (hk1 x0) (by omega)
  have e2 := l6Copy_v (hk2 x0) (by omega)
  have e3 := l6Copy_v (hk3 x0) (by omega)
  unfold hk1 at e1
  unfold hk2 at e2
  unfold hk3 at e3
  unfold spec_l13Copy
  rw [e1, bind_s, e2, bind_s, e3, bind_s]
theorem copyHead_v (x0 : THead) (hx : sizeHead x0 ≤ 1048576) : impl_copyHead x0 = some x0 := by
  unfold sizeHead at hx
  have e1 := copyKeys_v (hk1 x0) (by omega)
  have e2 := copyKeys_v (hk2 x0) (by omega)
  have e3 := copyKeys_v (hk3 x0) (by omega)
  unfold hk1 at e1
  unfold hk2 at e2
  unfold hk3 at e3
  unfold impl_copyHead
  rw [e1, bind_s, e2, bind_s, e3, bind_s]
abbrev RHead : Type := Int × Int × Int × Int × Int × Int × Int × Int × List Int × Int × List Int × Int × Int × List Int × Int × Bool × Bool
def mkR (h : THead) (b : Bool) : RHead := (h.1, h.2.1, h.2.2.1, h.2.2.2.1, h.2.2.2.2.1, h.2.2.2.2.2.1, h.2.2.2.2.2.2.1, h.2.2.2.2.2.2.2.1, h.2.2.2.2.2.2.2.2.1, h.2.2.2.2.2.2.2.2.2.1, h.2.2.2.2.2.2.2.2.2.2.1, h.2.2.2.2.2.2.2.2.2.2.2.1, h.2.2.2.2.2.2.2.2.2.2.2.2.1, h.2.2.2.2.2.2.2.2.2.2.2.2.2.1, h.2.2.2.2.2.2.2.2.2.2.2.2.2.2.1, h.2.2.2.2.2.2.2.2.2.2.2.2.2.2.2, b)
def rh (r : RHead) : THead := (r.1, r.2.1, r.2.2.1, r.2.2.2.1, r.2.2.2.2.1, r.2.2.2.2.2.1, r.2.2.2.2.2.2.1, r.2.2.2.2.2.2.2.1, r.2.2.2.2.2.2.2.2.1, r.2.2.2.2.2.2.2.2.2.1, r.2.2.2.2.2.2.2.2.2.2.1, r.2.2.2.2.2.2.2.2.2.2.2.1, r.2.2.2.2.2.2.2.2.2.2.2.2.1, r.2.2.2.2.2.2.2.2.2.2.2.2.2.1, r.2.2.2.2.2.2.2.2.2.2.2.2.2.2.1, r.2.2.2.2.2.2.2.2.2.2.2.2.2.2.2.1)
def rb (r : RHead) : Bool := r.2.2.2.2.2.2.2.2.2.2.2.2.2.2.2.2
def nhD (y : THead) (e a b u d : Int) : THead := (y.1, e, a, b, u, y.2.2.2.2.2.1, y.2.2.2.2.2.2.1, d, y.2.2.2.2.2.2.2.2.1, y.2.2.2.2.2.2.2.2.2.1, y.2.2.2.2.2.2.2.2.2.2.1, y.2.2.2.2.2.2.2.2.2.2.2.1, y.2.2.2.2.2.2.2.2.2.2.2.2.1, y.2.2.2.2.2.2.2.2.2.2.2.2.2.1, y.2.2.2.2.2.2.2.2.2.2.2.2.2.2.1, y.2.2.2.2.2.2.2.2.2.2.2.2.2.2.2)
noncomputable def valM (h : THead) : RHead := bif isHeadB h then mkR h true else mkR dHead false
theorem valM_size (h : THead) : sizeHead (rh (valM h)) ≤ sizeHead h := by
  unfold valM
  cases isHeadB h with
  | true => exact Nat.le_refl _
  | false => exact Nat.zero_le _
theorem l17_v (h : THead) (hx : sizeHead h ≤ 1048576) : spec_l17Valid h = some (valM h) := by
  unfold spec_l17Valid valM
  rw [sIsHead_v _ hx, bind_s]
  cases isHeadB h <;> rfl
noncomputable def nextG (x0 : THead) (x2 x3 : Int) : Bool := isHeadB x0 && (inR x2 x0.2.2.2.1 100000 && inR x3 0 200)
noncomputable def nextH (x0 : THead) (x1 x2 x3 : Int) : THead := nhD x0 (IntKind.i64.wrap (x0.2.1 + (1 : Int))) x1 x2 (IntKind.i64.wrap (x2 + x3)) (headDigest x0)
noncomputable def nextM (x0 : THead) (x1 x2 x3 : Int) : RHead := bif nextG x0 x2 x3 then valM (nextH x0 x1 x2 x3) else mkR dHead false
theorem nextM_size (x0 : THead) (x1 x2 x3 : Int) : sizeHead (rh (nextM x0 x1 x2 x3)) ≤ sizeHead x0 := by
  unfold nextM
  cases nextG x0 x2 x3 with
  | true => exact valM_size (nextH x0 x1 x2 x3)
  | false => exact Nat.zero_le _
theorem sNext_l5 (x0 : THead) (x1 x2 x3 : Int) (v : Bool) (hx : sizeHead x0 ≤ 1048576) : spec_NextHead.l5 x0 x1 x2 x3 v = some (bif v then mkR dHead false else valM (nextH x0 x1 x2 x3)) := by
  cases v with
  | true => rfl
  | false =>
    show ((spec_l13Copy x0).bind fun y2 => (spec_HeadDigest x0).bind fun y3 => (spec_l17Valid (nhD y2 (IntKind.i64.wrap (x0.2.1 + (1 : Int))) x1 x2 (IntKind.i64.wrap (x2 + x3)) y3)).bind fun y4 => some y4) = _
    have hn : sizeHead (nhD x0 (IntKind.i64.wrap (x0.2.1 + (1 : Int))) x1 x2 (IntKind.i64.wrap (x2 + x3)) (headDigest x0)) ≤ 1048576 := hx
    rw [l13Copy_v _ hx, bind_s, sHeadDigest_v _ hx, bind_s, l17_v _ hn, bind_s]; rfl
theorem sNext_v (x0 : THead) (x1 x2 x3 : Int) (hx : sizeHead x0 ≤ 1048576) : spec_NextHead x0 x1 x2 x3 = some (nextM x0 x1 x2 x3) := by
  unfold spec_NextHead
  simp only [spec_NextHead.b, sIsHead_v _ hx, l1In_r, bind_s, sNext_l5 _ _ _ _ _ hx]
  unfold nextM nextG
  cases isHeadB x0 <;> cases inR x2 x0.2.2.2.1 100000 <;> cases inR x3 0 200 <;> rfl
def untilM (x2 x3 : Int) : Int := bif inR x2 0 100000 && inR x3 0 200 then IntKind.i64.wrap (x2 + x3) else 100001
theorem until_v (x2 x3 : Int) : impl_until x2 x3 = some (untilM x2 x3) := by
  unfold impl_until untilM
  simp only [impl_until.b, impl_until.l7, impl_until.g7, InRange_r, bind_s]
  cases inR x2 0 100000 <;> cases inR x3 0 200 <;> rfl
noncomputable def nextHu (x0 : THead) (x1 x2 x3 : Int) : THead := nhD x0 (IntKind.i64.wrap (x0.2.1 + (1 : Int))) x1 x2 (untilM x2 x3) (headDigest x0)
theorem nextHu_bad (x0 : THead) (x1 x2 x3 : Int) (h : inR x2 0 100000 = false) : isHeadB (nextHu x0 x1 x2 x3) = false := by
  cases hb : isHeadB (nextHu x0 x1 x2 x3) with
  | false => rfl
  | true =>
    have h1 := (isHeadB_span _ hb).2.2
    have h2 : untilM x2 x3 ≤ 100000 := h1
    unfold untilM at h2
    rw [h, Bool.false_and, cond_f] at h2
    omega
theorem nextHu_eq (x0 : THead) (x1 x2 x3 : Int) (h : inR x2 0 100000 = true) (h' : inR x3 0 200 = true) : nextHu x0 x1 x2 x3 = nextH x0 x1 x2 x3 := by
  unfold nextHu nextH untilM
  rw [h, h', Bool.and_self, cond_t]
def clH (h : THead) (k : TKeys) : THead := (h.1, h.2.1, h.2.2.1, h.2.2.2.1, h.2.2.2.2.1, h.2.2.2.2.2.1, h.2.2.2.2.2.2.1, h.2.2.2.2.2.2.2.1, k.1, k.2, h.2.2.2.2.2.2.2.2.2.2.1, h.2.2.2.2.2.2.2.2.2.2.2.1, h.2.2.2.2.2.2.2.2.2.2.2.2.1, h.2.2.2.2.2.2.2.2.2.2.2.2.2.1, h.2.2.2.2.2.2.2.2.2.2.2.2.2.2.1, h.2.2.2.2.2.2.2.2.2.2.2.2.2.2.2)
theorem clH_size (h : THead) (k : TKeys) : sizeHead (clH h k) = k.1.length + (hk2 h).1.length + (hk3 h).1.length := rfl
def canB0 (x0 : THead) (x1 : Int) : Bool := !x0.2.2.2.2.2.2.2.2.2.2.2.2.2.2.2 && (!noK (hk2 x0) && decide (x1 ≥ IntKind.i64.wrap (x0.2.2.2.2.1 + x0.2.2.2.2.2.2.2.2.2.2.2.2.1)))
noncomputable def canB (x0 : THead) (x1 : Int) : Bool := isHeadB x0 && canB0 x0 x1
theorem sCan_v (x0 : THead) (x1 : Int) (hx : sizeHead x0 ≤ 1048576) : spec_CanClaim x0 x1 = some (canB x0 x1) := by
  have n2 := sNoKeys_v (hk2 x0)
  unfold hk2 at n2
  unfold spec_CanClaim
  rw [sIsHead_v _ hx, bind_s, n2, bind_s]
  unfold canB canB0 hk2
  cases isHeadB x0 with
  | false => rfl
  | true =>
    rw [cond_t, Bool.true_and]
    cases x0.2.2.2.2.2.2.2.2.2.2.2.2.2.2.2 with
    | true => rfl
    | false =>
      rw [Bool.not_false, cond_t, Bool.true_and]
      cases noK (x0.2.2.2.2.2.2.2.2.2.2.1, x0.2.2.2.2.2.2.2.2.2.2.2.1) <;> rfl
theorem iCan_v (x0 : THead) (x1 : Int) (hx : sizeHead x0 ≤ 1048576) : impl_CanClaim x0 x1 = some (canB x0 x1) := by
  have n2 := iNoKeys_v (hk2 x0)
  unfold hk2 at n2
  unfold impl_CanClaim
  rw [iIsHead_v _ hx, bind_s, n2, bind_s]
  unfold canB canB0 hk2
  cases isHeadB x0 with
  | false => rfl
  | true =>
    rw [cond_t, Bool.true_and]
    cases x0.2.2.2.2.2.2.2.2.2.2.2.2.2.2.2 with
    | true => rfl
    | false =>
      rw [Bool.not_false, cond_t, Bool.true_and]
      cases noK (x0.2.2.2.2.2.2.2.2.2.2.1, x0.2.2.2.2.2.2.2.2.2.2.2.1) <;> rfl
noncomputable def claimM (x0 : THead) (x1 x2 : Int) : RHead := bif canB x0 x1 && (nextG x0 x1 x2 && isHeadB (nextH x0 2 x1 x2)) then valM (clH (nextH x0 2 x1 x2) (hk2 x0)) else mkR dHead false
theorem keysB_len (k : TKeys) (hx : k.1.length ≤ 1048576) (h : keysB k = true) : k.1.length ≤ 4 := by
  obtain ⟨s, hs, hS⟩ := sIsKeys_l k hx 0 KK (Nat.zero_le _) (KK_gt (by omega))
  have e : spec_IsKeys k = some s := hs
  rw [sKeysB k hx, h] at e
  injection e with e
  have := (hS.mp e.symm).2.1
  omega
theorem noK_len (k : TKeys) (h : noK k = true) : k.1.length ≤ 4 := by
  unfold noK at h
  simp only [Bool.and_eq_true, beq_iff_eq] at h
  omega
theorem isHeadB_len (x : THead) (hx : sizeHead x ≤ 1048576) (h : isHeadB x = true) : sizeHead x ≤ 12 := by
  have hs := hx
  unfold sizeHead at hs
  unfold isHeadB keyPart at h
  simp only [Bool.and_eq_true] at h
  obtain ⟨_, _, _, h1, h2, h3⟩ := h
  have l1 := keysB_len _ (by omega) h1
  have l2 : (hk2 x).1.length ≤ 4 := by
    cases hn : noK (hk2 x) with
    | true => exact noK_len _ hn
    | false =>
      rw [hn, cond_f, Bool.and_eq_true] at h2
      exact keysB_len _ (by omega) h2.1
  have l3 : (hk3 x).1.length ≤ 4 := by
    rw [Bool.or_eq_true, Bool.and_eq_true] at h3
    rcases h3 with h3 | h3
    · exact keysB_len _ (by omega) h3
    · exact noK_len _ h3.1
  unfold sizeHead
  omega
theorem sClaim_l7 (x0 : THead) (y1 : RHead) (v : Bool) (hk : (hk2 x0).1.length ≤ 1048576) (hsz : sizeHead (clH (rh y1) (hk2 x0)) ≤ 1048576) : spec_ClaimHead.l7 x0 y1 v = some (bif v then mkR dHead false else valM (clH (rh y1) (hk2 x0))) := by
  cases v with
  | true => rfl
  | false =>
    show ((spec_l6Copy (hk2 x0)).bind fun y2 => (spec_l17Valid (clH (rh y1) y2)).bind fun y3 => some y3) = _
    rw [l6Copy_v _ hk, bind_s, l17_v _ hsz, bind_s]; rfl
theorem rh_mkR (h : THead) (b : Bool) : rh (mkR h b) = h := rfl
theorem mkR_b (h : THead) (b : Bool) : (mkR h b).2.2.2.2.2.2.2.2.2.2.2.2.2.2.2.2 = b := rfl
theorem nextM_alt (x0 : THead) (x1 x2 x3 : Int) : nextM x0 x1 x2 x3 = bif nextG x0 x2 x3 && isHeadB (nextH x0 x1 x2 x3) then mkR (nextH x0 x1 x2 x3) true else mkR dHead false := by
  unfold nextM valM
  cases nextG x0 x2 x3 <;> cases isHeadB (nextH x0 x1 x2 x3) <;> rfl
theorem sClaim_v (x0 : THead) (x1 x2 : Int) (hx : sizeHead x0 ≤ 1048576) : spec_ClaimHead x0 x1 x2 = some (claimM x0 x1 x2) := by
  unfold spec_ClaimHead
  simp only [spec_ClaimHead.b, sNext_v _ _ _ _ hx, bind_s, sCan_v _ _ hx]
  cases hB : isHeadB x0 with
  | false =>
    have hM : nextM x0 2 x1 x2 = mkR dHead false := by unfold nextM nextG; rw [hB]; rfl
    have hC : claimM x0 x1 x2 = mkR dHead false := by unfold claimM canB; rw [hB]; rfl
    rw [hM, hC]; rfl
  | true =>
    have hl := isHeadB_len x0 hx hB
    have hm := nextM_size x0 2 x1 x2
    have hsz : sizeHead (clH (rh (nextM x0 2 x1 x2)) (hk2 x0)) ≤ 1048576 := by
      rw [clH_size]
      unfold sizeHead at hl hm
      omega
    have hk : (hk2 x0).1.length ≤ 1048576 := by unfold sizeHead at hl; omega
    rw [sClaim_l7 _ _ _ hk hsz, sClaim_l7 _ _ _ hk hsz]
    rw [nextM_alt]
    unfold claimM
    cases (nextG x0 x1 x2 && isHeadB (nextH x0 2 x1 x2)) with
    | false =>
      rw [cond_f, Bool.and_false, cond_f]
      cases canB x0 x1 <;> rfl
    | true =>
      rw [cond_t, Bool.and_true]
      rw [rh_mkR, mkR_b, Bool.not_true, cond_f]
      cases canB x0 x1 with
      | false => rfl
      | true => rw [Bool.not_true, cond_f, cond_t]
theorem claimM_size (x0 : THead) (x1 x2 : Int) : sizeHead x0 ≤ 1048576 → sizeHead (rh (claimM x0 x1 x2)) ≤ 1048576 := by
  intro hx
  unfold claimM
  cases hC : (canB x0 x1 && (nextG x0 x1 x2 && isHeadB (nextH x0 2 x1 x2))) with
  | false => exact Nat.zero_le _
  | true =>
    rw [cond_t]
    have hB : isHeadB x0 = true := by
      unfold canB at hC
      simp only [Bool.and_eq_true] at hC
      exact hC.1.1
    have hl := isHeadB_len x0 hx hB
    refine Nat.le_trans (valM_size _) ?_
    have : sizeHead (clH (nextH x0 2 x1 x2) (hk2 x0)) = (hk2 x0).1.length + (hk2 x0).1.length + (hk3 x0).1.length := rfl
    unfold sizeHead at hl
    omega
theorem claimWith_l17 (y : THead) (v : Bool) : impl_nextWith.l17 y v = some (bif v then mkR dHead false else mkR y true) := by
  cases v <;> rfl
theorem claimWith_l5 (x0 : THead) (x1 x2 : Int) (v : Bool) (hx : sizeHead x0 ≤ 12) : impl_nextWith.l5 x0 2 x1 x2 ((), x0) v = some (bif v then mkR dHead false else bif isHeadB (nextHu x0 2 x1 x2) then valM (clH (nextHu x0 2 x1 x2) (hk2 x0)) else mkR dHead false) := by
  cases v with
  | true => rfl
  | false =>
    show ((impl_copyHead x0).bind fun y2 => (impl_until x1 x2).bind fun y3 => (impl_HeadDigest x0).bind fun y4 => (impl_copyHead (nhD y2 (IntKind.i64.wrap (x0.2.1 + (1 : Int))) 2 x1 y3 y4)).bind fun y5 => (impl_ClaimHead_1 (nhD y2 (IntKind.i64.wrap (x0.2.1 + (1 : Int))) 2 x1 y3 y4) x0).bind fun y6 => (impl_IsHead y5).bind fun y7 => bif !y7 then impl_nextWith.l17 y6 true else (impl_IsHead y6).bind fun y8 => impl_nextWith.l17 y6 (!y8)) = _
    have hn : sizeHead (nhD x0 (IntKind.i64.wrap (x0.2.1 + (1 : Int))) 2 x1 (untilM x1 x2) (headDigest x0)) ≤ 1048576 := Nat.le_trans (show sizeHead x0 ≤ 12 from hx) (by omega)
    have hc : sizeHead (clH (nextHu x0 2 x1 x2) (hk2 x0)) ≤ 1048576 := by
      have : sizeHead (clH (nextHu x0 2 x1 x2) (hk2 x0)) = (hk2 x0).1.length + (hk2 x0).1.length + (hk3 x0).1.length := rfl
      unfold sizeHead at hx
      omega
    have e1 : impl_ClaimHead_1 (nextHu x0 2 x1 x2) x0 = some (clH (nextHu x0 2 x1 x2) (hk2 x0)) := by
      show ((impl_copyKeys (hk2 x0)).bind fun y1 => some (clH (nextHu x0 2 x1 x2) y1)) = _
      rw [copyKeys_v _ (by unfold sizeHead at hx; omega), bind_s]
    rw [copyHead_v _ (by omega), bind_s, until_v, bind_s, iHeadDigest_v _ (by omega), bind_s, copyHead_v _ hn, bind_s, iIsHead_v _ hn]
    rw [show nhD x0 (IntKind.i64.wrap (x0.2.1 + (1 : Int))) 2 x1 (untilM x1 x2) (headDigest x0) = nextHu x0 2 x1 x2 from rfl, e1, bind_s, bind_s, iIsHead_v _ hc, bind_s, claimWith_l17, claimWith_l17, cond_f]
    unfold valM
    cases isHeadB (nextHu x0 2 x1 x2) <;> cases isHeadB (clH (nextHu x0 2 x1 x2) (hk2 x0)) <;> rfl
theorem iClaim_v (x0 : THead) (x1 x2 : Int) (hx : sizeHead x0 ≤ 1048576) : impl_ClaimHead x0 x1 x2 = some (claimM x0 x1 x2) := by
  unfold impl_ClaimHead
  rw [iCan_v _ _ hx, bind_s]
  cases hC : canB x0 x1 with
  | false =>
    have : claimM x0 x1 x2 = mkR dHead false := by unfold claimM; rw [hC]; rfl
    rw [this]; rfl
  | true =>
    have hB : isHeadB x0 = true := by
      unfold canB at hC
      rw [Bool.and_eq_true] at hC
      exact hC.1
    have hl := isHeadB_len x0 hx hB
    have sp := isHeadB_span x0 hB
    rw [Bool.not_true, cond_f]
    have e : impl_nextWith x0 2 x1 x2 ((), x0) = some (claimM x0 x1 x2) := by
      unfold impl_nextWith
      simp only [impl_nextWith.b, iIsHead_v _ hx, InRange_r, bind_s, claimWith_l5 _ _ _ _ hl]
      unfold claimM nextG
      rw [hB, hC, Bool.not_true, cond_f, Bool.true_and, Bool.true_and]
      cases h3 : inR x2 0 200 with
      | false => rw [Bool.and_false]; rfl
      | true =>
        rw [Bool.not_true, cond_f, Bool.and_true]
        by_cases hlo : x1 < x0.2.2.2.1
        · rw [decide_eq_true hlo, show inR x1 x0.2.2.2.1 100000 = false by unfold inR; rw [decide_eq_false (by omega), Bool.false_and]]; rfl
        · rw [decide_eq_false hlo, cond_f]
          by_cases hu : x1 ≤ 100000
          · rw [show inR x1 x0.2.2.2.1 100000 = true by unfold inR; rw [decide_eq_true (by omega), decide_eq_true hu, Bool.and_self], Bool.true_and, nextHu_eq _ _ _ _ (by unfold inR; rw [decide_eq_true (by omega), decide_eq_true hu, Bool.and_self]) h3]
          · rw [show inR x1 x0.2.2.2.1 100000 = false by unfold inR; rw [decide_eq_false hu, Bool.and_false], Bool.false_and]
            rw [nextHu_bad _ _ _ _ (by unfold inR; rw [decide_eq_false hu, Bool.and_false]), cond_f, cond_f]
    rw [e, bind_s]
theorem impl_ClaimHead_t55 (r : RHead) (hr : sizeHead (rh r) ≤ 1048576) : laws_FnExactClaimHead.l55 r (mh1 (rh r) 1, mh2 (rh r) 1, mh3 (rh r) 1, 1 + (sizeHead (rh r) : Int)) = some true := by
  have hh := heldHead_v (rh r) 1 (by omega) (by omega) hr
  show ((laws_heldHead (mkHead (rh r) (mh1 (rh r) 1) (mh2 (rh r) 1) (mh3 (rh r) 1)) 1).bind fun y16 => bif decide (y16 < (0 : Int)) then some false else bif y16 != (1 + (sizeHead (rh r) : Int)) then some false else some true) = _
  rw [hh, bind_s, decide_eq_false (by omega), cond_f, bne_self, cond_f]
theorem impl_ClaimHead_t33 (x0 : THead) (x1 x2 : Int) (r : RHead) (hx : sizeHead x0 ≤ 1048576) (hr : sizeHead (rh r) ≤ 1048576) (hi : impl_ClaimHead x0 x1 x2 = some r) : laws_FnExactClaimHead.l33 x0 x1 x2 r r = some true := by
  have hh := heldHead_v (rh r) 1 (by omega) (by omega) hr
  have t55 := impl_ClaimHead_t55 r hr
  show ((laws_markHead (rh r) 1).bind fun y11 => (laws_heldHead (mkHead (rh r) y11.1 y11.2.1 y11.2.2.1) 1).bind fun y12 => bif decide (y12 < (0 : Int)) then some false else bif y12 != y11.2.2.2 then some false else (laws_toHead x0).bind fun y13 => (impl_ClaimHead y13 x1 x2).bind fun y14 => (laws_eqHead (rh y14) (rh r)).bind fun y15 => bif !y15 then some false else bif !(rb y14 == rb r) then some false else laws_FnExactClaimHead.l55 r y11) = _
  rw [markHead_v _ 1 (by omega) (by omega) hr, bind_s]
  dsimp only
  rw [hh, bind_s, decide_eq_false (by omega), cond_f, bne_self, cond_f, toHead_v x0 hx, bind_s, hi, bind_s, eqHead_v _ (by omega), bind_s, Bool.not_true, cond_f, beq_self_eq_true, Bool.not_true, cond_f]
  exact t55
theorem pure_FnExactClaimHead (x0 : THead) (x1 x2 : Int) (h0 : HeadMax x0) : laws_FnExactClaimHead x0 x1 x2 = some true := by
  show (laws_FnExactClaimHead.b x0 x1 x2 (fun y3 y4 y5 => laws_FnExactClaimHead.l21 x0 x1 x2 y3 y4 y5)) = _
  unfold laws_FnExactClaimHead.b
  rw [szHead_v _ _ h0 (by omega) (by omega), bind_s]
  by_cases g0 : (sizeHead x0 : Int) ≤ 1048576
  · have b0 : sizeHead x0 ≤ 1048576 := by omega
    have b1 : sizeHead (rh (claimM x0 x1 x2)) ≤ 1048576 := claimM_size x0 x1 x2 b0
    have hi := iClaim_v x0 x1 x2 b0
    have t33 := impl_ClaimHead_t33 x0 x1 x2 (claimM x0 x1 x2) b0 b1 hi
    rw [if_pos g0, decide_eq_false (by omega), cond_f]
    simp only [toHead_v _ b0, bind_s, sClaim_v x0 x1 x2 b0, hi]
    generalize claimM x0 x1 x2 = r at b1 hi t33 ⊢
    show ((laws_eqHead (rh r) (rh r)).bind fun y6 => bif !y6 then some false else bif !(rb r == rb r) then some false else (laws_toHead x0).bind fun y7 => (laws_eqHead x0 y7).bind fun y8 => bif !y8 then some false else (laws_markHead x0 1).bind fun y9 => bif decide (y9.2.2.2 < (0 : Int)) then some false else (laws_eqHead (rh r) (rh r)).bind fun y10 => bif !y10 then some false else bif !(rb r == rb r) then some false else laws_FnExactClaimHead.l33 x0 x1 x2 r r) = _
    rw [eqHead_v _ (by omega), bind_s, Bool.not_true, cond_f, beq_self_eq_true, Bool.not_true, cond_f, toHead_v x0 b0, bind_s, eqHead_v x0 (by omega), bind_s, Bool.not_true, cond_f, markHead_v x0 1 (by omega) (by omega) b0, bind_s, decide_eq_false (by dsimp only; omega), cond_f, bind_s, Bool.not_true, cond_f, cond_f]
    exact t33
  · rw [if_neg g0, decide_eq_true (by omega), cond_t]

end Go.Proofs.Ytdfchkmfamnocaa
