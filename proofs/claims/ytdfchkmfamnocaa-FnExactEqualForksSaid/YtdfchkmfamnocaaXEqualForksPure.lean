/- The plain law of FnExactEqualForks: what the printed functions compute is true, for all data in range. -/
import Derived.Test.YtdfchkmfamnocaaXEqualForksPure0
namespace Go.Proofs.Ytdfchkmfamnocaa
open V
set_option linter.unusedVariables false
set_option linter.unusedSimpArgs false
theorem szIntS_v (x0 : List Int) (L : Int) (hx : x0.length ≤ 9223372036854775807) (h0 : 0 ≤ L) (h1 : L ≤ 1048576) : laws_szIntS x0 L = some (if (x0.length : Int) ≤ L then L - x0.length else -1) := by
  unfold laws_szIntS
  rw [w64 (by omega) (by omega)]
  by_cases h : (x0.length : Int) ≤ L
  · rw [if_pos h, decide_eq_false (by omega), cond_f]
  · rw [if_neg h, decide_eq_true (by omega), cond_t]
theorem toIntS_l (x0 : List Int) (hx : x0.length ≤ 1048576) : ∀ i n, i ≤ x0.length → x0.length - i < n → ∀ ys, ys = x0.take i ++ List.replicate (x0.length - i) (0 : Int) → laws_toIntS.l6 x0 n (i : Int) ys = some x0 := by
  refine idx_ind ?_ ?_
  · intro n ys hy
    subst hy
    rw [laws_toIntS.u6]
    simp only [laws_toIntS.g6, lt_f (Nat.le_refl _), cond_f]
    simp
  · intro i n hi ih ys hy
    have hyl : i < ys.length := by subst hy; simp; omega
    rw [laws_toIntS.u6]
    simp only [laws_toIntS.g6, lt_t hi, lt_t hyl, ge_t, cond_t, bind_s, w64_succ (i := i) (by omega), Int.toNat_natCast, at_n hi]
    exact ih _ (fill_set hy hi)
theorem toIntS_v (x0 : List Int) (hx : x0.length ≤ 1048576) : laws_toIntS x0 = some x0 := by
  unfold laws_toIntS
  simp only [laws_toIntS.b, beq_self_eq_true, cond_t, ge_t, Int.toNat_natCast]
  rw [decide_eq_true (by omega), cond_t]
  have := toIntS_l x0 hx 0 KK (Nat.zero_le _) (KK_gt (by omega)) _ rfl
  simpa using this
theorem eqIntS_l (x0 : List Int) (hx : x0.length ≤ 1152921504606846976) : ∀ i n, i ≤ x0.length → x0.length - i < n → laws_eqIntS.l8 x0 x0 n (i : Int) = some true := by
  refine idx_ind ?_ ?_
  · intro n
    rw [laws_eqIntS.u8]
    simp only [laws_eqIntS.g8, lt_f (Nat.le_refl _), cond_f]
  · intro i n hi ih
    rw [laws_eqIntS.u8]
    simp only [laws_eqIntS.g8, lt_t hi, ge_t, cond_t, bind_s, w64_succ (i := i) (by omega), bne_self, cond_f]
    exact ih
theorem eqIntS_v (x0 : List Int) (hx : x0.length ≤ 1152921504606846976) : laws_eqIntS x0 x0 = some true := by
  unfold laws_eqIntS
  simp only [laws_eqIntS.b, len_eq (rfl : x0.length = x0.length), cond_f]
  have := eqIntS_l x0 hx 0 KK (Nat.zero_le _) (KK_gt (by omega))
  simpa using this
theorem szKeys_v (x0 : TKeys) (L : Int) (hx : x0.1.length ≤ 9223372036854775807) (h0 : 0 ≤ L) (h1 : L ≤ 1048576) : laws_szKeys x0 L = some (if (x0.1.length : Int) ≤ L then L - x0.1.length else -1) := by
  unfold laws_szKeys
  rw [szIntS_v _ _ hx h0 h1, bind_s]
  by_cases h : (x0.1.length : Int) ≤ L
  · rw [if_pos h, decide_eq_false (by omega), cond_f]
  · rw [if_neg h, decide_eq_true (by omega), cond_t]
theorem toKeys_v (x0 : TKeys) (hx : x0.1.length ≤ 1048576) : laws_toKeys x0 = some x0 := by
  unfold laws_toKeys
  rw [toIntS_v _ hx, bind_s]
theorem eqKeys_v (a : TKeys) (hx : a.1.length ≤ 1152921504606846976) : laws_eqKeys a a = some true := by
  unfold laws_eqKeys
  simp only [bne_self, cond_f, eqIntS_v a.1 hx, bind_s, Bool.not_true]
def hk1 (x : THead) : TKeys := (x.2.2.2.2.2.2.2.2.1, x.2.2.2.2.2.2.2.2.2.1)
def hk2 (x : THead) : TKeys := (x.2.2.2.2.2.2.2.2.2.2.1, x.2.2.2.2.2.2.2.2.2.2.2.1)
def hk3 (x : THead) : TKeys := (x.2.2.2.2.2.2.2.2.2.2.2.2.2.1, x.2.2.2.2.2.2.2.2.2.2.2.2.2.2.1)
def sizeHead (x : THead) : Nat := (hk1 x).1.length + (hk2 x).1.length + (hk3 x).1.length
structure HeadMax (x : THead) : Prop where
  a : (hk1 x).1.length ≤ 9223372036854775807
  b : (hk2 x).1.length ≤ 9223372036854775807
  c : (hk3 x).1.length ≤ 9223372036854775807
theorem szHead_v (x0 : THead) (L : Int) (hx : HeadMax x0) (h0 : 0 ≤ L) (h1 : L ≤ 1048576) : laws_szHead x0 L = some (if (sizeHead x0 : Int) ≤ L then L - sizeHead x0 else -1) := by
  show ((laws_szKeys (hk1 x0) L).bind fun y1 => bif decide (y1 < (0 : Int)) then some (-1 : Int) else (laws_szKeys (hk2 x0) y1).bind fun y2 => bif decide (y2 < (0 : Int)) then some (-1 : Int) else (laws_szKeys (hk3 x0) y2).bind fun y3 => bif decide (y3 < (0 : Int)) then some (-1 : Int) else some y3) = _
  unfold sizeHead
  rw [szKeys_v _ _ hx.a h0 h1, bind_s]
  by_cases g1 : ((hk1 x0).1.length : Int) ≤ L
  · rw [if_pos g1, decide_eq_false (by omega), cond_f, szKeys_v _ _ hx.b (by omega) (by omega), bind_s]
    by_cases g2 : ((hk2 x0).1.length : Int) ≤ L - (hk1 x0).1.length
    · rw [if_pos g2, decide_eq_false (by omega), cond_f, szKeys_v _ _ hx.c (by omega) (by omega), bind_s]
      by_cases g3 : ((hk3 x0).1.length : Int) ≤ L - (hk1 x0).1.length - (hk2 x0).1.length
      · rw [if_pos g3, decide_eq_false (by omega), cond_f, if_pos (by omega)]
        congr 1; omega
      · rw [if_neg g3, decide_eq_true (by omega), cond_t, if_neg (by omega)]
    · rw [if_neg g2, decide_eq_true (by omega), cond_t, if_neg (by omega)]
  · rw [if_neg g1, decide_eq_true (by omega), cond_t, if_neg (by omega)]
theorem toHead_v (x0 : THead) (hx : sizeHead x0 ≤ 1048576) : laws_toHead x0 = some x0 := by
  unfold sizeHead at hx
  have e1 := toKeys_v (hk1 x0) (by omega)
  have e2 := toKeys_v (hk2 x0) (by omega)
  have e3 := toKeys_v (hk3 x0) (by omega)
  unfold hk1 at e1
  unfold hk2 at e2
  unfold hk3 at e3
  unfold laws_toHead
  rw [e1, bind_s, e2, bind_s, e3, bind_s]
theorem eqHead_v (a : THead) (hx : sizeHead a ≤ 1152921504606846976) : laws_eqHead a a = some true := by
  unfold sizeHead at hx
  have e1 := eqKeys_v (hk1 a) (by omega)
  have e2 := eqKeys_v (hk2 a) (by omega)
  have e3 := eqKeys_v (hk3 a) (by omega)
  unfold hk1 at e1
  unfold hk2 at e2
  unfold hk3 at e3
  unfold laws_eqHead
  simp only [bne_self, cond_f, e1, e2, e3, bind_s, Bool.not_true, beq_self_eq_true]
theorem szSigS_v (x0 : List TSig) (L : Int) (hx : x0.length ≤ 9223372036854775807) (h0 : 0 ≤ L) (h1 : L ≤ 1048576) : laws_szSigS x0 L = some (if (x0.length : Int) ≤ L then L - x0.length else -1) := by
  unfold laws_szSigS
  rw [w64 (by omega) (by omega)]
  by_cases h : (x0.length : Int) ≤ L
  · rw [if_pos h, decide_eq_false (by omega), cond_f]
  · rw [if_neg h, decide_eq_true (by omega), cond_t]
theorem toSigS_l (x0 : List TSig) (hx : x0.length ≤ 1048576) : ∀ i n, i ≤ x0.length → x0.length - i < n → ∀ ys, ys = x0.take i ++ List.replicate (x0.length - i) dSig → laws_toSigS.l6 x0 n (i : Int) ys = some x0 := by
  refine idx_ind ?_ ?_
  · intro n ys hy
    subst hy
    rw [laws_toSigS.u6]
    simp only [laws_toSigS.g6, lt_f (Nat.le_refl _), cond_f]
    simp
  · intro i n hi ih ys hy
    have hyl : i < ys.length := by subst hy; simp; omega
    rw [laws_toSigS.u6]
    simp only [laws_toSigS.g6, lt_t hi, lt_t hyl, ge_t, cond_t, laws_toSig, bind_s, w64_succ (i := i) (by omega), Int.toNat_natCast, at_n hi]
    exact ih _ (fill_set hy hi)
theorem toSigS_v (x0 : List TSig) (hx : x0.length ≤ 1048576) : laws_toSigS x0 = some x0 := by
  unfold laws_toSigS
  simp only [laws_toSigS.b, beq_self_eq_true, cond_t, ge_t, Int.toNat_natCast]
  rw [decide_eq_true (by omega), cond_t]
  have := toSigS_l x0 hx 0 KK (Nat.zero_le _) (KK_gt (by omega)) _ rfl
  simpa using this
theorem eqSig_v (a : TSig) : laws_eqSig a a = some true := by
  unfold laws_eqSig
  simp only [bne_self, cond_f]
theorem eqSigS_l (x0 : List TSig) (hx : x0.length ≤ 1152921504606846976) : ∀ i n, i ≤ x0.length → x0.length - i < n → laws_eqSigS.l8 x0 x0 n (i : Int) = some true := by
  refine idx_ind ?_ ?_
  · intro n
    rw [laws_eqSigS.u8]
    simp only [laws_eqSigS.g8, lt_f (Nat.le_refl _), cond_f]
  · intro i n hi ih
    rw [laws_eqSigS.u8]
    simp only [laws_eqSigS.g8, lt_t hi, ge_t, cond_t, bind_s, w64_succ (i := i) (by omega), eqSig_v, Bool.not_true, cond_f]
    exact ih
theorem eqSigS_v (x0 : List TSig) (hx : x0.length ≤ 1152921504606846976) : laws_eqSigS x0 x0 = some true := by
  unfold laws_eqSigS
  simp only [laws_eqSigS.b, len_eq (rfl : x0.length = x0.length), cond_f]
  have := eqSigS_l x0 hx 0 KK (Nat.zero_le _) (KK_gt (by omega))
  simpa using this
def sdh (x : TSigned) : THead := (x.1, x.2.1, x.2.2.1, x.2.2.2.1, x.2.2.2.2.1, x.2.2.2.2.2.1, x.2.2.2.2.2.2.1, x.2.2.2.2.2.2.2.1, x.2.2.2.2.2.2.2.2.1, x.2.2.2.2.2.2.2.2.2.1, x.2.2.2.2.2.2.2.2.2.2.1, x.2.2.2.2.2.2.2.2.2.2.2.1, x.2.2.2.2.2.2.2.2.2.2.2.2.1, x.2.2.2.2.2.2.2.2.2.2.2.2.2.1, x.2.2.2.2.2.2.2.2.2.2.2.2.2.2.1, x.2.2.2.2.2.2.2.2.2.2.2.2.2.2.2.1)
def sds (x : TSigned) : List TSig := x.2.2.2.2.2.2.2.2.2.2.2.2.2.2.2.2
def sizeSigned (x : TSigned) : Nat := sizeHead (sdh x) + (sds x).length
structure SignedMax (x : TSigned) : Prop where
  h : HeadMax (sdh x)
  s : (sds x).length ≤ 9223372036854775807
theorem szSigned_v (x0 : TSigned) (L : Int) (hx : SignedMax x0) (h0 : 0 ≤ L) (h1 : L ≤ 1048576) : laws_szSigned x0 L = some (if (sizeSigned x0 : Int) ≤ L then L - sizeSigned x0 else -1) := by
  show ((laws_szHead (sdh x0) L).bind fun y1 => bif decide (y1 < (0 : Int)) then some (-1 : Int) else (laws_szSigS (sds x0) y1).bind fun y2 => bif decide (y2 < (0 : Int)) then some (-1 : Int) else some y2) = _
  unfold sizeSigned
  rw [szHead_v _ _ hx.h h0 h1, bind_s]
  by_cases g1 : (sizeHead (sdh x0) : Int) ≤ L
  · rw [if_pos g1, decide_eq_false (by omega), cond_f, szSigS_v _ _ hx.s (by omega) (by omega), bind_s]
    by_cases g2 : ((sds x0).length : Int) ≤ L - sizeHead (sdh x0)
    · rw [if_pos g2, decide_eq_false (by omega), cond_f, if_pos (by omega)]
      congr 1; omega
    · rw [if_neg g2, decide_eq_true (by omega), cond_t, if_neg (by omega)]
  · rw [if_neg g1, decide_eq_true (by omega), cond_t, if_neg (by omega)]
theorem toSigned_v (x0 : TSigned) (hx : sizeSigned x0 ≤ 1048576) : laws_toSigned x0 = some x0 := by
  unfold sizeSigned at hx
  have e1 := toHead_v (sdh x0) (by omega)
  have e2 := toSigS_v (sds x0) (by omega)
  unfold sdh at e1
  unfold sds at e2
  unfold laws_toSigned
  rw [e1, bind_s, e2, bind_s]
theorem eqSigned_v (a : TSigned) (hx : sizeSigned a ≤ 1152921504606846976) : laws_eqSigned a a = some true := by
  unfold sizeSigned at hx
  have e1 := eqHead_v (sdh a) (by omega)
  have e2 := eqSigS_v (sds a) (by omega)
  unfold sdh at e1
  unfold sds at e2
  unfold laws_eqSigned
  simp only [e1, e2, bind_s, Bool.not_true, cond_f]
def fk1 (x : TFork) : TSigned := (x.1, x.2.1, x.2.2.1, x.2.2.2.1, x.2.2.2.2.1, x.2.2.2.2.2.1, x.2.2.2.2.2.2.1, x.2.2.2.2.2.2.2.1, x.2.2.2.2.2.2.2.2.1, x.2.2.2.2.2.2.2.2.2.1, x.2.2.2.2.2.2.2.2.2.2.1, x.2.2.2.2.2.2.2.2.2.2.2.1, x.2.2.2.2.2.2.2.2.2.2.2.2.1, x.2.2.2.2.2.2.2.2.2.2.2.2.2.1, x.2.2.2.2.2.2.2.2.2.2.2.2.2.2.1, x.2.2.2.2.2.2.2.2.2.2.2.2.2.2.2.1, x.2.2.2.2.2.2.2.2.2.2.2.2.2.2.2.2.1)
def fk2 (x : TFork) : TSigned := (x.2.2.2.2.2.2.2.2.2.2.2.2.2.2.2.2.2.1, x.2.2.2.2.2.2.2.2.2.2.2.2.2.2.2.2.2.2.1, x.2.2.2.2.2.2.2.2.2.2.2.2.2.2.2.2.2.2.2.1, x.2.2.2.2.2.2.2.2.2.2.2.2.2.2.2.2.2.2.2.2.1, x.2.2.2.2.2.2.2.2.2.2.2.2.2.2.2.2.2.2.2.2.2.1, x.2.2.2.2.2.2.2.2.2.2.2.2.2.2.2.2.2.2.2.2.2.2.1, x.2.2.2.2.2.2.2.2.2.2.2.2.2.2.2.2.2.2.2.2.2.2.2.1, x.2.2.2.2.2.2.2.2.2.2.2.2.2.2.2.2.2.2.2.2.2.2.2.2.1, x.2.2.2.2.2.2.2.2.2.2.2.2.2.2.2.2.2.2.2.2.2.2.2.2.2.1, x.2.2.2.2.2.2.2.2.2.2.2.2.2.2.2.2.2.2.2.2.2.2.2.2.2.2.1, x.2.2.2.2.2.2.2.2.2.2.2.2.2.2.2.2.2.2.2.2.2.2.2.2.2.2.2.1, x.2.2.2.2.2.2.2.2.2.2.2.2.2.2.2.2.2.2.2.2.2.2.2.2.2.2.2.2.1, x.2.2.2.2.2.2.2.2.2.2.2.2.2.2.2.2.2.2.2.2.2.2.2.2.2.2.2.2.2.1, x.2.2.2.2.2.2.2.2.2.2.2.2.2.2.2.2.2.2.2.2.2.2.2.2.2.2.2.2.2.2.1, x.2.2.2.2.2.2.2.2.2.2.2.2.2.2.2.2.2.2.2.2.2.2.2.2.2.2.2.2.2.2.2.1, x.2.2.2.2.2.2.2.2.2.2.2.2.2.2.2.2.2.2.2.2.2.2.2.2.2.2.2.2.2.2.2.2.1, x.2.2.2.2.2.2.2.2.2.2.2.2.2.2.2.2.2.2.2.2.2.2.2.2.2.2.2.2.2.2.2.2.2.1)
def fk3 (x : TFork) : TSigned := x.2.2.2.2.2.2.2.2.2.2.2.2.2.2.2.2.2.2.2.2.2.2.2.2.2.2.2.2.2.2.2.2.2.2
def sizeFork (x : TFork) : Nat := sizeSigned (fk1 x) + sizeSigned (fk2 x) + sizeSigned (fk3 x)
structure ForkMax (x : TFork) : Prop where
  a : SignedMax (fk1 x)
  b : SignedMax (fk2 x)
  c : SignedMax (fk3 x)
theorem szFork_v (x0 : TFork) (L : Int) (hx : ForkMax x0) (h0 : 0 ≤ L) (h1 : L ≤ 1048576) : laws_szFork x0 L = some (if (sizeFork x0 : Int) ≤ L then L - sizeFork x0 else -1) := by
  show ((laws_szSigned (fk1 x0) L).bind fun y1 => bif decide (y1 < (0 : Int)) then some (-1 : Int) else (laws_szSigned (fk2 x0) y1).bind fun y2 => bif decide (y2 < (0 : Int)) then some (-1 : Int) else (laws_szSigned (fk3 x0) y2).bind fun y3 => bif decide (y3 < (0 : Int)) then some (-1 : Int) else some y3) = _
  unfold sizeFork
  rw [szSigned_v _ _ hx.a h0 h1, bind_s]
  by_cases g1 : (sizeSigned (fk1 x0) : Int) ≤ L
  · rw [if_pos g1, decide_eq_false (by omega), cond_f, szSigned_v _ _ hx.b (by omega) (by omega), bind_s]
    by_cases g2 : (sizeSigned (fk2 x0) : Int) ≤ L - sizeSigned (fk1 x0)
    · rw [if_pos g2, decide_eq_false (by omega), cond_f, szSigned_v _ _ hx.c (by omega) (by omega), bind_s]
      by_cases g3 : (sizeSigned (fk3 x0) : Int) ≤ L - sizeSigned (fk1 x0) - sizeSigned (fk2 x0)
      · rw [if_pos g3, decide_eq_false (by omega), cond_f, if_pos (by omega)]
        congr 1; omega
      · rw [if_neg g3, decide_eq_true (by omega), cond_t, if_neg (by omega)]
    · rw [if_neg g2, decide_eq_true (by omega), cond_t, if_neg (by omega)]
  · rw [if_neg g1, decide_eq_true (by omega), cond_t, if_neg (by omega)]
theorem toFork_v (x0 : TFork) (hx : sizeFork x0 ≤ 1048576) : laws_toFork x0 = some x0 := by
  unfold sizeFork at hx
  have e1 := toSigned_v (fk1 x0) (by omega)
  have e2 := toSigned_v (fk2 x0) (by omega)
  have e3 := toSigned_v (fk3 x0) (by omega)
  unfold fk1 at e1
  unfold fk2 at e2
  unfold fk3 at e3
  unfold laws_toFork
  rw [e1, bind_s, e2, bind_s, e3, bind_s]
theorem eqFork_v (a : TFork) (hx : sizeFork a ≤ 1152921504606846976) : laws_eqFork a a = some true := by
  unfold sizeFork at hx
  have e1 := eqSigned_v (fk1 a) (by omega)
  have e2 := eqSigned_v (fk2 a) (by omega)
  have e3 := eqSigned_v (fk3 a) (by omega)
  unfold fk1 at e1
  unfold fk2 at e2
  unfold fk3 at e3
  unfold laws_eqFork
  simp only [e1, e2, e3, bind_s, Bool.not_true, cond_f]
theorem Grow_v (n : Int) (h0 : 0 ≤ n) (h1 : n < 68719476736) : slices_Grow_int [] n = some [] := by
  have e0 : IntKind.i64.wrap ((0 : Int) - ((0 : Nat) : Int)) = 0 := w64 (by omega) (by omega)
  have e1 : IntKind.i64.wrap (n - 0) = n := by rw [w64 (by omega) (by omega)]; omega
  unfold slices_Grow_int
  simp only [slices_Grow_int.b, slices_Grow_int.l7, slices_Grow_int.g7, e0, e1]
  rw [decide_eq_false (by omega), cond_f]
  by_cases h : n > 0
  · rw [decide_eq_true h, cond_t, decide_eq_true (by omega), cond_t, decide_eq_true h1, cond_t, decide_eq_true (by omega), cond_t, decide_eq_true (by omega), cond_t, decide_eq_true (by omega), cond_t]
    simp
  · rw [decide_eq_false h, cond_f]
theorem Concat_l22 (x0 : List (List Int)) (hl : x0.length < 1152921504606846976) : ∀ i n, i ≤ x0.length → x0.length - i < n → ∀ acc : List Int, acc.length + (x0.drop i).flatten.length < 68719476736 → slices_Concat_int.l22 x0 n (x0.length : Int) (i : Int) acc = some (acc ++ (x0.drop i).flatten) := by
  refine idx_ind ?_ ?_
  · intro n acc ha
    rw [slices_Concat_int.u22]
    simp only [slices_Concat_int.g22, lt_f (Nat.le_refl _), cond_f, List.drop_length, List.flatten_nil, List.append_nil]
  · intro i n hi ih acc ha
    rw [List.drop_eq_getElem_cons hi, List.flatten_cons] at ha ⊢
    rw [List.length_append] at ha
    rw [slices_Concat_int.u22]
    simp only [slices_Concat_int.g22, lt_t hi, ge_t, cond_t, w64_succ (i := i) (by omega), Int.toNat_natCast, at_n hi]
    rw [decide_eq_true (by omega), cond_t, ih _ (by rw [List.length_append]; omega), List.append_assoc]
theorem Concat_l6 (x0 : List (List Int)) (hl : x0.length < 1152921504606846976) (hf : x0.flatten.length < 68719476736) : ∀ i n, i ≤ x0.length → x0.length - i < n → ∀ s : Int, 0 ≤ s → s + (x0.drop i).flatten.length < 68719476736 → slices_Concat_int.l6 x0 n s (x0.length : Int) (i : Int) = some x0.flatten := by
  refine idx_ind ?_ ?_
  · intro n s h0 ha
    rw [slices_Concat_int.u6]
    rw [List.drop_length, List.flatten_nil] at ha
    simp only [slices_Concat_int.g6, lt_f (Nat.le_refl _), cond_f]
    rw [Grow_v s h0 (by simpa using ha), bind_s]
    have := Concat_l22 x0 hl 0 KK (Nat.zero_le _) (KK_gt (by omega)) [] (by simpa using hf)
    simpa using this
  · intro i n hi ih s h0 ha
    rw [List.drop_eq_getElem_cons hi, List.flatten_cons, List.length_append] at ha
    rw [slices_Concat_int.u6]
    simp only [slices_Concat_int.g6, lt_t hi, ge_t, cond_t, w64_succ (i := i) (by omega), Int.toNat_natCast, at_n hi]
    rw [w64 (n := s + (x0[i].length : Int)) (by omega) (by omega), decide_eq_false (by omega), cond_f, ih _ (by omega) (by omega)]
theorem Concat_v (x0 : List (List Int)) (hl : x0.length < 1152921504606846976) (hf : x0.flatten.length < 68719476736) : slices_Concat_int x0 = some x0.flatten := by
  have := Concat_l6 x0 hl hf 0 KK (Nat.zero_le _) (KK_gt (by omega)) 0 (Int.le_refl 0) (by rw [List.drop_zero, Int.zero_add]; omega)
  exact this
def keysInts (k : TKeys) : List Int := [k.2, (k.1.length : Int)] ++ k.1
theorem keysInts_len (k : TKeys) : (keysInts k).length = k.1.length + 2 := by unfold keysInts; simp
theorem sKeysInts_v (k : TKeys) (h : k.1.length ≤ 1048576) : spec_KeysInts k = some (keysInts k) := by
  unfold spec_KeysInts keysInts
  rw [decide_eq_true (by simp; omega), cond_t]
theorem iKeysInts_v (k : TKeys) (h : k.1.length ≤ 1048576) : impl_KeysInts k = some (keysInts k) := by
  unfold impl_KeysInts keysInts
  rw [decide_eq_true (by simp; omega), cond_t]
def hd8 (x0 : THead) : List Int := [x0.1, x0.2.1, x0.2.2.1, x0.2.2.2.1, x0.2.2.2.2.1, x0.2.2.2.2.2.1, x0.2.2.2.2.2.2.1, x0.2.2.2.2.2.2.2.1]
def hde (x0 : THead) : List Int := [x0.2.2.2.2.2.2.2.2.2.2.2.2.1]
def hdb (x0 : THead) : List Int := [bif x0.2.2.2.2.2.2.2.2.2.2.2.2.2.2.2 then (1 : Int) else 0]
def headInts (x0 : THead) : List Int := ((((hd8 x0 ++ keysInts (hk1 x0)) ++ keysInts (hk2 x0)) ++ hde x0) ++ keysInts (hk3 x0)) ++ hdb x0
theorem headInts_len (x0 : THead) : (headInts x0).length = sizeHead x0 + 16 := by
  unfold headInts sizeHead
  simp only [List.length_append, keysInts_len]
  simp [hd8, hde, hdb]; omega
theorem app_le {α : Type} (a b : List α) : (a ++ b).length = a.length + b.length := List.length_append
theorem sHeadInts_v (x0 : THead) (h : sizeHead x0 ≤ 1048576) : spec_HeadInts x0 = some (headInts x0) := by
  have hs := h
  unfold sizeHead at hs
  have e1 := sKeysInts_v (hk1 x0) (by omega)
  have e2 := sKeysInts_v (hk2 x0) (by omega)
  have e3 := sKeysInts_v (hk3 x0) (by omega)
  have l1 := keysInts_len (hk1 x0)
  have l2 := keysInts_len (hk2 x0)
  have l3 := keysInts_len (hk3 x0)
  have l8 : (hd8 x0).length = 8 := rfl
  have le : (hde x0).length = 1 := rfl
  show ((spec_KeysInts (hk1 x0)).bind fun y1 => bif decide ((hd8 x0).length + y1.length < 68719476736) then (spec_KeysInts (hk2 x0)).bind fun y2 => bif decide ((hd8 x0 ++ y1).length + y2.length < 68719476736) then bif decide (((hd8 x0 ++ y1) ++ y2).length + (hde x0).length < 68719476736) then (spec_KeysInts (hk3 x0)).bind fun y3 => bif decide ((((hd8 x0 ++ y1) ++ y2) ++ hde x0).length + y3.length < 68719476736) then bif x0.2.2.2.2.2.2.2.2.2.2.2.2.2.2.2 then bif decide (((((hd8 x0 ++ y1) ++ y2) ++ hde x0) ++ y3).length + [(1 : Int)].length < 68719476736) then some (((((hd8 x0 ++ y1) ++ y2) ++ hde x0) ++ y3) ++ [(1 : Int)]) else none else bif decide (((((hd8 x0 ++ y1) ++ y2) ++ hde x0) ++ y3).length + [(0 : Int)].length < 68719476736) then some (((((hd8 x0 ++ y1) ++ y2) ++ hde x0) ++ y3) ++ [(0 : Int)]) else none else none else none else none else none) = _
  simp only [e1, e2, e3, bind_s, app_le, l1, l2, l3, l8, le, List.length_singleton]
  rw [decide_eq_true (by omega), cond_t, decide_eq_true (by omega), cond_t, decide_eq_true (by omega), cond_t, decide_eq_true (by omega), cond_t, decide_eq_true (by omega), cond_t]
  unfold headInts hdb
  cases x0.2.2.2.2.2.2.2.2.2.2.2.2.2.2.2 <;> rfl
theorem iHeadInts_v (x0 : THead) (h : sizeHead x0 ≤ 1048576) : impl_HeadInts x0 = some (headInts x0) := by
  have hs := h
  unfold sizeHead at hs
  have e1 := iKeysInts_v (hk1 x0) (by omega)
  have e2 := iKeysInts_v (hk2 x0) (by omega)
  have e3 := iKeysInts_v (hk3 x0) (by omega)
  have eb : impl_bit x0.2.2.2.2.2.2.2.2.2.2.2.2.2.2.2 = some (bif x0.2.2.2.2.2.2.2.2.2.2.2.2.2.2.2 then (1 : Int) else 0) := by
    unfold impl_bit
    cases x0.2.2.2.2.2.2.2.2.2.2.2.2.2.2.2 <;> rfl
  have ef : [hd8 x0, keysInts (hk1 x0), keysInts (hk2 x0), hde x0, keysInts (hk3 x0), hdb x0].flatten = headInts x0 := by
    simp [headInts]
  have ec := Concat_v [hd8 x0, keysInts (hk1 x0), keysInts (hk2 x0), hde x0, keysInts (hk3 x0), hdb x0] (by simp) (by rw [ef, headInts_len]; omega)
  rw [ef] at ec
  show ((impl_KeysInts (hk1 x0)).bind fun y1 => (impl_KeysInts (hk2 x0)).bind fun y2 => (impl_KeysInts (hk3 x0)).bind fun y3 => (impl_bit x0.2.2.2.2.2.2.2.2.2.2.2.2.2.2.2).bind fun y4 => (slices_Concat_int [hd8 x0, y1, y2, hde x0, y3, [y4]]).bind fun y5 => some y5) = _
  simp only [e1, e2, e3, eb, bind_s]
  rw [show [bif x0.2.2.2.2.2.2.2.2.2.2.2.2.2.2.2 then (1 : Int) else 0] = hdb x0 from rfl, ec, bind_s]
theorem EqualInts_l (x0 x1 : List Int) (hl : x0.length = x1.length) (hx : x0.length ≤ 1152921504606846976) : ∀ i n, i ≤ x0.length → x0.length - i < n → spec_EqualInts.l8 x0 x1 n (i : Int) = some (decide (x0.drop i = x1.drop i)) := by
  refine idx_ind ?_ ?_
  · intro n
    rw [spec_EqualInts.u8]
    simp only [spec_EqualInts.g8, lt_f (Nat.le_refl _), cond_f]
    rw [List.drop_length, hl, List.drop_length]; simp
  · intro i n hi ih
    have hi' : i < x1.length := by omega
    rw [spec_EqualInts.u8]
    simp only [spec_EqualInts.g8, lt_t hi, lt_t hi', ge_t, cond_t, w64_succ (i := i) (by omega), Int.toNat_natCast, at_n hi, at_n hi']
    rw [dec_step (drop_eq hi hi')]
    by_cases he : x0[i] = x1[i]
    · rw [show (x0[i] != x1[i]) = false by simp [he], cond_f, ih, decide_eq_true he, Bool.true_and]
    · rw [show (x0[i] != x1[i]) = true by simp [he], cond_t, decide_eq_false he, Bool.false_and]
theorem EqualInts_v (x0 x1 : List Int) (hx : x0.length ≤ 1152921504606846976) : spec_EqualInts x0 x1 = some (decide (x0 = x1)) := by
  unfold spec_EqualInts
  by_cases hl : x0.length = x1.length
  · simp only [spec_EqualInts.b, len_eq hl, cond_f]
    have := EqualInts_l x0 x1 hl hx 0 KK (Nat.zero_le _) (KK_gt (by omega))
    simpa using this
  · simp only [spec_EqualInts.b, len_ne hl, cond_t]
    rw [decide_eq_false (fun h => hl (by rw [h]))]
theorem slicesEq_int_l (x0 x1 : List Int) (hl : x0.length = x1.length) (hx : x0.length ≤ 1152921504606846976) : ∀ i n, i ≤ x0.length → x0.length - i < n → slices_Equal_int.l8 x0 x1 n (x0.length : Int) (i : Int) = some (decide (x0.drop i = x1.drop i)) := by
  refine idx_ind ?_ ?_
  · intro n
    rw [slices_Equal_int.u8]
    simp only [slices_Equal_int.g8, lt_f (Nat.le_refl _), cond_f]
    rw [List.drop_length, hl, List.drop_length]; simp
  · intro i n hi ih
    have hi' : i < x1.length := by omega
    rw [slices_Equal_int.u8]
    simp only [slices_Equal_int.g8, lt_t hi, lt_t hi', ge_t, cond_t, w64_succ (i := i) (by omega), Int.toNat_natCast, at_n hi, at_n hi']
    rw [dec_step (drop_eq hi hi')]
    by_cases he : x0[i] = x1[i]
    · rw [show (x0[i] != x1[i]) = false by simp [he], cond_f, ih, decide_eq_true he, Bool.true_and]
    · rw [show (x0[i] != x1[i]) = true by simp [he], cond_t, decide_eq_false he, Bool.false_and]
theorem slicesEq_int_v (x0 x1 : List Int) (hx : x0.length ≤ 1152921504606846976) : slices_Equal_int x0 x1 = some (decide (x0 = x1)) := by
  unfold slices_Equal_int
  by_cases hl : x0.length = x1.length
  · simp only [slices_Equal_int.b, len_eq hl, cond_f]
    have := slicesEq_int_l x0 x1 hl hx 0 KK (Nat.zero_le _) (KK_gt (by omega))
    simpa using this
  · simp only [slices_Equal_int.b, len_ne hl, cond_t]
    rw [decide_eq_false (fun h => hl (by rw [h]))]
theorem sigEq (a b : TSig) : ((a.1 == b.1) && ((a.2 == b.2) && true)) = decide (a = b) := by
  obtain ⟨a1, a2⟩ := a
  obtain ⟨b1, b2⟩ := b
  by_cases h1 : a1 = b1 <;> by_cases h2 : a2 = b2 <;> simp [h1, h2]
theorem slicesEq_Sig_l (x0 x1 : List TSig) (hl : x0.length = x1.length) (hx : x0.length ≤ 1152921504606846976) : ∀ i n, i ≤ x0.length → x0.length - i < n → slices_Equal_impl_Sig.l8 x0 x1 n (x0.length : Int) (i : Int) = some (decide (x0.drop i = x1.drop i)) := by
  refine idx_ind ?_ ?_
  · intro n
    rw [slices_Equal_impl_Sig.u8]
    simp only [slices_Equal_impl_Sig.g8, lt_f (Nat.le_refl _), cond_f]
    rw [List.drop_length, hl, List.drop_length]; simp
  · intro i n hi ih
    have hi' : i < x1.length := by omega
    rw [slices_Equal_impl_Sig.u8]
    simp only [slices_Equal_impl_Sig.g8, lt_t hi, lt_t hi', ge_t, cond_t, w64_succ (i := i) (by omega), Int.toNat_natCast, at_n hi, at_n hi', sigEq]
    rw [dec_step (drop_eq hi hi')]
    by_cases he : x0[i] = x1[i]
    · simp only [he, decide_true, Bool.not_true, cond_f, Bool.true_and]
      exact ih
    · simp only [he, decide_false, Bool.not_false, cond_t, Bool.false_and]
theorem slicesEq_Sig_v (x0 x1 : List TSig) (hx : x0.length ≤ 1152921504606846976) : slices_Equal_impl_Sig x0 x1 = some (decide (x0 = x1)) := by
  unfold slices_Equal_impl_Sig
  by_cases hl : x0.length = x1.length
  · simp only [slices_Equal_impl_Sig.b, len_eq hl, cond_f]
    have := slicesEq_Sig_l x0 x1 hl hx 0 KK (Nat.zero_le _) (KK_gt (by omega))
    simpa using this
  · simp only [slices_Equal_impl_Sig.b, len_ne hl, cond_t]
    rw [decide_eq_false (fun h => hl (by rw [h]))]
theorem EqualKeys_v (a b : TKeys) (hx : a.1.length ≤ 1048576) : impl_EqualKeys a b = some (decide (a = b)) := by
  unfold impl_EqualKeys
  rw [slicesEq_int_v _ _ (by omega), bind_s]
  obtain ⟨a1, a2⟩ := a
  obtain ⟨b1, b2⟩ := b
  by_cases h1 : a1 = b1 <;> by_cases h2 : a2 = b2 <;> simp [h1, h2]
theorem keysInts_inj {k k' : TKeys} {r r' : List Int} (h : keysInts k ++ r = keysInts k' ++ r') : k = k' ∧ r = r' := by
  unfold keysInts at h
  simp only [List.cons_append, List.nil_append, List.append_assoc, List.cons.injEq] at h
  obtain ⟨h1, h2, h3⟩ := h
  have hl : k.1.length = k'.1.length := by omega
  obtain ⟨h4, h5⟩ := List.append_inj h3 hl
  exact ⟨Prod.ext h4 h1, h5⟩
theorem headInts_inj {a b : THead} (h : headInts a = headInts b) : hk1 a = hk1 b ∧ hk2 a = hk2 b ∧ hk3 a = hk3 b ∧ hdb a = hdb b := by
  unfold headInts at h
  simp only [List.append_assoc] at h
  obtain ⟨_, h⟩ := List.append_inj h rfl
  obtain ⟨h1, h⟩ := keysInts_inj h
  obtain ⟨h2, h⟩ := keysInts_inj h
  obtain ⟨_, h⟩ := List.append_inj h rfl
  obtain ⟨h3, h⟩ := keysInts_inj h
  exact ⟨h1, h2, h3, h⟩
theorem hdb_inj {a b : THead} (h : hdb a = hdb b) : (a.2.2.2.2.2.2.2.2.2.2.2.2.2.2.2 == b.2.2.2.2.2.2.2.2.2.2.2.2.2.2.2) = true := by
  unfold hdb at h
  generalize a.2.2.2.2.2.2.2.2.2.2.2.2.2.2.2 = p at h ⊢
  generalize b.2.2.2.2.2.2.2.2.2.2.2.2.2.2.2 = q at h ⊢
  revert h
  cases p <;> cases q <;> decide
def eqHeads (a b : THead) : Bool := decide (headInts a = headInts b)
theorem sEqualHeads_v (a b : THead) (ha : sizeHead a ≤ 1048576) (hb : sizeHead b ≤ 1048576) : spec_EqualHeads a b = some (eqHeads a b) := by
  unfold spec_EqualHeads eqHeads
  rw [sHeadInts_v a ha, bind_s, sHeadInts_v b hb, bind_s, EqualInts_v _ _ (by rw [headInts_len]; omega), bind_s]
  by_cases h : headInts a = headInts b
  · rw [decide_eq_true h, cond_t, hdb_inj (headInts_inj h).2.2.2]
  · rw [decide_eq_false h, cond_f]
theorem iEqualHeads_v (a b : THead) (ha : sizeHead a ≤ 1048576) (hb : sizeHead b ≤ 1048576) : impl_EqualHeads a b = some (eqHeads a b) := by
  have hs := ha
  unfold sizeHead at hs
  show ((impl_EqualKeys (hk1 a) (hk1 b)).bind fun y1 => bif y1 then (impl_EqualKeys (hk2 a) (hk2 b)).bind fun y2 => bif y2 then (impl_EqualKeys (hk3 a) (hk3 b)).bind fun y3 => bif y3 then (impl_HeadInts a).bind fun y4 => (impl_HeadInts b).bind fun y5 => (slices_Equal_int y4 y5).bind fun y6 => some y6 else some false else some false else some false) = _
  rw [EqualKeys_v _ _ (by omega), bind_s, EqualKeys_v _ _ (by omega), bind_s, EqualKeys_v _ _ (by omega), bind_s, iHeadInts_v a ha, bind_s, iHeadInts_v b hb, bind_s, slicesEq_int_v _ _ (by rw [headInts_len]; omega), bind_s]
  unfold eqHeads
  by_cases h : headInts a = headInts b
  · obtain ⟨h1, h2, h3, _⟩ := headInts_inj h
    rw [decide_eq_true h1, decide_eq_true h2, decide_eq_true h3, cond_t, cond_t, cond_t]
  · rw [decide_eq_false h]
    cases decide (hk1 a = hk1 b) <;> cases decide (hk2 a = hk2 b) <;> cases decide (hk3 a = hk3 b) <;> rfl
def eqSigneds (a b : TSigned) : Bool := eqHeads (sdh a) (sdh b) && decide (sds a = sds b)
theorem sEqualSigned_l (x0 x1 : TSigned) (hl : (sds x0).length = (sds x1).length) (hx : (sds x0).length ≤ 1152921504606846976) : ∀ i n, i ≤ (sds x0).length → (sds x0).length - i < n → spec_EqualSigned.l8 x0 x1 n (i : Int) = some (decide ((sds x0).drop i = (sds x1).drop i)) := by
  unfold sds at hl hx ⊢
  refine idx_ind ?_ ?_
  · intro n
    rw [spec_EqualSigned.u8]
    simp only [spec_EqualSigned.g8, lt_f (Nat.le_refl _), cond_f]
    rw [List.drop_length, hl, List.drop_length]; simp
  · intro i n hi ih
    have hi' : i < x1.2.2.2.2.2.2.2.2.2.2.2.2.2.2.2.2.length := by omega
    rw [spec_EqualSigned.u8]
    simp only [spec_EqualSigned.g8, lt_t hi, lt_t hi', ge_t, cond_t, w64_succ (i := i) (by omega), Int.toNat_natCast, at_n hi, at_n hi', sigEq]
    rw [dec_step (drop_eq hi hi')]
    generalize x0.2.2.2.2.2.2.2.2.2.2.2.2.2.2.2.2[i] = p
    generalize x1.2.2.2.2.2.2.2.2.2.2.2.2.2.2.2.2[i] = q
    by_cases he : p = q
    · simp only [he, decide_true, Bool.not_true, cond_f, Bool.true_and]
      exact ih
    · simp only [he, decide_false, Bool.not_false, cond_t, Bool.false_and]
theorem sEqualSigned_v (a b : TSigned) (ha : sizeSigned a ≤ 1048576) (hb : sizeSigned b ≤ 1048576) : spec_EqualSigned a b = some (eqSigneds a b) := by
  unfold sizeSigned at ha hb
  show ((spec_EqualHeads (sdh a) (sdh b)).bind fun y1 => bif !y1 then some false else bif ((sds a).length : Int) != ((sds b).length : Int) then some false else spec_EqualSigned.l8 a b KK 0) = _
  rw [sEqualHeads_v _ _ (by omega) (by omega), bind_s]
  unfold eqSigneds
  cases eqHeads (sdh a) (sdh b) with
  | false => rw [Bool.not_false, cond_t, Bool.false_and]
  | true =>
    rw [Bool.not_true, cond_f, Bool.true_and]
    by_cases hl : (sds a).length = (sds b).length
    · rw [len_eq hl, cond_f]
      have := sEqualSigned_l a b hl (by omega) 0 KK (Nat.zero_le _) (KK_gt (by omega))
      simpa using this
    · rw [len_ne hl, cond_t, decide_eq_false (fun h => hl (by rw [h]))]
theorem iEqualSigned_v (a b : TSigned) (ha : sizeSigned a ≤ 1048576) (hb : sizeSigned b ≤ 1048576) : impl_EqualSigned a b = some (eqSigneds a b) := by
  unfold sizeSigned at ha hb
  show ((impl_EqualHeads (sdh a) (sdh b)).bind fun y1 => bif y1 then (slices_Equal_impl_Sig (sds a) (sds b)).bind fun y2 => some y2 else some false) = _
  rw [iEqualHeads_v _ _ (by omega) (by omega), bind_s, slicesEq_Sig_v _ _ (by omega), bind_s]
  unfold eqSigneds
  cases eqHeads (sdh a) (sdh b) <;> rfl
def eqForks (a b : TFork) : Bool := eqSigneds (fk1 a) (fk1 b) && (eqSigneds (fk2 a) (fk2 b) && eqSigneds (fk3 a) (fk3 b))
theorem sEqualForks_v (a b : TFork) (ha : sizeFork a ≤ 1048576) (hb : sizeFork b ≤ 1048576) : spec_EqualForks a b = some (eqForks a b) := by
  unfold sizeFork at ha hb
  show ((spec_EqualSigned (fk1 a) (fk1 b)).bind fun y1 => bif y1 then (spec_EqualSigned (fk2 a) (fk2 b)).bind fun y2 => bif y2 then (spec_EqualSigned (fk3 a) (fk3 b)).bind fun y3 => some y3 else some false else some false) = _
  rw [sEqualSigned_v _ _ (by omega) (by omega), bind_s, sEqualSigned_v _ _ (by omega) (by omega), bind_s, sEqualSigned_v _ _ (by omega) (by omega), bind_s]
  unfold eqForks
  cases eqSigneds (fk1 a) (fk1 b) <;> cases eqSigneds (fk2 a) (fk2 b) <;> rfl
theorem iEqualForks_v (a b : TFork) (ha : sizeFork a ≤ 1048576) (hb : sizeFork b ≤ 1048576) : impl_EqualForks a b = some (eqForks a b) := by
  unfold sizeFork at ha hb
  show ((impl_EqualSigned (fk1 a) (fk1 b)).bind fun y1 => bif y1 then (impl_EqualSigned (fk2 a) (fk2 b)).bind fun y2 => bif y2 then (impl_EqualSigned (fk3 a) (fk3 b)).bind fun y3 => some y3 else some false else some false) = _
  rw [iEqualSigned_v _ _ (by omega) (by omega), bind_s, iEqualSigned_v _ _ (by omega) (by omega), bind_s, iEqualSigned_v _ _ (by omega) (by omega), bind_s]
  unfold eqForks
  cases eqSigneds (fk1 a) (fk1 b) <;> cases eqSigneds (fk2 a) (fk2 b) <;> rfl
theorem pure_FnExactEqualForks (x0 x1 : TFork) (h0 : ForkMax x0) (h1 : ForkMax x1) : laws_FnExactEqualForks x0 x1 = some true := by
  unfold laws_FnExactEqualForks
  rw [szFork_v _ _ h0 (by omega) (by omega), bind_s]
  by_cases g0 : (sizeFork x0 : Int) ≤ 1048576
  · rw [if_pos g0, decide_eq_false (by omega), cond_f, szFork_v _ _ h1 (by omega) (by omega), bind_s]
    by_cases g1 : (sizeFork x1 : Int) ≤ 1048576 - sizeFork x0
    · have b0 : sizeFork x0 ≤ 1048576 := by omega
      have b1 : sizeFork x1 ≤ 1048576 := by omega
      rw [if_pos g1, decide_eq_false (by omega), cond_f]
      simp only [toFork_v _ b0, toFork_v _ b1, bind_s, sEqualForks_v _ _ b0 b1, iEqualForks_v _ _ b0 b1, beq_self_eq_true, Bool.not_true, cond_f, eqFork_v x0 (by omega), eqFork_v x1 (by omega)]
    · rw [if_neg g1, decide_eq_true (by omega), cond_t]
  · rw [if_neg g0, decide_eq_true (by omega), cond_t]

end Go.Proofs.Ytdfchkmfamnocaa
