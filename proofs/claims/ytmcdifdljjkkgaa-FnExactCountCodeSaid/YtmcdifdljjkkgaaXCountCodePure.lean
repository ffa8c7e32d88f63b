/- The plain law of FnExactCountCode: what the printed functions compute is true, for all data in range. -/
import Derived.Test.YtmcdifdljjkkgaaXCountCodePure0
namespace Go.Proofs.Ytmcdifdljjkkgaa
open V
set_option linter.unusedVariables false
set_option linter.unusedSimpArgs false
theorem szIntS_v (x0 : List Int) (L : Int) (hx : x0.length ≤ 9223372036854775807) (h0 : 0 ≤ L) (h1 : L ≤ 1048576) : laws_szIntS x0 L = some (if (x0.length : Int) ≤ L then L - x0.length else -1) := by
  unfold laws_szIntS
  rw [w64 (by omega) (by omega)]
  by_cases h : (x0.length : Int) ≤ L
  · rw [if_pos h, decide_eq_false (by omega), cond_f]
  · rw [if_neg h, decide_eq_true (by omega), cond_t]
theorem toIntS_l (x0 : List Int) (hx : x0.length ≤ 1048576) : ∀ i n, i ≤ x0.length → x0.length - i < n → ∀ ys, ys = x0.take i ++ List.replicate (x0.length - i) (0 : Int) → laws_toIntS.l6 x0 n (i : Int) ys = some x0 := by
  refine idx_ind ?_ ?_
  · intro n ys hy
    subst hy
    rw [laws_toIntS.u6]
    simp only [laws_toIntS.g6, lt_f (Nat.le_refl _), cond_f]
    simp
  · intro i n hi ih ys hy
    have hyl : i < ys.length := by subst hy; simp; omega
    rw [laws_toIntS.u6]
    simp only [laws_toIntS.g6, lt_t hi, lt_t hyl, ge_t, cond_t, bind_s, w64_succ (i := i) (by omega), Int.toNat_natCast, at_n hi]
    exact ih _ (fill_set hy hi)
theorem toIntS_v (x0 : List Int) (hx : x0.length ≤ 1048576) : laws_toIntS x0 = some x0 := by
  unfold laws_toIntS
  simp only [laws_toIntS.b, beq_self_eq_true, cond_t, ge_t, Int.toNat_natCast]
  rw [decide_eq_true (by omega), cond_t]
  have := toIntS_l x0 hx 0 KK (Nat.zero_le _) (KK_gt (by omega)) _ rfl
  simpa using this
theorem eqIntS_l (x0 : List Int) (hx : x0.length ≤ 1152921504606846976) : ∀ i n, i ≤ x0.length → x0.length - i < n → laws_eqIntS.l8 x0 x0 n (i : Int) = some true := by
  refine idx_ind ?_ ?_
  · intro n
    rw [laws_eqIntS.u8]
    simp only [laws_eqIntS.g8, lt_f (Nat.le_refl _), cond_f]
  · intro i n hi ih
    rw [laws_eqIntS.u8]
    simp only [laws_eqIntS.g8, lt_t hi, ge_t, cond_t, bind_s, w64_succ (i := i) (by omega), bne_self, cond_f]
    exact ih
theorem eqIntS_v (x0 : List Int) (hx : x0.length ≤ 1152921504606846976) : laws_eqIntS x0 x0 = some true := by
  unfold laws_eqIntS
  simp only [laws_eqIntS.b, len_eq (rfl : x0.length = x0.length), cond_f]
  have := eqIntS_l x0 hx 0 KK (Nat.zero_le _) (KK_gt (by omega))
  simpa using this
theorem szKeys_v (x0 : TKeys) (L : Int) (hx : x0.1.length ≤ 9223372036854775807) (h0 : 0 ≤ L) (h1 : L ≤ 1048576) : laws_szKeys x0 L = some (if (x0.1.length : Int) ≤ L then L - x0.1.length else -1) := by
  unfold laws_szKeys
  rw [szIntS_v _ _ hx h0 h1, bind_s]
  by_cases h : (x0.1.length : Int) ≤ L
  · rw [if_pos h, decide_eq_false (by omega), cond_f]
  · rw [if_neg h, decide_eq_true (by omega), cond_t]
theorem toKeys_v (x0 : TKeys) (hx : x0.1.length ≤ 1048576) : laws_toKeys x0 = some x0 := by
  unfold laws_toKeys
  rw [toIntS_v _ hx, bind_s]
theorem eqKeys_v (a : TKeys) (hx : a.1.length ≤ 1152921504606846976) : laws_eqKeys a a = some true := by
  unfold laws_eqKeys
  simp only [bne_self, cond_f, eqIntS_v a.1 hx, bind_s, Bool.not_true]
def hk1 (x : THead) : TKeys := (x.2.2.2.2.2.2.2.2.1, x.2.2.2.2.2.2.2.2.2.1)
def hk2 (x : THead) : TKeys := (x.2.2.2.2.2.2.2.2.2.2.1, x.2.2.2.2.2.2.2.2.2.2.2.1)
def hk3 (x : THead) : TKeys := (x.2.2.2.2.2.2.2.2.2.2.2.2.2.1, x.2.2.2.2.2.2.2.2.2.2.2.2.2.2.1)
def sizeHead (x : THead) : Nat := (hk1 x).1.length + (hk2 x).1.length + (hk3 x).1.length
structure HeadMax (x : THead) : Prop where
  a : (hk1 x).1.length ≤ 9223372036854775807
  b : (hk2 x).1.length ≤ 9223372036854775807
  c : (hk3 x).1.length ≤ 9223372036854775807
theorem szHead_v (x0 : THead) (L : Int) (hx : HeadMax x0) (h0 : 0 ≤ L) (h1 : L ≤ 1048576) : laws_szHead x0 L = some (if (sizeHead x0 : Int) ≤ L then L - sizeHead x0 else -1) := by
  show ((laws_szKeys (hk1 x0) L).bind fun y1 => bif decide (y1 < (0 : Int)) then some (-1 : Int) else (laws_szKeys (hk2 x0) y1).bind fun y2 => bif decide (y2 < (0 : Int)) then some (-1 : Int) else (laws_szKeys (hk3 x0) y2).bind fun y3 => bif decide (y3 < (0 : Int)) then some (-1 : Int) else some y3) = _
  unfold sizeHead
  rw [szKeys_v _ _ hx.a h0 h1, bind_s]
  by_cases g1 : ((hk1 x0).1.length : Int) ≤ L
  · rw [if_pos g1, decide_eq_false (by omega), cond_f, szKeys_v _ _ hx.b (by omega) (by omega), bind_s]
    by_cases g2 : ((hk2 x0).1.length : Int) ≤ L - (hk1 x0).1.length
    · rw [if_pos g2, decide_eq_false (by omega), cond_f, szKeys_v _ _ hx.c (by omega) (by omega), bind_s]
      by_cases g3 : ((hk3 x0).1.length : Int) ≤ L - (hk1 x0).1.length - (hk2 x0).1.length
      · rw [if_pos g3, decide_eq_false (by omega), cond_f, if_pos (by omega)]
        congr 1; omega
      · rw [if_neg g3, decide_eq_true (by omega), cond_t, if_neg (by omega)]
    · rw [if_neg g2, decide_eq_true (by omega), cond_t, if_neg (by omega)]
  · rw [if_neg g1, decide_eq_true (by omega), cond_t, if_neg (by omega)]
theorem toHead_v (x0 : THead) (hx : sizeHead x0 ≤ 1048576) : laws_toHead x0 = some x0 := by
  unfold sizeHead at hx
  have e1 := toKeys_v (hk1 x0) (by omega)
  have e2 := toKeys_v (hk2 x0) (by omega)
  have e3 := toKeys_v (hk3 x0) (by omega)
  unfold hk1 at e1
  unfold hk2 at e2
  unfold hk3 at e3
  unfold laws_toHead
  rw [e1, bind_s, e2, bind_s, e3, bind_s]
theorem eqHead_v (a : THead) (hx : sizeHead a ≤ 1152921504606846976) : laws_eqHead a a = some true := by
  unfold sizeHead at hx
  have e1 := eqKeys_v (hk1 a) (by omega)
  have e2 := eqKeys_v (hk2 a) (by omega)
  have e3 := eqKeys_v (hk3 a) (by omega)
  unfold hk1 at e1
  unfold hk2 at e2
  unfold hk3 at e3
  unfold laws_eqHead
  simp only [bne_self, cond_f, e1, e2, e3, bind_s, Bool.not_true, beq_self_eq_true]
theorem szSigS_v (x0 : List TSig) (L : Int) (hx : x0.length ≤ 9223372036854775807) (h0 : 0 ≤ L) (h1 : L ≤ 1048576) : laws_szSigS x0 L = some (if (x0.length : Int) ≤ L then L - x0.length else -1) := by
  unfold laws_szSigS
  rw [w64 (by omega) (by omega)]
  by_cases h : (x0.length : Int) ≤ L
  · rw [if_pos h, decide_eq_false (by omega), cond_f]
  · rw [if_neg h, decide_eq_true (by omega), cond_t]
theorem toSigS_l (x0 : List TSig) (hx : x0.length ≤ 1048576) : ∀ i n, i ≤ x0.length → x0.length - i < n → ∀ ys, ys = x0.take i ++ List.replicate (x0.length - i) dSig → laws_toSigS.l6 x0 n (i : Int) ys = some x0 := by
  refine idx_ind ?_ ?_
  · intro n ys hy
    subst hy
    rw [laws_toSigS.u6]
    simp only [laws_toSigS.g6, lt_f (Nat.le_refl _), cond_f]
    simp
  · intro i n hi ih ys hy
    have hyl : i < ys.length := by subst hy; simp; omega
    rw [laws_toSigS.u6]
    simp only [laws_toSigS.g6, lt_t hi, lt_t hyl, ge_t, cond_t, laws_toSig, bind_s, w64_succ (i := i) (by omega), Int.toNat_natCast, at_n hi]
    exact ih _ (fill_set hy hi)
theorem toSigS_v (x0 : List TSig) (hx : x0.length ≤ 1048576) : laws_toSigS x0 = some x0 := by
  unfold laws_toSigS
  simp only [laws_toSigS.b, beq_self_eq_true, cond_t, ge_t, Int.toNat_natCast]
  rw [decide_eq_true (by omega), cond_t]
  have := toSigS_l x0 hx 0 KK (Nat.zero_le _) (KK_gt (by omega)) _ rfl
  simpa using this
theorem eqSig_v (a : TSig) : laws_eqSig a a = some true := by
  unfold laws_eqSig
  simp only [bne_self, cond_f]
theorem eqSigS_l (x0 : List TSig) (hx : x0.length ≤ 1152921504606846976) : ∀ i n, i ≤ x0.length → x0.length - i < n → laws_eqSigS.l8 x0 x0 n (i : Int) = some true := by
  refine idx_ind ?_ ?_
  · intro n
    rw [laws_eqSigS.u8]
    simp only [laws_eqSigS.g8, lt_f (Nat.le_refl _), cond_f]
  · intro i n hi ih
    rw [laws_eqSigS.u8]
    simp only [laws_eqSigS.g8, lt_t hi, ge_t, cond_t, bind_s, w64_succ (i := i) (by omega), eqSig_v, Bool.not_true, cond_f]
    exact ih
theorem eqSigS_v (x0 : List TSig) (hx : x0.length ≤ 1152921504606846976) : laws_eqSigS x0 x0 = some true := by
  unfold laws_eqSigS
  simp only [laws_eqSigS.b, len_eq (rfl : x0.length = x0.length), cond_f]
  have := eqSigS_l x0 hx 0 KK (Nat.zero_le _) (KK_gt (by omega))
  simpa using this
def sdh (x : TSigned) : THead := (x.1, x.2.1, x.2.2.1, x.2.2.2.1, x.2.2.2.2.1, x.2.2.2.2.2.1, x.2.2.2.2.2.2.1, x.2.2.2.2.2.2.2.1, x.2.2.2.2.2.2.2.2.1, x.2.2.2.2.2.2.2.2.2.1, x.2.2.2.2.2.2.2.2.2.2.1, x.2.2.2.2.2.2.2.2.2.2.2.1, x.2.2.2.2.2.2.2.2.2.2.2.2.1, x.2.2.2.2.2.2.2.2.2.2.2.2.2.1, x.2.2.2.2.2.2.2.2.2.2.2.2.2.2.1, x.2.2.2.2.2.2.2.2.2.2.2.2.2.2.2.1)
def sds (x : TSigned) : List TSig := x.2.2.2.2.2.2.2.2.2.2.2.2.2.2.2.2
def sizeSigned (x : TSigned) : Nat := sizeHead (sdh x) + (sds x).length
structure SignedMax (x : TSigned) : Prop where
  h : HeadMax (sdh x)
  s : (sds x).length ≤ 9223372036854775807
theorem szSigned_v (x0 : TSigned) (L : Int) (hx : SignedMax x0) (h0 : 0 ≤ L) (h1 : L ≤ 1048576) : laws_szSigned x0 L = some (if (sizeSigned x0 : Int) ≤ L then L - sizeSigned x0 else -1) := by
  show ((laws_szHead (sdh x0) L).bind fun y1 => bif decide (y1 < (0 : Int)) then some (-1 : Int) else (laws_szSigS (sds x0) y1).bind fun y2 => bif decide (y2 < (0 : Int)) then some (-1 : Int) else some y2) = _
  unfold sizeSigned
  rw [szHead_v _ _ hx.h h0 h1, bind_s]
  by_cases g1 : (sizeHead (sdh x0) : Int) ≤ L
  · rw [if_pos g1, decide_eq_false (by omega), cond_f, szSigS_v _ _ hx.s (by omega) (by omega), bind_s]
    by_cases g2 : ((sds x0).length : Int) ≤ L - sizeHead (sdh x0)
    · rw [if_pos g2, decide_eq_false (by omega), cond_f, if_pos (by omega)]
      congr 1; omega
    · rw [if_neg g2, decide_eq_true (by omega), cond_t, if_neg (by omega)]
  · rw [if_neg g1, decide_eq_true (by omega), cond_t, if_neg (by omega)]
theorem toSigned_v (x0 : TSigned) (hx : sizeSigned x0 ≤ 1048576) : laws_toSigned x0 = some x0 := by
  unfold sizeSigned at hx
  have e1 := toHead_v (sdh x0) (by omega)
  have e2 := toSigS_v (sds x0) (by omega)
  unfold sdh at e1
  unfold sds at e2
  unfold laws_toSigned
  rw [e1, bind_s, e2, bind_s]
theorem eqSigned_v (a : TSigned) (hx : sizeSigned a ≤ 1152921504606846976) : laws_eqSigned a a = some true := by
  unfold sizeSigned at hx
  have e1 := eqHead_v (sdh a) (by omega)
  have e2 := eqSigS_v (sds a) (by omega)
  unfold sdh at e1
  unfold sds at e2
  unfold laws_eqSigned
  simp only [e1, e2, bind_s, Bool.not_true, cond_f]
def fk1 (x : TFork) : TSigned := (x.1, x.2.1, x.2.2.1, x.2.2.2.1, x.2.2.2.2.1, x.2.2.2.2.2.1, x.2.2.2.2.2.2.1, x.2.2.2.2.2.2.2.1, x.2.2.2.2.2.2.2.2.1, x.2.2.2.2.2.2.2.2.2.1, x.2.2.2.2.2.2.2.2.2.2.1, x.2.2.2.2.2.2.2.2.2.2.2.1, x.2.2.2.2.2.2.2.2.2.2.2.2.1, x.2.2.2.2.2.2.2.2.2.2.2.2.2.1, x.2.2.2.2.2.2.2.2.2.2.2.2.2.2.1, x.2.2.2.2.2.2.2.2.2.2.2.2.2.2.2.1, x.2.2.2.2.2.2.2.2.2.2.2.2.2.2.2.2.1)
def fk2 (x : TFork) : TSigned := (x.2.2.2.2.2.2.2.2.2.2.2.2.2.2.2.2.2.1, x.2.2.2.2.2.2.2.2.2.2.2.2.2.2.2.2.2.2.1, x.2.2.2.2.2.2.2.2.2.2.2.2.2.2.2.2.2.2.2.1, x.2.2.2.2.2.2.2.2.2.2.2.2.2.2.2.2.2.2.2.2.1, x.2.2.2.2.2.2.2.2.2.2.2.2.2.2.2.2.2.2.2.2.2.1, x.2.2.2.2.2.2.2.2.2.2.2.2.2.2.2.2.2.2.2.2.2.2.1, x.2.2.2.2.2.2.2.2.2.2.2.2.2.2.2.2.2.2.2.2.2.2.2.1, x.2.2.2.2.2.2.2.2.2.2.2.2.2.2.2.2.2.2.2.2.2.2.2.2.1, x.2.2.2.2.2.2.2.2.2.2.2.2.2.2.2.2.2.2.2.2.2.2.2.2.2.1, x.2.2.2.2.2.2.2.2.2.2.2.2.2.2.2.2.2.2.2.2.2.2.2.2.2.2.1, x.2.2.2.2.2.2.2.2.2.2.2.2.2.2.2.2.2.2.2.2.2.2.2.2.2.2.2.1, x.2.2.2.2.2.2.2.2.2.2.2.2.2.2.2.2.2.2.2.2.2.2.2.2.2.2.2.2.1, x.2.2.2.2.2.2.2.2.2.2.2.2.2.2.2.2.2.2.2.2.2.2.2.2.2.2.2.2.2.1, x.2.2.2.2.2.2.2.2.2.2.2.2.2.2.2.2.2.2.2.2.2.2.2.2.2.2.2.2.2.2.1, x.2.2.2.2.2.2.2.2.2.2.2.2.2.2.2.2.2.2.2.2.2.2.2.2.2.2.2.2.2.2.2.1, x.2.2.2.2.2.2.2.2.2.2.2.2.2.2.2.2.2.2.2.2.2.2.2.2.2.2.2.2.2.2.2.2.1, x.2.2.2.2.2.2.2.2.2.2.2.2.2.2.2.2.2.2.2.2.2.2.2.2.2.2.2.2.2.2.2.2.2.1)
def fk3 (x : TFork) : TSigned := x.2.2.2.2.2.2.2.2.2.2.2.2.2.2.2.2.2.2.2.2.2.2.2.2.2.2.2.2.2.2.2.2.2.2
def sizeFork (x : TFork) : Nat := sizeSigned (fk1 x) + sizeSigned (fk2 x) + sizeSigned (fk3 x)
structure ForkMax (x : TFork) : Prop where
  a : SignedMax (fk1 x)
  b : SignedMax (fk2 x)
  c : SignedMax (fk3 x)
theorem szFork_v (x0 : TFork) (L : Int) (hx : ForkMax x0) (h0 : 0 ≤ L) (h1 : L ≤ 1048576) : laws_szFork x0 L = some (if (sizeFork x0 : Int) ≤ L then L - sizeFork x0 else -1) := by
  show ((laws_szSigned (fk1 x0) L).bind fun y1 => bif decide (y1 < (0 : Int)) then some (-1 : Int) else (laws_szSigned (fk2 x0) y1).bind fun y2 => bif decide (y2 < (0 : Int)) then some (-1 : Int) else (laws_szSigned (fk3 x0) y2).bind fun y3 => bif decide (y3 < (0 : Int)) then some (-1 : Int) else some y3) = _
  unfold sizeFork
  rw [szSigned_v _ _ hx.a h0 h1, bind_s]
  by_cases g1 : (sizeSigned (fk1 x0) : Int) ≤ L
  · rw [if_pos g1, decide_eq_false (by omega), cond_f, szSigned_v _ _ hx.b (by omega) (by omega), bind_s]
    by_cases g2 : (sizeSigned (fk2 x0) : Int) ≤ L - sizeSigned (fk1 x0)
    · rw [if_pos g2, decide_eq_false (by omega), cond_f, szSigned_v _ _ hx.c (by omega) (by omega), bind_s]
      by_cases g3 : (sizeSigned (fk3 x0) : Int) ≤ L - sizeSigned (fk1 x0) - sizeSigned (fk2 x0)
      · rw [if_pos g3, decide_eq_false (by omega), cond_f, if_pos (by omega)]
        congr 1; omega
      · rw [if_neg g3, decide_eq_true (by omega), cond_t, if_neg (by omega)]
    · rw [if_neg g2, decide_eq_true (by omega), cond_t, if_neg (by omega)]
  · rw [if_neg g1, decide_eq_true (by omega), cond_t, if_neg (by omega)]
theorem toFork_v (x0 : TFork) (hx : sizeFork x0 ≤ 1048576) : laws_toFork x0 = some x0 := by
  unfold sizeFork at hx
  have e1 := toSigned_v (fk1 x0) (by omega)
  have e2 := toSigned_v (fk2 x0) (by omega)
  have e3 := toSigned_v (fk3 x0) (by omega)
  unfold fk1 at e1
  unfold fk2 at e2
  unfold fk3 at e3
  unfold laws_toFork
  rw [e1, bind_s, e2, bind_s, e3, bind_s]
theorem eqFork_v (a : TFork) (hx : sizeFork a ≤ 1152921504606846976) : laws_eqFork a a = some true := by
  unfold sizeFork at hx
  have e1 := eqSigned_v (fk1 a) (by omega)
  have e2 := eqSigned_v (fk2 a) (by omega)
  have e3 := eqSigned_v (fk3 a) (by omega)
  unfold fk1 at e1
  unfold fk2 at e2
  unfold fk3 at e3
  unfold laws_eqFork
  simp only [e1, e2, e3, bind_s, Bool.not_true, cond_f]
def sizeS {α : Type} (size : α → Nat) (xs : List α) : Nat := xs.length + (xs.map size).sum
structure MaxS {α : Type} (M : α → Prop) (xs : List α) : Prop where
  len : xs.length ≤ 9223372036854775807
  each : ∀ i (h : i < xs.length), M xs[i]
theorem sum_step {α : Type} (size : α → Nat) {xs : List α} {i : Nat} (h : i < xs.length) : ((xs.drop i).map size).sum = size xs[i] + ((xs.drop (i + 1)).map size).sum := by
  rw [List.drop_eq_getElem_cons h, List.map_cons, List.sum_cons]
theorem sum_last {α : Type} (size : α → Nat) (xs : List α) : ((xs.drop xs.length).map size).sum = 0 := by
  rw [List.drop_length]; rfl
theorem size_at {α : Type} (size : α → Nat) {xs : List α} {i : Nat} (h : i < xs.length) : size xs[i] ≤ (xs.map size).sum := by
  induction xs generalizing i with
  | nil => simp at h
  | cons x t ih =>
    rw [List.map_cons, List.sum_cons]
    cases i with
    | zero => show size x ≤ _; omega
    | succ i =>
      have hi : i < t.length := by simpa using h
      have := ih hi
      show size t[i] ≤ _
      omega
theorem szList_l {α : Type} (xs : List α) (d : α) (size : α → Nat) (f : α → Int → Option Int) (hl : xs.length ≤ 1048576) (hf : ∀ i (h : i < xs.length) (L : Int), 0 ≤ L → L ≤ 1048576 → f xs[i] L = some (if (size xs[i] : Int) ≤ L then L - size xs[i] else -1)) (l : Nat → Int → Int → Option Int) (u : ∀ n a b, l (n + 1) a b = (bif decide (b < (xs.length : Int)) then bif decide (0 ≤ b) then bif decide (b < (xs.length : Int)) then (f (xs.getD b.toNat d) a).bind fun y1 => bif decide (y1 < (0 : Int)) then some (-1 : Int) else l n y1 (IntKind.i64.wrap (b + (1 : Int))) else none else none else some a)) : ∀ i n, i ≤ xs.length → xs.length - i < n → ∀ L : Int, 0 ≤ L → L ≤ 1048576 → l n L (i : Int) = some (if (((xs.drop i).map size).sum : Int) ≤ L then L - ((xs.drop i).map size).sum else -1) := by
  refine idx_ind ?_ ?_
  · intro n L h0 h1
    rw [u]
    simp only [lt_f (Nat.le_refl _), cond_f, sum_last]
    rw [if_pos (by omega)]
    congr 1; omega
  · intro i n hi ih L h0 h1
    rw [u]
    simp only [lt_t hi, ge_t, cond_t, Int.toNat_natCast, at_n hi, hf i hi L h0 h1, bind_s, w64_succ (i := i) (by omega)]
    rw [sum_step _ hi]
    by_cases g : (size xs[i] : Int) ≤ L
    · rw [if_pos g, decide_eq_false (by omega), cond_f, ih _ (by omega) (by omega)]
      by_cases k : ((((xs.drop (i + 1)).map size).sum : Nat) : Int) ≤ L - size xs[i]
      · rw [if_pos k, if_pos (by omega)]; congr 1; omega
      · rw [if_neg k, if_neg (by omega)]
    · rw [if_neg g, decide_eq_true (by omega), cond_t, if_neg (by omega)]
theorem szList_v {α : Type} (xs : List α) (d : α) (size : α → Nat) (f : α → Int → Option Int) (L : Int) (hm : xs.length ≤ 9223372036854775807) (h0 : 0 ≤ L) (h1 : L ≤ 1048576) (hf : ∀ i (h : i < xs.length) (L : Int), 0 ≤ L → L ≤ 1048576 → f xs[i] L = some (if (size xs[i] : Int) ≤ L then L - size xs[i] else -1)) (l : Nat → Int → Int → Option Int) (u : ∀ n a b, l (n + 1) a b = (bif decide (b < (xs.length : Int)) then bif decide (0 ≤ b) then bif decide (b < (xs.length : Int)) then (f (xs.getD b.toNat d) a).bind fun y1 => bif decide (y1 < (0 : Int)) then some (-1 : Int) else l n y1 (IntKind.i64.wrap (b + (1 : Int))) else none else none else some a)) : (bif decide ((IntKind.i64.wrap (L - (xs.length : Int))) < (0 : Int)) then some (-1 : Int) else l KK (IntKind.i64.wrap (L - (xs.length : Int))) (0 : Int)) = some (if (sizeS size xs : Int) ≤ L then L - sizeS size xs else -1) := by
  unfold sizeS
  rw [w64 (by omega) (by omega)]
  by_cases g : (xs.length : Int) ≤ L
  · have hh := szList_l xs d size f (by omega) hf l u 0 KK (Nat.zero_le _) (KK_gt (by omega)) (L - xs.length) (by omega) (by omega)
    rw [List.drop_zero] at hh
    rw [decide_eq_false (by omega), cond_f]
    refine Eq.trans hh ?_
    by_cases k : (((xs.map size).sum : Nat) : Int) ≤ L - xs.length
    · rw [if_pos k, if_pos (by omega)]; congr 1; omega
    · rw [if_neg k, if_neg (by omega)]
  · rw [decide_eq_true (by omega), cond_t, if_neg (by omega)]
theorem toList_v {α : Type} (xs : List α) (d : α) (f : α → Option α) (hl : xs.length ≤ 1048576) (hf : ∀ i (h : i < xs.length), f xs[i] = some xs[i]) (l : Nat → Int → List α → Option (List α)) (u : ∀ n a ys, l (n + 1) a ys = (bif decide (a < (xs.length : Int)) then bif decide (0 ≤ a) then bif decide (a < (xs.length : Int)) then (f (xs.getD a.toNat d)).bind fun y1 => bif decide (0 ≤ a) then bif decide (a < (ys.length : Int)) then l n (IntKind.i64.wrap (a + (1 : Int))) (ys.set a.toNat y1) else none else none else none else none else some ys)) : (bif ((xs.length : Int) == (xs.length : Int)) then bif decide (0 ≤ (xs.length : Int)) then bif decide ((xs.length : Int) < (68719476736 : Int)) then l KK (0 : Int) (List.replicate ((xs.length : Int).toNat) d) else none else none else none) = some xs := by
  have hh : ∀ i n, i ≤ xs.length → xs.length - i < n → ∀ ys, ys = xs.take i ++ List.replicate (xs.length - i) d → l n (i : Int) ys = some xs := by
    refine idx_ind ?_ ?_
    · intro n ys hy
      subst hy
      rw [u]
      simp only [lt_f (Nat.le_refl _), cond_f]
      simp
    · intro i n hi ih ys hy
      have hyl : i < ys.length := by subst hy; simp; omega
      rw [u]
      simp only [lt_t hi, lt_t hyl, ge_t, cond_t, Int.toNat_natCast, at_n hi, hf i hi, bind_s, w64_succ (i := i) (by omega)]
      exact ih _ (fill_set hy hi)
  rw [beq_self_eq_true, cond_t, ge_t, cond_t, decide_eq_true (by omega), cond_t, Int.toNat_natCast]
  have := hh 0 KK (Nat.zero_le _) (KK_gt (by omega)) _ rfl
  simpa using this
theorem eqList_v {α : Type} (xs : List α) (d : α) (f : α → α → Option Bool) (hl : xs.length ≤ 1152921504606846976) (hf : ∀ i (h : i < xs.length), f xs[i] xs[i] = some true) (l : Nat → Int → Option Bool) (u : ∀ n a, l (n + 1) a = (bif decide (a < (xs.length : Int)) then bif decide (0 ≤ a) then bif decide (a < (xs.length : Int)) then bif decide (0 ≤ a) then bif decide (a < (xs.length : Int)) then (f (xs.getD a.toNat d) (xs.getD a.toNat d)).bind fun y1 => bif !y1 then some false else l n (IntKind.i64.wrap (a + (1 : Int))) else none else none else none else none else some true)) : (bif (xs.length : Int) != (xs.length : Int) then some false else l KK (0 : Int)) = some true := by
  have hh : ∀ i n, i ≤ xs.length → xs.length - i < n → l n (i : Int) = some true := by
    refine idx_ind ?_ ?_
    · intro n
      rw [u]
      simp only [lt_f (Nat.le_refl _), cond_f]
    · intro i n hi ih
      rw [u]
      simp only [lt_t hi, ge_t, cond_t, Int.toNat_natCast, at_n hi, hf i hi, bind_s, w64_succ (i := i) (by omega), Bool.not_true, cond_f]
      exact ih
  rw [bne_self, cond_f]
  exact hh 0 KK (Nat.zero_le _) (KK_gt (by omega))
def sizeSignedS (xs : List TSigned) : Nat := sizeS sizeSigned xs
def SignedSMax (xs : List TSigned) : Prop := MaxS SignedMax xs
theorem szSignedS_v (x0 : List TSigned) (L : Int) (hx : SignedSMax x0) (h0 : 0 ≤ L) (h1 : L ≤ 1048576) : laws_szSignedS x0 L = some (if (sizeSignedS x0 : Int) ≤ L then L - sizeSignedS x0 else -1) :=
  szList_v x0 dSigned sizeSigned laws_szSigned L hx.len h0 h1 (fun i h L h0 h1 => szSigned_v _ _ (hx.each i h) h0 h1) (laws_szSignedS.l10 x0) (fun n a b => laws_szSignedS.u10 x0 n a b)
theorem toSignedS_v (x0 : List TSigned) (hx : sizeSignedS x0 ≤ 1048576) : laws_toSignedS x0 = some x0 :=
  toList_v x0 dSigned laws_toSigned (by unfold sizeSignedS sizeS at hx; omega) (fun i h => toSigned_v _ (by have := size_at sizeSigned h; unfold sizeSignedS sizeS at hx; omega)) (laws_toSignedS.l6 x0) (fun n a b => laws_toSignedS.u6 x0 n a b)
theorem eqSignedS_v (x0 : List TSigned) (hx : sizeSignedS x0 ≤ 1152921504606846976) : laws_eqSignedS x0 x0 = some true :=
  eqList_v x0 dSigned laws_eqSigned (by unfold sizeSignedS sizeS at hx; omega) (fun i h => eqSigned_v _ (by have := size_at sizeSigned h; unfold sizeSignedS sizeS at hx; omega)) (laws_eqSignedS.l8 x0 x0) (fun n a => laws_eqSignedS.u8 x0 x0 n a)
def sizeSignedSS (xs : List (List TSigned)) : Nat := sizeS sizeSignedS xs
def SignedSSMax (xs : List (List TSigned)) : Prop := MaxS SignedSMax xs
theorem szSignedSS_v (x0 : List (List TSigned)) (L : Int) (hx : SignedSSMax x0) (h0 : 0 ≤ L) (h1 : L ≤ 1048576) : laws_szSignedSS x0 L = some (if (sizeSignedSS x0 : Int) ≤ L then L - sizeSignedSS x0 else -1) :=
  szList_v x0 ([] : List TSigned) sizeSignedS laws_szSignedS L hx.len h0 h1 (fun i h L h0 h1 => szSignedS_v _ _ (hx.each i h) h0 h1) (laws_szSignedSS.l10 x0) (fun n a b => laws_szSignedSS.u10 x0 n a b)
theorem toSignedSS_v (x0 : List (List TSigned)) (hx : sizeSignedSS x0 ≤ 1048576) : laws_toSignedSS x0 = some x0 :=
  toList_v x0 ([] : List TSigned) laws_toSignedS (by unfold sizeSignedSS sizeS at hx; omega) (fun i h => toSignedS_v _ (by have := size_at sizeSignedS h; unfold sizeSignedSS sizeS at hx; omega)) (laws_toSignedSS.l6 x0) (fun n a b => laws_toSignedSS.u6 x0 n a b)
theorem eqSignedSS_v (x0 : List (List TSigned)) (hx : sizeSignedSS x0 ≤ 1152921504606846976) : laws_eqSignedSS x0 x0 = some true :=
  eqList_v x0 ([] : List TSigned) laws_eqSignedS (by unfold sizeSignedSS sizeS at hx; omega) (fun i h => eqSignedS_v _ (by have := size_at sizeSignedS h; unfold sizeSignedSS sizeS at hx; omega)) (laws_eqSignedSS.l8 x0 x0) (fun n a => laws_eqSignedSS.u8 x0 x0 n a)
def sizeForkS (xs : List TFork) : Nat := sizeS sizeFork xs
def ForkSMax (xs : List TFork) : Prop := MaxS ForkMax xs
theorem szForkS_v (x0 : List TFork) (L : Int) (hx : ForkSMax x0) (h0 : 0 ≤ L) (h1 : L ≤ 1048576) : laws_szForkS x0 L = some (if (sizeForkS x0 : Int) ≤ L then L - sizeForkS x0 else -1) :=
  szList_v x0 dFork sizeFork laws_szFork L hx.len h0 h1 (fun i h L h0 h1 => szFork_v _ _ (hx.each i h) h0 h1) (laws_szForkS.l10 x0) (fun n a b => laws_szForkS.u10 x0 n a b)
theorem toForkS_v (x0 : List TFork) (hx : sizeForkS x0 ≤ 1048576) : laws_toForkS x0 = some x0 :=
  toList_v x0 dFork laws_toFork (by unfold sizeForkS sizeS at hx; omega) (fun i h => toFork_v _ (by have := size_at sizeFork h; unfold sizeForkS sizeS at hx; omega)) (laws_toForkS.l6 x0) (fun n a b => laws_toForkS.u6 x0 n a b)
theorem eqForkS_v (x0 : List TFork) (hx : sizeForkS x0 ≤ 1152921504606846976) : laws_eqForkS x0 x0 = some true :=
  eqList_v x0 dFork laws_eqFork (by unfold sizeForkS sizeS at hx; omega) (fun i h => eqFork_v _ (by have := size_at sizeFork h; unfold sizeForkS sizeS at hx; omega)) (laws_eqForkS.l8 x0 x0) (fun n a => laws_eqForkS.u8 x0 x0 n a)
def sizeKnown (x : TKnown) : Nat := sizeSignedSS x.1 + sizeForkS x.2
structure KnownMax (x : TKnown) : Prop where
  a : SignedSSMax x.1
  b : ForkSMax x.2
theorem szKnown_v (x0 : TKnown) (L : Int) (hx : KnownMax x0) (h0 : 0 ≤ L) (h1 : L ≤ 1048576) : laws_szKnown x0 L = some (if (sizeKnown x0 : Int) ≤ L then L - sizeKnown x0 else -1) := by
  unfold laws_szKnown sizeKnown
  rw [szSignedSS_v _ _ hx.a h0 h1, bind_s]
  by_cases g1 : (sizeSignedSS x0.1 : Int) ≤ L
  · rw [if_pos g1, decide_eq_false (by omega), cond_f, szForkS_v _ _ hx.b (by omega) (by omega), bind_s]
    by_cases g2 : (sizeForkS x0.2 : Int) ≤ L - sizeSignedSS x0.1
    · rw [if_pos g2, decide_eq_false (by omega), cond_f, if_pos (by omega)]
      congr 1; omega
    · rw [if_neg g2, decide_eq_true (by omega), cond_t, if_neg (by omega)]
  · rw [if_neg g1, decide_eq_true (by omega), cond_t, if_neg (by omega)]
theorem toKnown_v (x0 : TKnown) (hx : sizeKnown x0 ≤ 1048576) : laws_toKnown x0 = some x0 := by
  unfold sizeKnown at hx
  unfold laws_toKnown
  rw [toSignedSS_v _ (by omega), bind_s, toForkS_v _ (by omega), bind_s]
theorem eqKnown_v (a : TKnown) (hx : sizeKnown a ≤ 1152921504606846976) : laws_eqKnown a a = some true := by
  unfold sizeKnown at hx
  unfold laws_eqKnown
  rw [eqSignedSS_v _ (by omega), bind_s, Bool.not_true, cond_f, eqForkS_v _ (by omega), bind_s, Bool.not_true, cond_f]
def sizeStr (x : ByteArray) : Nat := x.size
def StrMax (x : ByteArray) : Prop := x.size ≤ 9223372036854775807
def sizeStringS (xs : List ByteArray) : Nat := sizeS sizeStr xs
def StringSMax (xs : List ByteArray) : Prop := MaxS StrMax xs
theorem szStr_v (x : ByteArray) (L : Int) (hx : StrMax x) (h0 : 0 ≤ L) (h1 : L ≤ 1048576) : (bif decide ((IntKind.i64.wrap (L - (x.size : Int))) < (0 : Int)) then some (-1 : Int) else some (IntKind.i64.wrap (L - (x.size : Int)))) = some (if (sizeStr x : Int) ≤ L then L - sizeStr x else -1) := by
  unfold StrMax at hx
  unfold sizeStr
  rw [w64 (by omega) (by omega)]
  by_cases h : (x.size : Int) ≤ L
  · rw [if_pos h, decide_eq_false (by omega), cond_f]
  · rw [if_neg h, decide_eq_true (by omega), cond_t]
theorem str_bif (c : Bool) (a b : Int) (g : Int → Option Int) (hc : c = decide (b < 0)) : (bif c then some (-1 : Int) else g b) = ((bif c then some (-1 : Int) else some b) : Option Int).bind fun y1 => bif decide (y1 < (0 : Int)) then some (-1 : Int) else g y1 := by
  subst hc
  by_cases h : b < 0
  · rw [decide_eq_true h, cond_t, cond_t, bind_s]; rfl
  · rw [decide_eq_false h, cond_f, cond_f, bind_s, decide_eq_false h, cond_f]
theorem szStringS_v (x0 : List ByteArray) (L : Int) (hx : StringSMax x0) (h0 : 0 ≤ L) (h1 : L ≤ 1048576) : laws_szStringS x0 L = some (if (sizeStringS x0 : Int) ≤ L then L - sizeStringS x0 else -1) := by
  refine szList_v x0 (⟨#[]⟩ : ByteArray) sizeStr (fun s L => bif decide ((IntKind.i64.wrap (L - (s.size : Int))) < (0 : Int)) then some (-1 : Int) else some (IntKind.i64.wrap (L - (s.size : Int)))) L hx.len h0 h1 (fun i h L h0 h1 => szStr_v _ _ (hx.each i h) h0 h1) (laws_szStringS.l10 x0) (fun n a b => ?_)
  rw [laws_szStringS.u10]
  simp only [laws_szStringS.g10]
  rw [str_bif _ a _ (fun y => laws_szStringS.l10 x0 n y (IntKind.i64.wrap (b + (1 : Int)))) rfl]
theorem toStringS_v (x0 : List ByteArray) (hx : sizeStringS x0 ≤ 1048576) : laws_toStringS x0 = some x0 :=
  toList_v x0 (⟨#[]⟩ : ByteArray) (fun s => some s) (by unfold sizeStringS sizeS at hx; omega) (fun i h => rfl) (laws_toStringS.l6 x0) (fun n a b => laws_toStringS.u6 x0 n a b)
theorem eqStringS_v (x0 : List ByteArray) (hx : sizeStringS x0 ≤ 1152921504606846976) : laws_eqStringS x0 x0 = some true := by
  refine eqList_v x0 (⟨#[]⟩ : ByteArray) (fun s t => some (s.toList == t.toList)) (by unfold sizeStringS sizeS at hx; omega) (fun i h => by rw [beq_self_eq_true]) (laws_eqStringS.l8 x0 x0) (fun n a => ?_)
  rw [laws_eqStringS.u8]
  simp only [laws_eqStringS.g8, bind_s]
def sizeEntry (x : TEntry) : Nat := sizeStr x.1 + sizeStringS x.2.2.2
structure EntryMax (x : TEntry) : Prop where
  a : StrMax x.1
  b : StringSMax x.2.2.2
theorem szEntry_v (x0 : TEntry) (L : Int) (hx : EntryMax x0) (h0 : 0 ≤ L) (h1 : L ≤ 1048576) : laws_szEntry x0 L = some (if (sizeEntry x0 : Int) ≤ L then L - sizeEntry x0 else -1) := by
  unfold laws_szEntry
  have hs := hx.a
  unfold StrMax at hs
  unfold sizeEntry sizeStr
  rw [w64 (by omega) (by omega)]
  by_cases g1 : (x0.1.size : Int) ≤ L
  · rw [decide_eq_false (by omega), cond_f, szStringS_v _ _ hx.b (by omega) (by omega), bind_s]
    by_cases g2 : (sizeStringS x0.2.2.2 : Int) ≤ L - x0.1.size
    · rw [if_pos g2, decide_eq_false (by omega), cond_f, if_pos (by omega)]
      congr 1; omega
    · rw [if_neg g2, decide_eq_true (by omega), cond_t, if_neg (by omega)]
  · rw [decide_eq_true (by omega), cond_t, if_neg (by omega)]
theorem toEntry_v (x0 : TEntry) (hx : sizeEntry x0 ≤ 1048576) : laws_toEntry x0 = some x0 := by
  unfold sizeEntry at hx
  unfold laws_toEntry
  rw [toStringS_v _ (by omega), bind_s]
theorem eqEntry_v (a : TEntry) (hx : sizeEntry a ≤ 1152921504606846976) : laws_eqEntry a a = some true := by
  unfold sizeEntry at hx
  unfold laws_eqEntry
  rw [beq_self_eq_true, Bool.not_true, cond_f, bne_self, cond_f, bne_self, cond_f, eqStringS_v _ (by omega), bind_s, Bool.not_true, cond_f]
def lkK (x : TLook) : TKnown := (x.1, x.2.1)
def lkE (x : TLook) : TEntry := (x.2.2.2.1, x.2.2.2.2.1, x.2.2.2.2.2.1, x.2.2.2.2.2.2.1)
def lkI (x : TLook) : List Int := x.2.2.2.2.2.2.2.2
def sizeLook (x : TLook) : Nat := sizeKnown (lkK x) + sizeEntry (lkE x) + (lkI x).length
structure LookMax (x : TLook) : Prop where
  a : KnownMax (lkK x)
  b : EntryMax (lkE x)
  c : (lkI x).length ≤ 9223372036854775807
theorem szLook_v (x0 : TLook) (L : Int) (hx : LookMax x0) (h0 : 0 ≤ L) (h1 : L ≤ 1048576) : laws_szLook x0 L = some (if (sizeLook x0 : Int) ≤ L then L - sizeLook x0 else -1) := by
  show ((laws_szKnown (lkK x0) L).bind fun y1 => bif decide (y1 < (0 : Int)) then some (-1 : Int) else (laws_szEntry (lkE x0) y1).bind fun y2 => bif decide (y2 < (0 : Int)) then some (-1 : Int) else (laws_szIntS (lkI x0) y2).bind fun y3 => bif decide (y3 < (0 : Int)) then some (-1 : Int) else some y3) = _
  unfold sizeLook
  rw [szKnown_v _ _ hx.a h0 h1, bind_s]
  by_cases g1 : (sizeKnown (lkK x0) : Int) ≤ L
  · rw [if_pos g1, decide_eq_false (by omega), cond_f, szEntry_v _ _ hx.b (by omega) (by omega), bind_s]
    by_cases g2 : (sizeEntry (lkE x0) : Int) ≤ L - sizeKnown (lkK x0)
    · rw [if_pos g2, decide_eq_false (by omega), cond_f, szIntS_v _ _ hx.c (by omega) (by omega), bind_s]
      by_cases g3 : ((lkI x0).length : Int) ≤ L - sizeKnown (lkK x0) - sizeEntry (lkE x0)
      · rw [if_pos g3, decide_eq_false (by omega), cond_f, if_pos (by omega)]
        congr 1; omega
      · rw [if_neg g3, decide_eq_true (by omega), cond_t, if_neg (by omega)]
    · rw [if_neg g2, decide_eq_true (by omega), cond_t, if_neg (by omega)]
  · rw [if_neg g1, decide_eq_true (by omega), cond_t, if_neg (by omega)]
theorem toLook_v (x0 : TLook) (hx : sizeLook x0 ≤ 1048576) : laws_toLook x0 = some x0 := by
  unfold sizeLook at hx
  have e1 := toKnown_v (lkK x0) (by omega)
  have e2 := toEntry_v (lkE x0) (by omega)
  have e3 := toIntS_v (lkI x0) (by omega)
  unfold lkK at e1
  unfold lkE at e2
  unfold lkI at e3
  unfold laws_toLook
  rw [e1, bind_s, e2, bind_s, e3, bind_s]
theorem eqLook_v (a : TLook) (hx : sizeLook a ≤ 1152921504606846976) : laws_eqLook a a = some true := by
  unfold sizeLook at hx
  have e1 := eqKnown_v (lkK a) (by omega)
  have e2 := eqEntry_v (lkE a) (by omega)
  have e3 := eqIntS_v (lkI a) (by omega)
  unfold lkK at e1
  unfold lkE at e2
  unfold lkI at e3
  unfold laws_eqLook
  simp only [e1, e2, e3, bind_s, Bool.not_true, cond_f, beq_self_eq_true]
def cnt (p : Int → Bool) : List Int → Int → Int
  | [], c => c
  | k :: ks, c => cnt p ks (bif p k then c + 1 else c)
theorem cnt_step (p : Int → Bool) {ks : List Int} {i : Nat} (h : i < ks.length) (c : Int) : cnt p (ks.drop i) c = cnt p (ks.drop (i + 1)) (bif p ks[i] then c + 1 else c) := by
  rw [List.drop_eq_getElem_cons h]; rfl
theorem cnt_last (p : Int → Bool) (ks : List Int) (c : Int) : cnt p (ks.drop ks.length) c = c := by
  rw [List.drop_length]; rfl
def mInts (n : Nat) (k : Int) : List Int := (List.range n).map (fun (j : Nat) => k + (j : Int))
def mh1 (x : THead) (k : Int) : List Int := mInts (hk1 x).1.length k
def mh2 (x : THead) (k : Int) : List Int := mInts (hk2 x).1.length (k + (hk1 x).1.length)
def mh3 (x : THead) (k : Int) : List Int := mInts (hk3 x).1.length (k + (hk1 x).1.length + (hk2 x).1.length)
def mSigs (n : Nat) (k : Int) : List TSig := (List.range n).map (fun (j : Nat) => (k + 2 * (j : Int), k + 2 * (j : Int) + 1))
def ms (x : TSigned) (k : Int) : List TSig := mSigs (sds x).length (k + sizeHead (sdh x))
def mkSigned (x : TSigned) (a b c : List Int) (d : List TSig) : TSigned := (x.1, x.2.1, x.2.2.1, x.2.2.2.1, x.2.2.2.2.1, x.2.2.2.2.2.1, x.2.2.2.2.2.2.1, x.2.2.2.2.2.2.2.1, a, x.2.2.2.2.2.2.2.2.2.1, b, x.2.2.2.2.2.2.2.2.2.2.2.1, x.2.2.2.2.2.2.2.2.2.2.2.2.1, c, x.2.2.2.2.2.2.2.2.2.2.2.2.2.2.1, x.2.2.2.2.2.2.2.2.2.2.2.2.2.2.2.1, d)
def ks (x : TSigned) (k : Int) : TSigned := mkSigned x (mh1 (sdh x) k) (mh2 (sdh x) k) (mh3 (sdh x) k) (ms x k)
theorem sCountCode_l (x0 : TLook) (k : Int) (hx : (lkI x0).length ≤ 1048576) : ∀ i n, i ≤ (lkI x0).length → (lkI x0).length - i < n → ∀ c : Int, 0 ≤ c → c ≤ i → spec_CountCode.l6 x0 k n c (i : Int) = some (cnt (fun a => a == k) ((lkI x0).drop i) c) := by
  unfold lkI at hx ⊢
  refine idx_ind ?_ ?_
  · intro n c h0 h1
    rw [spec_CountCode.u6]
    simp only [spec_CountCode.g6, lt_f (Nat.le_refl _), cond_f, cnt_last]
  · intro i n hi ih c h0 h1
    rw [spec_CountCode.u6]
    simp only [spec_CountCode.g6, lt_t hi, ge_t, cond_t, w64_succ (i := i) (by omega), Int.toNat_natCast, at_n hi, cnt_step _ hi, w64 (n := c + 1) (by omega) (by omega)]
    generalize (x0.2.2.2.2.2.2.2.2[i] == k) = b
    cases b with
    | true => rw [cond_t, cond_t]; exact ih _ (by omega) (by omega)
    | false => rw [cond_f, cond_f]; exact ih _ (by omega) (by omega)
theorem iCountCode_l (x0 : TLook) (k : Int) (hx : (lkI x0).length ≤ 1048576) : ∀ i n, i ≤ (lkI x0).length → (lkI x0).length - i < n → ∀ c : Int, 0 ≤ c → c ≤ i → impl_CountCode.l6 x0 k n c ((lkI x0).length : Int) (i : Int) = some (cnt (fun a => a == k) ((lkI x0).drop i) c) := by
  unfold lkI at hx ⊢
  refine idx_ind ?_ ?_
  · intro n c h0 h1
    rw [impl_CountCode.u6]
    simp only [impl_CountCode.g6, lt_f (Nat.le_refl _), cond_f, cnt_last]
  · intro i n hi ih c h0 h1
    rw [impl_CountCode.u6]
    simp only [impl_CountCode.g6, impl_bit, lt_t hi, ge_t, cond_t, w64_succ (i := i) (by omega), Int.toNat_natCast, at_n hi, cnt_step _ hi]
    generalize (x0.2.2.2.2.2.2.2.2[i] == k) = b
    cases b with
    | true => rw [cond_t, cond_t, bind_s, w64 (n := c + 1) (by omega) (by omega)]; exact ih _ (by omega) (by omega)
    | false => rw [cond_f, cond_f, bind_s, w64 (n := c + 0) (by omega) (by omega), Int.add_zero]; exact ih _ (by omega) (by omega)
theorem pure_FnExactCountCode (x0 : TLook) (x1 : Int) (h0 : LookMax x0) : laws_FnExactCountCode x0 x1 = some true := by
  unfold laws_FnExactCountCode
  rw [szLook_v _ _ h0 (by omega) (by omega), bind_s]
  by_cases g0 : (sizeLook x0 : Int) ≤ 1048576
  · have b0 : sizeLook x0 ≤ 1048576 := by omega
    have hl : (lkI x0).length ≤ 1048576 := by unfold sizeLook at b0; omega
    have e1 := sCountCode_l x0 x1 hl 0 KK (Nat.zero_le _) (KK_gt (by omega)) 0 (Int.le_refl 0) (by omega)
    have e2 := iCountCode_l x0 x1 hl 0 KK (Nat.zero_le _) (KK_gt (by omega)) 0 (Int.le_refl 0) (by omega)
    rw [List.drop_zero] at e1 e2
    have e1' : spec_CountCode x0 x1 = some (cnt (fun a => a == x1) (lkI x0) 0) := e1
    have e2' : impl_CountCode x0 x1 = some (cnt (fun a => a == x1) (lkI x0) 0) := e2
    rw [if_pos g0, decide_eq_false (by omega), cond_f]
    simp only [toLook_v _ b0, bind_s, e1', e2', bne_self, Bool.not_true, cond_f, eqLook_v x0 (by omega)]
  · rw [if_neg g0, decide_eq_true (by omega), cond_t]

end Go.Proofs.Ytmcdifdljjkkgaa
