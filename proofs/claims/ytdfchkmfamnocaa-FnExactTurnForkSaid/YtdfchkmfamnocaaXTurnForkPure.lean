/- The plain law of FnExactTurnFork: what the printed functions compute is true, for all data in range. -/
import Derived.Test.YtdfchkmfamnocaaXTurnForkPure0
namespace Go.Proofs.Ytdfchkmfamnocaa
open V
set_option linter.unusedVariables false
set_option linter.unusedSimpArgs false
theorem szIntS_v (x0 : List Int) (L : Int) (hx : x0.length ≤ 9223372036854775807) (h0 : 0 ≤ L) (h1 : L ≤ 1048576) : laws_szIntS x0 L = some (if (x0.length : Int) ≤ L then L - x0.length else -1) := by
  unfold laws_szIntS
  rw [w64 (by omega) (by omega)]
  by_cases h : (x0.length : Int) ≤ L
  · rw [if_pos h, decide_eq_false (by omega), cond_f]
  · rw [if_neg h, decide_eq_true (by omega), cond_t]
theorem toIntS_l (x0 : List Int) (hx : x0.length ≤ 1048576) : ∀ i n, i ≤ x0.length → x0.length - i < n → ∀ ys, ys = x0.take i ++ List.replicate (x0.length - i) (0 : Int) → laws_toIntS.l6 x0 n (i : Int) ys = some x0 := by
  refine idx_ind ?_ ?_
  · intro n ys hy
    subst hy
    rw [laws_toIntS.u6]
    simp only [laws_toIntS.g6, lt_f (Nat.le_refl _), cond_f]
    simp
  · intro i n hi ih ys hy
    have hyl : i < ys.length := by subst hy; simp; omega
    rw [laws_toIntS.u6]
    simp only [laws_toIntS.g6, lt_t hi, lt_t hyl, ge_t, cond_t, bind_s, w64_succ (i := i) (by omega), Int.toNat_natCast, at_n hi]
    exact ih _ (fill_set hy hi)
theorem toIntS_v (x0 : List Int) (hx : x0.length ≤ 1048576) : laws_toIntS x0 = some x0 := by
  unfold laws_toIntS
  simp only [laws_toIntS.b, beq_self_eq_true, cond_t, ge_t, Int.toNat_natCast]
  rw [decide_eq_true (by omega), cond_t]
  have := toIntS_l x0 hx 0 KK (Nat.zero_le _) (KK_gt (by omega)) _ rfl
  simpa using this
theorem eqIntS_l (x0 : List Int) (hx : x0.length ≤ 1152921504606846976) : ∀ i n, i ≤ x0.length → x0.length - i < n → laws_eqIntS.l8 x0 x0 n (i : Int) = some true := by
  refine idx_ind ?_ ?_
  · intro n
    rw [laws_eqIntS.u8]
    simp only [laws_eqIntS.g8, lt_f (Nat.le_refl _), cond_f]
  · intro i n hi ih
    rw [laws_eqIntS.u8]
    simp only [laws_eqIntS.g8, lt_t hi, ge_t, cond_t, bind_s, w64_succ (i := i) (by omega), bne_self, cond_f]
    exact ih
theorem eqIntS_v (x0 : List Int) (hx : x0.length ≤ 1152921504606846976) : laws_eqIntS x0 x0 = some true := by
  unfold laws_eqIntS
  simp only [laws_eqIntS.b, len_eq (rfl : x0.length = x0.length), cond_f]
  have := eqIntS_l x0 hx 0 KK (Nat.zero_le _) (KK_gt (by omega))
  simpa using this
theorem szKeys_v (x0 : TKeys) (L : Int) (hx : x0.1.length ≤ 9223372036854775807) (h0 : 0 ≤ L) (h1 : L ≤ 1048576) : laws_szKeys x0 L = some (if (x0.1.length : Int) ≤ L then L - x0.1.length else -1) := by
  unfold laws_szKeys
  rw [szIntS_v _ _ hx h0 h1, bind_s]
  by_cases h : (x0.1.length : Int) ≤ L
  · rw [if_pos h, decide_eq_false (by omega), cond_f]
  · rw [if_neg h, decide_eq_true (by omega), cond_t]
theorem toKeys_v (x0 : TKeys) (hx : x0.1.length ≤ 1048576) : laws_toKeys x0 = some x0 := by
  unfold laws_toKeys
  rw [toIntS_v _ hx, bind_s]
theorem eqKeys_v (a : TKeys) (hx : a.1.length ≤ 1152921504606846976) : laws_eqKeys a a = some true := by
  unfold laws_eqKeys
  simp only [bne_self, cond_f, eqIntS_v a.1 hx, bind_s, Bool.not_true]
def hk1 (x : THead) : TKeys := (x.2.2.2.2.2.2.2.2.1, x.2.2.2.2.2.2.2.2.2.1)
def hk2 (x : THead) : TKeys := (x.2.2.2.2.2.2.2.2.2.2.1, x.2.2.2.2.2.2.2.2.2.2.2.1)
def hk3 (x : THead) : TKeys := (x.2.2.2.2.2.2.2.2.2.2.2.2.2.1, x.2.2.2.2.2.2.2.2.2.2.2.2.2.2.1)
def sizeHead (x : THead) : Nat := (hk1 x).1.length + (hk2 x).1.length + (hk3 x).1.length
structure HeadMax (x : THead) : Prop where
  a : (hk1 x).1.length ≤ 9223372036854775807
  b : (hk2 x).1.length ≤ 9223372036854775807
  c : (hk3 x).1.length ≤ 9223372036854775807
theorem szHead_v (x0 : THead) (L : Int) (hx : HeadMax x0) (h0 : 0 ≤ L) (h1 : L ≤ 1048576) : laws_szHead x0 L = some (if (sizeHead x0 : Int) ≤ L then L - sizeHead x0 else -1) := by
  show ((laws_szKeys (hk1 x0) L).bind fun y1 => bif decide (y1 < (0 : Int)) then some (-1 : Int) else (laws_szKeys (hk2 x0) y1).bind fun y2 => bif decide (y2 < (0 : Int)) then some (-1 : Int) else (laws_szKeys (hk3 x0) y2).bind fun y3 => bif decide (y3 < (0 : Int)) then some (-1 : Int) else some y3) = _
  unfold sizeHead
  rw [szKeys_v _ _ hx.a h0 h1, bind_s]
  by_cases g1 : ((hk1 x0).1.length : Int) ≤ L
  · rw [if_pos g1, decide_eq_false (by omega), cond_f, szKeys_v _ _ hx.b (by omega) (by omega), bind_s]
    by_cases g2 : ((hk2 x0).1.length : Int) ≤ L - (hk1 x0).1.length
    · rw [if_pos g2, decide_eq_false (by omega), cond_f, szKeys_v _ _ hx.c (by omega) (by omega), bind_s]
      by_cases g3 : ((hk3 x0).1.length : Int) ≤ L - (hk1 x0).1.length - (hk2 x0).1.length
      · rw [if_pos g3, decide_eq_false (by omega), cond_f, if_pos (by omega)]
        congr 1; omega
      · rw [if_neg g3, decide_eq_true (by omega), cond_t, if_neg (by omega)]
    · rw [if_neg g2, decide_eq_true (by omega), cond_t, if_neg (by omega)]
  · rw [if_neg g1, decide_eq_true (by omega), cond_t, if_neg (by omega)]
theorem toHead_v (x0 : THead) (hx : sizeHead x0 ≤ 1048576) : laws_toHead x0 = some x0 := by
  unfold sizeHead at hx
  have e1 := toKeys_v (hk1 x0) (by omega)
  have e2 := toKeys_v (hk2 x0) (by omega)
  have e3 := toKeys_v (hk3 x0) (by omega)
  unfold hk1 at e1
  unfold hk2 at e2
  unfold hk3 at e3
  unfold laws_toHead
  rw [e1, bind_s, e2, bind_s, e3, bind_s]
theorem eqHead_v (a : THead) (hx : sizeHead a ≤ 1152921504606846976) : laws_eqHead a a = some true := by
  unfold sizeHead at hx
  have e1 := eqKeys_v (hk1 a) (by omega)
  have e2 := eqKeys_v (hk2 a) (by omega)
  have e3 := eqKeys_v (hk3 a) (by omega)
  unfold hk1 at e1
  unfold hk2 at e2
  unfold hk3 at e3
  unfold laws_eqHead
  simp only [bne_self, cond_f, e1, e2, e3, bind_s, Bool.not_true, beq_self_eq_true]
theorem szSigS_v (x0 : List TSig) (L : Int) (hx : x0.length ≤ 9223372036854775807) (h0 : 0 ≤ L) (h1 : L ≤ 1048576) : laws_szSigS x0 L = some (if (x0.length : Int) ≤ L then L - x0.length else -1) := by
  unfold laws_szSigS
  rw [w64 (by omega) (by omega)]
  by_cases h : (x0.length : Int) ≤ L
  · rw [if_pos h, decide_eq_false (by omega), cond_f]
  · rw [if_neg h, decide_eq_true (by omega), cond_t]
theorem toSigS_l (x0 : List TSig) (hx : x0.length ≤ 1048576) : ∀ i n, i ≤ x0.length → x0.length - i < n → ∀ ys, ys = x0.take i ++ List.replicate (x0.length - i) dSig → laws_toSigS.l6 x0 n (i : Int) ys = some x0 := by
  refine idx_ind ?_ ?_
  · intro n ys hy
    subst hy
    rw [laws_toSigS.u6]
    simp only [laws_toSigS.g6, lt_f (Nat.le_refl _), cond_f]
    simp
  · intro i n hi ih ys hy
    have hyl : i < ys.length := by subst hy; simp; omega
    rw [laws_toSigS.u6]
    simp only [laws_toSigS.g6, lt_t hi, lt_t hyl, ge_t, cond_t, laws_toSig, bind_s, w64_succ (i := i) (by omega), Int.toNat_natCast, at_n hi]
    exact ih _ (fill_set hy hi)
theorem toSigS_v (x0 : List TSig) (hx : x0.length ≤ 1048576) : laws_toSigS x0 = some x0 := by
  unfold laws_toSigS
  simp only [laws_toSigS.b, beq_self_eq_true, cond_t, ge_t, Int.toNat_natCast]
  rw [decide_eq_true (by omega), cond_t]
  have := toSigS_l x0 hx 0 KK (Nat.zero_le _) (KK_gt (by omega)) _ rfl
  simpa using this
theorem eqSig_v (a : TSig) : laws_eqSig a a = some true := by
  unfold laws_eqSig
  simp only [bne_self, cond_f]
theorem eqSigS_l (x0 : List TSig) (hx : x0.length ≤ 1152921504606846976) : ∀ i n, i ≤ x0.length → x0.length - i < n → laws_eqSigS.l8 x0 x0 n (i : Int) = some true := by
  refine idx_ind ?_ ?_
  · intro n
    rw [laws_eqSigS.u8]
    simp only [laws_eqSigS.g8, lt_f (Nat.le_refl _), cond_f]
  · intro i n hi ih
    rw [laws_eqSigS.u8]
    simp only [laws_eqSigS.g8, lt_t hi, ge_t, cond_t, bind_s, w64_succ (i := i) (by omega), eqSig_v, Bool.not_true, cond_f]
    exact ih
theorem eqSigS_v (x0 : List TSig) (hx : x0.length ≤ 1152921504606846976) : laws_eqSigS x0 x0 = some true := by
  unfold laws_eqSigS
  simp only [laws_eqSigS.b, len_eq (rfl : x0.length = x0.length), cond_f]
  have := eqSigS_l x0 hx 0 KK (Nat.zero_le _) (KK_gt (by omega))
  simpa using this
def sdh (x : TSigned) : THead := (x.1, x.2.1, x.2.2.1, x.2.2.2.1, x.2.2.2.2.1, x.2.2.2.2.2.1, x.2.2.2.2.2.2.1, x.2.2.2.2.2.2.2.1, x.2.2.2.2.2.2.2.2.1, x.2.2.2.2.2.2.2.2.2.1, x.2.2.2.2.2.2.2.2.2.2.1, x.2.2.2.2.2.2.2.2.2.2.2.1, x.2.2.2.2.2.2.2.2.2.2.2.2.1, x.2.2.2.2.2.2.2.2.2.2.2.2.2.1, x.2.2.2.2.2.2.2.2.2.2.2.2.2.2.1, x.2.2.2.2.2.2.2.2.2.2.2.2.2.2.2.1)
def sds (x : TSigned) : List TSig := x.2.2.2.2.2.2.2.2.2.2.2.2.2.2.2.2
def sizeSigned (x : TSigned) : Nat := sizeHead (sdh x) + (sds x).length
structure SignedMax (x : TSigned) : Prop where
  h : HeadMax (sdh x)
  s : (sds x).length ≤ 9223372036854775807
theorem szSigned_v (x0 : TSigned) (L : Int) (hx : SignedMax x0) (h0 : 0 ≤ L) (h1 : L ≤ 1048576) : laws_szSigned x0 L = some (if (sizeSigned x0 : Int) ≤ L then L - sizeSigned x0 else -1) := by
  show ((laws_szHead (sdh x0) L).bind fun y1 => bif decide (y1 < (0 : Int)) then some (-1 : Int) else (laws_szSigS (sds x0) y1).bind fun y2 => bif decide (y2 < (0 : Int)) then some (-1 : Int) else some y2) = _
  unfold sizeSigned
  rw [szHead_v _ _ hx.h h0 h1, bind_s]
  by_cases g1 : (sizeHead (sdh x0) : Int) ≤ L
  · rw [if_pos g1, decide_eq_false (by omega), cond_f, szSigS_v _ _ hx.s (by omega) (by omega), bind_s]
    by_cases g2 : ((sds x0).length : Int) ≤ L - sizeHead (sdh x0)
    · rw [if_pos g2, decide_eq_false (by omega), cond_f, if_pos (by omega)]
      congr 1; omega
    · rw [if_neg g2, decide_eq_true (by omega), cond_t, if_neg (by omega)]
  · rw [if_neg g1, decide_eq_true (by omega), cond_t, if_neg (by omega)]
theorem toSigned_v (x0 : TSigned) (hx : sizeSigned x0 ≤ 1048576) : laws_toSigned x0 = some x0 := by
  unfold sizeSigned at hx
  have e1 := toHead_v (sdh x0) (by omega)
  have e2 := toSigS_v (sds x0) (by omega)
  unfold sdh at e1
  unfold sds at e2
  unfold laws_toSigned
  rw [e1, bind_s, e2, bind_s]
theorem eqSigned_v (a : TSigned) (hx : sizeSigned a ≤ 1152921504606846976) : laws_eqSigned a a = some true := by
  unfold sizeSigned at hx
  have e1 := eqHead_v (sdh a) (by omega)
  have e2 := eqSigS_v (sds a) (by omega)
  unfold sdh at e1
  unfold sds at e2
  unfold laws_eqSigned
  simp only [e1, e2, bind_s, Bool.not_true, cond_f]
def fk1 (x : TFork) : TSigned := (x.1, x.2.1, x.2.2.1, x.2.2.2.1, x.2.2.2.2.1, x.2.2.2.2.2.1, x.2.2.2.2.2.2.1, x.2.2.2.2.2.2.2.1, x.2.2.2.2.2.2.2.2.1, x.2.2.2.2.2.2.2.2.2.1, x.2.2.2.2.2.2.2.2.2.2.1, x.2.2.2.2.2.2.2.2.2.2.2.1, x.2.2.2.2.2.2.2.2.2.2.2.2.1, x.2.2.2.2.2.2.2.2.2.2.2.2.2.1, x.2.2.2.2.2.2.2.2.2.2.2.2.2.2.1, x.2.2.2.2.2.2.2.2.2.2.2.2.2.2.2.1, x.2.2.2.2.2.2.2.2.2.2.2.2.2.2.2.2.1)
def fk2 (x : TFork) : TSigned := (x.2.2.2.2.2.2.2.2.2.2.2.2.2.2.2.2.2.1, x.2.2.2.2.2.2.2.2.2.2.2.2.2.2.2.2.2.2.1, x.2.2.2.2.2.2.2.2.2.2.2.2.2.2.2.2.2.2.2.1, x.2.2.2.2.2.2.2.2.2.2.2.2.2.2.2.2.2.2.2.2.1, x.2.2.2.2.2.2.2.2.2.2.2.2.2.2.2.2.2.2.2.2.2.1, x.2.2.2.2.2.2.2.2.2.2.2.2.2.2.2.2.2.2.2.2.2.2.1, x.2.2.2.2.2.2.2.2.2.2.2.2.2.2.2.2.2.2.2.2.2.2.2.1, x.2.2.2.2.2.2.2.2.2.2.2.2.2.2.2.2.2.2.2.2.2.2.2.2.1, x.2.2.2.2.2.2.2.2.2.2.2.2.2.2.2.2.2.2.2.2.2.2.2.2.2.1, x.2.2.2.2.2.2.2.2.2.2.2.2.2.2.2.2.2.2.2.2.2.2.2.2.2.2.1, x.2.2.2.2.2.2.2.2.2.2.2.2.2.2.2.2.2.2.2.2.2.2.2.2.2.2.2.1, x.2.2.2.2.2.2.2.2.2.2.2.2.2.2.2.2.2.2.2.2.2.2.2.2.2.2.2.2.1, x.2.2.2.2.2.2.2.2.2.2.2.2.2.2.2.2.2.2.2.2.2.2.2.2.2.2.2.2.2.1, x.2.2.2.2.2.2.2.2.2.2.2.2.2.2.2.2.2.2.2.2.2.2.2.2.2.2.2.2.2.2.1, x.2.2.2.2.2.2.2.2.2.2.2.2.2.2.2.2.2.2.2.2.2.2.2.2.2.2.2.2.2.2.2.1, x.2.2.2.2.2.2.2.2.2.2.2.2.2.2.2.2.2.2.2.2.2.2.2.2.2.2.2.2.2.2.2.2.1, x.2.2.2.2.2.2.2.2.2.2.2.2.2.2.2.2.2.2.2.2.2.2.2.2.2.2.2.2.2.2.2.2.2.1)
def fk3 (x : TFork) : TSigned := x.2.2.2.2.2.2.2.2.2.2.2.2.2.2.2.2.2.2.2.2.2.2.2.2.2.2.2.2.2.2.2.2.2.2
def sizeFork (x : TFork) : Nat := sizeSigned (fk1 x) + sizeSigned (fk2 x) + sizeSigned (fk3 x)
structure ForkMax (x : TFork) : Prop where
  a : SignedMax (fk1 x)
  b : SignedMax (fk2 x)
  c : SignedMax (fk3 x)
theorem szFork_v (x0 : TFork) (L : Int) (hx : ForkMax x0) (h0 : 0 ≤ L) (h1 : L ≤ 1048576) : laws_szFork x0 L = some (if (sizeFork x0 : Int) ≤ L then L - sizeFork x0 else -1) := by
  show ((laws_szSigned (fk1 x0) L).bind fun y1 => bif decide (y1 < (0 : Int)) then some (-1 : Int) else (laws_szSigned (fk2 x0) y1).bind fun y2 => bif decide (y2 < (0 : Int)) then some (-1 : Int) else (laws_szSigned (fk3 x0) y2).bind fun y3 => bif decide (y3 < (0 : Int)) then some (-1 : Int) else some y3) = _
  unfold sizeFork
  rw [szSigned_v _ _ hx.a h0 h1, bind_s]
  by_cases g1 : (sizeSigned (fk1 x0) : Int) ≤ L
  · rw [if_pos g1, decide_eq_false (by omega), cond_f, szSigned_v _ _ hx.b (by omega) (by omega), bind_s]
    by_cases g2 : (sizeSigned (fk2 x0) : Int) ≤ L - sizeSigned (fk1 x0)
    · rw [if_pos g2, decide_eq_false (by omega), cond_f, szSigned_v _ _ hx.c (by omega) (by omega), bind_s]
      by_cases g3 : (sizeSigned (fk3 x0) : Int) ≤ L - sizeSigned (fk1 x0) - sizeSigned (fk2 x0)
      · rw [if_pos g3, decide_eq_false (by omega), cond_f, if_pos (by omega)]
        congr 1; omega
      · rw [if_neg g3, decide_eq_true (by omega), cond_t, if_neg (by omega)]
    · rw [if_neg g2, decide_eq_true (by omega), cond_t, if_neg (by omega)]
  · rw [if_neg g1, decide_eq_true (by omega), cond_t, if_neg (by omega)]
theorem toFork_v (x0 : TFork) (hx : sizeFork x0 ≤ 1048576) : laws_toFork x0 = some x0 := by
  unfold sizeFork at hx
  have e1 := toSigned_v (fk1 x0) (by omega)
  have e2 := toSigned_v (fk2 x0) (by omega)
  have e3 := toSigned_v (fk3 x0) (by omega)
  unfold fk1 at e1
  unfold fk2 at e2
  unfold fk3 at e3
  unfold laws_toFork
  rw [e1, bind_s, e2, bind_s, e3, bind_s]
theorem eqFork_v (a : TFork) (hx : sizeFork a ≤ 1152921504606846976) : laws_eqFork a a = some true := by
  unfold sizeFork at hx
  have e1 := eqSigned_v (fk1 a) (by omega)
  have e2 := eqSigned_v (fk2 a) (by omega)
  have e3 := eqSigned_v (fk3 a) (by omega)
  unfold fk1 at e1
  unfold fk2 at e2
  unfold fk3 at e3
  unfold laws_eqFork
  simp only [e1, e2, e3, bind_s, Bool.not_true, cond_f]
theorem set_take {α : Type} {ys : List α} {i : Nat} {c : α} (h : i < ys.length) : (ys.set i c).take (i + 1) = ys.take i ++ [c] := by
  rw [List.set_eq_take_append_cons_drop, if_pos h]
  have e : ys.take i ++ c :: ys.drop (i + 1) = (ys.take i ++ [c]) ++ ys.drop (i + 1) := by simp
  rw [e, List.take_left' (by simp; omega)]
def mInts (n : Nat) (k : Int) : List Int := (List.range n).map (fun (j : Nat) => k + (j : Int))
theorem mInts_succ (n : Nat) (k : Int) : mInts (n + 1) k = mInts n k ++ [k + n] := by
  unfold mInts
  rw [List.range_succ, List.map_append]; rfl
theorem mInts_len (n : Nat) (k : Int) : (mInts n k).length = n := by simp [mInts]
theorem mInts_at (n : Nat) (k : Int) (i : Nat) (h : i < (mInts n k).length) : (mInts n k)[i] = k + i := by simp [mInts]
theorem markIntS_l (len : Nat) (k : Int) (h0 : 0 ≤ k) (h1 : k ≤ 1099511627776) (hx : len ≤ 1048576) : ∀ i n, i ≤ len → len - i < n → ∀ ys : List Int, ∀ c : Int, ys.length = len → ys.take i = mInts i k → c = k + i → laws_markIntS.l4 n c (i : Int) ys = some (mInts len k, k + len) := by
  refine idx_ind ?_ ?_
  · intro n ys c hl hy hc
    rw [laws_markIntS.u4]
    simp only [laws_markIntS.g4, lt_f (Nat.le_of_eq hl), cond_f]
    rw [List.take_of_length_le (by omega)] at hy
    rw [hy, hc]
  · intro i n hi ih ys c hl hy hc
    have hi' : i < ys.length := by omega
    rw [laws_markIntS.u4]
    simp only [laws_markIntS.g4, lt_t hi', ge_t, cond_t, w64_succ (i := i) (by omega), Int.toNat_natCast, w64 (n := c + 1) (by omega) (by omega)]
    exact ih _ _ (by rw [List.length_set]; exact hl) (by rw [set_take hi', hy, mInts_succ, hc]) (by omega)
theorem markIntS_v (xs : List Int) (k : Int) (h0 : 0 ≤ k) (h1 : k ≤ 1099511627776) (hx : xs.length ≤ 1048576) : laws_markIntS xs k = some (mInts xs.length k, k + xs.length) :=
  markIntS_l xs.length k h0 h1 hx 0 KK (Nat.zero_le _) (KK_gt (by omega)) xs k rfl rfl (by omega)
theorem heldIntS_l (len : Nat) (k : Int) (h0 : 0 ≤ k) (h1 : k ≤ 1099511627776) (hx : len ≤ 1048576) : ∀ i n, i ≤ len → len - i < n → ∀ c : Int, c = k + i → laws_heldIntS.l4 (mInts len k) n c (i : Int) = some (k + len) := by
  refine idx_ind ?_ ?_
  · intro n c hc
    rw [laws_heldIntS.u4]
    simp only [laws_heldIntS.g4, lt_f (Nat.le_of_eq (mInts_len len k)), cond_f, hc]
  · intro i n hi ih c hc
    have hi' : i < (mInts len k).length := by rw [mInts_len]; exact hi
    rw [laws_heldIntS.u4]
    simp only [laws_heldIntS.g4, lt_t hi', ge_t, cond_t, w64_succ (i := i) (by omega), Int.toNat_natCast, w64 (n := c + 1) (by omega) (by omega), at_n hi', mInts_at]
    rw [← hc, bne_self, cond_f]
    exact ih _ (by omega)
theorem heldIntS_v (len : Nat) (k : Int) (h0 : 0 ≤ k) (h1 : k ≤ 1099511627776) (hx : len ≤ 1048576) : laws_heldIntS (mInts len k) k = some (k + len) :=
  heldIntS_l len k h0 h1 hx 0 KK (Nat.zero_le _) (KK_gt (by omega)) k (by omega)
theorem markKeys_v (x : TKeys) (k : Int) (h0 : 0 ≤ k) (h1 : k ≤ 1099511627776) (hx : x.1.length ≤ 1048576) : laws_markKeys x k = some (mInts x.1.length k, k + x.1.length) := by
  unfold laws_markKeys
  rw [markIntS_v _ _ h0 h1 hx, bind_s]
theorem heldKeys_v (n : Nat) (w : Int) (k : Int) (h0 : 0 ≤ k) (h1 : k ≤ 1099511627776) (hx : n ≤ 1048576) : laws_heldKeys (mInts n k, w) k = some (k + n) := by
  unfold laws_heldKeys
  rw [heldIntS_v _ _ h0 h1 hx, bind_s, decide_eq_false (by omega), cond_f]
def mh1 (x : THead) (k : Int) : List Int := mInts (hk1 x).1.length k
def mh2 (x : THead) (k : Int) : List Int := mInts (hk2 x).1.length (k + (hk1 x).1.length)
def mh3 (x : THead) (k : Int) : List Int := mInts (hk3 x).1.length (k + (hk1 x).1.length + (hk2 x).1.length)
theorem markHead_v (x : THead) (k : Int) (h0 : 0 ≤ k) (h1 : k ≤ 549755813888) (hx : sizeHead x ≤ 1048576) : laws_markHead x k = some (mh1 x k, mh2 x k, mh3 x k, k + sizeHead x) := by
  unfold sizeHead at hx
  show ((laws_markKeys (hk1 x) k).bind fun y1 => (laws_markKeys (hk2 x) y1.2).bind fun y2 => (laws_markKeys (hk3 x) y2.2).bind fun y3 => some (y1.1, y2.1, y3.1, y3.2)) = _
  rw [markKeys_v _ _ h0 (by omega) (by omega), bind_s, markKeys_v _ _ (by dsimp only; omega) (by dsimp only; omega) (by omega), bind_s, markKeys_v _ _ (by dsimp only; omega) (by dsimp only; omega) (by omega), bind_s]
  unfold sizeHead mh1 mh2 mh3
  rw [show k + (((hk1 x).1.length + (hk2 x).1.length + (hk3 x).1.length : Nat) : Int) = k + (hk1 x).1.length + (hk2 x).1.length + (hk3 x).1.length by omega]
def mkHead (x : THead) (a b c : List Int) : THead := (x.1, x.2.1, x.2.2.1, x.2.2.2.1, x.2.2.2.2.1, x.2.2.2.2.2.1, x.2.2.2.2.2.2.1, x.2.2.2.2.2.2.2.1, a, x.2.2.2.2.2.2.2.2.2.1, b, x.2.2.2.2.2.2.2.2.2.2.2.1, x.2.2.2.2.2.2.2.2.2.2.2.2.1, c, x.2.2.2.2.2.2.2.2.2.2.2.2.2.2.1, x.2.2.2.2.2.2.2.2.2.2.2.2.2.2.2)
theorem heldHead_v (x : THead) (k : Int) (h0 : 0 ≤ k) (h1 : k ≤ 549755813888) (hx : sizeHead x ≤ 1048576) : laws_heldHead (mkHead x (mh1 x k) (mh2 x k) (mh3 x k)) k = some (k + sizeHead x) := by
  unfold sizeHead at hx
  show ((laws_heldKeys (mh1 x k, (hk1 x).2) k).bind fun y1 => bif decide (y1 < (0 : Int)) then some (-1 : Int) else (laws_heldKeys (mh2 x k, (hk2 x).2) y1).bind fun y2 => bif decide (y2 < (0 : Int)) then some (-1 : Int) else (laws_heldKeys (mh3 x k, (hk3 x).2) y2).bind fun y3 => bif decide (y3 < (0 : Int)) then some (-1 : Int) else some y3) = _
  unfold mh1 mh2 mh3
  rw [heldKeys_v _ _ _ h0 (by omega) (by omega), bind_s, decide_eq_false (by omega), cond_f, heldKeys_v _ _ _ (by omega) (by omega) (by omega), bind_s, decide_eq_false (by omega), cond_f, heldKeys_v _ _ _ (by omega) (by omega) (by omega), bind_s, decide_eq_false (by omega), cond_f]
  unfold sizeHead
  congr 1; omega
def mSigs (n : Nat) (k : Int) : List TSig := (List.range n).map (fun (j : Nat) => (k + 2 * (j : Int), k + 2 * (j : Int) + 1))
theorem mSigs_succ (n : Nat) (k : Int) : mSigs (n + 1) k = mSigs n k ++ [(k + 2 * n, k + 2 * n + 1)] := by
  unfold mSigs
  rw [List.range_succ, List.map_append]; rfl
theorem mSigs_len (n : Nat) (k : Int) : (mSigs n k).length = n := by simp [mSigs]
theorem mSigs_at (n : Nat) (k : Int) (i : Nat) (h : i < (mSigs n k).length) : (mSigs n k)[i] = (k + 2 * i, k + 2 * i + 1) := by simp [mSigs]
theorem upd_sig (ys : List TSig) (i : Nat) (h : i < ys.length) (c d : Int) : upd (upd ys i (fun z => (c, z.2))) i (fun z => (z.1, d)) = ys.set i (c, d) := by
  rw [upd_set dSig, upd_set dSig, List.set_set]
  congr 1
  have : i < (ys.set i (c, (ys.getD i dSig).2)).length := by rw [List.length_set]; exact h
  rw [at_n this, List.getElem_set_self]
theorem upd_len (ys : List TSig) (i : Nat) (f : TSig → TSig) : (upd ys i f).length = ys.length := by
  rw [upd_set dSig, List.length_set]
theorem markSigS_l (len : Nat) (k : Int) (h0 : 0 ≤ k) (h1 : k ≤ 1099511627776) (hx : len ≤ 1048576) : ∀ i n, i ≤ len → len - i < n → ∀ ys : List TSig, ∀ c : Int, ys.length = len → ys.take i = mSigs i k → c = k + 2 * i → laws_markSigS.l4 n c (i : Int) ys = some (mSigs len k, k + 2 * len) := by
  refine idx_ind ?_ ?_
  · intro n ys c hl hy hc
    rw [laws_markSigS.u4]
    simp only [laws_markSigS.g4, lt_f (Nat.le_of_eq hl), cond_f]
    rw [List.take_of_length_le (by omega)] at hy
    rw [hy, hc]
  · intro i n hi ih ys c hl hy hc
    have hi' : i < ys.length := by omega
    rw [laws_markSigS.u4]
    simp only [laws_markSigS.g4, lt_t hi', ge_t, cond_t, w64_succ (i := i) (by omega), Int.toNat_natCast, w64 (n := c + 1) (by omega) (by omega), w64 (n := c + 1 + 1) (by omega) (by omega), upd_len, upd_sig _ _ hi']
    exact ih _ _ (by rw [List.length_set]; exact hl) (by rw [set_take hi', hy, mSigs_succ, hc]) (by omega)
theorem markSigS_v (xs : List TSig) (k : Int) (h0 : 0 ≤ k) (h1 : k ≤ 1099511627776) (hx : xs.length ≤ 1048576) : laws_markSigS xs k = some (mSigs xs.length k, k + 2 * xs.length) :=
  markSigS_l xs.length k h0 h1 hx 0 KK (Nat.zero_le _) (KK_gt (by omega)) xs k rfl rfl (by omega)
theorem heldSigS_l (len : Nat) (k : Int) (h0 : 0 ≤ k) (h1 : k ≤ 1099511627776) (hx : len ≤ 1048576) : ∀ i n, i ≤ len → len - i < n → ∀ c : Int, c = k + 2 * i → laws_heldSigS.l4 (mSigs len k) n c (i : Int) = some (k + 2 * len) := by
  refine idx_ind ?_ ?_
  · intro n c hc
    rw [laws_heldSigS.u4]
    simp only [laws_heldSigS.g4, lt_f (Nat.le_of_eq (mSigs_len len k)), cond_f, hc]
  · intro i n hi ih c hc
    have hi' : i < (mSigs len k).length := by rw [mSigs_len]; exact hi
    rw [laws_heldSigS.u4]
    simp only [laws_heldSigS.g4, lt_t hi', ge_t, cond_t, w64_succ (i := i) (by omega), Int.toNat_natCast, w64 (n := c + 1) (by omega) (by omega), w64 (n := c + 1 + 1) (by omega) (by omega), at_n hi', mSigs_at]
    rw [← hc, bne_self, cond_f, bne_self, cond_f]
    exact ih _ (by omega)
theorem heldSigS_v (len : Nat) (k : Int) (h0 : 0 ≤ k) (h1 : k ≤ 1099511627776) (hx : len ≤ 1048576) : laws_heldSigS (mSigs len k) k = some (k + 2 * len) :=
  heldSigS_l len k h0 h1 hx 0 KK (Nat.zero_le _) (KK_gt (by omega)) k (by omega)
def cntSigned (x : TSigned) : Nat := sizeHead (sdh x) + 2 * (sds x).length
theorem cntSigned_le (x : TSigned) : cntSigned x ≤ 2 * sizeSigned x := by unfold cntSigned sizeSigned; omega
def ms (x : TSigned) (k : Int) : List TSig := mSigs (sds x).length (k + sizeHead (sdh x))
theorem markSigned_v (x : TSigned) (k : Int) (h0 : 0 ≤ k) (h1 : k ≤ 274877906944) (hx : sizeSigned x ≤ 1048576) : laws_markSigned x k = some (mh1 (sdh x) k, mh2 (sdh x) k, mh3 (sdh x) k, ms x k, k + cntSigned x) := by
  unfold sizeSigned at hx
  show ((laws_markHead (sdh x) k).bind fun y1 => (laws_markSigS (sds x) y1.2.2.2).bind fun y2 => some (y1.1, y1.2.1, y1.2.2.1, y2.1, y2.2)) = _
  rw [markHead_v _ _ h0 (by omega) (by omega), bind_s, markSigS_v _ _ (by dsimp only; omega) (by dsimp only; omega) (by omega), bind_s]
  unfold cntSigned ms
  rw [show k + ((sizeHead (sdh x) + 2 * (sds x).length : Nat) : Int) = k + sizeHead (sdh x) + 2 * (sds x).length by omega]
def mkSigned (x : TSigned) (a b c : List Int) (d : List TSig) : TSigned := (x.1, x.2.1, x.2.2.1, x.2.2.2.1, x.2.2.2.2.1, x.2.2.2.2.2.1, x.2.2.2.2.2.2.1, x.2.2.2.2.2.2.2.1, a, x.2.2.2.2.2.2.2.2.2.1, b, x.2.2.2.2.2.2.2.2.2.2.2.1, x.2.2.2.2.2.2.2.2.2.2.2.2.1, c, x.2.2.2.2.2.2.2.2.2.2.2.2.2.2.1, x.2.2.2.2.2.2.2.2.2.2.2.2.2.2.2.1, d)
theorem heldSigned_v (x : TSigned) (k : Int) (h0 : 0 ≤ k) (h1 : k ≤ 274877906944) (hx : sizeSigned x ≤ 1048576) : laws_heldSigned (mkSigned x (mh1 (sdh x) k) (mh2 (sdh x) k) (mh3 (sdh x) k) (ms x k)) k = some (k + cntSigned x) := by
  unfold sizeSigned at hx
  show ((laws_heldHead (mkHead (sdh x) (mh1 (sdh x) k) (mh2 (sdh x) k) (mh3 (sdh x) k)) k).bind fun y1 => bif decide (y1 < (0 : Int)) then some (-1 : Int) else (laws_heldSigS (ms x k) y1).bind fun y2 => bif decide (y2 < (0 : Int)) then some (-1 : Int) else some y2) = _
  rw [heldHead_v _ _ h0 (by omega) (by omega), bind_s, decide_eq_false (by omega), cond_f]
  unfold ms
  rw [heldSigS_v _ _ (by omega) (by omega) (by omega), bind_s, decide_eq_false (by omega), cond_f]
  unfold cntSigned
  congr 1; omega
def mkF (a b c : TSigned) : TFork := (a.1, a.2.1, a.2.2.1, a.2.2.2.1, a.2.2.2.2.1, a.2.2.2.2.2.1, a.2.2.2.2.2.2.1, a.2.2.2.2.2.2.2.1, a.2.2.2.2.2.2.2.2.1, a.2.2.2.2.2.2.2.2.2.1, a.2.2.2.2.2.2.2.2.2.2.1, a.2.2.2.2.2.2.2.2.2.2.2.1, a.2.2.2.2.2.2.2.2.2.2.2.2.1, a.2.2.2.2.2.2.2.2.2.2.2.2.2.1, a.2.2.2.2.2.2.2.2.2.2.2.2.2.2.1, a.2.2.2.2.2.2.2.2.2.2.2.2.2.2.2.1, a.2.2.2.2.2.2.2.2.2.2.2.2.2.2.2.2, b.1, b.2.1, b.2.2.1, b.2.2.2.1, b.2.2.2.2.1, b.2.2.2.2.2.1, b.2.2.2.2.2.2.1, b.2.2.2.2.2.2.2.1, b.2.2.2.2.2.2.2.2.1, b.2.2.2.2.2.2.2.2.2.1, b.2.2.2.2.2.2.2.2.2.2.1, b.2.2.2.2.2.2.2.2.2.2.2.1, b.2.2.2.2.2.2.2.2.2.2.2.2.1, b.2.2.2.2.2.2.2.2.2.2.2.2.2.1, b.2.2.2.2.2.2.2.2.2.2.2.2.2.2.1, b.2.2.2.2.2.2.2.2.2.2.2.2.2.2.2.1, b.2.2.2.2.2.2.2.2.2.2.2.2.2.2.2.2, c.1, c.2.1, c.2.2.1, c.2.2.2.1, c.2.2.2.2.1, c.2.2.2.2.2.1, c.2.2.2.2.2.2.1, c.2.2.2.2.2.2.2.1, c.2.2.2.2.2.2.2.2.1, c.2.2.2.2.2.2.2.2.2.1, c.2.2.2.2.2.2.2.2.2.2.1, c.2.2.2.2.2.2.2.2.2.2.2.1, c.2.2.2.2.2.2.2.2.2.2.2.2.1, c.2.2.2.2.2.2.2.2.2.2.2.2.2.1, c.2.2.2.2.2.2.2.2.2.2.2.2.2.2.1, c.2.2.2.2.2.2.2.2.2.2.2.2.2.2.2.1, c.2.2.2.2.2.2.2.2.2.2.2.2.2.2.2.2)
theorem mkF_eta (x : TFork) : mkF (fk1 x) (fk2 x) (fk3 x) = x := rfl
def cntFork (x : TFork) : Nat := cntSigned (fk1 x) + cntSigned (fk2 x) + cntSigned (fk3 x)
def ks (x : TSigned) (k : Int) : TSigned := mkSigned x (mh1 (sdh x) k) (mh2 (sdh x) k) (mh3 (sdh x) k) (ms x k)
def k2 (x : TFork) (k : Int) : Int := k + cntSigned (fk1 x)
def k3 (x : TFork) (k : Int) : Int := k + cntSigned (fk1 x) + cntSigned (fk2 x)
theorem markFork_v (x : TFork) (k : Int) (h0 : 0 ≤ k) (h1 : k ≤ 137438953472) (hx : sizeFork x ≤ 1048576) : laws_markFork x k = some (mh1 (sdh (fk1 x)) k, mh2 (sdh (fk1 x)) k, mh3 (sdh (fk1 x)) k, ms (fk1 x) k, mh1 (sdh (fk2 x)) (k2 x k), mh2 (sdh (fk2 x)) (k2 x k), mh3 (sdh (fk2 x)) (k2 x k), ms (fk2 x) (k2 x k), mh1 (sdh (fk3 x)) (k3 x k), mh2 (sdh (fk3 x)) (k3 x k), mh3 (sdh (fk3 x)) (k3 x k), ms (fk3 x) (k3 x k), k + cntFork x) := by
  unfold sizeFork at hx
  have c1 := cntSigned_le (fk1 x)
  have c2 := cntSigned_le (fk2 x)
  have c3 := cntSigned_le (fk3 x)
  show ((laws_markSigned (fk1 x) k).bind fun y1 => (laws_markSigned (fk2 x) y1.2.2.2.2).bind fun y2 => (laws_markSigned (fk3 x) y2.2.2.2.2).bind fun y3 => some (y1.1, y1.2.1, y1.2.2.1, y1.2.2.2.1, y2.1, y2.2.1, y2.2.2.1, y2.2.2.2.1, y3.1, y3.2.1, y3.2.2.1, y3.2.2.2.1, y3.2.2.2.2)) = _
  rw [markSigned_v _ _ h0 (by omega) (by omega), bind_s, markSigned_v _ _ (by dsimp only; omega) (by dsimp only; omega) (by omega), bind_s, markSigned_v _ _ (by dsimp only; omega) (by dsimp only; omega) (by omega), bind_s]
  unfold cntFork k2 k3
  rw [show k + ((cntSigned (fk1 x) + cntSigned (fk2 x) + cntSigned (fk3 x) : Nat) : Int) = k + cntSigned (fk1 x) + cntSigned (fk2 x) + cntSigned (fk3 x) by omega]
theorem heldFork_v (x : TFork) (k : Int) (h0 : 0 ≤ k) (h1 : k ≤ 137438953472) (hx : sizeFork x ≤ 1048576) : laws_heldFork (mkF (ks (fk1 x) k) (ks (fk2 x) (k2 x k)) (ks (fk3 x) (k3 x k))) k = some (k + cntFork x) := by
  unfold sizeFork at hx
  have c1 := cntSigned_le (fk1 x)
  have c2 := cntSigned_le (fk2 x)
  have c3 := cntSigned_le (fk3 x)
  show ((laws_heldSigned (ks (fk1 x) k) k).bind fun y1 => bif decide (y1 < (0 : Int)) then some (-1 : Int) else (laws_heldSigned (ks (fk2 x) (k2 x k)) y1).bind fun y2 => bif decide (y2 < (0 : Int)) then some (-1 : Int) else (laws_heldSigned (ks (fk3 x) (k3 x k)) y2).bind fun y3 => bif decide (y3 < (0 : Int)) then some (-1 : Int) else some y3) = _
  unfold ks k2 k3
  rw [heldSigned_v _ _ h0 (by omega) (by omega), bind_s, decide_eq_false (by omega), cond_f, heldSigned_v _ _ (by omega) (by omega) (by omega), bind_s, decide_eq_false (by omega), cond_f, heldSigned_v _ _ (by omega) (by omega) (by omega), bind_s, decide_eq_false (by omega), cond_f]
  unfold cntFork
  congr 1; omega
theorem l6Copy_v (x : TKeys) (hx : x.1.length ≤ 1048576) : spec_l6Copy x = some x := by
  unfold spec_l6Copy
  rw [decide_eq_true (by simp; omega), cond_t]; rfl
theorem Clone_int_v (x : List Int) (hx : x.length ≤ 1048576) : slices_Clone_int x = some x := by
  have e : (bif decide (([] : List Int).length + x.length < 68719476736) then some ([] ++ x) else none) = some x := by
    rw [decide_eq_true (by simp; omega), cond_t]; rfl
  unfold slices_Clone_int
  rw [e]
  cases x with
  | nil => exact both_eq _
  | cons a t => rfl
theorem copyKeys_v (x : TKeys) (hx : x.1.length ≤ 1048576) : impl_copyKeys x = some x := by
  unfold impl_copyKeys
  rw [Clone_int_v _ hx, bind_s]
theorem l13Copy_v (x0 : THead) (hx : sizeHead x0 ≤ 1048576) : spec_l13Copy x0 = some x0 := by
  unfold sizeHead at hx
  have e1 := l6Copy_v (hk1 x0) (by omega)
  have e2 := l6Copy_v (hk2 x0) (by omega)
  have e3 := l6Copy_v (hk3 x0) (by omega)
  unfold hk1 at e1
  unfold hk2 at e2
  unfold hk3 at e3
  unfold spec_l13Copy
  rw [e1, bind_s, e2, bind_s, e3, bind_s]
theorem copyHead_v (x0 : THead) (hx : sizeHead x0 ≤ 1048576) : impl_copyHead x0 = some x0 := by
  unfold sizeHead at hx
  have e1 := copyKeys_v (hk1 x0) (by omega)
  have e2 := copyKeys_v (hk2 x0) (by omega)
  have e3 := copyKeys_v (hk3 x0) (by omega)
  unfold hk1 at e1
  unfold hk2 at e2
  unfold hk3 at e3
  unfold impl_copyHead
  rw [e1, bind_s, e2, bind_s, e3, bind_s]
theorem Clone_Sig_v (x : List TSig) (hx : x.length ≤ 1048576) : slices_Clone_impl_Sig x = some x := by
  have e : (bif decide (([] : List TSig).length + x.length < 68719476736) then some ([] ++ x) else none) = some x := by
    rw [decide_eq_true (by simp; omega), cond_t]; rfl
  unfold slices_Clone_impl_Sig
  rw [e]
  cases x with
  | nil => exact both_eq _
  | cons a t => rfl
theorem l14Copy_v (x0 : TSigned) (hx : sizeSigned x0 ≤ 1048576) : spec_l14Copy x0 = some x0 := by
  unfold sizeSigned at hx
  have e1 := l13Copy_v (sdh x0) (by omega)
  have e2 : decide (([] : List TSig).length + (sds x0).length < 68719476736) = true := decide_eq_true (by simp; omega)
  unfold sdh at e1
  unfold sds at e2
  unfold spec_l14Copy
  rw [e1, bind_s, e2, cond_t, List.nil_append]
theorem copySigned_v (x0 : TSigned) (hx : sizeSigned x0 ≤ 1048576) : impl_copySigned x0 = some x0 := by
  unfold sizeSigned at hx
  have e1 := copyHead_v (sdh x0) (by omega)
  have e2 := Clone_Sig_v (sds x0) (by omega)
  unfold sdh at e1
  unfold sds at e2
  unfold impl_copySigned
  rw [e1, bind_s, e2, bind_s]
theorem copyFork_v (x0 : TFork) (hx : sizeFork x0 ≤ 1048576) : impl_copyFork x0 = some x0 := by
  unfold sizeFork at hx
  have e1 := copySigned_v (fk1 x0) (by omega)
  have e2 := copySigned_v (fk2 x0) (by omega)
  have e3 := copySigned_v (fk3 x0) (by omega)
  unfold fk1 at e1
  unfold fk2 at e2
  unfold fk3 at e3
  unfold impl_copyFork
  rw [e1, bind_s, e2, bind_s, e3, bind_s]
def turn (x : TFork) : TFork := mkF (fk1 x) (fk3 x) (fk2 x)
theorem turn_size (x : TFork) : sizeFork (turn x) = sizeFork x := by
  show sizeSigned (fk1 x) + sizeSigned (fk3 x) + sizeSigned (fk2 x) = sizeSigned (fk1 x) + sizeSigned (fk2 x) + sizeSigned (fk3 x)
  omega
theorem sTurn_v (x0 : TFork) (hx : sizeFork x0 ≤ 1048576) : spec_TurnFork x0 = some (turn x0) := by
  unfold sizeFork at hx
  show ((spec_l14Copy (fk1 x0)).bind fun y1 => (spec_l14Copy (fk3 x0)).bind fun y2 => (spec_l14Copy (fk2 x0)).bind fun y3 => some (mkF y1 y2 y3)) = _
  rw [l14Copy_v _ (by omega), bind_s, l14Copy_v _ (by omega), bind_s, l14Copy_v _ (by omega), bind_s]; rfl
theorem iTurn_v (x0 : TFork) (hx : sizeFork x0 ≤ 1048576) : impl_TurnFork x0 = some (turn x0) := by
  unfold impl_TurnFork
  rw [copyFork_v _ hx, bind_s]; rfl
theorem turn_tail (x0 : TFork) (b0 : sizeFork x0 ≤ 1048576) : laws_FnExactTurnFork.l33 x0 (turn x0) (turn x0) = some true := by
  have b1 : sizeFork (turn x0) ≤ 1048576 := by rw [turn_size]; exact b0
  have hh := heldFork_v (turn x0) 1 (by omega) (by omega) b1
  unfold laws_FnExactTurnFork.l33
  unfold laws_FnExactTurnFork.g33
  rw [markFork_v _ 1 (by omega) (by omega) b1, bind_s]
  have hq := eqFork_v (turn x0) (by omega)
  have hi := iTurn_v x0 b0
  show ((laws_heldFork (mkF (ks (fk1 (turn x0)) 1) (ks (fk2 (turn x0)) (k2 (turn x0) 1)) (ks (fk3 (turn x0)) (k3 (turn x0) 1))) 1).bind fun y12 => bif decide (y12 < (0 : Int)) then some false else bif y12 != (1 + (cntFork (turn x0) : Int)) then some false else (laws_toFork x0).bind fun y13 => (impl_TurnFork y13).bind fun y14 => (laws_eqFork y14 (turn x0)).bind fun y15 => bif !y15 then some false else (laws_heldFork (mkF (ks (fk1 (turn x0)) 1) (ks (fk2 (turn x0)) (k2 (turn x0) 1)) (ks (fk3 (turn x0)) (k3 (turn x0) 1))) 1).bind fun y16 => bif decide (y16 < (0 : Int)) then some false else bif y16 != (1 + (cntFork (turn x0) : Int)) then some false else some true) = _
  simp only [hh, bind_s, bne_self, cond_f, toFork_v x0 b0, hi, hq, Bool.not_true]
  rw [decide_eq_false (by omega), cond_f, cond_f]
theorem pure_FnExactTurnFork (x0 : TFork) (h0 : ForkMax x0) : laws_FnExactTurnFork x0 = some true := by
  show (laws_FnExactTurnFork.b x0 (fun y3 y5 => laws_FnExactTurnFork.l33 x0 y3 y5)) = _
  unfold laws_FnExactTurnFork.b
  rw [szFork_v _ _ h0 (by omega) (by omega), bind_s]
  by_cases g0 : (sizeFork x0 : Int) ≤ 1048576
  · have b0 : sizeFork x0 ≤ 1048576 := by omega
    have b1 : sizeFork (turn x0) ≤ 1048576 := by rw [turn_size]; exact b0
    rw [if_pos g0, decide_eq_false (by omega), cond_f]
    simp only [toFork_v _ b0, bind_s, sTurn_v _ b0, iTurn_v _ b0, eqFork_v (turn x0) (by omega), eqFork_v x0 (by omega), Bool.not_true, cond_f, markFork_v x0 1 (by omega) (by omega) b0]
    rw [decide_eq_false (by omega), cond_f]
    exact turn_tail x0 b0
  · rw [if_neg g0, decide_eq_true (by omega), cond_t]

end Go.Proofs.Ytdfchkmfamnocaa
