/- The plain law of FnExactConfirm: what the printed functions compute is true, for all data in range. -/
import Derived.Test.YtpioofmdambjoaaGreatXConfirmPure0
namespace Go.Proofs.YtpioofmdambjoaaGreat
open V
set_option linter.unusedVariables false
set_option linter.unusedSimpArgs false
set_option maxHeartbeats 1000000
theorem bnd {α β : Type} {e : Option α} {a : α} {f : α → Option β} {r : Option β} (h : e = some a) (hf : f a = r) : e.bind f = r := by rw [h, bind_s]; exact hf
theorem bndk {α β : Type} {f : Int → Option α} {k k' : Int} (hk : k' = k) {a : α} (h : f k = some a) {g : α → Option β} {r : Option β} (hg : g a = r) : (f k').bind g = r := by rw [hk, h, bind_s]; exact hg
theorem cF {α : Type} {c : Bool} {a b r : α} (h : c = false) (hb : b = r) : (bif c then a else b) = r := by rw [h, cond_f]; exact hb
theorem cT {α : Type} {c : Bool} {a b r : α} (h : c = true) (ha : a = r) : (bif c then a else b) = r := by rw [h, cond_t]; exact ha
theorem nbeq {α : Type} [BEq α] [ReflBEq α] (a : α) : (!(a == a)) = false := by rw [beq_self_eq_true]; rfl
def szR (s : Nat) (L : Int) : Int := if (s : Int) ≤ L then L - s else -1
theorem szR_b {s1 s2 : Nat} {L : Int} (h0 : 0 ≤ L) (h1 : L ≤ 1048576) {e : Option Int} (he : e = some (szR s1 L)) {f : Int → Option Int} (hf : ∀ M, 0 ≤ M → M ≤ 1048576 → f M = some (szR s2 M)) : (e.bind fun y => bif decide (y < (0 : Int)) then some (-1 : Int) else f y) = some (szR (s1 + s2) L) := by
  rw [he, bind_s]
  unfold szR
  by_cases g : (s1 : Int) ≤ L
  · rw [if_pos g, decide_eq_false (by omega), cond_f, hf _ (by omega) (by omega)]
    unfold szR
    by_cases k : (s2 : Int) ≤ L - s1
    · rw [if_pos k, if_pos (by omega)]; congr 1; omega
    · rw [if_neg k, if_neg (by omega)]
  · rw [if_neg g, decide_eq_true (by omega), cond_t, if_neg (by omega)]
theorem szR_l {s : Nat} {L : Int} (h0 : 0 ≤ L) {e : Option Int} (he : e = some (szR s L)) : (e.bind fun y => bif decide (y < (0 : Int)) then some (-1 : Int) else some y) = some (szR s L) := by
  rw [he, bind_s]
  unfold szR
  by_cases g : (s : Int) ≤ L
  · rw [if_pos g, decide_eq_false (by omega), cond_f]
  · rw [if_neg g, decide_eq_true (by omega), cond_t]
theorem sz_law {s : Nat} {L : Int} (h0 : 0 ≤ L) {e : Option Int} (he : e = some (szR s L)) {f : Int → Option Bool} (hf : (s : Int) ≤ L → f (L - s) = some true) : (e.bind fun y => bif decide (y < (0 : Int)) then some true else f y) = some true := by
  rw [he, bind_s]
  unfold szR
  by_cases g : (s : Int) ≤ L
  · rw [if_pos g, decide_eq_false (by omega), cond_f]; exact hf g
  · rw [if_neg g, decide_eq_true (by omega), cond_t]
def fnd {α : Type} (p : α → Bool) : List α → Int → Int
  | [], _ => -1
  | x :: xs, k => bif p x then k else fnd p xs (k + 1)
theorem fnd_cons {α : Type} (p : α → Bool) (x : α) (xs : List α) (k : Int) : fnd p (x :: xs) k = bif p x then k else fnd p xs (k + 1) := rfl
theorem fnd_step {α : Type} (p : α → Bool) {xs : List α} {i : Nat} (h : i < xs.length) : fnd p (xs.drop i) (i : Int) = bif p xs[i] then (i : Int) else fnd p (xs.drop (i + 1)) ((i + 1 : Nat) : Int) := by
  rw [List.drop_eq_getElem_cons h, fnd_cons]; rfl
theorem fnd_last {α : Type} (p : α → Bool) (xs : List α) (k : Int) : fnd p (xs.drop xs.length) k = -1 := by
  rw [List.drop_length]; rfl
theorem fnd_ge {α : Type} (p : α → Bool) (xs : List α) : ∀ k : Int, 0 ≤ k → decide (fnd p xs k ≥ 0) = xs.any p := by
  induction xs with
  | nil => intro k hk; rfl
  | cons x t ih =>
    intro k hk
    rw [fnd_cons, List.any_cons]
    cases p x with
    | true => rw [cond_t, Bool.true_or]; exact decide_eq_true hk
    | false => rw [cond_f, Bool.false_or]; exact ih _ (by omega)
theorem fnd_at {α : Type} (p : α → Bool) (xs : List α) : ∀ (k : Int) (i : Nat) (h : i < xs.length), p xs[i] = true → (fnd p xs k != k + i) = (xs.take i).any p := by
  induction xs with
  | nil => intro k i h; simp at h
  | cons x t ih =>
    intro k i h hp
    cases i with
    | zero =>
      have hx : p x = true := hp
      rw [fnd_cons, hx, cond_t]; simp
    | succ i =>
      rw [fnd_cons, List.take_succ_cons, List.any_cons]
      cases hx : p x with
      | true => rw [cond_t, Bool.true_or]; simp; omega
      | false =>
        rw [cond_f, Bool.false_or, ← ih (k + 1) i (by simpa using h) (by simpa using hp)]
        congr 1; omega
theorem l1In_v (a b c : Int) : spec_l1In a b c = some (decide (b ≤ a) && decide (a ≤ c)) := by
  show (bif decide (b ≤ a) then some (decide (a ≤ c)) else some false) = _
  cases decide (b ≤ a) <;> rfl
theorem InRange_v (a b c : Int) : impl_InRange a b c = some (decide (b ≤ a) && decide (a ≤ c)) := by
  show (bif decide (b ≤ a) then some (decide (a ≤ c)) else some false) = _
  cases decide (b ≤ a) <;> rfl
def sizeS {α : Type} (size : α → Nat) (xs : List α) : Nat := xs.length + (xs.map size).sum
structure MaxS {α : Type} (M : α → Prop) (xs : List α) : Prop where
  len : xs.length ≤ 9223372036854775807
  each : ∀ i (h : i < xs.length), M xs[i]
theorem sum_step {α : Type} (size : α → Nat) {xs : List α} {i : Nat} (h : i < xs.length) : ((xs.drop i).map size).sum = size xs[i] + ((xs.drop (i + 1)).map size).sum := by
  rw [List.drop_eq_getElem_cons h, List.map_cons, List.sum_cons]
theorem sum_last {α : Type} (size : α → Nat) (xs : List α) : ((xs.drop xs.length).map size).sum = 0 := by
  rw [List.drop_length]; rfl
theorem size_at {α : Type} (size : α → Nat) {xs : List α} {i : Nat} (h : i < xs.length) : size xs[i] ≤ (xs.map size).sum := by
  induction xs generalizing i with
  | nil => simp at h
  | cons x t ih =>
    rw [List.map_cons, List.sum_cons]
    cases i with
    | zero => show size x ≤ _; omega
    | succ i =>
      have hi : i < t.length := by simpa using h
      have := ih hi
      show size t[i] ≤ _
      omega
theorem szList_l {α : Type} (xs : List α) (d : α) (size : α → Nat) (f : α → Int → Option Int) (hl : xs.length ≤ 1048576) (hf : ∀ i (h : i < xs.length) (L : Int), 0 ≤ L → L ≤ 1048576 → f xs[i] L = some (if (size xs[i] : Int) ≤ L then L - size xs[i] else -1)) (l : Nat → Int → Int → Option Int) (u : ∀ n a b, l (n + 1) a b = (bif decide (b < (xs.length : Int)) then bif decide (0 ≤ b) then bif decide (b < (xs.length : Int)) then (f (xs.getD b.toNat d) a).bind fun y1 => bif decide (y1 < (0 : Int)) then some (-1 : Int) else l n y1 (IntKind.i64.wrap (b + (1 : Int))) else none else none else some a)) : ∀ i n, i ≤ xs.length → xs.length - i < n → ∀ L : Int, 0 ≤ L → L ≤ 1048576 → l n L (i : Int) = some (if (((xs.drop i).map size).sum : Int) ≤ L then L - ((xs.drop i).map size).sum else -1) := by
  refine idx_ind ?_ ?_
  · intro n L h0 h1
    rw [u]
    simp only [lt_f (Nat.le_refl _), cond_f, sum_last]
    rw [if_pos (by omega)]
    congr 1; omega
  · intro i n hi ih L h0 h1
    rw [u]
    simp only [lt_t hi, ge_t, cond_t, Int.toNat_natCast, at_n hi, hf i hi L h0 h1, bind_s, w64_succ (i := i) (by omega)]
    rw [sum_step _ hi]
    by_cases g : (size xs[i] : Int) ≤ L
    · rw [if_pos g, decide_eq_false (by omega), cond_f, ih _ (by omega) (by omega)]
      by_cases k : ((((xs.drop (i + 1)).map size).sum : Nat) : Int) ≤ L - size xs[i]
      · rw [if_pos k, if_pos (by omega)]; congr 1; omega
      · rw [if_neg k, if_neg (by omega)]
    · rw [if_neg g, decide_eq_true (by omega), cond_t, if_neg (by omega)]
theorem szList_v {α : Type} (xs : List α) (d : α) (size : α → Nat) (f : α → Int → Option Int) (L : Int) (hm : xs.length ≤ 9223372036854775807) (h0 : 0 ≤ L) (h1 : L ≤ 1048576) (hf : ∀ i (h : i < xs.length) (L : Int), 0 ≤ L → L ≤ 1048576 → f xs[i] L = some (if (size xs[i] : Int) ≤ L then L - size xs[i] else -1)) (l : Nat → Int → Int → Option Int) (u : ∀ n a b, l (n + 1) a b = (bif decide (b < (xs.length : Int)) then bif decide (0 ≤ b) then bif decide (b < (xs.length : Int)) then (f (xs.getD b.toNat d) a).bind fun y1 => bif decide (y1 < (0 : Int)) then some (-1 : Int) else l n y1 (IntKind.i64.wrap (b + (1 : Int))) else none else none else some a)) : (bif decide ((IntKind.i64.wrap (L - (xs.length : Int))) < (0 : Int)) then some (-1 : Int) else l KK (IntKind.i64.wrap (L - (xs.length : Int))) (0 : Int)) = some (if (sizeS size xs : Int) ≤ L then L - sizeS size xs else -1) := by
  unfold sizeS
  rw [w64 (by omega) (by omega)]
  by_cases g : (xs.length : Int) ≤ L
  · have hh := szList_l xs d size f (by omega) hf l u 0 KK (Nat.zero_le _) (KK_gt (by omega)) (L - xs.length) (by omega) (by omega)
    rw [List.drop_zero] at hh
    rw [decide_eq_false (by omega), cond_f]
    refine Eq.trans hh ?_
    by_cases k : (((xs.map size).sum : Nat) : Int) ≤ L - xs.length
    · rw [if_pos k, if_pos (by omega)]; congr 1; omega
    · rw [if_neg k, if_neg (by omega)]
  · rw [decide_eq_true (by omega), cond_t, if_neg (by omega)]
theorem toList_v {α : Type} (xs : List α) (d : α) (f : α → Option α) (hl : xs.length ≤ 1048576) (hf : ∀ i (h : i < xs.length), f xs[i] = some xs[i]) (l : Nat → Int → List α → Option (List α)) (u : ∀ n a ys, l (n + 1) a ys = (bif decide (a < (xs.length : Int)) then bif decide (0 ≤ a) then bif decide (a < (xs.length : Int)) then (f (xs.getD a.toNat d)).bind fun y1 => bif decide (0 ≤ a) then bif decide (a < (ys.length : Int)) then l n (IntKind.i64.wrap (a + (1 : Int))) (ys.set a.toNat y1) else none else none else none else none else some ys)) : (bif ((xs.length : Int) == (xs.length : Int)) then bif decide (0 ≤ (xs.length : Int)) then bif decide ((xs.length : Int) < (68719476736 : Int)) then l KK (0 : Int) (List.replicate ((xs.length : Int).toNat) d) else none else none else none) = some xs := by
  have hh : ∀ i n, i ≤ xs.length → xs.length - i < n → ∀ ys, ys = xs.take i ++ List.replicate (xs.length - i) d → l n (i : Int) ys = some xs := by
    refine idx_ind ?_ ?_
    · intro n ys hy
      subst hy
      rw [u]
      simp only [lt_f (Nat.le_refl _), cond_f]
      simp
    · intro i n hi ih ys hy
      have hyl : i < ys.length := by subst hy; simp; omega
      rw [u]
      simp only [lt_t hi, lt_t hyl, ge_t, cond_t, Int.toNat_natCast, at_n hi, hf i hi, bind_s, w64_succ (i := i) (by omega)]
      exact ih _ (fill_set hy hi)
  rw [beq_self_eq_true, cond_t, ge_t, cond_t, decide_eq_true (by omega), cond_t, Int.toNat_natCast]
  have := hh 0 KK (Nat.zero_le _) (KK_gt (by omega)) _ rfl
  simpa using this
theorem eqList_v {α : Type} (xs : List α) (d : α) (f : α → α → Option Bool) (hl : xs.length ≤ 1152921504606846976) (hf : ∀ i (h : i < xs.length), f xs[i] xs[i] = some true) (l : Nat → Int → Option Bool) (u : ∀ n a, l (n + 1) a = (bif decide (a < (xs.length : Int)) then bif decide (0 ≤ a) then bif decide (a < (xs.length : Int)) then bif decide (0 ≤ a) then bif decide (a < (xs.length : Int)) then (f (xs.getD a.toNat d) (xs.getD a.toNat d)).bind fun y1 => bif !y1 then some false else l n (IntKind.i64.wrap (a + (1 : Int))) else none else none else none else none else some true)) : (bif (xs.length : Int) != (xs.length : Int) then some false else l KK (0 : Int)) = some true := by
  have hh : ∀ i n, i ≤ xs.length → xs.length - i < n → l n (i : Int) = some true := by
    refine idx_ind ?_ ?_
    · intro n
      rw [u]
      simp only [lt_f (Nat.le_refl _), cond_f]
    · intro i n hi ih
      rw [u]
      simp only [lt_t hi, ge_t, cond_t, Int.toNat_natCast, at_n hi, hf i hi, bind_s, w64_succ (i := i) (by omega), Bool.not_true, cond_f]
      exact ih
  rw [bne_self, cond_f]
  exact hh 0 KK (Nat.zero_le _) (KK_gt (by omega))
theorem upd_ln {α : Type} (xs : List α) (i : Nat) (f : α → α) : (upd xs i f).length = xs.length := by
  induction xs generalizing i with
  | nil => rfl
  | cons x t ih =>
    cases i with
    | zero => rfl
    | succ i => show (upd t i f).length + 1 = _; rw [ih]; rfl
theorem upd_upd {α : Type} (xs : List α) (i : Nat) (f g : α → α) : upd (upd xs i f) i g = upd xs i (fun z => g (f z)) := by
  induction xs generalizing i with
  | nil => rfl
  | cons x t ih =>
    cases i with
    | zero => rfl
    | succ i => show x :: upd (upd t i f) i g = x :: _; rw [ih]
theorem upd_get {α : Type} {xs : List α} {i : Nat} (h : i < xs.length) (f : α → α) (d : α) : (upd xs i f).getD i d = f xs[i] := by
  induction xs generalizing i with
  | nil => simp at h
  | cons x t ih =>
    cases i with
    | zero => rfl
    | succ i => exact ih (by simpa using h)
theorem upd_st {α : Type} {xs : List α} {i : Nat} (h : i < xs.length) (f : α → α) : upd xs i f = xs.set i (f xs[i]) := by
  induction xs generalizing i with
  | nil => simp at h
  | cons x t ih =>
    cases i with
    | zero => rfl
    | succ i => show x :: upd t i f = x :: _; rw [ih (by simpa using h)]; rfl
theorem wd {n : Int} (h : 0 ≤ n ∧ n ≤ 4611686018427387904) : IntKind.i64.wrap n = n := w64 (by omega) (by omega)
def mkl {α : Type} (M : α → Int → α) (E : α → Int → Int) : List α → Int → List α
  | [], _ => []
  | x :: t, k => M x k :: mkl M E t (E x k)
def endl {α : Type} (E : α → Int → Int) : List α → Int → Int
  | [], k => k
  | x :: t, k => endl E t (E x k)
theorem endl_b {α : Type} (E : α → Int → Int) (size : α → Nat) (hE : ∀ x k, k ≤ E x k ∧ E x k ≤ k + 64 * (1 + size x)) (xs : List α) : ∀ k, k ≤ endl E xs k ∧ endl E xs k ≤ k + 64 * (sizeS size xs : Nat) := by
  induction xs with
  | nil => intro k; exact ⟨Int.le_refl _, by show k ≤ _; omega⟩
  | cons x t ih =>
    intro k
    have h1 := hE x k
    have h2 := ih (E x k)
    have e : sizeS size (x :: t) = 1 + size x + sizeS size t := by unfold sizeS; simp; omega
    show k ≤ endl E t (E x k) ∧ endl E t (E x k) ≤ _
    rw [e]
    omega
theorem mark_l {α : Type} (M : α → Int → α) (E : α → Int → Int) (size : α → Nat) (hE : ∀ x k, k ≤ E x k ∧ E x k ≤ k + 64 * (1 + size x)) (l : Nat → Int → Int → List α → Option (List α × Int)) (u0 : ∀ n k (ys : List α), l (n + 1) k (ys.length : Int) ys = some (ys, k)) (u : ∀ n k (i : Nat) (ys : List α) (hi : i < ys.length), 0 ≤ k → k + 64 * (1 + (size ys[i] : Int)) ≤ 2305843009213693952 → (i : Int) ≤ 2305843009213693952 → l (n + 1) k (i : Int) ys = l n (E ys[i] k) ((i + 1 : Nat) : Int) (ys.set i (M ys[i] k))) : ∀ (suf pre : List α) (k : Int) (n : Nat), suf.length < n → 0 ≤ k → k + 64 * (sizeS size suf : Nat) ≤ 2305843009213693952 → (pre.length : Int) + suf.length ≤ 2305843009213693952 → l n k (pre.length : Int) (pre ++ suf) = some (pre ++ mkl M E suf k, endl E suf k) := by
  intro suf
  induction suf with
  | nil =>
    intro pre k n hn h0 h1 h2
    match n, hn with
    | n + 1, _ =>
      have := u0 n k (pre ++ [])
      rw [List.append_nil] at this ⊢
      rw [this]; show _ = some (pre ++ [], k); rw [List.append_nil]
  | cons x t ih =>
    intro pre k n hn h0 h1 h2
    have e : sizeS size (x :: t) = 1 + size x + sizeS size t := by unfold sizeS; simp; omega
    rw [e] at h1
    have hx := hE x k
    match n, hn with
    | n + 1, hn =>
      have hi : pre.length < (pre ++ x :: t).length := by simp
      have hg : (pre ++ x :: t)[pre.length] = x := by simp
      rw [u n k pre.length (pre ++ x :: t) hi h0 (by rw [hg]; omega) (by omega), hg]
      have hs : (pre ++ x :: t).set pre.length (M x k) = (pre ++ [M x k]) ++ t := by simp
      have := ih (pre ++ [M x k]) (E x k) n (by simp at hn; omega) (by omega) (by omega) (by simp at h2 ⊢; omega)
      rw [hs]
      simp only [List.length_append, List.length_cons, List.length_nil] at this
      rw [show pre.length + 1 = pre.length + (0 + 1) by omega, this]
      show some ((pre ++ [M x k]) ++ mkl M E t (E x k), endl E t (E x k)) = some (pre ++ (M x k :: mkl M E t (E x k)), endl E t (E x k))
      rw [List.append_assoc]; rfl
theorem held_l {α : Type} (M : α → Int → α) (E : α → Int → Int) (size : α → Nat) (hE : ∀ x k, k ≤ E x k ∧ E x k ≤ k + 64 * (1 + size x)) (xs : List α) (l : Nat → Int → Int → Option Int) (u0 : ∀ n k, l (n + 1) k (xs.length : Int) = some k) (u : ∀ n k (i : Nat) (x : α) (hi : i < xs.length), xs[i] = M x k → 0 ≤ k → k + 64 * (1 + (size x : Int)) ≤ 2305843009213693952 → (i : Int) ≤ 2305843009213693952 → l (n + 1) k (i : Int) = l n (E x k) ((i + 1 : Nat) : Int)) : ∀ (suf : List α) (pre : List α) (k : Int) (n : Nat), xs = pre ++ mkl M E suf k → suf.length < n → 0 ≤ k → k + 64 * (sizeS size suf : Nat) ≤ 2305843009213693952 → (pre.length : Int) + suf.length ≤ 2305843009213693952 → l n k (pre.length : Int) = some (endl E suf k) := by
  intro suf
  induction suf with
  | nil =>
    intro pre k n hx hn h0 h1 h2
    match n, hn with
    | n + 1, _ =>
      have e : xs.length = pre.length := by rw [hx]; show (pre ++ []).length = _; rw [List.append_nil]
      have := u0 n k
      rw [e] at this
      exact this
  | cons x t ih =>
    intro pre k n hx hn h0 h1 h2
    have e : sizeS size (x :: t) = 1 + size x + sizeS size t := by unfold sizeS; simp; omega
    rw [e] at h1
    have hb := hE x k
    have hx' : xs = pre ++ (M x k :: mkl M E t (E x k)) := hx
    match n, hn with
    | n + 1, hn =>
      have hi : pre.length < xs.length := by rw [hx']; simp
      have hg : xs[pre.length] = M x k := by
        have : xs[pre.length]? = some (M x k) := by rw [hx']; simp
        rw [List.getElem?_eq_getElem hi] at this
        injection this
      rw [u n k pre.length x hi hg h0 (by omega) (by omega)]
      have := ih (pre ++ [M x k]) (E x k) n (by rw [hx']; simp) (by simp at hn; omega) (by omega) (by omega) (by simp at h2 ⊢; omega)
      simp only [List.length_append, List.length_cons, List.length_nil] at this
      exact this
theorem szR_fl {s : Nat} {L : Int} (h0 : 0 ≤ L) (h1 : L ≤ 1048576) (hm : s ≤ 9223372036854775807) : (bif decide (IntKind.i64.wrap (L - (s : Int)) < (0 : Int)) then some (-1 : Int) else some (IntKind.i64.wrap (L - (s : Int)))) = some (szR s L) := by
  rw [w64 (by omega) (by omega)]
  unfold szR
  by_cases g : (s : Int) ≤ L
  · rw [decide_eq_false (by omega), cond_f, if_pos g]
  · rw [decide_eq_true (by omega), cond_t, if_neg g]
theorem z30 : ((3 : Int) == (0 : Int)) = false := by decide
def size0 {α : Type} (_ : α) : Nat := 0
theorem sizeS0 {α : Type} (xs : List α) : sizeS (size0 (α := α)) xs = xs.length := by
  unfold sizeS
  have : ∀ ys : List α, (ys.map size0).sum = 0 := by
    intro ys
    induction ys with
    | nil => rfl
    | cons y t ih => rw [List.map_cons, List.sum_cons, ih]; rfl
  rw [this, Nat.add_zero]
theorem szIntS_v (x0 : List Int) (L : Int) (hx : x0.length ≤ 9223372036854775807) (h0 : 0 ≤ L) (h1 : L ≤ 1048576) : laws_szIntS x0 L = some (szR x0.length L) := by
  unfold laws_szIntS
  exact szR_fl h0 h1 hx
theorem toIntS_v (x0 : List Int) (hx : x0.length ≤ 1048576) : laws_toIntS x0 = some x0 :=
  toList_v x0 (0 : Int) (fun s => some s) hx (fun i h => rfl) (laws_toIntS.l6 x0) (fun n a b => laws_toIntS.u6 x0 n a b)
theorem eqIntS_v (x0 : List Int) (hx : x0.length ≤ 1152921504606846976) : laws_eqIntS x0 x0 = some true :=
  eqList_v x0 (0 : Int) (fun s t => some (s == t)) hx (fun i h => by rw [beq_self_eq_true]) (laws_eqIntS.l8 x0 x0) (fun n a => laws_eqIntS.u8 x0 x0 n a)
def fullInt (x : Int) (k : Int) : Int := k
def fendInt (x : Int) (k : Int) : Int := k + 1
theorem fendInt_b (x : Int) (k : Int) : k ≤ fendInt x k ∧ fendInt x k ≤ k + 64 * (1 + (size0 x : Nat)) := by
  unfold fendInt size0
  omega
def mkdIntS (xs : List Int) (k : Int) : List Int := mkl fullInt fendInt xs k
def endIntS (xs : List Int) (k : Int) : Int := endl fendInt xs k
theorem endIntS_b (xs : List Int) (k : Int) : k ≤ endIntS xs k ∧ endIntS xs k ≤ k + 64 * (xs.length : Nat) := by
  have := endl_b fendInt size0 (fendInt_b) xs k
  rw [sizeS0] at this
  exact this
theorem markIntS_v (xs : List Int) (k : Int) (h0 : 0 ≤ k) (h1 : k + 64 * (xs.length : Nat) ≤ 2305843009213693952) : laws_markIntS xs k = some (mkdIntS xs k, endIntS xs k) := by
  refine mark_l fullInt fendInt size0 (fendInt_b) laws_markIntS.l4 (fun n k ys => ?_) (fun n k i ys hi h0 h1 h2 => ?_) xs [] k KK (KK_gt (by omega)) h0 (by rw [sizeS0]; exact h1) (by simp; omega)
  · rw [laws_markIntS.u4]
    simp only [laws_markIntS.g4, lt_f (Nat.le_refl _), cond_f]
  · rw [laws_markIntS.u4]
    unfold size0 at h1
    simp only [laws_markIntS.g4, upd_ln, upd_upd, upd_get hi, lt_t hi, ge_t, cond_t, Int.toNat_natCast, at_n hi, z30, cond_f]
    simp (disch := omega) only [wd]
    rfl
def sizeKeys (x : TKeys) : Nat := x.1.length
def KeysMax (x : TKeys) : Prop := x.1.length ≤ 9223372036854775807
theorem szKeys_v (x0 : TKeys) (L : Int) (hx : KeysMax x0) (h0 : 0 ≤ L) (h1 : L ≤ 1048576) : laws_szKeys x0 L = some (szR (sizeKeys x0) L) := by
  unfold laws_szKeys sizeKeys
  exact szR_l h0 (szIntS_v _ _ hx h0 h1)
theorem toKeys_v (x0 : TKeys) (hx : sizeKeys x0 ≤ 1048576) : laws_toKeys x0 = some x0 := by
  unfold sizeKeys at hx
  unfold laws_toKeys
  exact bnd (toIntS_v _ (by omega)) (rfl)
theorem eqKeys_v (a : TKeys) (hx : sizeKeys a ≤ 1152921504606846976) : laws_eqKeys a a = some true := by
  unfold sizeKeys at hx
  unfold laws_eqKeys
  exact bnd (eqIntS_v _ (by omega)) (cF rfl (cF (bne_self _) (rfl)))
def sizeHead (x : THead) : Nat := sizeKeys (Head_Keys x) + (sizeKeys (Head_Heirs x) + (sizeKeys (Head_Judge x)))
structure HeadMax (x : THead) : Prop where
  m0 : KeysMax (Head_Keys x)
  m1 : KeysMax (Head_Heirs x)
  m2 : KeysMax (Head_Judge x)
theorem szHead_v (x0 : THead) (L : Int) (hx : HeadMax x0) (h0 : 0 ≤ L) (h1 : L ≤ 1048576) : laws_szHead x0 L = some (szR (sizeHead x0) L) := by
  unfold laws_szHead sizeHead
  exact szR_b h0 h1 (szKeys_v _ _ hx.m0 h0 h1) (fun M h0 h1 => szR_b h0 h1 (szKeys_v _ _ hx.m1 h0 h1) (fun M h0 h1 => szR_l h0 (szKeys_v _ _ hx.m2 h0 h1)))
theorem toHead_v (x0 : THead) (hx : sizeHead x0 ≤ 1048576) : laws_toHead x0 = some x0 := by
  unfold sizeHead at hx
  unfold laws_toHead
  exact bnd (toKeys_v _ (by omega)) (bnd (toKeys_v _ (by omega)) (bnd (toKeys_v _ (by omega)) (rfl)))
theorem eqHead_v (a : THead) (hx : sizeHead a ≤ 1152921504606846976) : laws_eqHead a a = some true := by
  unfold sizeHead at hx
  unfold laws_eqHead
  exact cF (bne_self _) (cF (bne_self _) (cF (bne_self _) (cF (bne_self _) (cF (bne_self _) (cF (bne_self _) (cF (bne_self _) (cF (bne_self _) (bnd (eqKeys_v _ (by omega)) (cF rfl (bnd (eqKeys_v _ (by omega)) (cF rfl (cF (bne_self _) (bnd (eqKeys_v _ (by omega)) (cF rfl (cF (nbeq _) (rfl))))))))))))))))
theorem toSig_v (x0 : TSig) : laws_toSig x0 = some x0 := rfl
theorem eqSig_v (a : TSig) : laws_eqSig a a = some true := by
  unfold laws_eqSig
  simp only [bne_self, cond_f]
theorem szSigS_v (x0 : List TSig) (L : Int) (hx : x0.length ≤ 9223372036854775807) (h0 : 0 ≤ L) (h1 : L ≤ 1048576) : laws_szSigS x0 L = some (szR x0.length L) := by
  unfold laws_szSigS
  exact szR_fl h0 h1 hx
theorem toSigS_v (x0 : List TSig) (hx : x0.length ≤ 1048576) : laws_toSigS x0 = some x0 :=
  toList_v x0 dSig laws_toSig hx (fun i h => toSig_v _) (laws_toSigS.l6 x0) (fun n a b => laws_toSigS.u6 x0 n a b)
theorem eqSigS_v (x0 : List TSig) (hx : x0.length ≤ 1152921504606846976) : laws_eqSigS x0 x0 = some true :=
  eqList_v x0 dSig laws_eqSig hx (fun i h => eqSig_v _) (laws_eqSigS.l8 x0 x0) (fun n a => laws_eqSigS.u8 x0 x0 n a)
def fullSig (x : TSig) (k : Int) : TSig := (k, k + 1)
def fendSig (x : TSig) (k : Int) : Int := k + 1 + 1
theorem fendSig_b (x : TSig) (k : Int) : k ≤ fendSig x k ∧ fendSig x k ≤ k + 64 * (1 + (size0 x : Nat)) := by
  unfold fendSig size0
  omega
def mkdSigS (xs : List TSig) (k : Int) : List TSig := mkl fullSig fendSig xs k
def endSigS (xs : List TSig) (k : Int) : Int := endl fendSig xs k
theorem endSigS_b (xs : List TSig) (k : Int) : k ≤ endSigS xs k ∧ endSigS xs k ≤ k + 64 * (xs.length : Nat) := by
  have := endl_b fendSig size0 (fendSig_b) xs k
  rw [sizeS0] at this
  exact this
theorem markSigS_v (xs : List TSig) (k : Int) (h0 : 0 ≤ k) (h1 : k + 64 * (xs.length : Nat) ≤ 2305843009213693952) : laws_markSigS xs k = some (mkdSigS xs k, endSigS xs k) := by
  refine mark_l fullSig fendSig size0 (fendSig_b) laws_markSigS.l4 (fun n k ys => ?_) (fun n k i ys hi h0 h1 h2 => ?_) xs [] k KK (KK_gt (by omega)) h0 (by rw [sizeS0]; exact h1) (by simp; omega)
  · rw [laws_markSigS.u4]
    simp only [laws_markSigS.g4, lt_f (Nat.le_refl _), cond_f]
  · rw [laws_markSigS.u4]
    unfold size0 at h1
    simp only [laws_markSigS.g4, upd_ln, upd_upd, upd_get hi, lt_t hi, ge_t, cond_t, Int.toNat_natCast, at_n hi, z30, cond_f, laws_markSigS.w1]
    try simp (disch := omega) only [wd]
    simp only [upd_st hi]
    rfl
def sizeSigned (x : TSigned) : Nat := sizeHead (Signed_Head x) + ((Signed_Sigs x).length)
structure SignedMax (x : TSigned) : Prop where
  m0 : HeadMax (Signed_Head x)
  m1 : (Signed_Sigs x).length ≤ 9223372036854775807
theorem szSigned_v (x0 : TSigned) (L : Int) (hx : SignedMax x0) (h0 : 0 ≤ L) (h1 : L ≤ 1048576) : laws_szSigned x0 L = some (szR (sizeSigned x0) L) := by
  unfold laws_szSigned sizeSigned
  exact szR_b h0 h1 (szHead_v _ _ hx.m0 h0 h1) (fun M h0 h1 => szR_l h0 (szSigS_v _ _ hx.m1 h0 h1))
theorem toSigned_v (x0 : TSigned) (hx : sizeSigned x0 ≤ 1048576) : laws_toSigned x0 = some x0 := by
  unfold sizeSigned at hx
  unfold laws_toSigned
  exact bnd (toHead_v _ (by omega)) (bnd (toSigS_v _ (by omega)) (rfl))
theorem eqSigned_v (a : TSigned) (hx : sizeSigned a ≤ 1152921504606846976) : laws_eqSigned a a = some true := by
  unfold sizeSigned at hx
  unfold laws_eqSigned
  exact bnd (eqHead_v _ (by omega)) (cF rfl (bnd (eqSigS_v _ (by omega)) (cF rfl (rfl))))
def sizeSignedS (xs : List TSigned) : Nat := sizeS sizeSigned xs
def SignedSMax (xs : List TSigned) : Prop := MaxS SignedMax xs
theorem szSignedS_v (x0 : List TSigned) (L : Int) (hx : SignedSMax x0) (h0 : 0 ≤ L) (h1 : L ≤ 1048576) : laws_szSignedS x0 L = some (szR (sizeSignedS x0) L) :=
  szList_v x0 dSigned sizeSigned laws_szSigned L hx.len h0 h1 (fun i h L h0 h1 => szSigned_v _ _ (hx.each i h) h0 h1) (laws_szSignedS.l10 x0) (fun n a b => laws_szSignedS.u10 x0 n a b)
theorem toSignedS_v (x0 : List TSigned) (hx : sizeSignedS x0 ≤ 1048576) : laws_toSignedS x0 = some x0 :=
  toList_v x0 dSigned laws_toSigned (by unfold sizeSignedS sizeS at hx; omega) (fun i h => toSigned_v _ (by have := size_at sizeSigned h; unfold sizeSignedS sizeS at hx; omega)) (laws_toSignedS.l6 x0) (fun n a b => laws_toSignedS.u6 x0 n a b)
theorem eqSignedS_v (x0 : List TSigned) (hx : sizeSignedS x0 ≤ 1152921504606846976) : laws_eqSignedS x0 x0 = some true :=
  eqList_v x0 dSigned laws_eqSigned (by unfold sizeSignedS sizeS at hx; omega) (fun i h => eqSigned_v _ (by have := size_at sizeSigned h; unfold sizeSignedS sizeS at hx; omega)) (laws_eqSignedS.l8 x0 x0) (fun n a => laws_eqSignedS.u8 x0 x0 n a)
def fullSigned (x : TSigned) (k : Int) : TSigned := Signed_mk (Head_mk k (k + 1) (k + 1 + 1) (k + 1 + 1 + 1) (k + 1 + 1 + 1 + 1) (k + 1 + 1 + 1 + 1 + 1) (k + 1 + 1 + 1 + 1 + 1 + 1) (k + 1 + 1 + 1 + 1 + 1 + 1 + 1) (mkdIntS (Head_Keys (Signed_Head x)).1 (k + 1 + 1 + 1 + 1 + 1 + 1 + 1 + 1), endIntS (Head_Keys (Signed_Head x)).1 (k + 1 + 1 + 1 + 1 + 1 + 1 + 1 + 1)) (mkdIntS (Head_Heirs (Signed_Head x)).1 (endIntS (Head_Keys (Signed_Head x)).1 (k + 1 + 1 + 1 + 1 + 1 + 1 + 1 + 1) + 1), endIntS (Head_Heirs (Signed_Head x)).1 (endIntS (Head_Keys (Signed_Head x)).1 (k + 1 + 1 + 1 + 1 + 1 + 1 + 1 + 1) + 1)) (endIntS (Head_Heirs (Signed_Head x)).1 (endIntS (Head_Keys (Signed_Head x)).1 (k + 1 + 1 + 1 + 1 + 1 + 1 + 1 + 1) + 1) + 1) (mkdIntS (Head_Judge (Signed_Head x)).1 (endIntS (Head_Heirs (Signed_Head x)).1 (endIntS (Head_Keys (Signed_Head x)).1 (k + 1 + 1 + 1 + 1 + 1 + 1 + 1 + 1) + 1) + 1 + 1), endIntS (Head_Judge (Signed_Head x)).1 (endIntS (Head_Heirs (Signed_Head x)).1 (endIntS (Head_Keys (Signed_Head x)).1 (k + 1 + 1 + 1 + 1 + 1 + 1 + 1 + 1) + 1) + 1 + 1)) (Int.tmod (endIntS (Head_Judge (Signed_Head x)).1 (endIntS (Head_Heirs (Signed_Head x)).1 (endIntS (Head_Keys (Signed_Head x)).1 (k + 1 + 1 + 1 + 1 + 1 + 1 + 1 + 1) + 1) + 1 + 1) + 1) 3 == 0)) (mkdSigS (Signed_Sigs x) (endIntS (Head_Judge (Signed_Head x)).1 (endIntS (Head_Heirs (Signed_Head x)).1 (endIntS (Head_Keys (Signed_Head x)).1 (k + 1 + 1 + 1 + 1 + 1 + 1 + 1 + 1) + 1) + 1 + 1) + 1 + 1))
def fendSigned (x : TSigned) (k : Int) : Int := endSigS (Signed_Sigs x) (endIntS (Head_Judge (Signed_Head x)).1 (endIntS (Head_Heirs (Signed_Head x)).1 (endIntS (Head_Keys (Signed_Head x)).1 (k + 1 + 1 + 1 + 1 + 1 + 1 + 1 + 1) + 1) + 1 + 1) + 1 + 1)
theorem fendSigned_b (x : TSigned) (k : Int) : k ≤ fendSigned x k ∧ fendSigned x k ≤ k + 64 * (1 + (sizeSigned x : Nat)) := by
  unfold fendSigned sizeSigned sizeHead sizeKeys
  have b0 := endIntS_b (Head_Keys (Signed_Head x)).1 (k + 1 + 1 + 1 + 1 + 1 + 1 + 1 + 1)
  have b1 := endIntS_b (Head_Heirs (Signed_Head x)).1 (endIntS (Head_Keys (Signed_Head x)).1 (k + 1 + 1 + 1 + 1 + 1 + 1 + 1 + 1) + 1)
  have b2 := endIntS_b (Head_Judge (Signed_Head x)).1 (endIntS (Head_Heirs (Signed_Head x)).1 (endIntS (Head_Keys (Signed_Head x)).1 (k + 1 + 1 + 1 + 1 + 1 + 1 + 1 + 1) + 1) + 1 + 1)
  have b3 := endSigS_b (Signed_Sigs x) (endIntS (Head_Judge (Signed_Head x)).1 (endIntS (Head_Heirs (Signed_Head x)).1 (endIntS (Head_Keys (Signed_Head x)).1 (k + 1 + 1 + 1 + 1 + 1 + 1 + 1 + 1) + 1) + 1 + 1) + 1 + 1)
  omega
def mkdSignedS (xs : List TSigned) (k : Int) : List TSigned := mkl fullSigned fendSigned xs k
def endSignedS (xs : List TSigned) (k : Int) : Int := endl fendSigned xs k
theorem endSignedS_b (xs : List TSigned) (k : Int) : k ≤ endSignedS xs k ∧ endSignedS xs k ≤ k + 64 * (sizeSignedS xs : Nat) := by
  have := endl_b fendSigned sizeSigned (fendSigned_b) xs k
  exact this
theorem markSignedS_v (xs : List TSigned) (k : Int) (h0 : 0 ≤ k) (h1 : k + 64 * (sizeSignedS xs : Nat) ≤ 2305843009213693952) : laws_markSignedS xs k = some (mkdSignedS xs k, endSignedS xs k) := by
  refine mark_l fullSigned fendSigned sizeSigned (fendSigned_b) laws_markSignedS.l4 (fun n k ys => ?_) (fun n k i ys hi h0 h1 h2 => ?_) xs [] k KK (KK_gt (by unfold sizeSignedS sizeS at h1; omega)) h0 (h1) (by unfold sizeSignedS sizeS at h1; simp; omega)
  · rw [laws_markSignedS.u4]
    simp only [laws_markSignedS.g4, lt_f (Nat.le_refl _), cond_f]
  · rw [laws_markSignedS.u4]
    unfold sizeSigned sizeHead sizeKeys at h1
    simp only [laws_markSignedS.g4, upd_ln, upd_upd, upd_get hi, lt_t hi, ge_t, cond_t, Int.toNat_natCast, at_n hi, z30, cond_f, laws_markSignedS.w1, laws_markSignedS.w2, laws_markSignedS.w3, laws_markSignedS.w4, laws_markSignedS.w5, laws_markSignedS.w6, laws_markSignedS.w7, laws_markSignedS.w8, laws_markSignedS.w9, laws_markSignedS.w10, laws_markSignedS.w11, laws_markSignedS.w12, laws_markSignedS.w13, laws_markSignedS.w14, laws_markSignedS.w15, laws_markSignedS.w16, Signed_Head, Signed_Sigs, Head_Zone, Head_Epoch, Head_Kind, Head_Time, Head_Until, Head_Count, Head_Root, Head_Prev, Head_Keys, Head_Heirs, Head_Wait, Head_Judge, Head_Frozen]
    have b0 := endIntS_b (Head_Keys (Signed_Head ys[i])).1 (k + 1 + 1 + 1 + 1 + 1 + 1 + 1 + 1)
    refine bndk (k := k + 1 + 1 + 1 + 1 + 1 + 1 + 1 + 1) (by first | rfl | (simp (disch := omega) only [wd])) (markIntS_v (Head_Keys (Signed_Head ys[i])).1 (k + 1 + 1 + 1 + 1 + 1 + 1 + 1 + 1) (by omega) (by omega)) ?_
    generalize hk0 : endIntS (Head_Keys (Signed_Head ys[i])).1 (k + 1 + 1 + 1 + 1 + 1 + 1 + 1 + 1) = k0 at b0 ⊢
    have b3 := endIntS_b (Head_Heirs (Signed_Head ys[i])).1 (k0 + 1)
    refine bndk (k := k0 + 1) (by first | rfl | (simp (disch := omega) only [wd])) (markIntS_v (Head_Heirs (Signed_Head ys[i])).1 (k0 + 1) (by omega) (by omega)) ?_
    generalize hk3 : endIntS (Head_Heirs (Signed_Head ys[i])).1 (k0 + 1) = k3 at b3 ⊢
    have b6 := endIntS_b (Head_Judge (Signed_Head ys[i])).1 (k3 + 1 + 1)
    refine bndk (k := k3 + 1 + 1) (by first | rfl | (simp (disch := omega) only [wd])) (markIntS_v (Head_Judge (Signed_Head ys[i])).1 (k3 + 1 + 1) (by omega) (by omega)) ?_
    generalize hk6 : endIntS (Head_Judge (Signed_Head ys[i])).1 (k3 + 1 + 1) = k6 at b6 ⊢
    have b9 := endSigS_b (Signed_Sigs ys[i]) (k6 + 1 + 1)
    refine bndk (k := k6 + 1 + 1) (by first | rfl | (simp (disch := omega) only [wd])) (markSigS_v (Signed_Sigs ys[i]) (k6 + 1 + 1) (by omega) (by omega)) ?_
    generalize hk9 : endSigS (Signed_Sigs ys[i]) (k6 + 1 + 1) = k9 at b9 ⊢
    try simp (disch := omega) only [wd]
    subst hk9
    subst hk6
    subst hk3
    subst hk0
    simp only [upd_st hi]
    rfl
theorem toMark_v (x0 : TMark) : laws_toMark x0 = some x0 := rfl
theorem eqMark_v (a : TMark) : laws_eqMark a a = some true := by
  unfold laws_eqMark
  simp only [bne_self, cond_f]
theorem szMarkS_v (x0 : List TMark) (L : Int) (hx : x0.length ≤ 9223372036854775807) (h0 : 0 ≤ L) (h1 : L ≤ 1048576) : laws_szMarkS x0 L = some (szR x0.length L) := by
  unfold laws_szMarkS
  exact szR_fl h0 h1 hx
theorem toMarkS_v (x0 : List TMark) (hx : x0.length ≤ 1048576) : laws_toMarkS x0 = some x0 :=
  toList_v x0 dMark laws_toMark hx (fun i h => toMark_v _) (laws_toMarkS.l6 x0) (fun n a b => laws_toMarkS.u6 x0 n a b)
theorem eqMarkS_v (x0 : List TMark) (hx : x0.length ≤ 1152921504606846976) : laws_eqMarkS x0 x0 = some true :=
  eqList_v x0 dMark laws_eqMark hx (fun i h => eqMark_v _) (laws_eqMarkS.l8 x0 x0) (fun n a => laws_eqMarkS.u8 x0 x0 n a)
def fullMark (x : TMark) (k : Int) : TMark := (k, k + 1, k + 1 + 1)
def fendMark (x : TMark) (k : Int) : Int := k + 1 + 1 + 1
theorem fendMark_b (x : TMark) (k : Int) : k ≤ fendMark x k ∧ fendMark x k ≤ k + 64 * (1 + (size0 x : Nat)) := by
  unfold fendMark size0
  omega
def mkdMarkS (xs : List TMark) (k : Int) : List TMark := mkl fullMark fendMark xs k
def endMarkS (xs : List TMark) (k : Int) : Int := endl fendMark xs k
theorem endMarkS_b (xs : List TMark) (k : Int) : k ≤ endMarkS xs k ∧ endMarkS xs k ≤ k + 64 * (xs.length : Nat) := by
  have := endl_b fendMark size0 (fendMark_b) xs k
  rw [sizeS0] at this
  exact this
theorem markMarkS_v (xs : List TMark) (k : Int) (h0 : 0 ≤ k) (h1 : k + 64 * (xs.length : Nat) ≤ 2305843009213693952) : laws_markMarkS xs k = some (mkdMarkS xs k, endMarkS xs k) := by
  refine mark_l fullMark fendMark size0 (fendMark_b) laws_markMarkS.l4 (fun n k ys => ?_) (fun n k i ys hi h0 h1 h2 => ?_) xs [] k KK (KK_gt (by omega)) h0 (by rw [sizeS0]; exact h1) (by simp; omega)
  · rw [laws_markMarkS.u4]
    simp only [laws_markMarkS.g4, lt_f (Nat.le_refl _), cond_f]
  · rw [laws_markMarkS.u4]
    unfold size0 at h1
    simp only [laws_markMarkS.g4, upd_ln, upd_upd, upd_get hi, lt_t hi, ge_t, cond_t, Int.toNat_natCast, at_n hi, z30, cond_f, laws_markMarkS.w1, laws_markMarkS.w2]
    try simp (disch := omega) only [wd]
    simp only [upd_st hi]
    rfl
theorem heldMarkS_v (xs : List TMark) (k : Int) (h0 : 0 ≤ k) (h1 : k + 64 * (xs.length : Nat) ≤ 2305843009213693952) : laws_heldMarkS (mkdMarkS xs k) k = some (endMarkS xs k) := by
  refine held_l fullMark fendMark size0 (fendMark_b) (mkdMarkS xs k) (laws_heldMarkS.l4 (mkdMarkS xs k)) (fun n k => ?_) (fun n k i x hi hx h0 h1 h2 => ?_) xs [] k KK rfl (KK_gt (by omega)) h0 (by rw [sizeS0]; exact h1) (by simp; omega)
  · rw [laws_heldMarkS.u4]
    simp only [laws_heldMarkS.g4, lt_f (Nat.le_refl _), cond_f]
  · rw [laws_heldMarkS.u4]
    unfold size0 at h1
    simp only [laws_heldMarkS.g4, lt_t hi, ge_t, cond_t, Int.toNat_natCast, at_n hi, hx, z30, cond_f]
    refine cF (by first | exact bne_self _ | (simp (disch := omega) only [wd]; exact bne_self _)) ?_
    refine cF (by first | exact bne_self _ | (simp (disch := omega) only [wd]; exact bne_self _)) ?_
    refine cF (by first | exact bne_self _ | (simp (disch := omega) only [wd]; exact bne_self _)) ?_
    try simp (disch := omega) only [wd]
    rfl
def sizeWitness (x : TWitness) : Nat := x.2.length
def WitnessMax (x : TWitness) : Prop := x.2.length ≤ 9223372036854775807
theorem szWitness_v (x0 : TWitness) (L : Int) (hx : WitnessMax x0) (h0 : 0 ≤ L) (h1 : L ≤ 1048576) : laws_szWitness x0 L = some (szR (sizeWitness x0) L) := by
  unfold laws_szWitness sizeWitness
  exact szR_l h0 (szMarkS_v _ _ hx h0 h1)
theorem toWitness_v (x0 : TWitness) (hx : sizeWitness x0 ≤ 1048576) : laws_toWitness x0 = some x0 := by
  unfold sizeWitness at hx
  unfold laws_toWitness
  exact bnd (toMarkS_v _ (by omega)) (rfl)
theorem eqWitness_v (a : TWitness) (hx : sizeWitness a ≤ 1152921504606846976) : laws_eqWitness a a = some true := by
  unfold sizeWitness at hx
  unfold laws_eqWitness
  exact cF (bne_self _) (bnd (eqMarkS_v _ (by omega)) (cF rfl (rfl)))
def mkdWitness (x : TWitness) (k : Int) : TWitness := (x.1, mkdMarkS x.2 k)
def endWitness (x : TWitness) (k : Int) : Int := endMarkS x.2 k
theorem endWitness_b (x : TWitness) (k : Int) : k ≤ endWitness x k ∧ endWitness x k ≤ k + 64 * (sizeWitness x : Nat) := by
  unfold endWitness sizeWitness
  have b1 := endMarkS_b x.2 k
  omega
theorem markWitness_v (x : TWitness) (k : Int) (h0 : 0 ≤ k) (h1 : k + 64 * (sizeWitness x : Nat) ≤ 2305843009213693952) : laws_markWitness x k = some ((mkdWitness x k).2, endWitness x k) := by
  unfold sizeWitness at h1
  have b1 := endMarkS_b x.2 k
  unfold laws_markWitness
  exact bnd (markMarkS_v x.2 k (by omega) (by omega)) (rfl)
theorem heldWitness_v (x : TWitness) (k : Int) (h0 : 0 ≤ k) (h1 : k + 64 * (sizeWitness x : Nat) ≤ 2305843009213693952) : laws_heldWitness (mkdWitness x k) k = some (endWitness x k) := by
  unfold sizeWitness at h1
  have b1 := endMarkS_b x.2 k
  unfold laws_heldWitness
  exact bnd (heldMarkS_v x.2 k (by omega) (by omega)) (cF (decide_eq_false (by omega)) (rfl))
theorem Grow_v (n : Int) (h0 : 0 ≤ n) (h1 : n < 68719476736) : slices_Grow_int [] n = some [] := by
  have e0 : IntKind.i64.wrap ((0 : Int) - ((0 : Nat) : Int)) = 0 := w64 (by omega) (by omega)
  have e1 : IntKind.i64.wrap (n - 0) = n := by rw [w64 (by omega) (by omega)]; omega
  unfold slices_Grow_int
  simp only [slices_Grow_int.b, slices_Grow_int.l7, slices_Grow_int.g7, e0, e1]
  rw [decide_eq_false (by omega), cond_f]
  by_cases h : n > 0
  · rw [decide_eq_true h, cond_t, decide_eq_true (by omega), cond_t, decide_eq_true h1, cond_t, decide_eq_true (by omega), cond_t, decide_eq_true (by omega), cond_t, decide_eq_true (by omega), cond_t]
    simp
  · rw [decide_eq_false h, cond_f]
theorem Concat_l22 (x0 : List (List Int)) (hl : x0.length < 1152921504606846976) : ∀ i n, i ≤ x0.length → x0.length - i < n → ∀ acc : List Int, acc.length + (x0.drop i).flatten.length < 68719476736 → slices_Concat_int.l22 x0 n (x0.length : Int) (i : Int) acc = some (acc ++ (x0.drop i).flatten) := by
  refine idx_ind ?_ ?_
  · intro n acc ha
    rw [slices_Concat_int.u22]
    simp only [slices_Concat_int.g22, lt_f (Nat.le_refl _), cond_f, List.drop_length, List.flatten_nil, List.append_nil]
  · intro i n hi ih acc ha
    rw [List.drop_eq_getElem_cons hi, List.flatten_cons] at ha ⊢
    rw [List.length_append] at ha
    rw [slices_Concat_int.u22]
    simp only [slices_Concat_int.g22, lt_t hi, ge_t, cond_t, w64_succ (i := i) (by omega), Int.toNat_natCast, at_n hi]
    rw [decide_eq_true (by omega), cond_t, ih _ (by rw [List.length_append]; omega), List.append_assoc]
theorem Concat_l6 (x0 : List (List Int)) (hl : x0.length < 1152921504606846976) (hf : x0.flatten.length < 68719476736) : ∀ i n, i ≤ x0.length → x0.length - i < n → ∀ s : Int, 0 ≤ s → s + (x0.drop i).flatten.length < 68719476736 → slices_Concat_int.l6 x0 n s (x0.length : Int) (i : Int) = some x0.flatten := by
  refine idx_ind ?_ ?_
  · intro n s h0 ha
    rw [slices_Concat_int.u6]
    rw [List.drop_length, List.flatten_nil] at ha
    simp only [slices_Concat_int.g6, lt_f (Nat.le_refl _), cond_f]
    rw [Grow_v s h0 (by simpa using ha), bind_s]
    have := Concat_l22 x0 hl 0 KK (Nat.zero_le _) (KK_gt (by omega)) [] (by simpa using hf)
    simpa using this
  · intro i n hi ih s h0 ha
    rw [List.drop_eq_getElem_cons hi, List.flatten_cons, List.length_append] at ha
    rw [slices_Concat_int.u6]
    simp only [slices_Concat_int.g6, lt_t hi, ge_t, cond_t, w64_succ (i := i) (by omega), Int.toNat_natCast, at_n hi]
    rw [w64 (n := s + (x0[i].length : Int)) (by omega) (by omega), decide_eq_false (by omega), cond_f, ih _ (by omega) (by omega)]
theorem Concat_v (x0 : List (List Int)) (hl : x0.length < 1152921504606846976) (hf : x0.flatten.length < 68719476736) : slices_Concat_int x0 = some x0.flatten := by
  have := Concat_l6 x0 hl hf 0 KK (Nat.zero_le _) (KK_gt (by omega)) 0 (Int.le_refl 0) (by rw [List.drop_zero, Int.zero_add]; omega)
  exact this
theorem Mod_eq (a b : Int) : spec_Mod a b = impl_Mod a b := by
  unfold spec_Mod impl_Mod
  rw [l1In_v, InRange_v]
def mod2 (a : Int) : Int := Int.tmod (IntKind.i64.wrap (Int.tmod a 2147483647 + 2147483647)) 2147483647
theorem Mod_v (a : Int) : impl_Mod a 2147483647 = some (mod2 a) := by
  unfold impl_Mod mod2
  rw [InRange_v, bind_s]
  rw [decide_eq_true (by omega), decide_eq_true (by omega), Bool.and_self, Bool.not_true, cond_f]
  rw [show ((2147483647 : Int) == 0) = false from by decide, cond_f, cond_f]
def hstep (h a : Int) : Int := Int.tmod (IntKind.i64.wrap ((IntKind.i64.wrap ((IntKind.i64.wrap (h * (1000003 : Int))) + mod2 a)) + (13 : Int))) (2147483647 : Int)
theorem sHash_l (x0 : List Int) (hx : x0.length ≤ 1152921504606846976) : ∀ i n, i ≤ x0.length → x0.length - i < n → ∀ h : Int, spec_Hash.l6 x0 n h (i : Int) = some ((x0.drop i).foldl hstep h) := by
  refine idx_ind ?_ ?_
  · intro n h
    rw [spec_Hash.u6]
    simp only [spec_Hash.g6, lt_f (Nat.le_refl _), cond_f, List.drop_length, List.foldl_nil]
  · intro i n hi ih h
    rw [List.drop_eq_getElem_cons hi, List.foldl_cons]
    rw [spec_Hash.u6]
    simp only [spec_Hash.g6, lt_t hi, ge_t, cond_t, bind_s, w64_succ (i := i) (by omega), Int.toNat_natCast, at_n hi, Mod_eq, Mod_v]
    rw [show ((2147483647 : Int) == 0) = false from by decide, cond_f, ih]
    rfl
theorem iHash_l (x0 : List Int) (hx : x0.length ≤ 1152921504606846976) : ∀ i n, i ≤ x0.length → x0.length - i < n → ∀ h : Int, impl_Hash.l6 x0 n h (x0.length : Int) (i : Int) = some ((x0.drop i).foldl hstep h) := by
  refine idx_ind ?_ ?_
  · intro n h
    rw [impl_Hash.u6]
    simp only [impl_Hash.g6, lt_f (Nat.le_refl _), cond_f, List.drop_length, List.foldl_nil]
  · intro i n hi ih h
    rw [List.drop_eq_getElem_cons hi, List.foldl_cons]
    rw [impl_Hash.u6]
    simp only [impl_Hash.g6, lt_t hi, ge_t, cond_t, bind_s, w64_succ (i := i) (by omega), Int.toNat_natCast, at_n hi, Mod_v]
    rw [show ((2147483647 : Int) == 0) = false from by decide, cond_f, ih]
    rfl
theorem sHash_v (x0 : List Int) (hx : x0.length ≤ 1152921504606846976) : spec_Hash x0 = some (x0.foldl hstep 11) := by
  have := sHash_l x0 hx 0 KK (Nat.zero_le _) (KK_gt (by omega)) 11
  rw [List.drop_zero] at this
  exact this
theorem iHash_v (x0 : List Int) (hx : x0.length ≤ 1152921504606846976) : impl_Hash x0 = some (x0.foldl hstep 11) := by
  have := iHash_l x0 hx 0 KK (Nat.zero_le _) (KK_gt (by omega)) 11
  rw [List.drop_zero] at this
  exact this
def keysInts (k : TKeys) : List Int := [k.2, (k.1.length : Int)] ++ k.1
theorem keysInts_len (k : TKeys) : (keysInts k).length = k.1.length + 2 := by unfold keysInts; simp
theorem sKeysInts_v (k : TKeys) (h : k.1.length ≤ 1048576) : spec_KeysInts k = some (keysInts k) := by
  unfold spec_KeysInts keysInts
  rw [decide_eq_true (by simp; omega), cond_t]
theorem iKeysInts_v (k : TKeys) (h : k.1.length ≤ 1048576) : impl_KeysInts k = some (keysInts k) := by
  unfold impl_KeysInts keysInts
  rw [decide_eq_true (by simp; omega), cond_t]
def hd8 (x0 : THead) : List Int := [(Head_Zone x0), (Head_Epoch x0), (Head_Kind x0), (Head_Time x0), (Head_Until x0), (Head_Count x0), (Head_Root x0), (Head_Prev x0)]
def hde (x0 : THead) : List Int := [(Head_Wait x0)]
def hdb (x0 : THead) : List Int := [bif (Head_Frozen x0) then (1 : Int) else 0]
def headInts (x0 : THead) : List Int := ((((hd8 x0 ++ keysInts (Head_Keys x0)) ++ keysInts (Head_Heirs x0)) ++ hde x0) ++ keysInts (Head_Judge x0)) ++ hdb x0
theorem headInts_len (x0 : THead) : (headInts x0).length = sizeHead x0 + 16 := by
  unfold headInts sizeHead sizeKeys
  simp only [List.length_append, keysInts_len]
  simp [hd8, hde, hdb]; omega
theorem app_le {α : Type} (a b : List α) : (a ++ b).length = a.length + b.length := List.length_append
theorem sHeadInts_v (x0 : THead) (h : sizeHead x0 ≤ 1048576) : spec_HeadInts x0 = some (headInts x0) := by
  have hs := h
  unfold sizeHead sizeKeys at hs
  have e1 := sKeysInts_v (Head_Keys x0) (by omega)
  have e2 := sKeysInts_v (Head_Heirs x0) (by omega)
  have e3 := sKeysInts_v (Head_Judge x0) (by omega)
  have l1 := keysInts_len (Head_Keys x0)
  have l2 := keysInts_len (Head_Heirs x0)
  have l3 := keysInts_len (Head_Judge x0)
  have l8 : (hd8 x0).length = 8 := rfl
  have le : (hde x0).length = 1 := rfl
  show ((spec_KeysInts (Head_Keys x0)).bind fun y1 => bif decide ((hd8 x0).length + y1.length < 68719476736) then (spec_KeysInts (Head_Heirs x0)).bind fun y2 => bif decide ((hd8 x0 ++ y1).length + y2.length < 68719476736) then bif decide (((hd8 x0 ++ y1) ++ y2).length + (hde x0).length < 68719476736) then (spec_KeysInts (Head_Judge x0)).bind fun y3 => bif decide ((((hd8 x0 ++ y1) ++ y2) ++ hde x0).length + y3.length < 68719476736) then bif (Head_Frozen x0) then bif decide (((((hd8 x0 ++ y1) ++ y2) ++ hde x0) ++ y3).length + [(1 : Int)].length < 68719476736) then some (((((hd8 x0 ++ y1) ++ y2) ++ hde x0) ++ y3) ++ [(1 : Int)]) else none else bif decide (((((hd8 x0 ++ y1) ++ y2) ++ hde x0) ++ y3).length + [(0 : Int)].length < 68719476736) then some (((((hd8 x0 ++ y1) ++ y2) ++ hde x0) ++ y3) ++ [(0 : Int)]) else none else none else none else none else none) = _
  simp only [e1, e2, e3, bind_s, app_le, l1, l2, l3, l8, le, List.length_singleton]
  rw [decide_eq_true (by omega), cond_t, decide_eq_true (by omega), cond_t, decide_eq_true (by omega), cond_t, decide_eq_true (by omega), cond_t, decide_eq_true (by omega), cond_t]
  unfold headInts hdb
  cases (Head_Frozen x0) <;> rfl
theorem iHeadInts_v (x0 : THead) (h : sizeHead x0 ≤ 1048576) : impl_HeadInts x0 = some (headInts x0) := by
  have hs := h
  unfold sizeHead sizeKeys at hs
  have e1 := iKeysInts_v (Head_Keys x0) (by omega)
  have e2 := iKeysInts_v (Head_Heirs x0) (by omega)
  have e3 := iKeysInts_v (Head_Judge x0) (by omega)
  have eb : impl_bit (Head_Frozen x0) = some (bif (Head_Frozen x0) then (1 : Int) else 0) := by
    unfold impl_bit
    cases (Head_Frozen x0) <;> rfl
  have ef : [hd8 x0, keysInts (Head_Keys x0), keysInts (Head_Heirs x0), hde x0, keysInts (Head_Judge x0), hdb x0].flatten = headInts x0 := by
    simp [headInts]
  have ec := Concat_v [hd8 x0, keysInts (Head_Keys x0), keysInts (Head_Heirs x0), hde x0, keysInts (Head_Judge x0), hdb x0] (by simp) (by rw [ef, headInts_len]; omega)
  rw [ef] at ec
  show ((impl_KeysInts (Head_Keys x0)).bind fun y1 => (impl_KeysInts (Head_Heirs x0)).bind fun y2 => (impl_KeysInts (Head_Judge x0)).bind fun y3 => (impl_bit (Head_Frozen x0)).bind fun y4 => (slices_Concat_int [hd8 x0, y1, y2, hde x0, y3, [y4]]).bind fun y5 => some y5) = _
  simp only [e1, e2, e3, eb, bind_s]
  rw [show [bif (Head_Frozen x0) then (1 : Int) else 0] = hdb x0 from rfl, ec, bind_s]
def headDigest (x0 : THead) : Int := ([(233 : Int)] ++ headInts x0).foldl hstep 11
theorem sHeadDigest_v (x0 : THead) (h : sizeHead x0 ≤ 1048576) : spec_HeadDigest x0 = some (headDigest x0) := by
  have hl := headInts_len x0
  unfold spec_HeadDigest headDigest
  rw [sHeadInts_v x0 h, bind_s, decide_eq_true (by simp [hl]; omega), cond_t, sHash_v _ (by simp [hl]; omega), bind_s]
theorem iHeadDigest_v (x0 : THead) (h : sizeHead x0 ≤ 1048576) : impl_HeadDigest x0 = some (headDigest x0) := by
  have hl := headInts_len x0
  unfold impl_HeadDigest headDigest
  rw [iHeadInts_v x0 h, bind_s, decide_eq_true (by simp [hl]; omega), cond_t, iHash_v _ (by simp [hl]; omega), bind_s]
def markOf (x0 : THead) : TMark := ((Head_Zone x0), (Head_Epoch x0), headDigest x0)
theorem sMarkOf_v (x0 : THead) (h : sizeHead x0 ≤ 1048576) : spec_MarkOf x0 = some (markOf x0) := by
  unfold spec_MarkOf
  rw [sHeadDigest_v x0 h, bind_s]; rfl
theorem iMarkOf_v (x0 : THead) (h : sizeHead x0 ≤ 1048576) : impl_MarkOf x0 = some (markOf x0) := by
  unfold impl_MarkOf
  rw [iHeadDigest_v x0 h, bind_s]; rfl
def keyedHash (k : Int) (xs : List Int) : Int := (([k] ++ xs) ++ [k]).foldl hstep 11
theorem sKeyedHash_v (k : Int) (xs : List Int) (h : xs.length ≤ 16777216) : spec_KeyedHash k xs = some (keyedHash k xs) := by
  unfold spec_KeyedHash keyedHash
  rw [decide_eq_true (by simp; omega), cond_t, decide_eq_true (by simp; omega), cond_t, sHash_v _ (by simp; omega), bind_s]
theorem iKeyedHash_v (k : Int) (xs : List Int) (h : xs.length ≤ 16777216) : impl_KeyedHash k xs = some (keyedHash k xs) := by
  have ef : [[k], xs, [k]].flatten = ([k] ++ xs) ++ [k] := by simp
  have ec := Concat_v [[k], xs, [k]] (by simp) (by rw [ef]; simp; omega)
  rw [ef] at ec
  unfold impl_KeyedHash keyedHash
  rw [ec, bind_s, iHash_v _ (by simp; omega), bind_s]
def tagOf (k : Int) (xs : List Int) : Int := keyedHash k ([(223 : Int)] ++ xs)
theorem sTagOf_v (k : Int) (xs : List Int) (h : xs.length ≤ 8388608) : spec_TagOf k xs = some (tagOf k xs) := by
  unfold spec_TagOf tagOf
  rw [decide_eq_true (by simp; omega), cond_t, sKeyedHash_v _ _ (by simp; omega), bind_s]
theorem iTagOf_v (k : Int) (xs : List Int) (h : xs.length ≤ 8388608) : impl_TagOf k xs = some (tagOf k xs) := by
  unfold impl_TagOf tagOf
  rw [decide_eq_true (by simp; omega), cond_t, iKeyedHash_v _ _ (by simp; omega), bind_s]
theorem isKey_v (k : Int) : impl_isKey k = some (decide (1 ≤ k) && decide (k ≤ 99)) := by
  unfold impl_isKey
  rw [InRange_v, bind_s]
def isSigBy (s : TSig) (xs : List Int) : Bool := (decide (1 ≤ s.1) && decide (s.1 ≤ 99)) && (s.2 == tagOf s.1 xs)
theorem sIsSigBy_v (s : TSig) (xs : List Int) (h : xs.length ≤ 8388608) : spec_IsSigBy s xs = some (isSigBy s xs) := by
  unfold spec_IsSigBy isSigBy
  rw [l1In_v, bind_s, sTagOf_v _ _ h, bind_s]
  cases (decide (1 ≤ s.1) && decide (s.1 ≤ 99)) <;> rfl
theorem iIsSigBy_v (s : TSig) (xs : List Int) (h : xs.length ≤ 8388608) : impl_IsSigBy s xs = some (isSigBy s xs) := by
  unfold impl_IsSigBy isSigBy
  rw [isKey_v, bind_s, iTagOf_v _ _ h, bind_s]
  cases (decide (1 ≤ s.1) && decide (s.1 ≤ 99)) <;> rfl
def sgBy (k : Int) (xs : List Int) (s : TSig) : Bool := s.1 == k && isSigBy s xs
theorem IndexFunc_Sig_l (x0 : List TSig) (x1 : Unit × (Int × List Int)) (hx : x0.length ≤ 1048576) (hm : x1.2.2.length ≤ 8388608) : ∀ i n, i ≤ x0.length → x0.length - i < n → slices_IndexFunc_impl_Sig__CountSigs_1.l4 x0 x1 n (x0.length : Int) (i : Int) = some (fnd (sgBy x1.2.1 x1.2.2) (x0.drop i) (i : Int)) := by
  refine idx_ind ?_ ?_
  · intro n
    rw [slices_IndexFunc_impl_Sig__CountSigs_1.u4]
    simp only [slices_IndexFunc_impl_Sig__CountSigs_1.g4, lt_f (Nat.le_refl _), cond_f, fnd_last]
  · intro i n hi ih
    rw [slices_IndexFunc_impl_Sig__CountSigs_1.u4]
    simp only [slices_IndexFunc_impl_Sig__CountSigs_1.g4, impl_CountSigs_1, iIsSigBy_v _ _ hm, lt_t hi, ge_t, cond_t, bind_s, w64_succ (i := i) (by omega), Int.toNat_natCast, at_n hi, fnd_step _ hi, ih]
    unfold sgBy
    cases (x0[i].1 == x1.2.1) <;> cases (isSigBy x0[i] x1.2.2) <;> rfl
theorem ContainsFunc_Sig_v (x0 : List TSig) (k : Int) (xs : List Int) (hx : x0.length ≤ 1048576) (hm : xs.length ≤ 8388608) : slices_ContainsFunc_impl_Sig__CountSigs_1 x0 ((), (k, xs)) = some (x0.any (sgBy k xs)) := by
  have h := IndexFunc_Sig_l x0 ((), (k, xs)) hx hm 0 KK (Nat.zero_le _) (KK_gt (by omega))
  have e : slices_IndexFunc_impl_Sig__CountSigs_1 x0 ((), (k, xs)) = some (fnd (sgBy k xs) x0 0) := by
    unfold slices_IndexFunc_impl_Sig__CountSigs_1
    simpa [slices_IndexFunc_impl_Sig__CountSigs_1.b] using h
  unfold slices_ContainsFunc_impl_Sig__CountSigs_1
  rw [e, bind_s, fnd_ge _ _ _ (Int.le_refl 0)]
def cnt (p : Int → Bool) : List Int → Int → Int
  | [], c => c
  | k :: ks, c => cnt p ks (bif p k then c + 1 else c)
theorem cnt_step (p : Int → Bool) {ks : List Int} {i : Nat} (h : i < ks.length) (c : Int) : cnt p (ks.drop i) c = cnt p (ks.drop (i + 1)) (bif p ks[i] then c + 1 else c) := by
  rw [List.drop_eq_getElem_cons h]; rfl
theorem cnt_last (p : Int → Bool) (ks : List Int) (c : Int) : cnt p (ks.drop ks.length) c = c := by
  rw [List.drop_length]; rfl
def hasSig (sg : List TSig) (xs : List Int) (k : Int) : Bool := sg.any (sgBy k xs)
theorem iCountSigs_l (x0 : TKeys) (xs : List Int) (sg : List TSig) (hk : x0.1.length ≤ 1048576) (hs : sg.length ≤ 1048576) (hm : xs.length ≤ 8388608) : ∀ i n, i ≤ x0.1.length → x0.1.length - i < n → ∀ c : Int, 0 ≤ c → c ≤ i → impl_CountSigs.l6 x0 xs sg n c (x0.1.length : Int) (i : Int) = some (cnt (hasSig sg xs) (x0.1.drop i) c) := by
  refine idx_ind ?_ ?_
  · intro n c h0 h1
    rw [impl_CountSigs.u6]
    simp only [impl_CountSigs.g6, lt_f (Nat.le_refl _), cond_f, cnt_last]
  · intro i n hi ih c h0 h1
    rw [impl_CountSigs.u6]
    simp only [impl_CountSigs.g6, lt_t hi, ge_t, cond_t, bind_s, w64_succ (i := i) (by omega), Int.toNat_natCast, at_n hi, ContainsFunc_Sig_v _ _ _ hs hm, cnt_step _ hi, w64 (n := c + 1) (by omega) (by omega)]
    rw [show sg.any (sgBy x0.1[i] xs) = hasSig sg xs x0.1[i] from rfl]
    cases hasSig sg xs x0.1[i] with
    | true => rw [cond_t, cond_t]; exact ih _ (by omega) (by omega)
    | false => rw [cond_f, cond_f]; exact ih _ (by omega) (by omega)
theorem iCountSigs_v (x0 : TKeys) (xs : List Int) (sg : List TSig) (hk : x0.1.length ≤ 1048576) (hs : sg.length ≤ 1048576) (hm : xs.length ≤ 8388608) : impl_CountSigs x0 xs sg = some (cnt (hasSig sg xs) x0.1 0) := by
  have := iCountSigs_l x0 xs sg hk hs hm 0 KK (Nat.zero_le _) (KK_gt (by omega)) 0 (Int.le_refl 0) (by omega)
  rw [List.drop_zero] at this
  exact this
theorem sCountSigs_l12 (x0 : TKeys) (xs : List Int) (sg : List TSig) (hs : sg.length ≤ 1048576) (hm : xs.length ≤ 8388608) (c : Int) (j : Nat) (hj : j < x0.1.length) (r : Int → Int → Option Int) : ∀ i n, i ≤ sg.length → sg.length - i < n → spec_CountSigs.l12 x0 xs sg c (j : Int) r n (i : Int) = bif (sg.drop i).any (sgBy x0.1[j] xs) then r (IntKind.i64.wrap (c + 1)) (IntKind.i64.wrap ((j : Int) + 1)) else r c (IntKind.i64.wrap ((j : Int) + 1)) := by
  refine idx_ind ?_ ?_
  · intro n
    rw [spec_CountSigs.u12]
    simp only [spec_CountSigs.g12, lt_f (Nat.le_refl _), cond_f, List.drop_length, List.any_nil]
  · intro i n hi ih
    rw [spec_CountSigs.u12]
    simp only [spec_CountSigs.g12, spec_CountSigs.l19, spec_CountSigs.g19, lt_t hi, lt_t hj, ge_t, cond_t, cond_f, bind_s, w64_succ (i := i) (by omega), Int.toNat_natCast, at_n hi, at_n hj, sIsSigBy_v _ _ hm, ih]
    rw [List.drop_eq_getElem_cons hi, List.any_cons]
    rw [show sgBy x0.1[j] xs sg[i] = (sg[i].1 == x0.1[j] && isSigBy sg[i] xs) from rfl]
    cases (sg[i].1 == x0.1[j]) <;> cases (isSigBy sg[i] xs) <;> rfl
theorem sCountSigs_l (x0 : TKeys) (xs : List Int) (sg : List TSig) (hk : x0.1.length ≤ 1048576) (hs : sg.length ≤ 1048576) (hm : xs.length ≤ 8388608) : ∀ i n, i ≤ x0.1.length → x0.1.length - i < n → ∀ c : Int, 0 ≤ c → c ≤ i → spec_CountSigs.l6 x0 xs sg n c (i : Int) = some (cnt (hasSig sg xs) (x0.1.drop i) c) := by
  refine idx_ind ?_ ?_
  · intro n c h0 h1
    rw [spec_CountSigs.u6]
    simp only [spec_CountSigs.g6, lt_f (Nat.le_refl _), cond_f, cnt_last]
  · intro i n hi ih c h0 h1
    have hl := sCountSigs_l12 x0 xs sg hs hm c i hi (spec_CountSigs.l6 x0 xs sg n) 0 KK (Nat.zero_le _) (KK_gt (by omega))
    rw [List.drop_zero] at hl
    rw [spec_CountSigs.u6]
    simp only [spec_CountSigs.g6, lt_t hi, cond_t]
    refine Eq.trans hl ?_
    rw [w64_succ (i := i) (by omega), w64 (n := c + 1) (by omega) (by omega), cnt_step _ hi]
    rw [show sg.any (sgBy x0.1[i] xs) = hasSig sg xs x0.1[i] from rfl]
    cases hasSig sg xs x0.1[i] with
    | true => rw [cond_t, cond_t]; exact ih _ (by omega) (by omega)
    | false => rw [cond_f, cond_f]; exact ih _ (by omega) (by omega)
theorem sCountSigs_v (x0 : TKeys) (xs : List Int) (sg : List TSig) (hk : x0.1.length ≤ 1048576) (hs : sg.length ≤ 1048576) (hm : xs.length ≤ 8388608) : spec_CountSigs x0 xs sg = some (cnt (hasSig sg xs) x0.1 0) := by
  have := sCountSigs_l x0 xs sg hk hs hm 0 KK (Nat.zero_le _) (KK_gt (by omega)) 0 (Int.le_refl 0) (by omega)
  rw [List.drop_zero] at this
  exact this
def gk (x0 : TKeys) (j : Nat) : Int := x0.1.getD j 0
theorem gk_def (x0 : TKeys) (j : Nat) : x0.1.getD j 0 = gk x0 j := rfl
def keysAsc (x0 : TKeys) (i : Nat) : Prop := ∀ j, j < x0.1.length → i ≤ j → 0 < j → gk x0 (j - 1) < gk x0 j
def keysIn (x0 : TKeys) (i : Nat) : Prop := ∀ j, j < x0.1.length → i ≤ j → (1 ≤ gk x0 j ∧ gk x0 j ≤ 99) ∧ (0 < j → gk x0 (j - 1) < gk x0 j)
def keysNeed (x0 : TKeys) : Prop := (1 ≤ (x0.1.length : Int) ∧ (x0.1.length : Int) ≤ 4) ∧ (1 ≤ x0.2 ∧ x0.2 ≤ (x0.1.length : Int))
theorem sIsKeys_l (x0 : TKeys) (hx : x0.1.length ≤ 1048576) : ∀ i n, i ≤ x0.1.length → x0.1.length - i < n → ∃ b, spec_IsKeys.l4 x0 n (i : Int) = some b ∧ (b = true ↔ keysIn x0 i ∧ keysNeed x0) := by
  refine idx_ind ?_ ?_
  · intro n
    rw [spec_IsKeys.u4]
    simp only [spec_IsKeys.g4, lt_f (Nat.le_refl _), cond_f, l1In_v, bind_s]
    refine ⟨(decide ((1 : Int) ≤ (x0.1.length : Int)) && decide ((x0.1.length : Int) ≤ 4)) && (decide (1 ≤ x0.2) && decide (x0.2 ≤ (x0.1.length : Int))), ?_, ?_⟩
    · cases (decide ((1 : Int) ≤ (x0.1.length : Int)) && decide ((x0.1.length : Int) ≤ 4)) <;> rfl
    · unfold keysIn keysNeed
      simp only [Bool.and_eq_true, decide_eq_true_eq]
      exact ⟨fun h => ⟨fun j h1 h2 => absurd h1 (by omega), h⟩, fun h => h.2⟩
  · intro i n hi ih
    obtain ⟨b, hb, hP⟩ := ih
    rw [spec_IsKeys.u4]
    simp only [spec_IsKeys.g4, lt_t hi, ge_t, cond_t, l1In_v, bind_s, w64_succ (i := i) (by omega), Int.toNat_natCast, hb, gk_def]
    by_cases hr : 1 ≤ gk x0 i ∧ gk x0 i ≤ 99
    · rw [decide_eq_true hr.1, decide_eq_true hr.2, Bool.and_self, Bool.not_true, cond_f]
      by_cases h0 : 0 < i
      · have ew : IntKind.i64.wrap ((i : Int) - 1) = ((i - 1 : Nat) : Int) := by rw [w64 (by omega) (by omega)]; omega
        simp only [decide_eq_true (show (i : Int) > 0 by omega), cond_t, ew, ge_t, lt_t (show i - 1 < x0.1.length by omega), Int.toNat_natCast, gk_def]
        by_cases ha : gk x0 (i - 1) < gk x0 i
        · rw [decide_eq_false (by omega), cond_f]
          refine ⟨b, rfl, hP.trans ⟨fun h => ⟨fun j h1 h2 => ?_, h.2⟩, fun h => ⟨fun j h1 h2 => h.1 j h1 (by omega), h.2⟩⟩⟩
          by_cases e : j = i
          · subst e; exact ⟨hr, fun _ => ha⟩
          · exact h.1 j h1 (by omega)
        · rw [decide_eq_true (by omega), cond_t]
          refine ⟨false, rfl, ⟨fun h => Bool.noConfusion h, fun h => absurd ((h.1 i hi (Nat.le_refl _)).2 h0) ha⟩⟩
      · rw [decide_eq_false (by omega), cond_f]
        refine ⟨b, rfl, hP.trans ⟨fun h => ⟨fun j h1 h2 => ?_, h.2⟩, fun h => ⟨fun j h1 h2 => h.1 j h1 (by omega), h.2⟩⟩⟩
        by_cases e : j = i
        · subst e; exact ⟨hr, fun h => absurd h h0⟩
        · exact h.1 j h1 (by omega)
    · have e : (decide (1 ≤ gk x0 i) && decide (gk x0 i ≤ 99)) = false := by
        cases hc : (decide (1 ≤ gk x0 i) && decide (gk x0 i ≤ 99))
        · rfl
        · simp only [Bool.and_eq_true, decide_eq_true_eq] at hc; exact absurd hc hr
      rw [e, Bool.not_false, cond_t]
      exact ⟨false, rfl, ⟨fun h => Bool.noConfusion h, fun h => absurd (h.1 i hi (Nat.le_refl _)).1 hr⟩⟩
theorem asc_l (x0 : TKeys) (hx : x0.1.length ≤ 1048576) : ∀ i n, i ≤ x0.1.length → x0.1.length - i < n → ∃ b, impl_ascending.l4 x0.1 n (x0.1.length : Int) (i : Int) = some b ∧ (b = true ↔ keysAsc x0 i) := by
  refine idx_ind ?_ ?_
  · intro n
    rw [impl_ascending.u4]
    simp only [impl_ascending.g4, lt_f (Nat.le_refl _), cond_f]
    exact ⟨true, rfl, ⟨fun _ j h1 h2 => absurd h1 (by omega), fun _ => rfl⟩⟩
  · intro i n hi ih
    obtain ⟨b, hb, hP⟩ := ih
    rw [impl_ascending.u4]
    simp only [impl_ascending.g4, lt_t hi, ge_t, cond_t, w64_succ (i := i) (by omega), Int.toNat_natCast, hb, gk_def]
    by_cases h0 : 0 < i
    · have ew : IntKind.i64.wrap ((i : Int) - 1) = ((i - 1 : Nat) : Int) := by rw [w64 (by omega) (by omega)]; omega
      simp only [decide_eq_true (show (i : Int) > 0 by omega), cond_t, ew, ge_t, lt_t (show i - 1 < x0.1.length by omega), Int.toNat_natCast, gk_def]
      by_cases ha : gk x0 (i - 1) < gk x0 i
      · rw [decide_eq_false (by omega), cond_f]
        refine ⟨b, rfl, hP.trans ⟨fun h j h1 h2 h3 => ?_, fun h j h1 h2 h3 => h j h1 (by omega) h3⟩⟩
        by_cases e : j = i
        · subst e; exact ha
        · exact h j h1 (by omega) h3
      · rw [decide_eq_true (by omega), cond_t]
        exact ⟨false, rfl, ⟨fun h => Bool.noConfusion h, fun h => absurd (h i hi (Nat.le_refl _) h0) ha⟩⟩
    · rw [decide_eq_false (by omega), cond_f]
      refine ⟨b, rfl, hP.trans ⟨fun h j h1 h2 h3 => h j h1 (by omega) h3, fun h j h1 h2 h3 => h j h1 (by omega) h3⟩⟩
theorem asc_le (x0 : TKeys) (h : keysAsc x0 0) (a : Nat) : ∀ b, a ≤ b → b < x0.1.length → gk x0 a ≤ gk x0 b := by
  intro b
  induction b with
  | zero => intro h1 _; have : a = 0 := by omega
            subst this; exact Int.le_refl _
  | succ b ih =>
    intro h1 h2
    by_cases e : a = b + 1
    · subst e; exact Int.le_refl _
    · have := ih (by omega) (by omega)
      have h3 := h (b + 1) h2 (by omega) (by omega)
      rw [show b + 1 - 1 = b from rfl] at h3
      omega
theorem keysIn_of (x0 : TKeys) (h : keysAsc x0 0) (h0 : 1 ≤ gk x0 0) (h1 : gk x0 (x0.1.length - 1) ≤ 99) : keysIn x0 0 := by
  intro j hj _
  have a := asc_le x0 h 0 j (by omega) hj
  have b := asc_le x0 h j (x0.1.length - 1) (by omega) (by omega)
  exact ⟨⟨by omega, by omega⟩, h j hj (by omega)⟩
theorem bool_eq {a b : Bool} (h : a = true ↔ b = true) : a = b := by cases a <;> cases b <;> simp_all
theorem IsKeys_v (x0 : TKeys) (hx : x0.1.length ≤ 1048576) : ∃ b, spec_IsKeys x0 = some b ∧ impl_IsKeys x0 = some b := by
  obtain ⟨s, hs, hS⟩ := sIsKeys_l x0 hx 0 KK (Nat.zero_le _) (KK_gt (by omega))
  obtain ⟨a, ha, hA⟩ := asc_l x0 hx 0 KK (Nat.zero_le _) (KK_gt (by omega))
  refine ⟨s, hs, ?_⟩
  have ea : impl_ascending x0.1 = some a := ha
  unfold impl_IsKeys
  rw [InRange_v, bind_s]
  by_cases hl : 1 ≤ (x0.1.length : Int) ∧ (x0.1.length : Int) ≤ 4
  · rw [decide_eq_true hl.1, decide_eq_true hl.2, Bool.and_self, cond_t, ea, bind_s]
    have ew : IntKind.i64.wrap ((x0.1.length : Int) - 1) = ((x0.1.length - 1 : Nat) : Int) := by rw [w64 (by omega) (by omega)]; omega
    cases a with
    | false =>
      rw [cond_f]
      have : s = false := by
        cases s with
        | false => rfl
        | true =>
          have h := (hS.mp rfl).1
          exact (hA.mpr (fun j h1 h2 h3 => (h j h1 h2).2 h3)).symm
      rw [this]
    | true =>
      have hasc := hA.mp rfl
      rw [cond_t, decide_eq_true (Int.le_refl 0), cond_t, decide_eq_true (by omega), cond_t, isKey_v, bind_s, ew, ge_t, cond_t, lt_t (by omega), cond_t, isKey_v, bind_s, InRange_v, bind_s, Int.toNat_natCast, show (0 : Int).toNat = 0 from rfl]
      rw [show x0.1.getD 0 0 = gk x0 0 from rfl, show x0.1.getD (x0.1.length - 1) 0 = gk x0 (x0.1.length - 1) from rfl]
      have e : s = ((decide (1 ≤ gk x0 0) && decide (gk x0 0 ≤ 99)) && ((decide (1 ≤ gk x0 (x0.1.length - 1)) && decide (gk x0 (x0.1.length - 1) ≤ 99)) && (decide (1 ≤ x0.2) && decide (x0.2 ≤ (x0.1.length : Int))))) := by
        refine bool_eq (hS.trans ?_)
        simp only [Bool.and_eq_true, decide_eq_true_eq]
        constructor
        · intro h
          exact ⟨(h.1 0 (by omega) (Nat.le_refl _)).1, (h.1 (x0.1.length - 1) (by omega) (by omega)).1, h.2.2⟩
        · intro h
          exact ⟨keysIn_of x0 hasc h.1.1 h.2.1.2, hl, h.2.2⟩
      rw [e]
      cases (decide (1 ≤ gk x0 0) && decide (gk x0 0 ≤ 99)) <;> cases (decide (1 ≤ gk x0 (x0.1.length - 1)) && decide (gk x0 (x0.1.length - 1) ≤ 99)) <;> rfl
  · have e : (decide (1 ≤ (x0.1.length : Int)) && decide ((x0.1.length : Int) ≤ 4)) = false := by
      cases hc : (decide (1 ≤ (x0.1.length : Int)) && decide ((x0.1.length : Int) ≤ 4))
      · rfl
      · simp only [Bool.and_eq_true, decide_eq_true_eq] at hc; exact absurd hc hl
    rw [e, cond_f]
    have : s = false := by
      cases s with
      | false => rfl
      | true => exact absurd (hS.mp rfl).2.1 hl
    rw [this]
theorem IsKeys_pos (x0 : TKeys) (hx : x0.1.length ≤ 1048576) (h : spec_IsKeys x0 = some true) : 1 ≤ x0.1.length := by
  obtain ⟨s, hs, hS⟩ := sIsKeys_l x0 hx 0 KK (Nat.zero_le _) (KK_gt (by omega))
  have e : spec_IsKeys x0 = some s := hs
  rw [h] at e
  injection e with e
  have := (hS.mp e.symm).2.1
  omega
noncomputable def keysB (k : TKeys) : Bool := (spec_IsKeys k).getD false
theorem sKeysB (k : TKeys) (hx : k.1.length ≤ 1048576) : spec_IsKeys k = some (keysB k) := by
  obtain ⟨b, h1, h2⟩ := IsKeys_v k hx
  unfold keysB
  rw [h1]; rfl
theorem iKeysB (k : TKeys) (hx : k.1.length ≤ 1048576) : impl_IsKeys k = some (keysB k) := by
  obtain ⟨b, h1, h2⟩ := IsKeys_v k hx
  unfold keysB
  rw [h1, h2]; rfl
def noK (k : TKeys) : Bool := k.2 == (0 : Int) && ((k.1.length : Int) == (0 : Int))
theorem sNoKeys_v (k : TKeys) : spec_NoKeys k = some (noK k) := by
  unfold spec_NoKeys noK
  cases (k.2 == (0 : Int)) <;> rfl
theorem iNoKeys_v (k : TKeys) : impl_NoKeys k = some (noK k) := by
  unfold impl_NoKeys noK
  cases (k.2 == (0 : Int)) <;> rfl
theorem keysB_no (k : TKeys) (hx : k.1.length ≤ 1048576) : (keysB k && noK k) = false := by
  cases h : keysB k with
  | false => rfl
  | true =>
    have := IsKeys_pos k hx (by rw [sKeysB k hx, h])
    unfold noK
    have e : ((k.1.length : Int) == (0 : Int)) = false := by rw [beq_eq_false_iff_ne]; omega
    rw [e, Bool.and_false]; rfl
def inR (a b c : Int) : Bool := decide (b ≤ a) && decide (a ≤ c)
theorem l1In_r (a b c : Int) : spec_l1In a b c = some (inR a b c) := l1In_v a b c
theorem InRange_r (a b c : Int) : impl_InRange a b c = some (inR a b c) := InRange_v a b c
theorem isDigest_r (a : Int) : impl_isDigest a = some (inR a 0 2147483646) := by
  unfold impl_isDigest
  rw [InRange_r, bind_s]
theorem bif_some {α : Type} (c : Bool) (a b : α) : (bif c then some a else some b) = some (bif c then a else b) := by cases c <;> rfl
theorem bif_ff (c a : Bool) : (bif c then a else false) = (c && a) := by cases c <;> rfl
theorem bif_fl (c a : Bool) : (bif c then false else a) = (!c && a) := by cases c <;> rfl
theorem bif_tl (c a : Bool) : (bif c then true else a) = (c || a) := by cases c <;> rfl
theorem bif_tr (c a : Bool) : (bif c then a else true) = (!c || a) := by cases c <;> rfl
def hr4 (x : THead) : Bool := inR (Head_Zone x) 0 2147483646 && (inR (Head_Root x) 0 2147483646 && (inR (Head_Prev x) 0 2147483646 && (inR (Head_Epoch x) 0 200 && inR (Head_Kind x) 1 3)))
def spanB (x : THead) : Bool := decide ((Head_Time x) ≥ 0) && (decide ((Head_Time x) ≤ (Head_Until x)) && (decide ((Head_Until x) ≤ 100000) && decide (IntKind.i64.wrap ((Head_Until x) - (Head_Time x)) ≤ 200)))
theorem span_eq (x : THead) (r : Bool) : (inR (Head_Time x) 0 100000 && (inR (Head_Until x) (Head_Time x) 100000 && (!decide (IntKind.i64.wrap ((Head_Until x) - (Head_Time x)) > 200) && r))) = (spanB x && r) := by
  have : (inR (Head_Time x) 0 100000 && (inR (Head_Until x) (Head_Time x) 100000 && !decide (IntKind.i64.wrap ((Head_Until x) - (Head_Time x)) > 200))) = spanB x := by
    unfold inR spanB
    generalize IntKind.i64.wrap ((Head_Until x) - (Head_Time x)) = w
    refine bool_eq ?_
    simp only [Bool.and_eq_true, decide_eq_true_eq, Bool.not_eq_true', decide_eq_false_iff_not]
    omega
  rw [← this]
  simp only [Bool.and_assoc]
noncomputable def keyPart (x : THead) : Bool := (bif noK (Head_Heirs x) then ((Head_Wait x) == (0 : Int)) else (keysB (Head_Heirs x) && inR (Head_Wait x) 1 500)) && (keysB (Head_Judge x) || (noK (Head_Judge x) && !(Head_Frozen x)))
noncomputable def isHeadB (x : THead) : Bool := hr4 x && (spanB x && (inR (Head_Count x) 0 12 && (keysB (Head_Keys x) && keyPart x)))
theorem sIsHead_v (x : THead) (hx : sizeHead x ≤ 1048576) : spec_IsHead x = some (isHeadB x) := by
  unfold sizeHead sizeKeys at hx
  have k1 := sKeysB (Head_Keys x) (by omega)
  have k2 := sKeysB (Head_Heirs x) (by omega)
  have k3 := sKeysB (Head_Judge x) (by omega)
  have n2 := sNoKeys_v (Head_Heirs x)
  have n3 := sNoKeys_v (Head_Judge x)
  have key : (bif noK (Head_Heirs x) then (!((Head_Wait x) != (0 : Int)) && (keysB (Head_Judge x) || (noK (Head_Judge x) && !(Head_Frozen x)))) else (keysB (Head_Heirs x) && (inR (Head_Wait x) 1 500 && (keysB (Head_Judge x) || (noK (Head_Judge x) && !(Head_Frozen x)))))) = keyPart x := by
    unfold keyPart
    cases noK (Head_Heirs x) with
    | true => simp [bne]
    | false => simp only [cond_f, Bool.and_assoc]
  unfold spec_IsHead
  simp only [spec_IsHead.b, spec_IsHead.l7, spec_IsHead.g7, spec_IsHead.l11, spec_IsHead.g11, spec_IsHead.l21, spec_IsHead.g21, l1In_r, k1, k2, k3, n2, n3, bind_s, bif_some, bif_ff, bif_fl, bif_tl, bif_tr, Bool.not_not]
  rw [key, span_eq]
  unfold isHeadB hr4 Head_Keys
  simp only [Bool.and_assoc]
theorem iIsHead_v (x : THead) (hx : sizeHead x ≤ 1048576) : impl_IsHead x = some (isHeadB x) := by
  unfold sizeHead sizeKeys at hx
  have k1 := iKeysB (Head_Keys x) (by omega)
  have k2 := iKeysB (Head_Heirs x) (by omega)
  have k3 := iKeysB (Head_Judge x) (by omega)
  have n2 := iNoKeys_v (Head_Heirs x)
  have n3 := iNoKeys_v (Head_Judge x)
  have q3 := keysB_no (Head_Judge x) (by omega)
  have key : ((noK (Head_Heirs x) || keysB (Head_Heirs x)) && ((noK (Head_Judge x) || keysB (Head_Judge x)) && ((bif noK (Head_Heirs x) then ((Head_Wait x) == (0 : Int)) else inR (Head_Wait x) 1 500) && (!(Head_Frozen x) || !noK (Head_Judge x))))) = keyPart x := by
    unfold keyPart
    revert q3
    generalize ((Head_Wait x) == (0 : Int)) = a
    generalize inR (Head_Wait x) 1 500 = b
    generalize (Head_Frozen x) = c
    cases noK (Head_Heirs x) <;> cases keysB (Head_Heirs x) <;> cases noK (Head_Judge x) <;> cases keysB (Head_Judge x) <;> cases a <;> cases b <;> cases c <;> decide
  unfold impl_IsHead
  simp only [impl_isMaybe, impl_isWait, impl_isSpan, isDigest_r, InRange_r, k1, k2, k3, n2, n3, bind_s, bif_some, bif_ff, bif_fl, bif_tl, bif_tr, Bool.not_not]
  rw [key]
  unfold isHeadB hr4 spanB Head_Keys
  simp only [Bool.and_assoc]
theorem EqualInts_l (x0 x1 : List Int) (hl : x0.length = x1.length) (hx : x0.length ≤ 1152921504606846976) : ∀ i n, i ≤ x0.length → x0.length - i < n → spec_EqualInts.l8 x0 x1 n (i : Int) = some (decide (x0.drop i = x1.drop i)) := by
  refine idx_ind ?_ ?_
  · intro n
    rw [spec_EqualInts.u8]
    simp only [spec_EqualInts.g8, lt_f (Nat.le_refl _), cond_f]
    rw [List.drop_length, hl, List.drop_length]; simp
  · intro i n hi ih
    have hi' : i < x1.length := by omega
    rw [spec_EqualInts.u8]
    simp only [spec_EqualInts.g8, lt_t hi, lt_t hi', ge_t, cond_t, w64_succ (i := i) (by omega), Int.toNat_natCast, at_n hi, at_n hi']
    rw [dec_step (drop_eq hi hi')]
    by_cases he : x0[i] = x1[i]
    · rw [show (x0[i] != x1[i]) = false by simp [he], cond_f, ih, decide_eq_true he, Bool.true_and]
    · rw [show (x0[i] != x1[i]) = true by simp [he], cond_t, decide_eq_false he, Bool.false_and]
theorem EqualInts_v (x0 x1 : List Int) (hx : x0.length ≤ 1152921504606846976) : spec_EqualInts x0 x1 = some (decide (x0 = x1)) := by
  unfold spec_EqualInts
  by_cases hl : x0.length = x1.length
  · simp only [spec_EqualInts.b, len_eq hl, cond_f]
    have := EqualInts_l x0 x1 hl hx 0 KK (Nat.zero_le _) (KK_gt (by omega))
    simpa using this
  · simp only [spec_EqualInts.b, len_ne hl, cond_t]
    rw [decide_eq_false (fun h => hl (by rw [h]))]
theorem slicesEq_int_l (x0 x1 : List Int) (hl : x0.length = x1.length) (hx : x0.length ≤ 1152921504606846976) : ∀ i n, i ≤ x0.length → x0.length - i < n → slices_Equal_int.l8 x0 x1 n (x0.length : Int) (i : Int) = some (decide (x0.drop i = x1.drop i)) := by
  refine idx_ind ?_ ?_
  · intro n
    rw [slices_Equal_int.u8]
    simp only [slices_Equal_int.g8, lt_f (Nat.le_refl _), cond_f]
    rw [List.drop_length, hl, List.drop_length]; simp
  · intro i n hi ih
    have hi' : i < x1.length := by omega
    rw [slices_Equal_int.u8]
    simp only [slices_Equal_int.g8, lt_t hi, lt_t hi', ge_t, cond_t, w64_succ (i := i) (by omega), Int.toNat_natCast, at_n hi, at_n hi']
    rw [dec_step (drop_eq hi hi')]
    by_cases he : x0[i] = x1[i]
    · rw [show (x0[i] != x1[i]) = false by simp [he], cond_f, ih, decide_eq_true he, Bool.true_and]
    · rw [show (x0[i] != x1[i]) = true by simp [he], cond_t, decide_eq_false he, Bool.false_and]
theorem slicesEq_int_v (x0 x1 : List Int) (hx : x0.length ≤ 1152921504606846976) : slices_Equal_int x0 x1 = some (decide (x0 = x1)) := by
  unfold slices_Equal_int
  by_cases hl : x0.length = x1.length
  · simp only [slices_Equal_int.b, len_eq hl, cond_f]
    have := slicesEq_int_l x0 x1 hl hx 0 KK (Nat.zero_le _) (KK_gt (by omega))
    simpa using this
  · simp only [slices_Equal_int.b, len_ne hl, cond_t]
    rw [decide_eq_false (fun h => hl (by rw [h]))]
theorem EqualKeys_v (a b : TKeys) (hx : a.1.length ≤ 1048576) : impl_EqualKeys a b = some (decide (a = b)) := by
  unfold impl_EqualKeys
  rw [slicesEq_int_v _ _ (by omega), bind_s]
  obtain ⟨a1, a2⟩ := a
  obtain ⟨b1, b2⟩ := b
  by_cases h1 : a1 = b1 <;> by_cases h2 : a2 = b2 <;> simp [h1, h2]
def eqHeads (a b : THead) : Bool := decide (headInts a = headInts b)
theorem aB {e f : Option Bool} {b c : Bool} (h : e = some b) (hf : f = some c) : (e.bind fun y => bif y then f else some false) = some (b && c) := by
  rw [h, bind_s, hf]; cases b <;> rfl
theorem aC {f : Option Bool} {c d : Bool} (hf : f = some d) : (bif c then f else some false) = some (c && d) := by
  rw [hf]; cases c <;> rfl
theorem aL {α : Type} {e : Option α} {b : α} (h : e = some b) : (e.bind fun y => some y) = some b := by rw [h, bind_s]
theorem signed_at {xs : List TSigned} {i : Nat} (h : i < xs.length) {n : Nat} (hx : sizeSignedS xs ≤ n) : sizeSigned xs[i] ≤ n := by
  have := size_at sizeSigned h
  unfold sizeSignedS sizeS at hx
  omega
def zoneOf (k : TKeys) (s : Int) : Int := ([(239 : Int), s] ++ keysInts k).foldl hstep 11
theorem sZoneOf_v (k : TKeys) (s : Int) (hk : k.1.length ≤ 1048576) : spec_ZoneOf k s = some (zoneOf k s) := by
  have hl := keysInts_len k
  unfold spec_ZoneOf zoneOf
  rw [sKeysInts_v k hk, bind_s, decide_eq_true (by simp [hl]; omega), cond_t, sHash_v _ (by simp [hl]; omega), bind_s]
theorem iZoneOf_v (k : TKeys) (s : Int) (hk : k.1.length ≤ 1048576) : impl_ZoneOf k s = some (zoneOf k s) := by
  have hl := keysInts_len k
  unfold impl_ZoneOf zoneOf
  rw [iKeysInts_v k hk, bind_s, decide_eq_true (by simp [hl]; omega), cond_t, iHash_v _ (by simp [hl]; omega), bind_s]
noncomputable def isSigned (k : TKeys) (m : List Int) (sg : List TSig) : Bool := keysB k && decide (cnt (hasSig sg m) k.1 0 ≥ k.2)
theorem sIsSigned_v (k : TKeys) (m : List Int) (sg : List TSig) (hk : k.1.length ≤ 1048576) (hs : sg.length ≤ 1048576) (hm : m.length ≤ 8388608) : spec_IsSigned k m sg = some (isSigned k m sg) := by
  unfold spec_IsSigned isSigned
  exact aB (sKeysB k hk) (bnd (sCountSigs_v k m sg hk hs hm) rfl)
theorem iIsSigned_v (k : TKeys) (m : List Int) (sg : List TSig) (hk : k.1.length ≤ 1048576) (hs : sg.length ≤ 1048576) (hm : m.length ≤ 8388608) : impl_IsSigned k m sg = some (isSigned k m sg) := by
  unfold impl_IsSigned isSigned
  exact aB (iKeysB k hk) (bnd (iCountSigs_v k m sg hk hs hm) rfl)
noncomputable def signedBy (s : TSigned) (k : TKeys) : Bool := isSigned k (headInts (Signed_Head s)) (Signed_Sigs s)
theorem hi_len (x : THead) (hx : sizeHead x ≤ 1048576) : (headInts x).length ≤ 8388608 := by rw [headInts_len]; omega
theorem isSignedBy_v (s : TSigned) (k : TKeys) (hs : sizeSigned s ≤ 1048576) (hk : k.1.length ≤ 1048576) : impl_Signed_isSignedBy s k = some (signedBy s k) := by
  unfold sizeSigned at hs
  unfold impl_Signed_isSignedBy signedBy
  exact bnd (iHeadInts_v _ (by omega)) (aL (iIsSigned_v _ _ _ hk (by omega) (hi_len _ (by omega))))
noncomputable def isFirst (s : TSigned) : Bool := isHeadB (Signed_Head s) && (Head_Epoch (Signed_Head s) == (0 : Int) && (Head_Kind (Signed_Head s) == (1 : Int) && (!(Head_Frozen (Signed_Head s)) && (Head_Zone (Signed_Head s) == zoneOf (Head_Keys (Signed_Head s)) (Head_Prev (Signed_Head s)) && signedBy s (Head_Keys (Signed_Head s))))))
theorem sIsFirst_v (s : TSigned) (hs : sizeSigned s ≤ 1048576) : spec_IsFirst s = some (isFirst s) := by
  unfold sizeSigned at hs
  have hk : (Head_Keys (Signed_Head s)).1.length ≤ 1048576 := by unfold sizeHead sizeKeys at hs; omega
  unfold spec_IsFirst isFirst
  exact aB (sIsHead_v _ (by omega)) (aC (aC (aC (bnd (sZoneOf_v _ _ hk) (aC (bnd (sHeadInts_v _ (by omega)) (aL (sIsSigned_v _ _ _ hk (by omega) (hi_len _ (by omega))))))))))
theorem iIsFirst_v (s : TSigned) (hs : sizeSigned s ≤ 1048576) : impl_IsFirst s = some (isFirst s) := by
  have hs' := hs
  unfold sizeSigned at hs'
  have hk : (Head_Keys (Signed_Head s)).1.length ≤ 1048576 := by unfold sizeHead sizeKeys at hs'; omega
  unfold impl_IsFirst isFirst
  exact aB (iIsHead_v _ (by omega)) (aC (aC (aC (bnd (iZoneOf_v _ _ hk) (aC (aL (isSignedBy_v _ _ hs hk)))))))
theorem sEqualKeys_v (a b : TKeys) (hx : a.1.length ≤ 1048576) : spec_EqualKeys a b = some (decide (a = b)) := by
  unfold spec_EqualKeys
  refine (aC (aL (EqualInts_v _ _ (by omega)))).trans ?_
  obtain ⟨a1, a2⟩ := a
  obtain ⟨b1, b2⟩ := b
  by_cases h1 : a1 = b1 <;> by_cases h2 : a2 = b2 <;> simp [h1, h2]
def sameC (a b : THead) : Bool := Head_Count a == Head_Count b && Head_Root a == Head_Root b
theorem sSame_v (a b : THead) : spec_SameContents a b = some (sameC a b) := aC rfl
theorem iSame_v (a b : THead) : impl_SameContents a b = some (sameC a b) := aC rfl
def ownC (p h : THead) : Int := bif Head_Frozen p then 4 else bif Head_Frozen h then 6 else 1
def lateB (p h : THead) : Bool := noK (Head_Heirs p) || decide ((Head_Time h) < (IntKind.i64.wrap ((Head_Until p) + (Head_Wait p))))
def heirC (p h : THead) : Int := bif Head_Frozen p then 4 else bif lateB p h then 5 else bif Head_Frozen h || (!decide (Head_Keys h = Head_Heirs p) || !sameC h p) then 6 else 1
def judgeC (p h : THead) : Int := bif noK (Head_Judge p) then 5 else bif (Head_Frozen h == Head_Frozen p) || !(sameC h p && (decide (Head_Judge h = Head_Judge p) && (decide (Head_Heirs h = Head_Heirs p) && (Head_Wait h == Head_Wait p)))) then 6 else bif Head_Frozen h && !decide (Head_Keys h = Head_Keys p) then 6 else 1
theorem sOwn_v (p h : THead) : spec_l15Owner p h = some (ownC p h) := by
  unfold spec_l15Owner ownC
  cases Head_Frozen p <;> cases Head_Frozen h <;> rfl
theorem heads_len (h : THead) (hx : sizeHead h ≤ 1048576) : (Head_Keys h).1.length ≤ 1048576 ∧ (Head_Heirs h).1.length ≤ 1048576 ∧ (Head_Judge h).1.length ≤ 1048576 := by
  unfold sizeHead sizeKeys at hx; omega
theorem sHeir_v (p h : THead) (hh : sizeHead h ≤ 1048576) : spec_l15Heir p h = some (heirC p h) := by
  have hk := (heads_len h hh).1
  unfold spec_l15Heir heirC lateB
  simp only [spec_l15Heir.b, spec_l15Heir.l9, spec_l15Heir.g9, sNoKeys_v, sEqualKeys_v _ _ hk, sSame_v, bind_s]
  generalize decide ((Head_Time h) < (IntKind.i64.wrap ((Head_Until p) + (Head_Wait p)))) = a
  generalize decide (Head_Keys h = Head_Heirs p) = b
  cases Head_Frozen p <;> cases noK (Head_Heirs p) <;> cases a <;> cases Head_Frozen h <;> cases b <;> cases sameC h p <;> rfl
theorem sJudge_v (p h : THead) (hh : sizeHead h ≤ 1048576) : spec_l15Judge p h = some (judgeC p h) := by
  have hk := heads_len h hh
  unfold spec_l15Judge judgeC
  simp only [spec_l15Judge.b, spec_l15Judge.l9, spec_l15Judge.g9, sNoKeys_v, sEqualKeys_v _ _ hk.1, sEqualKeys_v _ _ hk.2.1, sEqualKeys_v _ _ hk.2.2, sSame_v, bind_s, bne]
  generalize (Head_Wait h == Head_Wait p) = w
  generalize (Head_Frozen h == Head_Frozen p) = q
  generalize decide (Head_Judge h = Head_Judge p) = a
  generalize decide (Head_Heirs h = Head_Heirs p) = b
  generalize decide (Head_Keys h = Head_Keys p) = d
  cases noK (Head_Judge p) <;> cases q <;> cases sameC h p <;> cases a <;> cases b <;> cases w <;> cases Head_Frozen h <;> cases d <;> rfl
def finC (code : Int) (b : Bool) : Int := bif code == (1 : Int) then (bif b then code else 7) else code
noncomputable def isNext (p h : THead) : Bool := Head_Zone h == Head_Zone p && (Head_Epoch h == IntKind.i64.wrap ((Head_Epoch p) + (1 : Int)) && (Head_Prev h == headDigest p && decide (Head_Time h ≥ Head_Time p)))
theorem isNext_v (p h : THead) (hp : sizeHead p ≤ 1048576) : impl_isNext p h = some (isNext p h) := by
  unfold impl_isNext isNext
  exact aC (aC (bnd (iHeadDigest_v p hp) (aC rfl)))
noncomputable def kindC (p : THead) (s : TSigned) : Int :=
  bif Head_Kind (Signed_Head s) == (2 : Int) then finC (heirC p (Signed_Head s)) (signedBy s (Head_Heirs p)) else bif Head_Kind (Signed_Head s) == (3 : Int) then finC (judgeC p (Signed_Head s)) (signedBy s (Head_Judge p)) else finC (ownC p (Signed_Head s)) (signedBy s (Head_Keys p))
noncomputable def nextCode (p : THead) (s : TSigned) : Int :=
  bif !(isHeadB p && isHeadB (Signed_Head s)) then 2 else bif !isNext p (Signed_Head s) then 3 else kindC p s
theorem finC_v (c : Int) (b : Bool) : (bif c == (1 : Int) then (bif !b then some (7 : Int) else some c) else some c) = some (finC c b) := by
  unfold finC
  cases (c == (1 : Int)) <;> cases b <;> rfl
theorem sNext31_v (s : TSigned) (c : Int) (k : TKeys) (hs : sizeSigned s ≤ 1048576) (hk : k.1.length ≤ 1048576) : spec_NextCode.l31 s c k.1 k.2 = some (finC c (signedBy s k)) := by
  unfold sizeSigned at hs
  unfold spec_NextCode.l31
  simp only [spec_NextCode.g31, sHeadInts_v _ (show sizeHead (Signed_Head s) ≤ 1048576 by omega), sIsSigned_v k _ _ hk (show (Signed_Sigs s).length ≤ 1048576 by omega) (hi_len (Signed_Head s) (by omega)), bind_s]
  exact finC_v c _
theorem sNextCode_v (p : THead) (s : TSigned) (hp : sizeHead p ≤ 1048576) (hs : sizeSigned s ≤ 1048576) : spec_NextCode p s = some (nextCode p s) := by
  have hs' := hs
  unfold sizeSigned at hs'
  have hk := heads_len p hp
  unfold spec_NextCode nextCode isNext
  simp only [spec_NextCode.b, spec_NextCode.l9, spec_NextCode.g9, spec_NextCode.l13, spec_NextCode.g13, sIsHead_v p hp, sIsHead_v (Signed_Head s) (show _ ≤ 1048576 by omega), sHeadDigest_v p hp, sOwn_v, sHeir_v p (Signed_Head s) (by omega), sJudge_v p (Signed_Head s) (by omega), sNext31_v s _ _ hs hk.1, sNext31_v s _ _ hs hk.2.1, sNext31_v s _ _ hs hk.2.2, bind_s, bif_some, bne]
  show some _ = some _
  unfold kindC
  congr 1
  generalize (Head_Zone (Signed_Head s) == Head_Zone p) = a
  generalize (Head_Epoch (Signed_Head s) == IntKind.i64.wrap ((Head_Epoch p) + (1 : Int))) = b
  generalize (Head_Prev (Signed_Head s) == headDigest p) = c
  have e : decide ((Head_Time (Signed_Head s)) < (Head_Time p)) = !decide (Head_Time (Signed_Head s) ≥ Head_Time p) := by
    by_cases h : Head_Time (Signed_Head s) < Head_Time p
    · rw [decide_eq_true h, decide_eq_false (by omega)]; rfl
    · rw [decide_eq_false h, decide_eq_true (by omega)]; rfl
  rw [e]
  generalize decide (Head_Time (Signed_Head s) ≥ Head_Time p) = d
  cases isHeadB p <;> cases isHeadB (Signed_Head s) <;> cases a <;> cases b <;> cases c <;> cases d <;> rfl
theorem iOwn_v (p : THead) (s : TSigned) (hp : sizeHead p ≤ 1048576) (hs : sizeSigned s ≤ 1048576) : impl_ownerCode p s = some (finC (ownC p (Signed_Head s)) (signedBy s (Head_Keys p))) := by
  have hk := heads_len p hp
  unfold impl_ownerCode ownC
  rw [isSignedBy_v s _ hs hk.1, bind_s]
  cases Head_Frozen p <;> cases Head_Frozen (Signed_Head s) <;> cases signedBy s (Head_Keys p) <;> rfl
theorem iHeir_v (p : THead) (s : TSigned) (hp : sizeHead p ≤ 1048576) (hs : sizeSigned s ≤ 1048576) : impl_heirCode p s = some (finC (heirC p (Signed_Head s)) (signedBy s (Head_Heirs p))) := by
  have hk := heads_len p hp
  have hs' := hs
  unfold sizeSigned at hs'
  have hq := heads_len (Signed_Head s) (by omega)
  unfold impl_heirCode heirC lateB
  simp only [impl_heirCode.b, impl_heirCode.l11, impl_heirCode.g11, impl_heirCode.l15, impl_heirCode.g15, iNoKeys_v, EqualKeys_v _ _ hq.1, iSame_v, isSignedBy_v s _ hs hk.2.1, bind_s]
  generalize decide ((Head_Time (Signed_Head s)) < (IntKind.i64.wrap ((Head_Until p) + (Head_Wait p)))) = a
  generalize decide (Head_Keys (Signed_Head s) = Head_Heirs p) = b
  generalize signedBy s (Head_Heirs p) = c
  cases Head_Frozen p <;> cases noK (Head_Heirs p) <;> cases a <;> cases Head_Frozen (Signed_Head s) <;> cases b <;> cases sameC (Signed_Head s) p <;> cases c <;> rfl
theorem iJudge_v (p : THead) (s : TSigned) (hp : sizeHead p ≤ 1048576) (hs : sizeSigned s ≤ 1048576) : impl_judgeCode p s = some (finC (judgeC p (Signed_Head s)) (signedBy s (Head_Judge p))) := by
  have hk := heads_len p hp
  have hs' := hs
  unfold sizeSigned at hs'
  have hq := heads_len (Signed_Head s) (by omega)
  unfold impl_judgeCode judgeC
  simp only [impl_judgeCode.b, impl_judgeCode.l7, impl_judgeCode.g7, impl_judgeCode.l13, impl_judgeCode.g13, iNoKeys_v, EqualKeys_v _ _ hq.1, EqualKeys_v _ _ hq.2.1, EqualKeys_v _ _ hq.2.2, iSame_v, isSignedBy_v s _ hs hk.2.2, bind_s]
  generalize (Head_Wait (Signed_Head s) == Head_Wait p) = w
  generalize (Head_Frozen (Signed_Head s) == Head_Frozen p) = q
  generalize decide (Head_Judge (Signed_Head s) = Head_Judge p) = a
  generalize decide (Head_Heirs (Signed_Head s) = Head_Heirs p) = b
  generalize decide (Head_Keys (Signed_Head s) = Head_Keys p) = d
  generalize signedBy s (Head_Judge p) = c
  cases noK (Head_Judge p) <;> cases q <;> cases sameC (Signed_Head s) p <;> cases a <;> cases b <;> cases w <;> cases Head_Frozen (Signed_Head s) <;> cases d <;> cases c <;> rfl
theorem isHeadB_kind (x : THead) (h : isHeadB x = true) : Head_Kind x = 1 ∨ Head_Kind x = 2 ∨ Head_Kind x = 3 := by
  unfold isHeadB hr4 at h
  simp only [Bool.and_eq_true] at h
  have h1 := h.1.2.2.2.2
  unfold inR at h1
  simp only [Bool.and_eq_true, decide_eq_true_eq] at h1
  omega
theorem iNextCode_v (p : THead) (s : TSigned) (hp : sizeHead p ≤ 1048576) (hs : sizeSigned s ≤ 1048576) : impl_NextCode p s = some (nextCode p s) := by
  have hs' := hs
  unfold sizeSigned at hs'
  unfold impl_NextCode nextCode
  simp only [impl_NextCode.b, impl_NextCode.l5, impl_NextCode.g5, iIsHead_v p hp, iIsHead_v (Signed_Head s) (show _ ≤ 1048576 by omega), isNext_v p _ hp, iOwn_v p s hp hs, iHeir_v p s hp hs, iJudge_v p s hp hs, bind_s]
  cases h1 : isHeadB p with
  | false => rfl
  | true =>
    cases h2 : isHeadB (Signed_Head s) with
    | false => rfl
    | true =>
      cases isNext p (Signed_Head s) with
      | false => rfl
      | true =>
        show _ = some (kindC p s)
        unfold kindC
        rcases isHeadB_kind _ h2 with h | h | h <;> rw [h] <;> rfl
noncomputable def mayFollow (p : THead) (s : TSigned) : Bool := nextCode p s == (1 : Int)
theorem sMay_v (p : THead) (s : TSigned) (hp : sizeHead p ≤ 1048576) (hs : sizeSigned s ≤ 1048576) : spec_MayFollow p s = some (mayFollow p s) := bnd (sNextCode_v p s hp hs) rfl
theorem iMay_v (p : THead) (s : TSigned) (hp : sizeHead p ≤ 1048576) (hs : sizeSigned s ≤ 1048576) : impl_MayFollow p s = some (mayFollow p s) := bnd (iNextCode_v p s hp hs) rfl
noncomputable def fw : Option THead → List TSigned → Int → Int
  | _, [], _ => -1
  | none, s :: t, k => bif !isFirst s then k else fw (some (Signed_Head s)) t (k + 1)
  | some p, s :: t, k => bif !mayFollow p s then k else fw (some (Signed_Head s)) t (k + 1)
def prevAt (xs : List TSigned) : Nat → Option THead
  | 0 => none
  | j + 1 => some (Signed_Head (xs.getD j dSigned))
theorem fw_last (o : Option THead) (xs : List TSigned) (k : Int) : fw o (xs.drop xs.length) k = -1 := by
  rw [List.drop_length]
  cases o <;> rfl
theorem fw_zero {xs : List TSigned} (h : 0 < xs.length) : fw none (xs.drop 0) 0 = bif !isFirst xs[0] then 0 else fw (prevAt xs 1) (xs.drop 1) 1 := by
  rw [List.drop_eq_getElem_cons h]
  show _ = bif !isFirst xs[0] then 0 else fw (some (Signed_Head (xs.getD 0 dSigned))) (xs.drop 1) 1
  rw [at_n h]; rfl
theorem fw_succ {xs : List TSigned} {j : Nat} (h : j + 1 < xs.length) : fw (prevAt xs (j + 1)) (xs.drop (j + 1)) ((j + 1 : Nat) : Int) = bif !mayFollow (Signed_Head xs[j]) xs[j + 1] then ((j + 1 : Nat) : Int) else fw (prevAt xs (j + 2)) (xs.drop (j + 2)) ((j + 2 : Nat) : Int) := by
  rw [List.drop_eq_getElem_cons h]
  show fw (some (Signed_Head (xs.getD j dSigned))) _ _ = bif !mayFollow (Signed_Head xs[j]) xs[j + 1] then ((j + 1 : Nat) : Int) else fw (some (Signed_Head (xs.getD (j + 1) dSigned))) (xs.drop (j + 2)) ((j + 2 : Nat) : Int)
  rw [at_n h, at_n (show j < xs.length by omega)]; rfl
theorem head_at {xs : List TSigned} {i : Nat} (h : i < xs.length) {n : Nat} (hx : sizeSignedS xs ≤ n) : sizeHead (Signed_Head xs[i]) ≤ n := by
  have := signed_at h hx
  unfold sizeSigned at this
  omega
theorem sFirstWrong_l (x0 : List TSigned) (hx : sizeSignedS x0 ≤ 1048576) : ∀ i n, i ≤ x0.length → x0.length - i < n → spec_FirstWrong.l4 x0 n (i : Int) = some (fw (prevAt x0 i) (x0.drop i) (i : Int)) := by
  have hl : x0.length ≤ 1048576 := by unfold sizeSignedS sizeS at hx; omega
  refine idx_ind ?_ ?_
  · intro n
    rw [spec_FirstWrong.u4]
    simp only [spec_FirstWrong.g4, lt_f (Nat.le_refl _), cond_f, fw_last]
  · intro i n hi ih
    rw [spec_FirstWrong.u4]
    match i, hi, ih with
    | 0, hi, ih =>
      have e := fw_zero hi
      have hg : x0.getD ((0 : Int).toNat) dSigned = x0[0] := at_n hi _
      simp only [spec_FirstWrong.g4, lt_t hi, cond_t, Int.natCast_zero, beq_self_eq_true, decide_eq_true (Int.le_refl 0), hg, sIsFirst_v _ (signed_at hi hx), bind_s]
      rw [decide_eq_true (show (0 : Int) < (x0.length : Int) by omega), cond_t, cond_t, wd (n := (0 : Int) + 1) (by omega), decide_eq_false (by omega), cond_f, show (0 : Int) + 1 = ((0 + 1 : Nat) : Int) from rfl, ih]
      rw [show prevAt x0 0 = none from rfl, e, bif_some]; rfl
    | j + 1, hi, ih =>
      have e := fw_succ hi
      have hj : j < x0.length := by omega
      have ew : IntKind.i64.wrap (((j + 1 : Nat) : Int) - 1) = (j : Int) := by rw [wd (by omega)]; omega
      simp only [spec_FirstWrong.g4, lt_t hi, cond_t, ew, ge_t, lt_t hj, Int.toNat_natCast, at_n hi, at_n hj, sMay_v _ _ (head_at hj hx) (signed_at hi hx), bind_s]
      rw [show (((j + 1 : Nat) : Int) == (0 : Int)) = false by rw [beq_eq_false_iff_ne]; omega, cond_f, decide_eq_true (by omega), cond_t, w64_succ (by omega), ih, e, bif_some]
theorem iFirstWrong_l (x0 : List TSigned) (hx : sizeSignedS x0 ≤ 1048576) : ∀ i n, i ≤ x0.length → x0.length - i < n → impl_FirstWrong.l4 x0 n (x0.length : Int) (i : Int) = some (fw (prevAt x0 i) (x0.drop i) (i : Int)) := by
  have hl : x0.length ≤ 1048576 := by unfold sizeSignedS sizeS at hx; omega
  refine idx_ind ?_ ?_
  · intro n
    rw [impl_FirstWrong.u4]
    simp only [impl_FirstWrong.g4, lt_f (Nat.le_refl _), cond_f, fw_last]
  · intro i n hi ih
    rw [impl_FirstWrong.u4]
    match i, hi, ih with
    | 0, hi, ih =>
      have e := fw_zero hi
      have hg : x0.getD ((0 : Int).toNat) dSigned = x0[0] := at_n hi _
      simp only [impl_FirstWrong.g4, lt_t hi, cond_t, Int.natCast_zero, beq_self_eq_true, decide_eq_true (Int.le_refl 0), hg, iIsFirst_v _ (signed_at hi hx), bind_s]
      rw [decide_eq_true (show (0 : Int) < (x0.length : Int) by omega), cond_t, cond_t, wd (n := (0 : Int) + 1) (by omega), decide_eq_false (by omega), cond_f, show (0 : Int) + 1 = ((0 + 1 : Nat) : Int) from rfl, ih]
      rw [show prevAt x0 0 = none from rfl, e, bif_some]; rfl
    | j + 1, hi, ih =>
      have e := fw_succ hi
      have hj : j < x0.length := by omega
      have ew : IntKind.i64.wrap (((j + 1 : Nat) : Int) - 1) = (j : Int) := by rw [wd (by omega)]; omega
      simp only [impl_FirstWrong.g4, lt_t hi, cond_t, ew, ge_t, lt_t hj, Int.toNat_natCast, at_n hi, at_n hj, iMay_v _ _ (head_at hj hx) (signed_at hi hx), bind_s]
      rw [show (((j + 1 : Nat) : Int) == (0 : Int)) = false by rw [beq_eq_false_iff_ne]; omega, cond_f, decide_eq_true (by omega), cond_t, w64_succ (by omega), ih, e, bif_some]
noncomputable def isChain (xs : List TSigned) : Bool := inR (xs.length : Int) 1 12 && decide (fw none xs 0 < 0)
theorem sFirstWrong_v (x0 : List TSigned) (hx : sizeSignedS x0 ≤ 1048576) : spec_FirstWrong x0 = some (fw none x0 0) :=
  sFirstWrong_l x0 hx 0 KK (Nat.zero_le _) (KK_gt (by unfold sizeSignedS sizeS at hx; omega))
theorem iFirstWrong_v (x0 : List TSigned) (hx : sizeSignedS x0 ≤ 1048576) : impl_FirstWrong x0 = some (fw none x0 0) :=
  iFirstWrong_l x0 hx 0 KK (Nat.zero_le _) (KK_gt (by unfold sizeSignedS sizeS at hx; omega))
theorem sIsChain_v (x0 : List TSigned) (hx : sizeSignedS x0 ≤ 1048576) : spec_IsChain x0 = some (isChain x0) := by
  unfold spec_IsChain isChain
  exact aB (l1In_r _ _ _) (bnd (sFirstWrong_v x0 hx) rfl)
theorem iIsChain_v (x0 : List TSigned) (hx : sizeSignedS x0 ≤ 1048576) : impl_IsChain x0 = some (isChain x0) := by
  unfold impl_IsChain isChain
  exact aB (InRange_r _ _ _) (bnd (iFirstWrong_v x0 hx) rfl)
theorem isChain_len (xs : List TSigned) (h : isChain xs = true) : 1 ≤ xs.length ∧ xs.length ≤ 12 := by
  unfold isChain inR at h
  simp only [Bool.and_eq_true, decide_eq_true_eq] at h
  omega
theorem keys_getD (xs : List TSigned) (i : Nat) (n : Nat) (hx : sizeSignedS xs ≤ n) : sizeHead (Signed_Head (xs.getD i dSigned)) ≤ n := by
  by_cases h : i < xs.length
  · rw [at_n h]; exact head_at h hx
  · have e : xs.getD i dSigned = dSigned := by simp [List.getD, show xs.length ≤ i by omega]
    rw [e]; exact Nat.zero_le _
theorem idxF {α : Type} (xs : List α) (d : α) (f : α → Option Bool) (p : α → Bool) (hl : xs.length ≤ 1048576) (hf : ∀ i (h : i < xs.length), f xs[i] = some (p xs[i])) (l : Nat → Int → Int → Option Int) (u : ∀ n L a, l (n + 1) L a = (bif decide (a < L) then bif decide (0 ≤ a) then bif decide (a < (xs.length : Int)) then (f (xs.getD a.toNat d)).bind fun y1 => bif y1 then some a else l n L (IntKind.i64.wrap (a + (1 : Int))) else none else none else some (-1 : Int))) : l KK (xs.length : Int) (0 : Int) = some (fnd p xs 0) := by
  have hh : ∀ i n, i ≤ xs.length → xs.length - i < n → l n (xs.length : Int) (i : Int) = some (fnd p (xs.drop i) (i : Int)) := by
    refine idx_ind ?_ ?_
    · intro n
      rw [u]
      simp only [lt_f (Nat.le_refl _), cond_f, fnd_last]
    · intro i n hi ih
      rw [u]
      simp only [lt_t hi, ge_t, cond_t, Int.toNat_natCast, at_n hi, hf i hi, bind_s, w64_succ (i := i) (by omega), ih, fnd_step p hi]
      cases p xs[i] <;> rfl
  have := hh 0 KK (Nat.zero_le _) (KK_gt (by omega))
  rw [List.drop_zero] at this
  exact this
theorem cntF {α : Type} (xs : List α) (p : α → Bool) {e : Option Int} (h : e = some (fnd p xs 0)) : (e.bind fun y1 => some (decide (y1 ≥ (0 : Int)))) = some (xs.any p) := by
  rw [h, bind_s, fnd_ge _ _ _ (Int.le_refl 0)]
def lastS (xs : List TSigned) : TSigned := xs.getD (IntKind.i64.wrap ((xs.length : Int) - (1 : Int))).toNat dSigned
theorem wl {n : Nat} (h : 1 ≤ n ∧ n ≤ 12) : IntKind.i64.wrap ((n : Int) - (1 : Int)) = (n : Int) - 1 := wd (by omega)
theorem lastS_size (xs : List TSigned) (hx : sizeSignedS xs ≤ 1048576) : sizeHead (Signed_Head (lastS xs)) ≤ 1048576 := keys_getD xs _ _ hx
theorem last_v (xs : List TSigned) (hc : isChain xs = true) : impl_last xs = some (Signed_Head (lastS xs)) := by
  have hl := isChain_len xs hc
  unfold impl_last
  exact cT (decide_eq_true (by rw [wl hl]; omega)) (cT (decide_eq_true (by rw [wl hl]; omega)) rfl)
def hq (s t : TSigned) : Bool := eqHeads (Signed_Head s) (Signed_Head t)
def allN (p : Nat → Bool) (n : Nat) : Bool := decide (∀ i, i < n → p i = true)
theorem allN_iff (p : Nat → Bool) (n : Nat) : allN p n = true ↔ ∀ i, i < n → p i = true := by unfold allN; exact decide_eq_true_iff
theorem allL {len : Nat} (hl : len ≤ 1152921504606846976) (p : Nat → Bool) (z : Bool) (l : Nat → Int → Option Bool) (u0 : ∀ n, l (n + 1) (len : Int) = some z) (u : ∀ n i, i < len → l (n + 1) (i : Int) = bif p i then l n ((i + 1 : Nat) : Int) else some false) : l KK (0 : Int) = some (allN p len && z) := by
  have hh : ∀ i n, i ≤ len → len - i < n → l n (i : Int) = some (decide (∀ j, j < len → i ≤ j → p j = true) && z) := by
    refine idx_ind ?_ ?_
    · intro n
      have e : decide (∀ j, j < len → len ≤ j → p j = true) = true := decide_eq_true (fun j h1 h2 => absurd h1 (by omega))
      rw [u0, e, Bool.true_and]
    · intro i n hi ih
      rw [u n i hi, ih]
      cases hp : p i with
      | false =>
        have e : decide (∀ j, j < len → i ≤ j → p j = true) = false := decide_eq_false (fun h => by have := h i hi (Nat.le_refl _); rw [hp] at this; cases this)
        rw [cond_f, e, Bool.false_and]
      | true =>
        rw [cond_t]
        have e : decide (∀ j, j < len → i ≤ j → p j = true) = decide (∀ j, j < len → i + 1 ≤ j → p j = true) := by
          refine decide_eq_decide.2 ⟨fun h j h1 h2 => h j h1 (by omega), fun h j h1 h2 => ?_⟩
          by_cases e : j = i
          · subst e; exact hp
          · exact h j h1 (by omega)
        rw [e]
  have := hh 0 KK (Nat.zero_le _) (KK_gt (by omega))
  have e : decide (∀ j, j < len → 0 ≤ j → p j = true) = allN p len := decide_eq_decide.2 ⟨fun h j h1 => h j h1 (Nat.zero_le _), fun h j h1 _ => h j h1⟩
  rw [e] at this
  exact this
theorem all_not {α : Type} (xs : List α) (p : α → Bool) : (!(xs.any fun x => !p x)) = xs.all p := by
  induction xs with
  | nil => rfl
  | cons x t ih => rw [List.any_cons, List.all_cons, Bool.not_or, ih, Bool.not_not]
theorem allGet {α : Type} (xs : List α) (p : α → Bool) (q : Nat → Bool) (h : ∀ i (hi : i < xs.length), q i = p xs[i]) : allN q xs.length = xs.all p := by
  refine bool_eq ?_
  rw [allN_iff, List.all_eq_true]
  constructor
  · intro g x hx
    obtain ⟨i, hi, rfl⟩ := List.getElem_of_mem hx
    rw [← h i hi]
    exact g i hi
  · intro g i hi
    rw [h i hi]
    exact g _ (List.getElem_mem _)
def inR2 (a b c : Int) : Bool := decide (b ≤ a) && decide (a ≤ c)
theorem isDigest_v (a : Int) : impl_isDigest a = some (inR2 a 0 2147483646) := bnd (InRange_v _ _ _) rfl
def hs (xs : List Int) : Int := xs.foldl hstep 11
def ofMk (a b : Int) (m : TMark) : Bool := m.1 == a && m.2.1 == b
theorem l19Find_v (w : TWitness) (a b : Int) (hx : w.2.length ≤ 1048576) : spec_l19Find w a b = some (fnd (ofMk a b) w.2 0) := by
  have hh : ∀ i n, i ≤ w.2.length → w.2.length - i < n → spec_l19Find.l4 w a b n (i : Int) = some (fnd (ofMk a b) (w.2.drop i) (i : Int)) := by
    refine idx_ind ?_ ?_
    · intro n
      rw [spec_l19Find.u4]
      simp only [spec_l19Find.g4, lt_f (Nat.le_refl _), cond_f, fnd_last]
    · intro i n hi ih
      rw [spec_l19Find.u4]
      simp only [spec_l19Find.g4, lt_t hi, ge_t, cond_t, w64_succ (i := i) (by omega), Int.toNat_natCast, at_n hi, fnd_step _ hi, ih]
      unfold ofMk
      cases (w.2[i].1 == a) <;> cases (w.2[i].2.1 == b) <;> rfl
  have := hh 0 KK (Nat.zero_le _) (KK_gt (by omega))
  rw [List.drop_zero] at this
  exact this
theorem hasMk_v (xs : List TMark) (m : TMark) (hx : xs.length ≤ 1048576) : slices_ContainsFunc_impl_Mark__Mark_isOf xs (m, ()) = some (xs.any (ofMk m.1 m.2.1)) := by
  unfold slices_ContainsFunc_impl_Mark__Mark_isOf
  refine cntF xs _ ?_
  refine idxF xs dMark (fun x => impl_Mark_isOf m x) (ofMk m.1 m.2.1) hx (fun i h => ?_) (slices_IndexFunc_impl_Mark__Mark_isOf.l4 xs (m, ())) (fun n L a => slices_IndexFunc_impl_Mark__Mark_isOf.u4 xs (m, ()) n L a)
  unfold impl_Mark_isOf ofMk
  rw [Bool.beq_comm (a := xs[i].1), Bool.beq_comm (a := xs[i].2.1)]
  cases (m.1 == xs[i].1) <;> rfl
def okMk (xs : List TMark) (i : Nat) (m : TMark) : Bool := inR2 m.1 0 2147483646 && (inR2 m.2.2 0 2147483646 && (inR2 m.2.1 0 200 && !(xs.take i).any (ofMk m.1 m.2.1)))
def isWit (w : TWitness) : Bool := allN (fun i => okMk w.2 i (w.2.getD i dMark)) w.2.length && (inR2 w.1 1 99 && decide ((w.2.length : Int) ≤ (40 : Int)))
theorem l1In_2 (a b c : Int) : spec_l1In a b c = some (inR2 a b c) := l1In_v a b c
theorem InRange_2 (a b c : Int) : impl_InRange a b c = some (inR2 a b c) := InRange_v a b c
theorem sIsWit_v (w : TWitness) (hx : w.2.length ≤ 1048576) : spec_IsWitness w = some (isWit w) := by
  refine allL (len := w.2.length) (by omega) (fun i => okMk w.2 i (w.2.getD i dMark)) _ (spec_IsWitness.l4 w) (fun n => ?_) (fun n i hi => ?_)
  · rw [spec_IsWitness.u4]
    simp only [spec_IsWitness.g4, lt_f (Nat.le_refl _), cond_f, l1In_2, bind_s]
    cases inR2 w.1 1 99 <;> rfl
  · have hp : ofMk w.2[i].1 w.2[i].2.1 w.2[i] = true := by unfold ofMk; simp
    have hf := fnd_at (ofMk w.2[i].1 w.2[i].2.1) w.2 0 i hi hp
    rw [Int.zero_add] at hf
    rw [spec_IsWitness.u4]
    simp only [spec_IsWitness.g4, lt_t hi, ge_t, cond_t, l1In_2, bind_s, w64_succ (i := i) (by omega), Int.toNat_natCast, at_n hi, l19Find_v _ _ _ hx, hf]
    unfold okMk
    cases inR2 w.2[i].1 0 2147483646 <;> cases inR2 w.2[i].2.2 0 2147483646 <;> cases inR2 w.2[i].2.1 0 200 <;> cases ((w.2.take i).any (ofMk w.2[i].1 w.2[i].2.1)) <;> rfl
theorem iIsWit_v (w : TWitness) (hx : w.2.length ≤ 1048576) : impl_IsWitness w = some (isWit w) := by
  refine allL (len := w.2.length) (by omega) (fun i => okMk w.2 i (w.2.getD i dMark)) _ (fun n v => impl_IsWitness.l4 w n (w.2.length : Int) v) (fun n => ?_) (fun n i hi => ?_)
  · rw [impl_IsWitness.u4]
    simp only [impl_IsWitness.g4, lt_f (Nat.le_refl _), cond_f]
    unfold impl_isKey
    simp only [InRange_2, bind_s]
    cases inR2 w.1 1 99 <;> rfl
  · have ht : (w.2.take i).length ≤ 1048576 := by simp; omega
    have hle : decide ((i : Int) ≤ (w.2.length : Int)) = true := decide_eq_true (by omega)
    rw [impl_IsWitness.u4]
    simp only [impl_IsWitness.g4, lt_t hi, ge_t, cond_t, isDigest_v, InRange_2, bind_s, w64_succ (i := i) (by omega), Int.toNat_natCast, at_n hi, hasMk_v _ _ ht, hle, decide_eq_true (Int.le_refl 0)]
    unfold okMk
    cases inR2 w.2[i].1 0 2147483646 <;> cases inR2 w.2[i].2.2 0 2147483646 <;> cases inR2 w.2[i].2.1 0 200 <;> cases ((w.2.take i).any (ofMk w.2[i].1 w.2[i].2.1)) <;> rfl
theorem isWit_len (w : TWitness) (h : isWit w = true) : w.2.length ≤ 40 := by
  unfold isWit at h
  simp only [Bool.and_eq_true, decide_eq_true_eq] at h
  omega
theorem sMints (h : THead) : spec_MarkInts (markOf h) = some [(241 : Int), Head_Zone h, Head_Epoch h, headDigest h] := by
  unfold spec_MarkInts markOf; generalize headDigest h = d; rfl
theorem iMints (h : THead) : impl_MarkInts (markOf h) = some [(241 : Int), Head_Zone h, Head_Epoch h, headDigest h] := by
  unfold impl_MarkInts markOf; generalize headDigest h = d; rfl
theorem isWit_ep (w : TWitness) (h : isWit w = true) : ∀ i (hi : i < w.2.length), 0 ≤ w.2[i].2.1 ∧ w.2[i].2.1 ≤ 200 := by
  intro i hi
  unfold isWit at h
  rw [Bool.and_eq_true, allN_iff] at h
  have := h.1 i hi
  rw [at_n hi] at this
  unfold okMk inR2 at this
  simp only [Bool.and_eq_true, decide_eq_true_eq] at this
  exact this.2.2.1
theorem may_next (p : THead) (s : TSigned) (h : mayFollow p s = true) : isHeadB p = true ∧ isHeadB (Signed_Head s) = true ∧ Head_Zone (Signed_Head s) = Head_Zone p ∧ Head_Epoch (Signed_Head s) = IntKind.i64.wrap ((Head_Epoch p) + (1 : Int)) := by
  unfold mayFollow nextCode at h
  cases h1 : (isHeadB p && isHeadB (Signed_Head s)) with
  | false => rw [h1] at h; cases h
  | true =>
    cases h2 : isNext p (Signed_Head s) with
    | false => rw [h1, h2] at h; cases h
    | true =>
      rw [Bool.and_eq_true] at h1
      unfold isNext at h2
      simp only [Bool.and_eq_true] at h2
      exact ⟨h1.1, h1.2, eq_of_beq h2.1, eq_of_beq h2.2.1⟩
theorem isHeadB_epoch (x : THead) (h : isHeadB x = true) : 0 ≤ Head_Epoch x ∧ Head_Epoch x ≤ 200 := by
  unfold isHeadB hr4 at h
  simp only [Bool.and_eq_true] at h
  have h1 := h.1.2.2.2.1
  unfold inR at h1
  simp only [Bool.and_eq_true, decide_eq_true_eq] at h1
  exact h1
theorem fw_facts (xs : List TSigned) : ∀ (p : THead) (k : Int), 0 ≤ k → fw (some p) xs k < 0 → ∀ i (hi : i < xs.length), Head_Epoch (Signed_Head xs[i]) = Head_Epoch p + 1 + i ∧ Head_Zone (Signed_Head xs[i]) = Head_Zone p := by
  induction xs with
  | nil => intro p k _ _ i hi; simp at hi
  | cons s t ih =>
    intro p k hk h i hi
    unfold fw at h
    cases hf : mayFollow p s with
    | false => rw [hf] at h; exact absurd h (by show ¬ k < 0; omega)
    | true =>
      rw [hf] at h
      have hm := may_next p s hf
      have hp := isHeadB_epoch p hm.1
      have he : Head_Epoch (Signed_Head s) = Head_Epoch p + 1 := by rw [hm.2.2.2, w64 (by omega) (by omega)]
      cases i with
      | zero => exact ⟨by show Head_Epoch (Signed_Head s) = _; rw [he]; simp, hm.2.2.1⟩
      | succ i =>
        have hi2 : i < t.length := by simpa using hi
        have := ih (Signed_Head s) (k + 1) (by omega) h i hi2
        refine ⟨?_, ?_⟩
        · show Head_Epoch (Signed_Head t[i]) = _
          rw [this.1, he]; omega
        · show Head_Zone (Signed_Head t[i]) = _
          rw [this.2, hm.2.2.1]
theorem chain_at0 (xs : List TSigned) (h : isChain xs = true) : ∀ i (hi : i < xs.length), Head_Epoch (Signed_Head xs[i]) = i ∧ Head_Zone (Signed_Head xs[i]) = Head_Zone (Signed_Head (xs.getD 0 dSigned)) := by
  unfold isChain at h
  rw [Bool.and_eq_true] at h
  have h := of_decide_eq_true h.2
  cases xs with
  | nil => intro i hi; simp at hi
  | cons s t =>
    unfold fw at h
    cases hf : isFirst s with
    | false => rw [hf] at h; exact absurd h (by show ¬ (0 : Int) < 0; omega)
    | true =>
      rw [hf] at h
      have e0 : Head_Epoch (Signed_Head s) = 0 := by
        unfold isFirst at hf
        simp only [Bool.and_eq_true] at hf
        exact eq_of_beq hf.2.1
      intro i hi
      cases i with
      | zero => exact ⟨e0, rfl⟩
      | succ i =>
        have hi2 : i < t.length := by simpa using hi
        have := fw_facts t (Signed_Head s) _ (by omega) h i hi2
        refine ⟨?_, this.2⟩
        show Head_Epoch (Signed_Head t[i]) = _
        rw [this.1, e0]; omega
theorem lastS_at (xs : List TSigned) (h : isChain xs = true) : ∃ hi : xs.length - 1 < xs.length, lastS xs = xs[xs.length - 1] := by
  have hl := isChain_len xs h
  refine ⟨by omega, ?_⟩
  unfold lastS
  rw [wl hl, show ((xs.length : Int) - 1).toNat = xs.length - 1 by omega, at_n (by omega)]
def badM (xs : List TSigned) (z e : Int) (m : TMark) : Bool := m.1 == z && (decide (m.2.1 > e) || m.2.2 != headDigest (Signed_Head (xs.getD m.2.1.toNat dSigned)))
theorem anyI {len : Nat} (hl : len ≤ 1152921504606846976) (p : Nat → Bool) (l : Nat → Int → Option Bool) (u0 : ∀ n, l (n + 1) (len : Int) = some false) (u : ∀ n i, i < len → l (n + 1) (i : Int) = bif p i then some true else l n ((i + 1 : Nat) : Int)) : l KK (0 : Int) = some (!allN (fun i => !p i) len) := by
  have h := allL hl (fun i => !p i) true (fun n a => (l n a).map (fun b => !b)) (fun n => by rw [u0]; rfl) (fun n i hi => by rw [u n i hi]; cases p i <;> rfl)
  rw [Bool.and_true] at h
  cases hk : l KK 0 with
  | none => rw [hk] at h; cases h
  | some b =>
    rw [hk] at h
    injection h with h
    rw [← h, Bool.not_not]
theorem anyGet {α : Type} (xs : List α) (p : α → Bool) (q : Nat → Bool) (h : ∀ i (hi : i < xs.length), q i = p xs[i]) : (!allN (fun i => !q i) xs.length) = xs.any p := by
  rw [allGet xs (fun x => !p x) (fun i => !q i) (fun i hi => by rw [h i hi])]
  rw [← all_not]
  rw [Bool.not_not]
  congr 1
  funext x
  rw [Bool.not_not]
noncomputable def against (w : TWitness) (xs : List TSigned) : Bool := w.2.any (badM xs (Head_Zone (Signed_Head (lastS xs))) (Head_Epoch (Signed_Head (lastS xs))))
theorem sAgainst_v (w : TWitness) (xs : List TSigned) (hw : w.2.length ≤ 1048576) (hx : sizeSignedS xs ≤ 1048576) (hc : isChain xs = true) (hi : isWit w = true) : spec_l19Against w xs = some (against w xs) := by
  have hl := isChain_len xs hc
  obtain ⟨hlt, hle⟩ := lastS_at xs hc
  have he : Head_Epoch (Signed_Head (lastS xs)) = (xs.length : Int) - 1 := by
    rw [hle, (chain_at0 xs hc _ hlt).1]; omega
  unfold spec_l19Against against
  refine cT (decide_eq_true (by rw [wl hl]; omega)) (cT (decide_eq_true (by rw [wl hl]; omega)) ?_)
  refine (anyI (len := w.2.length) (by omega) (fun i => badM xs (Head_Zone (Signed_Head (lastS xs))) (Head_Epoch (Signed_Head (lastS xs))) (w.2.getD i dMark)) (fun n a => spec_l19Against.l6 w xs n a (Head_Zone (Signed_Head (lastS xs))) (Head_Epoch (Signed_Head (lastS xs))) _ _ _ _ _ _ _ _ _ _ _ _ _ _) (fun n => ?_) (fun n i hi' => ?_)).trans (congrArg some (anyGet w.2 _ _ (fun i hi => by rw [at_n hi])))
  · rw [spec_l19Against.u6]
    simp only [spec_l19Against.g6, lt_f (Nat.le_refl _), cond_f]
  · have hep := isWit_ep w hi i hi'
    rw [spec_l19Against.u6]
    simp only [spec_l19Against.g6, lt_t hi', ge_t, cond_t, Int.toNat_natCast, at_n hi', w64_succ (i := i) (by omega)]
    unfold badM
    cases hz : (w.2[i].1 == Head_Zone (Signed_Head (lastS xs))) with
    | false => exact cT (congrArg (fun z => !z) hz) rfl
    | true =>
      refine cF (congrArg (fun z => !z) hz) ?_
      by_cases hg : w.2[i].2.1 > Head_Epoch (Signed_Head (lastS xs))
      · rw [decide_eq_true hg]; rfl
      · rw [decide_eq_false hg]
        refine cF rfl (cT (decide_eq_true hep.1) (cT (decide_eq_true (by omega)) (bnd (sHeadDigest_v _ (keys_getD xs _ _ hx)) ?_)))
        rw [Bool.false_or, Bool.true_and]
noncomputable def contr (xs : List TSigned) (m : TMark) : Bool := (m.1 == Head_Zone (Signed_Head (lastS xs)) && decide (m.2.1 > Head_Epoch (Signed_Head (lastS xs)))) || xs.any fun s => (Head_Zone (Signed_Head s) == m.1 && Head_Epoch (Signed_Head s) == m.2.1) && (headDigest (Signed_Head s) != m.2.2)
theorem contr1_v (s : TSigned) (m : TMark) (hs : sizeHead (Signed_Head s) ≤ 1048576) : impl_contradicts_1 s m = some ((Head_Zone (Signed_Head s) == m.1 && Head_Epoch (Signed_Head s) == m.2.1) && (headDigest (Signed_Head s) != m.2.2)) := by
  unfold impl_contradicts_1
  rw [iMarkOf_v _ hs, bind_s]
  unfold impl_Mark_isOf markOf
  dsimp only
  generalize headDigest (Signed_Head s) = hd
  cases (Head_Zone (Signed_Head s) == m.1) with
  | false => rfl
  | true =>
    cases (Head_Epoch (Signed_Head s) == m.2.1) with
    | false => rfl
    | true =>
      rw [Bool.and_self, Bool.true_and]; rfl
theorem anyContr_v (xs : List TSigned) (m : TMark) (hx : sizeSignedS xs ≤ 1048576) : slices_ContainsFunc_impl_Signed__contradicts_1 xs ((), m) = some (xs.any fun s => (Head_Zone (Signed_Head s) == m.1 && Head_Epoch (Signed_Head s) == m.2.1) && (headDigest (Signed_Head s) != m.2.2)) := by
  unfold slices_ContainsFunc_impl_Signed__contradicts_1
  refine cntF xs _ ?_
  refine idxF xs dSigned (fun s => impl_contradicts_1 s m) _ (by unfold sizeSignedS sizeS at hx; omega) (fun i h => ?_) (slices_IndexFunc_impl_Signed__contradicts_1.l4 xs ((), m)) (fun n L a => slices_IndexFunc_impl_Signed__contradicts_1.u4 xs ((), m) n L a)
  exact contr1_v _ m (head_at h hx)
theorem contr_v (xs : List TSigned) (m : TMark) (hx : sizeSignedS xs ≤ 1048576) (hc : isChain xs = true) : impl_contradicts m xs = some (contr xs m) := by
  unfold impl_contradicts contr
  refine bnd (last_v xs hc) ?_
  cases (m.1 == Head_Zone (Signed_Head (lastS xs))) with
  | false => exact cF rfl (bnd (anyContr_v xs m hx) rfl)
  | true =>
    refine cT rfl ?_
    cases decide (m.2.1 > Head_Epoch (Signed_Head (lastS xs))) with
    | true => rfl
    | false => exact cF rfl (bnd (anyContr_v xs m hx) rfl)
theorem contr_bad (xs : List TSigned) (m : TMark) (hc : isChain xs = true) (h0 : 0 ≤ m.2.1) : contr xs m = badM xs (Head_Zone (Signed_Head (lastS xs))) (Head_Epoch (Signed_Head (lastS xs))) m := by
  have hl := isChain_len xs hc
  obtain ⟨hlt, hle⟩ := lastS_at xs hc
  have hca := chain_at0 xs hc
  have he : Head_Epoch (Signed_Head (lastS xs)) = (xs.length : Int) - 1 := by
    rw [hle, (hca _ hlt).1]; omega
  have hzl : Head_Zone (Signed_Head (lastS xs)) = Head_Zone (Signed_Head (xs.getD 0 dSigned)) := by
    rw [hle, (hca _ hlt).2]
  unfold contr badM
  refine bool_eq ?_
  simp only [Bool.or_eq_true, Bool.and_eq_true, List.any_eq_true, decide_eq_true_eq]
  constructor
  · rintro (h | ⟨s, hs, ⟨h1, h2⟩, h3⟩)
    · exact ⟨h.1, .inl h.2⟩
    · obtain ⟨i, hi, rfl⟩ := List.getElem_of_mem hs
      have hq := hca i hi
      have h1 := eq_of_beq h1
      have h2 := eq_of_beq h2
      refine ⟨?_, .inr ?_⟩
      · rw [← h1, hq.2, hzl]; exact beq_self_eq_true _
      · have e : m.2.1.toNat = i := by rw [← h2, hq.1]; omega
        rw [e, at_n hi]
        rw [bne_iff_ne] at h3 ⊢
        exact fun g => h3 g.symm
  · rintro ⟨h1, h2⟩
    rcases h2 with h2 | h2
    · exact .inl ⟨h1, h2⟩
    · by_cases hg : m.2.1 > Head_Epoch (Signed_Head (lastS xs))
      · exact .inl ⟨h1, hg⟩
      · right
        have hi : m.2.1.toNat < xs.length := by omega
        have hq := hca _ hi
        rw [at_n hi] at h2
        refine ⟨xs[m.2.1.toNat], List.getElem_mem _, ⟨?_, ?_⟩, ?_⟩
        · rw [hq.2, ← hzl, eq_of_beq h1]; exact beq_self_eq_true _
        · rw [hq.1]
          rw [show ((m.2.1.toNat : Nat) : Int) = m.2.1 by omega]
          exact beq_self_eq_true _
        · rw [bne_iff_ne] at h2 ⊢
          exact fun g => h2 g.symm
theorem iAgainst_v (w : TWitness) (xs : List TSigned) (hw : w.2.length ≤ 1048576) (hx : sizeSignedS xs ≤ 1048576) (hc : isChain xs = true) (hi : isWit w = true) : slices_ContainsFunc_impl_Mark__Confirm_1 w.2 ((), xs) = some (against w xs) := by
  unfold slices_ContainsFunc_impl_Mark__Confirm_1
  refine cntF w.2 _ ?_
  refine idxF w.2 dMark (fun m => impl_Confirm_1 m xs) _ hw (fun i h => ?_) (slices_IndexFunc_impl_Mark__Confirm_1.l4 w.2 ((), xs)) (fun n L a => slices_IndexFunc_impl_Mark__Confirm_1.u4 w.2 ((), xs) n L a)
  rw [← contr_bad xs _ hc (isWit_ep w hi i h).1]
  exact bnd (contr_v xs _ hx hc) rfl
noncomputable def nm (s : TSigned) : TMark := markOf (Signed_Head s)
noncomputable def isNew (w : TWitness) (s : TSigned) : Bool := !w.2.any (ofMk (nm s).1 (nm s).2.1)
noncomputable def newMarks (w : TWitness) (xs : List TSigned) : List TMark := w.2 ++ (xs.filter (isNew w)).map nm
noncomputable def confEnd (w : TWitness) (xs : List TSigned) (ms : List TMark) : TRWitnessSigBool := bif decide ((ms.length : Int) > (40 : Int)) then RWitnessSigBool_mk w dSig false else RWitnessSigBool_mk (w.1, ms) (w.1, tagOf w.1 [(241 : Int), Head_Zone (Signed_Head (lastS xs)), Head_Epoch (Signed_Head (lastS xs)), headDigest (Signed_Head (lastS xs))]) true
noncomputable def confirmM (w : TWitness) (xs : List TSigned) : TRWitnessSigBool := bif isWit w && (isChain xs && !against w xs) then confEnd w xs (newMarks w xs) else RWitnessSigBool_mk w dSig false
theorem take_filter (p : TSigned → Bool) (xs : List TSigned) {i : Nat} (h : i < xs.length) : ((xs.take (i + 1)).filter p).map nm = bif p xs[i] then ((xs.take i).filter p).map nm ++ [nm xs[i]] else ((xs.take i).filter p).map nm := by
  rw [← List.take_append_getElem h, List.filter_append, List.map_append]
  cases hp : p xs[i] with
  | true => rw [List.filter_cons_of_pos hp]; rfl
  | false => rw [List.filter_cons_of_neg (by rw [hp]; exact Bool.false_ne_true), List.filter_nil, List.map_nil, List.append_nil]; rfl
theorem filter_len (p : TSigned → Bool) (xs : List TSigned) (i : Nat) (h : i ≤ xs.length) : (((xs.take i).filter p).map nm).length ≤ i := by
  rw [List.length_map]
  refine Nat.le_trans (List.length_filter_le _ _) ?_
  rw [List.length_take]; omega
theorem l19Copy_v (w : TWitness) (hw : w.2.length ≤ 1048576) : spec_l19Copy w = some w := by
  unfold spec_l19Copy
  rw [decide_eq_true (by simp; omega), cond_t]; rfl
theorem Clone_Mark_v (x : List TMark) (hx : x.length ≤ 1048576) : slices_Clone_impl_Mark x = some x := by
  have e : (bif decide (([] : List TMark).length + x.length < 68719476736) then some ([] ++ x) else none) = some x := by
    rw [decide_eq_true (by simp; omega), cond_t]; rfl
  unfold slices_Clone_impl_Mark
  rw [e]
  cases x with
  | nil => exact both_eq _
  | cons a t => rfl
theorem copyWitness_v (w : TWitness) (hw : w.2.length ≤ 1048576) : impl_copyWitness w = some w := by
  unfold impl_copyWitness
  exact bnd (Clone_Mark_v _ hw) rfl
theorem fnd_neg {α : Type} (p : α → Bool) (xs : List α) : decide (fnd p xs 0 < 0) = !xs.any p := by
  rw [← fnd_ge p xs 0 (Int.le_refl 0)]
  by_cases h : fnd p xs 0 < 0
  · rw [decide_eq_true h, decide_eq_false (by omega)]; rfl
  · rw [decide_eq_false h, decide_eq_true (by omega)]; rfl
theorem sConf10_v (w : TWitness) (xs : List TSigned) (hw : w.2.length ≤ 1048576) (hx : sizeSignedS xs ≤ 1048576) (hc : isChain xs = true) : spec_Confirm.l10 w xs w KK 0 w.2 = some (confEnd w xs (newMarks w xs)) := by
  have hl := isChain_len xs hc
  have hh : ∀ i n, i ≤ xs.length → xs.length - i < n → spec_Confirm.l10 w xs w n (i : Int) (w.2 ++ ((xs.take i).filter (isNew w)).map nm) = some (confEnd w xs (newMarks w xs)) := by
    refine idx_ind ?_ ?_
    · intro n
      rw [spec_Confirm.u10]
      simp only [spec_Confirm.g10, lt_f (Nat.le_refl _), cond_f, List.take_length, both_eq]
      unfold confEnd newMarks
      generalize w.2 ++ (xs.filter (isNew w)).map nm = ms
      cases decide ((ms.length : Int) > (40 : Int)) with
      | true => exact cT rfl (bnd (l19Copy_v w hw) rfl)
      | false => exact cF rfl (cT (decide_eq_true (by rw [wl hl]; omega)) (cT (decide_eq_true (by rw [wl hl]; omega)) (bnd (sMarkOf_v _ (lastS_size xs hx)) (bnd (sMints _) (bnd (sTagOf_v _ _ (by show 4 ≤ _; omega)) rfl)))))
    · intro i n hi ih
      have hfl := filter_len (isNew w) xs i (by omega)
      rw [spec_Confirm.u10]
      simp only [spec_Confirm.g10, lt_t hi, ge_t, cond_t, w64_succ (i := i) (by omega), Int.toNat_natCast, at_n hi]
      refine bnd (sMarkOf_v _ (head_at hi hx)) (bnd (l19Find_v w _ _ hw) ?_)
      rw [fnd_neg]
      rw [take_filter (isNew w) xs hi] at ih
      show (bif isNew w xs[i] then _ else _) = _
      cases hn : isNew w xs[i] with
      | true =>
        rw [hn, cond_t, ← List.append_assoc] at ih
        refine cT rfl (cT (decide_eq_true ?_) ih)
        rw [List.length_append]; show _ + 1 < _; omega
      | false =>
        rw [hn, cond_f] at ih
        exact ih
  have := hh 0 KK (Nat.zero_le _) (KK_gt (by omega))
  rw [List.take_zero, List.filter_nil, List.map_nil, List.append_nil] at this
  exact this
theorem new_same (w : TWitness) (xs : List TSigned) (hc : isChain xs = true) {i : Nat} (hi : i < xs.length) : (!(w.2 ++ ((xs.take i).filter (isNew w)).map nm).any (ofMk (nm xs[i]).1 (nm xs[i]).2.1)) = isNew w xs[i] := by
  have hca := chain_at0 xs hc
  unfold isNew
  rw [List.any_append]
  have e : (((xs.take i).filter (isNew w)).map nm).any (ofMk (nm xs[i]).1 (nm xs[i]).2.1) = false := by
    rw [Bool.eq_false_iff]
    intro h
    rw [List.any_eq_true] at h
    obtain ⟨m, hm, ho⟩ := h
    obtain ⟨s, hs, rfl⟩ := List.mem_map.1 hm
    have hs := (List.mem_filter.1 hs).1
    obtain ⟨j, hj, rfl⟩ := List.getElem_of_mem hs
    rw [List.length_take] at hj
    have hj2 : j < xs.length := by omega
    rw [List.getElem_take] at ho
    unfold ofMk at ho
    rw [Bool.and_eq_true] at ho
    have h2 : Head_Epoch (Signed_Head xs[j]) = Head_Epoch (Signed_Head xs[i]) := eq_of_beq ho.2
    rw [(hca j hj2).1, (hca i hi).1] at h2
    omega
  unfold isNew at e
  rw [e, Bool.or_false]
theorem iConf10_v (w : TWitness) (xs : List TSigned) (hw : w.2.length ≤ 1048576) (hwl : w.2.length ≤ 40) (hx : sizeSignedS xs ≤ 1048576) (hc : isChain xs = true) : impl_Confirm.l10 w xs w KK (xs.length : Int) 0 w.2 = some (confEnd w xs (newMarks w xs)) := by
  have hl := isChain_len xs hc
  have hh : ∀ i n, i ≤ xs.length → xs.length - i < n → impl_Confirm.l10 w xs w n (xs.length : Int) (i : Int) (w.2 ++ ((xs.take i).filter (isNew w)).map nm) = some (confEnd w xs (newMarks w xs)) := by
    refine idx_ind ?_ ?_
    · intro n
      rw [impl_Confirm.u10]
      simp only [impl_Confirm.g10, lt_f (Nat.le_refl _), cond_f, List.take_length, both_eq]
      unfold confEnd newMarks
      generalize w.2 ++ (xs.filter (isNew w)).map nm = ms
      cases decide ((ms.length : Int) > (40 : Int)) with
      | true => exact cT rfl (bnd (copyWitness_v w hw) rfl)
      | false => exact cF rfl (bnd (last_v xs hc) (bnd (iMarkOf_v _ (lastS_size xs hx)) (bnd (iMints _) (bnd (iTagOf_v _ _ (by show 4 ≤ _; omega)) rfl))))
    · intro i n hi ih
      have hfl := filter_len (isNew w) xs i (by omega)
      rw [impl_Confirm.u10]
      simp only [impl_Confirm.g10, lt_t hi, ge_t, cond_t, w64_succ (i := i) (by omega), Int.toNat_natCast, at_n hi]
      refine bnd (iMarkOf_v _ (head_at hi hx)) (bnd (hasMk_v _ (nm xs[i]) (by rw [List.length_append]; omega)) ?_)
      rw [new_same w xs hc hi]
      rw [take_filter (isNew w) xs hi] at ih
      cases hn : isNew w xs[i] with
      | true =>
        rw [hn, cond_t, ← List.append_assoc] at ih
        refine cT rfl (cT (decide_eq_true ?_) ih)
        rw [List.length_append]; show _ + 1 < _; omega
      | false =>
        rw [hn, cond_f] at ih
        exact ih
  have := hh 0 KK (Nat.zero_le _) (KK_gt (by omega))
  rw [List.take_zero, List.filter_nil, List.map_nil, List.append_nil] at this
  exact this
theorem sConfirm_v (w : TWitness) (xs : List TSigned) (hw : w.2.length ≤ 1048576) (hx : sizeSignedS xs ≤ 1048576) : spec_Confirm w xs = some (confirmM w xs) := by
  unfold spec_Confirm confirmM
  refine bnd (l19Copy_v w hw) (bnd (sIsWit_v w hw) ?_)
  cases hi : isWit w with
  | false => rfl
  | true =>
    refine cF rfl (bnd (sIsChain_v xs hx) ?_)
    cases hc : isChain xs with
    | false => rfl
    | true =>
      refine cF rfl (bnd (sAgainst_v w xs hw hx hc hi) ?_)
      cases against w xs with
      | true => rfl
      | false => exact sConf10_v w xs hw hx hc
theorem iConfirm_v (w : TWitness) (xs : List TSigned) (hw : w.2.length ≤ 1048576) (hx : sizeSignedS xs ≤ 1048576) : impl_Confirm w xs = some (confirmM w xs) := by
  unfold impl_Confirm confirmM
  refine bnd (copyWitness_v w hw) (bnd (iIsWit_v w hw) ?_)
  cases hi : isWit w with
  | false => rfl
  | true =>
    refine cF rfl (bnd (iIsChain_v xs hx) ?_)
    cases hc : isChain xs with
    | false => rfl
    | true =>
      refine cF rfl (bnd (iAgainst_v w xs hw hx hc hi) ?_)
      cases against w xs with
      | true => rfl
      | false => exact iConf10_v w xs hw (isWit_len w hi) hx hc
theorem confirmM_size (w : TWitness) (xs : List TSigned) (hw : w.2.length ≤ 1048576) (hx : sizeSignedS xs ≤ 1048576) : sizeWitness (RWitnessSigBool_r0 (confirmM w xs)) ≤ 2097152 := by
  have hl : xs.length ≤ 1048576 := by unfold sizeSignedS sizeS at hx; omega
  have h1 := filter_len (isNew w) xs xs.length (Nat.le_refl _)
  rw [List.take_length] at h1
  unfold confirmM confEnd
  cases (isWit w && (isChain xs && !against w xs)) with
  | false => show w.2.length ≤ _; omega
  | true =>
    cases decide (((newMarks w xs).length : Int) > (40 : Int)) with
    | true => show w.2.length ≤ _; omega
    | false =>
      show (newMarks w xs).length ≤ _
      unfold newMarks
      rw [List.length_append]
      omega
theorem pure_FnExactConfirm (x0 : TWitness) (x1 : List TSigned) (h0 : WitnessMax x0) (h1 : SignedSMax x1) : laws_FnExactConfirm x0 x1 = some true := by
  unfold laws_FnExactConfirm
  refine sz_law (by omega) (szWitness_v _ _ h0 (by omega) (by omega)) (fun g0 => ?_)
  refine sz_law (by omega) (szSignedS_v _ _ h1 (by omega) (by omega)) (fun g1 => ?_)
  have b0 : sizeWitness x0 ≤ 1048576 := by omega
  have b1 : sizeSignedS x1 ≤ 1048576 := by omega
  obtain ⟨r, hs, hi, hr⟩ : ∃ r, spec_Confirm x0 x1 = some r ∧ impl_Confirm x0 x1 = some r ∧ sizeWitness (RWitnessSigBool_r0 r) ≤ 2097152 := ⟨confirmM x0 x1, sConfirm_v x0 x1 b0 b1, iConfirm_v x0 x1 b0 b1, confirmM_size x0 x1 b0 b1⟩
  refine bnd (toWitness_v x0 b0) ?_
  refine bnd (toSignedS_v x1 b1) ?_
  refine bnd hs ?_
  refine bnd (toWitness_v x0 b0) ?_
  refine bnd (toSignedS_v x1 b1) ?_
  refine bnd hi ?_
  refine bnd (eqWitness_v (RWitnessSigBool_r0 r) (by omega)) ?_
  refine cF rfl ?_
  refine bnd (eqSig_v (RWitnessSigBool_r1 r)) ?_
  refine cF rfl ?_
  refine cF (nbeq _) ?_
  refine bnd (toWitness_v x0 b0) ?_
  refine bnd (eqWitness_v x0 (by omega)) ?_
  refine cF rfl ?_
  refine bnd (toSignedS_v x1 b1) ?_
  refine bnd (eqSignedS_v x1 (by omega)) ?_
  refine cF rfl ?_
  have k0 := endWitness_b x0 1
  refine bnd (markWitness_v x0 1 (by omega) (by omega)) ?_
  have k1 := endSignedS_b x1 (endWitness x0 1)
  refine bnd (markSignedS_v x1 (endWitness x0 1) (by omega) (by omega)) ?_
  refine cF (decide_eq_false (by (try dsimp only); omega)) ?_
  refine bnd (eqWitness_v (RWitnessSigBool_r0 r) (by omega)) ?_
  refine cF rfl ?_
  refine bnd (eqSig_v (RWitnessSigBool_r1 r)) ?_
  refine cF rfl ?_
  refine cF (nbeq _) ?_
  have m0 := endWitness_b (RWitnessSigBool_r0 r) 1
  refine bnd (markWitness_v (RWitnessSigBool_r0 r) 1 (by omega) (by omega)) ?_
  refine bnd (heldWitness_v (RWitnessSigBool_r0 r) 1 (by omega) (by omega)) ?_
  refine cF (decide_eq_false (by (try dsimp only); omega)) ?_
  refine cF (bne_self _) ?_
  refine bnd (toWitness_v x0 b0) ?_
  refine bnd (toSignedS_v x1 b1) ?_
  refine bnd hi ?_
  refine bnd (eqWitness_v (RWitnessSigBool_r0 r) (by omega)) ?_
  refine cF rfl ?_
  refine bnd (eqSig_v (RWitnessSigBool_r1 r)) ?_
  refine cF rfl ?_
  refine cF (nbeq _) ?_
  refine bnd (heldWitness_v (RWitnessSigBool_r0 r) 1 (by omega) (by omega)) ?_
  refine cF (decide_eq_false (by (try dsimp only); omega)) ?_
  refine cF (bne_self _) ?_
  rfl

end Go.Proofs.YtpioofmdambjoaaGreat
