/- The plain law of FnExactAskAll: what the printed functions compute is true, for all data in range. -/
import Derived.Test.YtddgjofdkdmmmaaGreatXAskAllPure0
namespace Go.Proofs.YtddgjofdkdmmmaaGreat
open V
set_option linter.unusedVariables false
set_option linter.unusedSimpArgs false
set_option maxHeartbeats 1000000
theorem bnd {α β : Type} {e : Option α} {a : α} {f : α → Option β} {r : Option β} (h : e = some a) (hf : f a = r) : e.bind f = r := by rw [h, bind_s]; exact hf
theorem bndk {α β : Type} {f : Int → Option α} {k k' : Int} (hk : k' = k) {a : α} (h : f k = some a) {g : α → Option β} {r : Option β} (hg : g a = r) : (f k').bind g = r := by rw [hk, h, bind_s]; exact hg
theorem cF {α : Type} {c : Bool} {a b r : α} (h : c = false) (hb : b = r) : (bif c then a else b) = r := by rw [h, cond_f]; exact hb
theorem cT {α : Type} {c : Bool} {a b r : α} (h : c = true) (ha : a = r) : (bif c then a else b) = r := by rw [h, cond_t]; exact ha
theorem nbeq {α : Type} [BEq α] [ReflBEq α] (a : α) : (!(a == a)) = false := by rw [beq_self_eq_true]; rfl
def szR (s : Nat) (L : Int) : Int := if (s : Int) ≤ L then L - s else -1
theorem szR_b {s1 s2 : Nat} {L : Int} (h0 : 0 ≤ L) (h1 : L ≤ 1050000) {e : Option Int} (he : e = some (szR s1 L)) {f : Int → Option Int} (hf : ∀ M, 0 ≤ M → M ≤ 1050000 → f M = some (szR s2 M)) : (e.bind fun y => bif decide (y < (0 : Int)) then some (-1 : Int) else f y) = some (szR (s1 + s2) L) := by
  rw [he, bind_s]
  unfold szR
  by_cases g : (s1 : Int) ≤ L
  · rw [if_pos g, decide_eq_false (by omega), cond_f, hf _ (by omega) (by omega)]
    unfold szR
    by_cases k : (s2 : Int) ≤ L - s1
    · rw [if_pos k, if_pos (by omega)]; congr 1; omega
    · rw [if_neg k, if_neg (by omega)]
  · rw [if_neg g, decide_eq_true (by omega), cond_t, if_neg (by omega)]
theorem szR_l {s : Nat} {L : Int} (h0 : 0 ≤ L) {e : Option Int} (he : e = some (szR s L)) : (e.bind fun y => bif decide (y < (0 : Int)) then some (-1 : Int) else some y) = some (szR s L) := by
  rw [he, bind_s]
  unfold szR
  by_cases g : (s : Int) ≤ L
  · rw [if_pos g, decide_eq_false (by omega), cond_f]
  · rw [if_neg g, decide_eq_true (by omega), cond_t]
theorem szR_s {s1 s2 : Nat} {L : Int} (h0 : 0 ≤ L) (h1 : L ≤ 1050000) (hm : s1 ≤ 9223372036854775807) {f : Int → Option Int} (hf : ∀ M, 0 ≤ M → M ≤ 1050000 → f M = some (szR s2 M)) : (bif decide (IntKind.i64.wrap (L - (s1 : Int)) < (0 : Int)) then some (-1 : Int) else f (IntKind.i64.wrap (L - (s1 : Int)))) = some (szR (s1 + s2) L) := by
  rw [w64 (by omega) (by omega)]
  unfold szR
  by_cases g : (s1 : Int) ≤ L
  · rw [decide_eq_false (by omega), cond_f, hf _ (by omega) (by omega)]
    unfold szR
    by_cases k : (s2 : Int) ≤ L - s1
    · rw [if_pos k, if_pos (by omega)]; congr 1; omega
    · rw [if_neg k, if_neg (by omega)]
  · rw [decide_eq_true (by omega), cond_t, if_neg (by omega)]
theorem sz_law {s : Nat} {L : Int} (h0 : 0 ≤ L) {e : Option Int} (he : e = some (szR s L)) {f : Int → Option Bool} (hf : (s : Int) ≤ L → f (L - s) = some true) : (e.bind fun y => bif decide (y < (0 : Int)) then some true else f y) = some true := by
  rw [he, bind_s]
  unfold szR
  by_cases g : (s : Int) ≤ L
  · rw [if_pos g, decide_eq_false (by omega), cond_f]; exact hf g
  · rw [if_neg g, decide_eq_true (by omega), cond_t]
def fnd {α : Type} (p : α → Bool) : List α → Int → Int
  | [], _ => -1
  | x :: xs, k => bif p x then k else fnd p xs (k + 1)
theorem fnd_cons {α : Type} (p : α → Bool) (x : α) (xs : List α) (k : Int) : fnd p (x :: xs) k = bif p x then k else fnd p xs (k + 1) := rfl
theorem fnd_step {α : Type} (p : α → Bool) {xs : List α} {i : Nat} (h : i < xs.length) : fnd p (xs.drop i) (i : Int) = bif p xs[i] then (i : Int) else fnd p (xs.drop (i + 1)) ((i + 1 : Nat) : Int) := by
  rw [List.drop_eq_getElem_cons h, fnd_cons]; rfl
theorem fnd_last {α : Type} (p : α → Bool) (xs : List α) (k : Int) : fnd p (xs.drop xs.length) k = -1 := by
  rw [List.drop_length]; rfl
theorem fnd_ge {α : Type} (p : α → Bool) (xs : List α) : ∀ k : Int, 0 ≤ k → decide (fnd p xs k ≥ 0) = xs.any p := by
  induction xs with
  | nil => intro k hk; rfl
  | cons x t ih =>
    intro k hk
    rw [fnd_cons, List.any_cons]
    cases p x with
    | true => rw [cond_t, Bool.true_or]; exact decide_eq_true hk
    | false => rw [cond_f, Bool.false_or]; exact ih _ (by omega)
theorem l1In_v (a b c : Int) : Z80 a b c = some (decide (b ≤ a) && decide (a ≤ c)) := by
  show (bif decide (b ≤ a) then some (decide (a ≤ c)) else some false) = _
  cases decide (b ≤ a) <;> rfl
theorem InRange_v (a b c : Int) : Z84 a b c = some (decide (b ≤ a) && decide (a ≤ c)) := by
  show (bif decide (b ≤ a) then some (decide (a ≤ c)) else some false) = _
  cases decide (b ≤ a) <;> rfl
def sizeS {α : Type} (size : α → Nat) (xs : List α) : Nat := xs.length + (xs.map size).sum
structure MaxS {α : Type} (M : α → Prop) (xs : List α) : Prop where
  len : xs.length ≤ 9223372036854775807
  each : ∀ i (h : i < xs.length), M xs[i]
theorem sum_step {α : Type} (size : α → Nat) {xs : List α} {i : Nat} (h : i < xs.length) : ((xs.drop i).map size).sum = size xs[i] + ((xs.drop (i + 1)).map size).sum := by
  rw [List.drop_eq_getElem_cons h, List.map_cons, List.sum_cons]
theorem sum_last {α : Type} (size : α → Nat) (xs : List α) : ((xs.drop xs.length).map size).sum = 0 := by
  rw [List.drop_length]; rfl
theorem size_at {α : Type} (size : α → Nat) {xs : List α} {i : Nat} (h : i < xs.length) : size xs[i] ≤ (xs.map size).sum := by
  induction xs generalizing i with
  | nil => simp at h
  | cons x t ih =>
    rw [List.map_cons, List.sum_cons]
    cases i with
    | zero => show size x ≤ _; omega
    | succ i =>
      have hi : i < t.length := by simpa using h
      have := ih hi
      show size t[i] ≤ _
      omega
theorem szList_l {α : Type} (xs : List α) (d : α) (size : α → Nat) (f : α → Int → Option Int) (hl : xs.length ≤ 1050000) (hf : ∀ i (h : i < xs.length) (L : Int), 0 ≤ L → L ≤ 1050000 → f xs[i] L = some (if (size xs[i] : Int) ≤ L then L - size xs[i] else -1)) (l : Nat → Int → Int → Option Int) (u : ∀ n a b, l (n + 1) a b = (bif decide (b < (xs.length : Int)) then bif decide (0 ≤ b) then bif decide (b < (xs.length : Int)) then (f (xs.getD b.toNat d) a).bind fun y1 => bif decide (y1 < (0 : Int)) then some (-1 : Int) else l n y1 (IntKind.i64.wrap (b + (1 : Int))) else none else none else some a)) : ∀ i n, i ≤ xs.length → xs.length - i < n → ∀ L : Int, 0 ≤ L → L ≤ 1050000 → l n L (i : Int) = some (if (((xs.drop i).map size).sum : Int) ≤ L then L - ((xs.drop i).map size).sum else -1) := by
  refine idx_ind ?_ ?_
  · intro n L h0 h1
    rw [u]
    simp only [lt_f (Nat.le_refl _), cond_f, sum_last]
    rw [if_pos (by omega)]
    congr 1; omega
  · intro i n hi ih L h0 h1
    rw [u]
    simp only [lt_t hi, ge_t, cond_t, Int.toNat_natCast, at_n hi, hf i hi L h0 h1, bind_s, w64_succ (i := i) (by omega)]
    rw [sum_step _ hi]
    by_cases g : (size xs[i] : Int) ≤ L
    · rw [if_pos g, decide_eq_false (by omega), cond_f, ih _ (by omega) (by omega)]
      by_cases k : ((((xs.drop (i + 1)).map size).sum : Nat) : Int) ≤ L - size xs[i]
      · rw [if_pos k, if_pos (by omega)]; congr 1; omega
      · rw [if_neg k, if_neg (by omega)]
    · rw [if_neg g, decide_eq_true (by omega), cond_t, if_neg (by omega)]
theorem szList_v {α : Type} (xs : List α) (d : α) (size : α → Nat) (f : α → Int → Option Int) (L : Int) (hm : xs.length ≤ 9223372036854775807) (h0 : 0 ≤ L) (h1 : L ≤ 1050000) (hf : ∀ i (h : i < xs.length) (L : Int), 0 ≤ L → L ≤ 1050000 → f xs[i] L = some (if (size xs[i] : Int) ≤ L then L - size xs[i] else -1)) (l : Nat → Int → Int → Option Int) (u : ∀ n a b, l (n + 1) a b = (bif decide (b < (xs.length : Int)) then bif decide (0 ≤ b) then bif decide (b < (xs.length : Int)) then (f (xs.getD b.toNat d) a).bind fun y1 => bif decide (y1 < (0 : Int)) then some (-1 : Int) else l n y1 (IntKind.i64.wrap (b + (1 : Int))) else none else none else some a)) : (bif decide ((IntKind.i64.wrap (L - (xs.length : Int))) < (0 : Int)) then some (-1 : Int) else l KK (IntKind.i64.wrap (L - (xs.length : Int))) (0 : Int)) = some (if (sizeS size xs : Int) ≤ L then L - sizeS size xs else -1) := by
  unfold sizeS
  rw [w64 (by omega) (by omega)]
  by_cases g : (xs.length : Int) ≤ L
  · have hh := szList_l xs d size f (by omega) hf l u 0 KK (Nat.zero_le _) (KK_gt (by omega)) (L - xs.length) (by omega) (by omega)
    rw [List.drop_zero] at hh
    rw [decide_eq_false (by omega), cond_f]
    refine Eq.trans hh ?_
    by_cases k : (((xs.map size).sum : Nat) : Int) ≤ L - xs.length
    · rw [if_pos k, if_pos (by omega)]; congr 1; omega
    · rw [if_neg k, if_neg (by omega)]
  · rw [decide_eq_true (by omega), cond_t, if_neg (by omega)]
theorem toList_v {α : Type} (xs : List α) (d : α) (f : α → Option α) (hl : xs.length ≤ 1050000) (hf : ∀ i (h : i < xs.length), f xs[i] = some xs[i]) (l : Nat → Int → List α → Option (List α)) (u : ∀ n a ys, l (n + 1) a ys = (bif decide (a < (xs.length : Int)) then bif decide (0 ≤ a) then bif decide (a < (xs.length : Int)) then (f (xs.getD a.toNat d)).bind fun y1 => bif decide (0 ≤ a) then bif decide (a < (ys.length : Int)) then l n (IntKind.i64.wrap (a + (1 : Int))) (ys.set a.toNat y1) else none else none else none else none else some ys)) : (bif ((xs.length : Int) == (xs.length : Int)) then bif decide (0 ≤ (xs.length : Int)) then bif decide ((xs.length : Int) < (68719476736 : Int)) then l KK (0 : Int) (List.replicate ((xs.length : Int).toNat) d) else none else none else none) = some xs := by
  have hh : ∀ i n, i ≤ xs.length → xs.length - i < n → ∀ ys, ys = xs.take i ++ List.replicate (xs.length - i) d → l n (i : Int) ys = some xs := by
    refine idx_ind ?_ ?_
    · intro n ys hy
      subst hy
      rw [u]
      simp only [lt_f (Nat.le_refl _), cond_f]
      simp
    · intro i n hi ih ys hy
      have hyl : i < ys.length := by subst hy; simp; omega
      rw [u]
      simp only [lt_t hi, lt_t hyl, ge_t, cond_t, Int.toNat_natCast, at_n hi, hf i hi, bind_s, w64_succ (i := i) (by omega)]
      exact ih _ (fill_set hy hi)
  rw [beq_self_eq_true, cond_t, ge_t, cond_t, decide_eq_true (by omega), cond_t, Int.toNat_natCast]
  have := hh 0 KK (Nat.zero_le _) (KK_gt (by omega)) _ rfl
  simpa using this
theorem eqList_v {α : Type} (xs : List α) (d : α) (f : α → α → Option Bool) (hl : xs.length ≤ 1152921504606846976) (hf : ∀ i (h : i < xs.length), f xs[i] xs[i] = some true) (l : Nat → Int → Option Bool) (u : ∀ n a, l (n + 1) a = (bif decide (a < (xs.length : Int)) then bif decide (0 ≤ a) then bif decide (a < (xs.length : Int)) then bif decide (0 ≤ a) then bif decide (a < (xs.length : Int)) then (f (xs.getD a.toNat d) (xs.getD a.toNat d)).bind fun y1 => bif !y1 then some false else l n (IntKind.i64.wrap (a + (1 : Int))) else none else none else none else none else some true)) : (bif (xs.length : Int) != (xs.length : Int) then some false else l KK (0 : Int)) = some true := by
  have hh : ∀ i n, i ≤ xs.length → xs.length - i < n → l n (i : Int) = some true := by
    refine idx_ind ?_ ?_
    · intro n
      rw [u]
      simp only [lt_f (Nat.le_refl _), cond_f]
    · intro i n hi ih
      rw [u]
      simp only [lt_t hi, ge_t, cond_t, Int.toNat_natCast, at_n hi, hf i hi, bind_s, w64_succ (i := i) (by omega), Bool.not_true, cond_f]
      exact ih
  rw [bne_self, cond_f]
  exact hh 0 KK (Nat.zero_le _) (KK_gt (by omega))
theorem upd_ln {α : Type} (xs : List α) (i : Nat) (f : α → α) : (upd xs i f).length = xs.length := by
  induction xs generalizing i with
  | nil => rfl
  | cons x t ih =>
    cases i with
    | zero => rfl
    | succ i => show (upd t i f).length + 1 = _; rw [ih]; rfl
theorem upd_upd {α : Type} (xs : List α) (i : Nat) (f g : α → α) : upd (upd xs i f) i g = upd xs i (fun z => g (f z)) := by
  induction xs generalizing i with
  | nil => rfl
  | cons x t ih =>
    cases i with
    | zero => rfl
    | succ i => show x :: upd (upd t i f) i g = x :: _; rw [ih]
theorem upd_get {α : Type} {xs : List α} {i : Nat} (h : i < xs.length) (f : α → α) (d : α) : (upd xs i f).getD i d = f xs[i] := by
  induction xs generalizing i with
  | nil => simp at h
  | cons x t ih =>
    cases i with
    | zero => rfl
    | succ i => exact ih (by simpa using h)
theorem upd_st {α : Type} {xs : List α} {i : Nat} (h : i < xs.length) (f : α → α) : upd xs i f = xs.set i (f xs[i]) := by
  induction xs generalizing i with
  | nil => simp at h
  | cons x t ih =>
    cases i with
    | zero => rfl
    | succ i => show x :: upd t i f = x :: _; rw [ih (by simpa using h)]; rfl
theorem wd {n : Int} (h : 0 ≤ n ∧ n ≤ 4611686018427387904) : IntKind.i64.wrap n = n := w64 (by omega) (by omega)
def mkl {α : Type} (M : α → Int → α) (E : α → Int → Int) : List α → Int → List α
  | [], _ => []
  | x :: t, k => M x k :: mkl M E t (E x k)
def endl {α : Type} (E : α → Int → Int) : List α → Int → Int
  | [], k => k
  | x :: t, k => endl E t (E x k)
theorem endl_b {α : Type} (E : α → Int → Int) (size : α → Nat) (hE : ∀ x k, k ≤ E x k ∧ E x k ≤ k + 64 * (1 + size x)) (xs : List α) : ∀ k, k ≤ endl E xs k ∧ endl E xs k ≤ k + 64 * (sizeS size xs : Nat) := by
  induction xs with
  | nil => intro k; exact ⟨Int.le_refl _, by show k ≤ _; omega⟩
  | cons x t ih =>
    intro k
    have h1 := hE x k
    have h2 := ih (E x k)
    have e : sizeS size (x :: t) = 1 + size x + sizeS size t := by unfold sizeS; simp; omega
    show k ≤ endl E t (E x k) ∧ endl E t (E x k) ≤ _
    rw [e]
    omega
theorem mark_l {α : Type} (M : α → Int → α) (E : α → Int → Int) (size : α → Nat) (hE : ∀ x k, k ≤ E x k ∧ E x k ≤ k + 64 * (1 + size x)) (l : Nat → Int → Int → List α → Option (List α × Int)) (u0 : ∀ n k (ys : List α), l (n + 1) k (ys.length : Int) ys = some (ys, k)) (u : ∀ n k (i : Nat) (ys : List α) (hi : i < ys.length), 0 ≤ k → k + 64 * (1 + (size ys[i] : Int)) ≤ 2305843009213693952 → (i : Int) ≤ 2305843009213693952 → l (n + 1) k (i : Int) ys = l n (E ys[i] k) ((i + 1 : Nat) : Int) (ys.set i (M ys[i] k))) : ∀ (suf pre : List α) (k : Int) (n : Nat), suf.length < n → 0 ≤ k → k + 64 * (sizeS size suf : Nat) ≤ 2305843009213693952 → (pre.length : Int) + suf.length ≤ 2305843009213693952 → l n k (pre.length : Int) (pre ++ suf) = some (pre ++ mkl M E suf k, endl E suf k) := by
  intro suf
  induction suf with
  | nil =>
    intro pre k n hn h0 h1 h2
    match n, hn with
    | n + 1, _ =>
      have := u0 n k (pre ++ [])
      rw [List.append_nil] at this ⊢
      rw [this]; show _ = some (pre ++ [], k); rw [List.append_nil]
  | cons x t ih =>
    intro pre k n hn h0 h1 h2
    have e : sizeS size (x :: t) = 1 + size x + sizeS size t := by unfold sizeS; simp; omega
    rw [e] at h1
    have hx := hE x k
    match n, hn with
    | n + 1, hn =>
      have hi : pre.length < (pre ++ x :: t).length := by simp
      have hg : (pre ++ x :: t)[pre.length] = x := by simp
      rw [u n k pre.length (pre ++ x :: t) hi h0 (by rw [hg]; omega) (by omega), hg]
      have hs : (pre ++ x :: t).set pre.length (M x k) = (pre ++ [M x k]) ++ t := by simp
      have := ih (pre ++ [M x k]) (E x k) n (by simp at hn; omega) (by omega) (by omega) (by simp at h2 ⊢; omega)
      rw [hs]
      simp only [List.length_append, List.length_cons, List.length_nil] at this
      rw [show pre.length + 1 = pre.length + (0 + 1) by omega, this]
      show some ((pre ++ [M x k]) ++ mkl M E t (E x k), endl E t (E x k)) = some (pre ++ (M x k :: mkl M E t (E x k)), endl E t (E x k))
      rw [List.append_assoc]; rfl
theorem held_l {α : Type} (M : α → Int → α) (E : α → Int → Int) (size : α → Nat) (hE : ∀ x k, k ≤ E x k ∧ E x k ≤ k + 64 * (1 + size x)) (xs : List α) (l : Nat → Int → Int → Option Int) (u0 : ∀ n k, l (n + 1) k (xs.length : Int) = some k) (u : ∀ n k (i : Nat) (x : α) (hi : i < xs.length), xs[i] = M x k → 0 ≤ k → k + 64 * (1 + (size x : Int)) ≤ 2305843009213693952 → (i : Int) ≤ 2305843009213693952 → l (n + 1) k (i : Int) = l n (E x k) ((i + 1 : Nat) : Int)) : ∀ (suf : List α) (pre : List α) (k : Int) (n : Nat), xs = pre ++ mkl M E suf k → suf.length < n → 0 ≤ k → k + 64 * (sizeS size suf : Nat) ≤ 2305843009213693952 → (pre.length : Int) + suf.length ≤ 2305843009213693952 → l n k (pre.length : Int) = some (endl E suf k) := by
  intro suf
  induction suf with
  | nil =>
    intro pre k n hx hn h0 h1 h2
    match n, hn with
    | n + 1, _ =>
      have e : xs.length = pre.length := by rw [hx]; show (pre ++ []).length = _; rw [List.append_nil]
      have := u0 n k
      rw [e] at this
      exact this
  | cons x t ih =>
    intro pre k n hx hn h0 h1 h2
    have e : sizeS size (x :: t) = 1 + size x + sizeS size t := by unfold sizeS; simp; omega
    rw [e] at h1
    have hb := hE x k
    have hx' : xs = pre ++ (M x k :: mkl M E t (E x k)) := hx
    match n, hn with
    | n + 1, hn =>
      have hi : pre.length < xs.length := by rw [hx']; simp
      have hg : xs[pre.length] = M x k := by
        have : xs[pre.length]? = some (M x k) := by rw [hx']; simp
        rw [List.getElem?_eq_getElem hi] at this
        injection this
      rw [u n k pre.length x hi hg h0 (by omega) (by omega)]
      have := ih (pre ++ [M x k]) (E x k) n (by rw [hx']; simp) (by simp at hn; omega) (by omega) (by omega) (by simp at h2 ⊢; omega)
      simp only [List.length_append, List.length_cons, List.length_nil] at this
      exact this
theorem szR_fl {s : Nat} {L : Int} (h0 : 0 ≤ L) (h1 : L ≤ 1050000) (hm : s ≤ 9223372036854775807) : (bif decide (IntKind.i64.wrap (L - (s : Int)) < (0 : Int)) then some (-1 : Int) else some (IntKind.i64.wrap (L - (s : Int)))) = some (szR s L) := by
  rw [w64 (by omega) (by omega)]
  unfold szR
  by_cases g : (s : Int) ≤ L
  · rw [decide_eq_false (by omega), cond_f, if_pos g]
  · rw [decide_eq_true (by omega), cond_t, if_neg g]
theorem z30 : ((3 : Int) == (0 : Int)) = false := by decide
def size0 {α : Type} (_ : α) : Nat := 0
theorem sizeS0 {α : Type} (xs : List α) : sizeS (size0 (α := α)) xs = xs.length := by
  unfold sizeS
  have : ∀ ys : List α, (ys.map size0).sum = 0 := by
    intro ys
    induction ys with
    | nil => rfl
    | cons y t ih => rw [List.map_cons, List.sum_cons, ih]; rfl
  rw [this, Nat.add_zero]
theorem szIntS_v (x0 : List Int) (L : Int) (hx : x0.length ≤ 9223372036854775807) (h0 : 0 ≤ L) (h1 : L ≤ 1050000) : Z177 x0 L = some (szR x0.length L) := by
  unfold Z177
  exact szR_fl h0 h1 hx
theorem toIntS_v (x0 : List Int) (hx : x0.length ≤ 1050000) : Z71 x0 = some x0 :=
  toList_v x0 (0 : Int) (fun s => some s) hx (fun i h => rfl) (Z71.l6 x0) (fun n a b => Z71.u6 x0 n a b)
theorem eqIntS_v (x0 : List Int) (hx : x0.length ≤ 1152921504606846976) : Z44 x0 x0 = some true :=
  eqList_v x0 (0 : Int) (fun s t => some (s == t)) hx (fun i h => by rw [beq_self_eq_true]) (Z44.l8 x0 x0) (fun n a => Z44.u8 x0 x0 n a)
def fullInt (x : Int) (k : Int) : Int := k
def fendInt (x : Int) (k : Int) : Int := k + 1
theorem fendInt_b (x : Int) (k : Int) : k ≤ fendInt x k ∧ fendInt x k ≤ k + 64 * (1 + (size0 x : Nat)) := by
  unfold fendInt size0
  omega
def mkdIntS (xs : List Int) (k : Int) : List Int := mkl fullInt fendInt xs k
def endIntS (xs : List Int) (k : Int) : Int := endl fendInt xs k
theorem endIntS_b (xs : List Int) (k : Int) : k ≤ endIntS xs k ∧ endIntS xs k ≤ k + 64 * (xs.length : Nat) := by
  have := endl_b fendInt size0 (fendInt_b) xs k
  rw [sizeS0] at this
  exact this
theorem markIntS_v (xs : List Int) (k : Int) (h0 : 0 ≤ k) (h1 : k + 64 * (xs.length : Nat) ≤ 2305843009213693952) : Z20 xs k = some (mkdIntS xs k, endIntS xs k) := by
  refine mark_l fullInt fendInt size0 (fendInt_b) Z20.l4 (fun n k ys => ?_) (fun n k i ys hi h0 h1 h2 => ?_) xs [] k KK (KK_gt (by omega)) h0 (by rw [sizeS0]; exact h1) (by simp; omega)
  · rw [Z20.u4]
    simp only [Z20.g4, lt_f (Nat.le_refl _), cond_f]
  · rw [Z20.u4]
    unfold size0 at h1
    simp only [Z20.g4, upd_ln, upd_upd, upd_get hi, lt_t hi, ge_t, cond_t, Int.toNat_natCast, at_n hi, z30, cond_f]
    simp (disch := omega) only [wd]
    rfl
theorem heldIntS_v (xs : List Int) (k : Int) (h0 : 0 ≤ k) (h1 : k + 64 * (xs.length : Nat) ≤ 2305843009213693952) : Z19 (mkdIntS xs k) k = some (endIntS xs k) := by
  refine held_l fullInt fendInt size0 (fendInt_b) (mkdIntS xs k) (Z19.l4 (mkdIntS xs k)) (fun n k => ?_) (fun n k i x hi hx h0 h1 h2 => ?_) xs [] k KK rfl (KK_gt (by omega)) h0 (by rw [sizeS0]; exact h1) (by simp; omega)
  · rw [Z19.u4]
    simp only [Z19.g4, lt_f (Nat.le_refl _), cond_f]
  · rw [Z19.u4]
    unfold size0 at h1
    simp only [Z19.g4, lt_t hi, ge_t, cond_t, Int.toNat_natCast, at_n hi, hx, z30, cond_f]
    refine cF (bne_self _) ?_
    simp (disch := omega) only [wd]
    rfl
def sizeStr (x : ByteArray) : Nat := x.size
def StrMax (x : ByteArray) : Prop := x.size ≤ 9223372036854775807
def sizeStringS (xs : List ByteArray) : Nat := sizeS sizeStr xs
def StringSMax (xs : List ByteArray) : Prop := MaxS StrMax xs
theorem szStr_v (x : ByteArray) (L : Int) (hx : StrMax x) (h0 : 0 ≤ L) (h1 : L ≤ 1050000) : (bif decide ((IntKind.i64.wrap (L - (x.size : Int))) < (0 : Int)) then some (-1 : Int) else some (IntKind.i64.wrap (L - (x.size : Int)))) = some (szR (sizeStr x) L) := szR_fl h0 h1 hx
theorem str_bif (c : Bool) (a b : Int) (g : Int → Option Int) (hc : c = decide (b < 0)) : (bif c then some (-1 : Int) else g b) = ((bif c then some (-1 : Int) else some b) : Option Int).bind fun y1 => bif decide (y1 < (0 : Int)) then some (-1 : Int) else g y1 := by
  subst hc
  by_cases h : b < 0
  · rw [decide_eq_true h, cond_t, cond_t, bind_s]; rfl
  · rw [decide_eq_false h, cond_f, cond_f, bind_s, decide_eq_false h, cond_f]
theorem szStringS_v (x0 : List ByteArray) (L : Int) (hx : StringSMax x0) (h0 : 0 ≤ L) (h1 : L ≤ 1050000) : Z54 x0 L = some (szR (sizeStringS x0) L) := by
  refine szList_v x0 (⟨#[]⟩ : ByteArray) sizeStr (fun s L => bif decide ((IntKind.i64.wrap (L - (s.size : Int))) < (0 : Int)) then some (-1 : Int) else some (IntKind.i64.wrap (L - (s.size : Int)))) L hx.len h0 h1 (fun i h L h0 h1 => szStr_v _ _ (hx.each i h) h0 h1) (Z54.l10 x0) (fun n a b => ?_)
  rw [Z54.u10]
  simp only [Z54.g10]
  rw [str_bif _ a _ (fun y => Z54.l10 x0 n y (IntKind.i64.wrap (b + (1 : Int)))) rfl]
theorem toStringS_v (x0 : List ByteArray) (hx : sizeStringS x0 ≤ 1050000) : Z74 x0 = some x0 :=
  toList_v x0 (⟨#[]⟩ : ByteArray) (fun s => some s) (by unfold sizeStringS sizeS at hx; omega) (fun i h => rfl) (Z74.l6 x0) (fun n a b => Z74.u6 x0 n a b)
theorem eqStringS_v (x0 : List ByteArray) (hx : sizeStringS x0 ≤ 1152921504606846976) : Z56 x0 x0 = some true := by
  refine eqList_v x0 (⟨#[]⟩ : ByteArray) (fun s t => some (s.toList == t.toList)) (by unfold sizeStringS sizeS at hx; omega) (fun i h => by rw [beq_self_eq_true]) (Z56.l8 x0 x0) (fun n a => ?_)
  rw [Z56.u8]
  simp only [Z56.g8, bind_s]
theorem ba_app (a b : ByteArray) : (a ++ b).size = a.size + b.size := by
  exact ByteArray.size_append
theorem str1 (x : Int) : (strOf [x]).size = 1 := rfl
theorem markText_l : ∀ (d : Nat) (k : Int) (n : Nat) (acc : ByteArray), 0 ≤ k → k < (10 ^ d : Nat) → k ≤ 4611686018427387904 → d < n → acc.size + d + 1 < 281474976710656 → ∃ b, Z12.l8 n k acc = some b := by
  intro d
  induction d with
  | zero =>
    intro k n acc h0 h1 h3 hn hs
    match n, hn with
    | n + 1, _ =>
      rw [Z12.u8]
      have e : ((⟨#[109]⟩ : ByteArray).size : Nat) = 1 := rfl
      refine ⟨_, cF (decide_eq_false (by simp at h1; omega)) (cT (decide_eq_true (by rw [e]; omega)) rfl)⟩
  | succ d ih =>
    intro k n acc h0 h1 h3 hn hs
    match n, hn with
    | n + 1, hn =>
      rw [Z12.u8]
      by_cases hk : 0 < k
      · have hd : 0 ≤ Int.tdiv k 10 := Int.tdiv_nonneg h0 (by omega)
        have hdv : Int.tdiv k 10 = k / 10 := Int.tdiv_eq_ediv_of_nonneg h0
        have hlt : k / 10 < ((10 ^ d : Nat) : Int) := by
          refine Int.ediv_lt_of_lt_mul (by omega) ?_
          rw [Nat.pow_succ] at h1
          omega
        have hz : ((10 : Int) == (0 : Int)) = false := by decide
        obtain ⟨b, hb⟩ := ih (k / 10) n (strOf [IntKind.u8.wrap (IntKind.i64.wrap ((48 : Int) + (Int.tmod k (10 : Int))))] ++ acc) (by omega) hlt (by omega) (by omega) (by rw [ba_app, str1]; omega)
        refine ⟨b, cT (decide_eq_true hk) (cF hz (cT (decide_eq_true (by rw [str1]; omega)) (cF hz ?_)))⟩
        rw [hdv, wd (n := k / 10) (by omega)]
        exact hb
      · have e : ((⟨#[109]⟩ : ByteArray).size : Nat) = 1 := rfl
        exact ⟨_, cF (decide_eq_false hk) (cT (decide_eq_true (by rw [e]; omega)) rfl)⟩
theorem markText_ex (k : Int) (h0 : 0 ≤ k) (h1 : k ≤ 4611686018427387904) : ∃ b, Z12 k = some b := by
  unfold Z12
  by_cases h : k ≤ 0
  · exact ⟨_, cT (decide_eq_true h) rfl⟩
  · have e19 : ((10 ^ 19 : Nat) : Int) = 10000000000000000000 := by decide
    obtain ⟨b, hb⟩ := markText_l 19 k KK ⟨#[]⟩ h0 (by rw [e19]; omega) h1 (KK_gt (by omega)) (by show 0 + 19 + 1 < _; omega)
    exact ⟨b, cF (decide_eq_false h) hb⟩
noncomputable def mtext (k : Int) : ByteArray := (Z12 k).getD ⟨#[]⟩
theorem markText_v (k : Int) (h0 : 0 ≤ k) (h1 : k ≤ 4611686018427387904) : Z12 k = some (mtext k) := by
  obtain ⟨b, hb⟩ := markText_ex k h0 h1
  unfold mtext
  rw [hb]; rfl
noncomputable def fullStr (_ : ByteArray) (k : Int) : ByteArray := mtext k
def fendStr (_ : ByteArray) (k : Int) : Int := k + 1
theorem fendStr_b (x : ByteArray) (k : Int) : k ≤ fendStr x k ∧ fendStr x k ≤ k + 64 * (1 + (sizeStr x : Nat)) := by
  unfold fendStr; omega
noncomputable def mkdStringS (xs : List ByteArray) (k : Int) : List ByteArray := mkl fullStr fendStr xs k
def endStringS (xs : List ByteArray) (k : Int) : Int := endl fendStr xs k
theorem endStringS_b (xs : List ByteArray) (k : Int) : k ≤ endStringS xs k ∧ endStringS xs k ≤ k + 64 * (sizeStringS xs : Nat) :=
  endl_b fendStr sizeStr fendStr_b xs k
theorem markStringS_v (xs : List ByteArray) (k : Int) (h0 : 0 ≤ k) (h1 : k + 64 * (sizeStringS xs : Nat) ≤ 2305843009213693952) : Z22 xs k = some (mkdStringS xs k, endStringS xs k) := by
  refine mark_l fullStr fendStr sizeStr fendStr_b Z22.l4 (fun n k ys => ?_) (fun n k i ys hi h0 h1 h2 => ?_) xs [] k KK (KK_gt (by unfold sizeStringS sizeS at h1; omega)) h0 h1 (by unfold sizeStringS sizeS at h1; simp; omega)
  · rw [Z22.u4]
    simp only [Z22.g4, lt_f (Nat.le_refl _), cond_f]
  · rw [Z22.u4]
    simp only [Z22.g4, lt_t hi, ge_t, cond_t, Int.toNat_natCast, markText_v k h0 (by omega), bind_s]
    rw [wd (n := (i : Int) + 1) (by omega), wd (n := k + 1) (by omega)]
    rfl
theorem heldStringS_v (xs : List ByteArray) (k : Int) (h0 : 0 ≤ k) (h1 : k + 64 * (sizeStringS xs : Nat) ≤ 2305843009213693952) : Z32 (mkdStringS xs k) k = some (endStringS xs k) := by
  refine held_l fullStr fendStr sizeStr fendStr_b (mkdStringS xs k) (Z32.l4 (mkdStringS xs k)) (fun n k => ?_) (fun n k i x hi hx h0 h1 h2 => ?_) xs [] k KK rfl (KK_gt (by unfold sizeStringS sizeS at h1; omega)) h0 h1 (by unfold sizeStringS sizeS at h1; simp; omega)
  · rw [Z32.u4]
    simp only [Z32.g4, lt_f (Nat.le_refl _), cond_f]
  · rw [Z32.u4]
    simp only [Z32.g4, lt_t hi, ge_t, cond_t, Int.toNat_natCast, at_n hi, hx, markText_v k h0 (by omega), bind_s]
    rw [wd (n := (i : Int) + 1) (by omega), wd (n := k + 1) (by omega), show (!((fullStr x k).toList == (mtext k).toList)) = false from nbeq _, cond_f]
    rfl

def sizeKeys (x : TKeys) : Nat := x.1.length
def KeysMax (x : TKeys) : Prop := x.1.length ≤ 9223372036854775807
theorem szKeys_v (x0 : TKeys) (L : Int) (hx : KeysMax x0) (h0 : 0 ≤ L) (h1 : L ≤ 1050000) : Z147 x0 L = some (szR (sizeKeys x0) L) := by
  unfold Z147 sizeKeys
  exact szR_l h0 (szIntS_v _ _ hx h0 h1)
theorem toKeys_v (x0 : TKeys) (hx : sizeKeys x0 ≤ 1050000) : Z148 x0 = some x0 := by
  unfold sizeKeys at hx
  unfold Z148
  exact bnd (toIntS_v _ (by omega)) (rfl)
theorem eqKeys_v (a : TKeys) (hx : sizeKeys a ≤ 1152921504606846976) : Z146 a a = some true := by
  unfold sizeKeys at hx
  unfold Z146
  exact bnd (eqIntS_v _ (by omega)) (cF rfl (cF (bne_self _) (rfl)))
def sizeHead (x : THead) : Nat := sizeKeys (Head_Keys x) + (sizeKeys (Head_Heirs x) + (sizeKeys (Head_Judge x)))
structure HeadMax (x : THead) : Prop where
  m0 : KeysMax (Head_Keys x)
  m1 : KeysMax (Head_Heirs x)
  m2 : KeysMax (Head_Judge x)
theorem szHead_v (x0 : THead) (L : Int) (hx : HeadMax x0) (h0 : 0 ≤ L) (h1 : L ≤ 1050000) : Z112 x0 L = some (szR (sizeHead x0) L) := by
  unfold Z112 sizeHead
  exact szR_b h0 h1 (szKeys_v _ _ hx.m0 h0 h1) (fun M h0 h1 => szR_b h0 h1 (szKeys_v _ _ hx.m1 h0 h1) (fun M h0 h1 => szR_l h0 (szKeys_v _ _ hx.m2 h0 h1)))
theorem toHead_v (x0 : THead) (hx : sizeHead x0 ≤ 1050000) : Z113 x0 = some x0 := by
  unfold sizeHead at hx
  unfold Z113
  exact bnd (toKeys_v _ (by omega)) (bnd (toKeys_v _ (by omega)) (bnd (toKeys_v _ (by omega)) (rfl)))
theorem eqHead_v (a : THead) (hx : sizeHead a ≤ 1152921504606846976) : Z111 a a = some true := by
  unfold sizeHead at hx
  unfold Z111
  exact cF (bne_self _) (cF (bne_self _) (cF (bne_self _) (cF (bne_self _) (cF (bne_self _) (cF (bne_self _) (cF (bne_self _) (cF (bne_self _) (bnd (eqKeys_v _ (by omega)) (cF rfl (bnd (eqKeys_v _ (by omega)) (cF rfl (cF (bne_self _) (bnd (eqKeys_v _ (by omega)) (cF rfl (cF (nbeq _) (rfl))))))))))))))))
theorem toSig_v (x0 : TSig) : Z179 x0 = some x0 := rfl
theorem eqSig_v (a : TSig) : Z154 a a = some true := by
  unfold Z154
  simp only [bne_self, cond_f]
theorem szSigS_v (x0 : List TSig) (L : Int) (hx : x0.length ≤ 9223372036854775807) (h0 : 0 ≤ L) (h1 : L ≤ 1050000) : Z178 x0 L = some (szR x0.length L) := by
  unfold Z178
  exact szR_fl h0 h1 hx
theorem toSigS_v (x0 : List TSig) (hx : x0.length ≤ 1050000) : Z72 x0 = some x0 :=
  toList_v x0 dSig Z179 hx (fun i h => toSig_v _) (Z72.l6 x0) (fun n a b => Z72.u6 x0 n a b)
theorem eqSigS_v (x0 : List TSig) (hx : x0.length ≤ 1152921504606846976) : Z64 x0 x0 = some true :=
  eqList_v x0 dSig Z154 hx (fun i h => eqSig_v _) (Z64.l8 x0 x0) (fun n a => Z64.u8 x0 x0 n a)
def fullSig (x : TSig) (k : Int) : TSig := (k, k + 1)
def fendSig (x : TSig) (k : Int) : Int := k + 1 + 1
theorem fendSig_b (x : TSig) (k : Int) : k ≤ fendSig x k ∧ fendSig x k ≤ k + 64 * (1 + (size0 x : Nat)) := by
  unfold fendSig size0
  omega
def mkdSigS (xs : List TSig) (k : Int) : List TSig := mkl fullSig fendSig xs k
def endSigS (xs : List TSig) (k : Int) : Int := endl fendSig xs k
theorem endSigS_b (xs : List TSig) (k : Int) : k ≤ endSigS xs k ∧ endSigS xs k ≤ k + 64 * (xs.length : Nat) := by
  have := endl_b fendSig size0 (fendSig_b) xs k
  rw [sizeS0] at this
  exact this
theorem markSigS_v (xs : List TSig) (k : Int) (h0 : 0 ≤ k) (h1 : k + 64 * (xs.length : Nat) ≤ 2305843009213693952) : Z25 xs k = some (mkdSigS xs k, endSigS xs k) := by
  refine mark_l fullSig fendSig size0 (fendSig_b) Z25.l4 (fun n k ys => ?_) (fun n k i ys hi h0 h1 h2 => ?_) xs [] k KK (KK_gt (by omega)) h0 (by rw [sizeS0]; exact h1) (by simp; omega)
  · rw [Z25.u4]
    simp only [Z25.g4, lt_f (Nat.le_refl _), cond_f]
  · rw [Z25.u4]
    unfold size0 at h1
    simp only [Z25.g4, upd_ln, upd_upd, upd_get hi, lt_t hi, ge_t, cond_t, Int.toNat_natCast, at_n hi, z30, cond_f, Z25.w1]
    try simp (disch := omega) only [wd]
    simp only [upd_st hi]
    rfl
theorem heldSigS_v (xs : List TSig) (k : Int) (h0 : 0 ≤ k) (h1 : k + 64 * (xs.length : Nat) ≤ 2305843009213693952) : Z46 (mkdSigS xs k) k = some (endSigS xs k) := by
  refine held_l fullSig fendSig size0 (fendSig_b) (mkdSigS xs k) (Z46.l4 (mkdSigS xs k)) (fun n k => ?_) (fun n k i x hi hx h0 h1 h2 => ?_) xs [] k KK rfl (KK_gt (by omega)) h0 (by rw [sizeS0]; exact h1) (by simp; omega)
  · rw [Z46.u4]
    simp only [Z46.g4, lt_f (Nat.le_refl _), cond_f]
  · rw [Z46.u4]
    unfold size0 at h1
    simp only [Z46.g4, lt_t hi, ge_t, cond_t, Int.toNat_natCast, at_n hi, hx, z30, cond_f]
    refine cF (by first | exact bne_self _ | (simp (disch := omega) only [wd]; exact bne_self _)) ?_
    refine cF (by first | exact bne_self _ | (simp (disch := omega) only [wd]; exact bne_self _)) ?_
    try simp (disch := omega) only [wd]
    rfl
def sizeSigned (x : TSigned) : Nat := sizeHead (Signed_Head x) + ((Signed_Sigs x).length)
structure SignedMax (x : TSigned) : Prop where
  m0 : HeadMax (Signed_Head x)
  m1 : (Signed_Sigs x).length ≤ 9223372036854775807
theorem szSigned_v (x0 : TSigned) (L : Int) (hx : SignedMax x0) (h0 : 0 ≤ L) (h1 : L ≤ 1050000) : Z101 x0 L = some (szR (sizeSigned x0) L) := by
  unfold Z101 sizeSigned
  exact szR_b h0 h1 (szHead_v _ _ hx.m0 h0 h1) (fun M h0 h1 => szR_l h0 (szSigS_v _ _ hx.m1 h0 h1))
theorem toSigned_v (x0 : TSigned) (hx : sizeSigned x0 ≤ 1050000) : Z102 x0 = some x0 := by
  unfold sizeSigned at hx
  unfold Z102
  exact bnd (toHead_v _ (by omega)) (bnd (toSigS_v _ (by omega)) (rfl))
theorem eqSigned_v (a : TSigned) (hx : sizeSigned a ≤ 1152921504606846976) : Z100 a a = some true := by
  unfold sizeSigned at hx
  unfold Z100
  exact bnd (eqHead_v _ (by omega)) (cF rfl (bnd (eqSigS_v _ (by omega)) (cF rfl (rfl))))
def sizeSignedS (xs : List TSigned) : Nat := sizeS sizeSigned xs
def SignedSMax (xs : List TSigned) : Prop := MaxS SignedMax xs
theorem szSignedS_v (x0 : List TSigned) (L : Int) (hx : SignedSMax x0) (h0 : 0 ≤ L) (h1 : L ≤ 1050000) : Z68 x0 L = some (szR (sizeSignedS x0) L) :=
  szList_v x0 dSigned sizeSigned Z101 L hx.len h0 h1 (fun i h L h0 h1 => szSigned_v _ _ (hx.each i h) h0 h1) (Z68.l10 x0) (fun n a b => Z68.u10 x0 n a b)
theorem toSignedS_v (x0 : List TSigned) (hx : sizeSignedS x0 ≤ 1050000) : Z73 x0 = some x0 :=
  toList_v x0 dSigned Z102 (by unfold sizeSignedS sizeS at hx; omega) (fun i h => toSigned_v _ (by have := size_at sizeSigned h; unfold sizeSignedS sizeS at hx; omega)) (Z73.l6 x0) (fun n a b => Z73.u6 x0 n a b)
theorem eqSignedS_v (x0 : List TSigned) (hx : sizeSignedS x0 ≤ 1152921504606846976) : Z45 x0 x0 = some true :=
  eqList_v x0 dSigned Z100 (by unfold sizeSignedS sizeS at hx; omega) (fun i h => eqSigned_v _ (by have := size_at sizeSigned h; unfold sizeSignedS sizeS at hx; omega)) (Z45.l8 x0 x0) (fun n a => Z45.u8 x0 x0 n a)
def fullSigned (x : TSigned) (k : Int) : TSigned := Signed_mk (Head_mk k (k + 1) (k + 1 + 1) (k + 1 + 1 + 1) (k + 1 + 1 + 1 + 1) (k + 1 + 1 + 1 + 1 + 1) (k + 1 + 1 + 1 + 1 + 1 + 1) (k + 1 + 1 + 1 + 1 + 1 + 1 + 1) (mkdIntS (Head_Keys (Signed_Head x)).1 (k + 1 + 1 + 1 + 1 + 1 + 1 + 1 + 1), endIntS (Head_Keys (Signed_Head x)).1 (k + 1 + 1 + 1 + 1 + 1 + 1 + 1 + 1)) (mkdIntS (Head_Heirs (Signed_Head x)).1 (endIntS (Head_Keys (Signed_Head x)).1 (k + 1 + 1 + 1 + 1 + 1 + 1 + 1 + 1) + 1), endIntS (Head_Heirs (Signed_Head x)).1 (endIntS (Head_Keys (Signed_Head x)).1 (k + 1 + 1 + 1 + 1 + 1 + 1 + 1 + 1) + 1)) (endIntS (Head_Heirs (Signed_Head x)).1 (endIntS (Head_Keys (Signed_Head x)).1 (k + 1 + 1 + 1 + 1 + 1 + 1 + 1 + 1) + 1) + 1) (mkdIntS (Head_Judge (Signed_Head x)).1 (endIntS (Head_Heirs (Signed_Head x)).1 (endIntS (Head_Keys (Signed_Head x)).1 (k + 1 + 1 + 1 + 1 + 1 + 1 + 1 + 1) + 1) + 1 + 1), endIntS (Head_Judge (Signed_Head x)).1 (endIntS (Head_Heirs (Signed_Head x)).1 (endIntS (Head_Keys (Signed_Head x)).1 (k + 1 + 1 + 1 + 1 + 1 + 1 + 1 + 1) + 1) + 1 + 1)) (Int.tmod (endIntS (Head_Judge (Signed_Head x)).1 (endIntS (Head_Heirs (Signed_Head x)).1 (endIntS (Head_Keys (Signed_Head x)).1 (k + 1 + 1 + 1 + 1 + 1 + 1 + 1 + 1) + 1) + 1 + 1) + 1) 3 == 0)) (mkdSigS (Signed_Sigs x) (endIntS (Head_Judge (Signed_Head x)).1 (endIntS (Head_Heirs (Signed_Head x)).1 (endIntS (Head_Keys (Signed_Head x)).1 (k + 1 + 1 + 1 + 1 + 1 + 1 + 1 + 1) + 1) + 1 + 1) + 1 + 1))
def fendSigned (x : TSigned) (k : Int) : Int := endSigS (Signed_Sigs x) (endIntS (Head_Judge (Signed_Head x)).1 (endIntS (Head_Heirs (Signed_Head x)).1 (endIntS (Head_Keys (Signed_Head x)).1 (k + 1 + 1 + 1 + 1 + 1 + 1 + 1 + 1) + 1) + 1 + 1) + 1 + 1)
theorem fendSigned_b (x : TSigned) (k : Int) : k ≤ fendSigned x k ∧ fendSigned x k ≤ k + 64 * (1 + (sizeSigned x : Nat)) := by
  unfold fendSigned sizeSigned sizeHead sizeKeys
  have b0 := endIntS_b (Head_Keys (Signed_Head x)).1 (k + 1 + 1 + 1 + 1 + 1 + 1 + 1 + 1)
  have b1 := endIntS_b (Head_Heirs (Signed_Head x)).1 (endIntS (Head_Keys (Signed_Head x)).1 (k + 1 + 1 + 1 + 1 + 1 + 1 + 1 + 1) + 1)
  have b2 := endIntS_b (Head_Judge (Signed_Head x)).1 (endIntS (Head_Heirs (Signed_Head x)).1 (endIntS (Head_Keys (Signed_Head x)).1 (k + 1 + 1 + 1 + 1 + 1 + 1 + 1 + 1) + 1) + 1 + 1)
  have b3 := endSigS_b (Signed_Sigs x) (endIntS (Head_Judge (Signed_Head x)).1 (endIntS (Head_Heirs (Signed_Head x)).1 (endIntS (Head_Keys (Signed_Head x)).1 (k + 1 + 1 + 1 + 1 + 1 + 1 + 1 + 1) + 1) + 1 + 1) + 1 + 1)
  omega
def mkdSignedS (xs : List TSigned) (k : Int) : List TSigned := mkl fullSigned fendSigned xs k
def endSignedS (xs : List TSigned) (k : Int) : Int := endl fendSigned xs k
theorem endSignedS_b (xs : List TSigned) (k : Int) : k ≤ endSignedS xs k ∧ endSignedS xs k ≤ k + 64 * (sizeSignedS xs : Nat) := by
  have := endl_b fendSigned sizeSigned (fendSigned_b) xs k
  exact this
theorem markSignedS_v (xs : List TSigned) (k : Int) (h0 : 0 ≤ k) (h1 : k + 64 * (sizeSignedS xs : Nat) ≤ 2305843009213693952) : Z1 xs k = some (mkdSignedS xs k, endSignedS xs k) := by
  refine mark_l fullSigned fendSigned sizeSigned (fendSigned_b) Z1.l4 (fun n k ys => ?_) (fun n k i ys hi h0 h1 h2 => ?_) xs [] k KK (KK_gt (by unfold sizeSignedS sizeS at h1; omega)) h0 (h1) (by unfold sizeSignedS sizeS at h1; simp; omega)
  · rw [Z1.u4]
    simp only [Z1.g4, lt_f (Nat.le_refl _), cond_f]
  · rw [Z1.u4]
    unfold sizeSigned sizeHead sizeKeys at h1
    simp only [Z1.g4, upd_ln, upd_upd, upd_get hi, lt_t hi, ge_t, cond_t, Int.toNat_natCast, at_n hi, z30, cond_f, Z1.w1, Z1.w2, Z1.w3, Z1.w4, Z1.w5, Z1.w6, Z1.w7, Z1.w8, Z1.w9, Z1.w10, Z1.w11, Z1.w12, Z1.w13, Z1.w14, Z1.w15, Z1.w16, Signed_Head, Signed_Sigs, Head_Zone, Head_Epoch, Head_Kind, Head_Time, Head_Until, Head_Count, Head_Root, Head_Prev, Head_Keys, Head_Heirs, Head_Wait, Head_Judge, Head_Frozen]
    have b0 := endIntS_b (Head_Keys (Signed_Head ys[i])).1 (k + 1 + 1 + 1 + 1 + 1 + 1 + 1 + 1)
    refine bndk (k := k + 1 + 1 + 1 + 1 + 1 + 1 + 1 + 1) (by first | rfl | (simp (disch := omega) only [wd])) (markIntS_v (Head_Keys (Signed_Head ys[i])).1 (k + 1 + 1 + 1 + 1 + 1 + 1 + 1 + 1) (by omega) (by omega)) ?_
    generalize hk0 : endIntS (Head_Keys (Signed_Head ys[i])).1 (k + 1 + 1 + 1 + 1 + 1 + 1 + 1 + 1) = k0 at b0 ⊢
    have b3 := endIntS_b (Head_Heirs (Signed_Head ys[i])).1 (k0 + 1)
    refine bndk (k := k0 + 1) (by first | rfl | (simp (disch := omega) only [wd])) (markIntS_v (Head_Heirs (Signed_Head ys[i])).1 (k0 + 1) (by omega) (by omega)) ?_
    generalize hk3 : endIntS (Head_Heirs (Signed_Head ys[i])).1 (k0 + 1) = k3 at b3 ⊢
    have b6 := endIntS_b (Head_Judge (Signed_Head ys[i])).1 (k3 + 1 + 1)
    refine bndk (k := k3 + 1 + 1) (by first | rfl | (simp (disch := omega) only [wd])) (markIntS_v (Head_Judge (Signed_Head ys[i])).1 (k3 + 1 + 1) (by omega) (by omega)) ?_
    generalize hk6 : endIntS (Head_Judge (Signed_Head ys[i])).1 (k3 + 1 + 1) = k6 at b6 ⊢
    have b9 := endSigS_b (Signed_Sigs ys[i]) (k6 + 1 + 1)
    refine bndk (k := k6 + 1 + 1) (by first | rfl | (simp (disch := omega) only [wd])) (markSigS_v (Signed_Sigs ys[i]) (k6 + 1 + 1) (by omega) (by omega)) ?_
    generalize hk9 : endSigS (Signed_Sigs ys[i]) (k6 + 1 + 1) = k9 at b9 ⊢
    try simp (disch := omega) only [wd]
    subst hk9
    subst hk6
    subst hk3
    subst hk0
    simp only [upd_st hi]
    rfl
theorem heldSignedS_v (xs : List TSigned) (k : Int) (h0 : 0 ≤ k) (h1 : k + 64 * (sizeSignedS xs : Nat) ≤ 2305843009213693952) : Z47 (mkdSignedS xs k) k = some (endSignedS xs k) := by
  refine held_l fullSigned fendSigned sizeSigned (fendSigned_b) (mkdSignedS xs k) (Z47.l4 (mkdSignedS xs k)) (fun n k => ?_) (fun n k i x hi hx h0 h1 h2 => ?_) xs [] k KK rfl (KK_gt (by unfold sizeSignedS sizeS at h1; omega)) h0 (h1) (by unfold sizeSignedS sizeS at h1; simp; omega)
  · rw [Z47.u4]
    simp only [Z47.g4, lt_f (Nat.le_refl _), cond_f]
  · rw [Z47.u4]
    unfold sizeSigned sizeHead sizeKeys at h1
    simp only [Z47.g4, lt_t hi, ge_t, cond_t, Int.toNat_natCast, at_n hi, hx, z30, cond_f]
    refine cF (by first | exact bne_self _ | (simp (disch := omega) only [wd]; exact bne_self _)) ?_
    refine cF (by first | exact bne_self _ | (simp (disch := omega) only [wd]; exact bne_self _)) ?_
    refine cF (by first | exact bne_self _ | (simp (disch := omega) only [wd]; exact bne_self _)) ?_
    refine cF (by first | exact bne_self _ | (simp (disch := omega) only [wd]; exact bne_self _)) ?_
    refine cF (by first | exact bne_self _ | (simp (disch := omega) only [wd]; exact bne_self _)) ?_
    refine cF (by first | exact bne_self _ | (simp (disch := omega) only [wd]; exact bne_self _)) ?_
    refine cF (by first | exact bne_self _ | (simp (disch := omega) only [wd]; exact bne_self _)) ?_
    refine cF (by first | exact bne_self _ | (simp (disch := omega) only [wd]; exact bne_self _)) ?_
    have b8 := endIntS_b (Head_Keys (Signed_Head x)).1 (k + 1 + 1 + 1 + 1 + 1 + 1 + 1 + 1)
    refine bndk (k := k + 1 + 1 + 1 + 1 + 1 + 1 + 1 + 1) (by first | rfl | (simp (disch := omega) only [wd])) (heldIntS_v (Head_Keys (Signed_Head x)).1 (k + 1 + 1 + 1 + 1 + 1 + 1 + 1 + 1) (by omega) (by omega)) ?_
    refine cF (decide_eq_false (by omega)) ?_
    refine cF (by first | exact bne_self _ | (simp (disch := omega) only [wd]; exact bne_self _)) ?_
    have b12 := endIntS_b (Head_Heirs (Signed_Head x)).1 (endIntS (Head_Keys (Signed_Head x)).1 (k + 1 + 1 + 1 + 1 + 1 + 1 + 1 + 1) + 1)
    refine bndk (k := endIntS (Head_Keys (Signed_Head x)).1 (k + 1 + 1 + 1 + 1 + 1 + 1 + 1 + 1) + 1) (by first | rfl | (simp (disch := omega) only [wd])) (heldIntS_v (Head_Heirs (Signed_Head x)).1 (endIntS (Head_Keys (Signed_Head x)).1 (k + 1 + 1 + 1 + 1 + 1 + 1 + 1 + 1) + 1) (by omega) (by omega)) ?_
    refine cF (decide_eq_false (by omega)) ?_
    refine cF (by first | exact bne_self _ | (simp (disch := omega) only [wd]; exact bne_self _)) ?_
    refine cF (by first | exact bne_self _ | (simp (disch := omega) only [wd]; exact bne_self _)) ?_
    have b17 := endIntS_b (Head_Judge (Signed_Head x)).1 (endIntS (Head_Heirs (Signed_Head x)).1 (endIntS (Head_Keys (Signed_Head x)).1 (k + 1 + 1 + 1 + 1 + 1 + 1 + 1 + 1) + 1) + 1 + 1)
    refine bndk (k := endIntS (Head_Heirs (Signed_Head x)).1 (endIntS (Head_Keys (Signed_Head x)).1 (k + 1 + 1 + 1 + 1 + 1 + 1 + 1 + 1) + 1) + 1 + 1) (by first | rfl | (simp (disch := omega) only [wd])) (heldIntS_v (Head_Judge (Signed_Head x)).1 (endIntS (Head_Heirs (Signed_Head x)).1 (endIntS (Head_Keys (Signed_Head x)).1 (k + 1 + 1 + 1 + 1 + 1 + 1 + 1 + 1) + 1) + 1 + 1) (by omega) (by omega)) ?_
    refine cF (decide_eq_false (by omega)) ?_
    refine cF (by first | exact bne_self _ | (simp (disch := omega) only [wd]; exact bne_self _)) ?_
    refine cF (by first | exact nbeq _ | (simp (disch := omega) only [wd]; exact nbeq _)) ?_
    have b22 := endSigS_b (Signed_Sigs x) (endIntS (Head_Judge (Signed_Head x)).1 (endIntS (Head_Heirs (Signed_Head x)).1 (endIntS (Head_Keys (Signed_Head x)).1 (k + 1 + 1 + 1 + 1 + 1 + 1 + 1 + 1) + 1) + 1 + 1) + 1 + 1)
    refine bndk (k := endIntS (Head_Judge (Signed_Head x)).1 (endIntS (Head_Heirs (Signed_Head x)).1 (endIntS (Head_Keys (Signed_Head x)).1 (k + 1 + 1 + 1 + 1 + 1 + 1 + 1 + 1) + 1) + 1 + 1) + 1 + 1) (by first | rfl | (simp (disch := omega) only [wd])) (heldSigS_v (Signed_Sigs x) (endIntS (Head_Judge (Signed_Head x)).1 (endIntS (Head_Heirs (Signed_Head x)).1 (endIntS (Head_Keys (Signed_Head x)).1 (k + 1 + 1 + 1 + 1 + 1 + 1 + 1 + 1) + 1) + 1 + 1) + 1 + 1) (by omega) (by omega)) ?_
    refine cF (decide_eq_false (by omega)) ?_
    try simp (disch := omega) only [wd]
    rfl
def sizeEntry (x : TEntry) : Nat := sizeStr x.1 + (sizeStringS x.2.2.2)
structure EntryMax (x : TEntry) : Prop where
  m0 : StrMax x.1
  m1 : StringSMax x.2.2.2
theorem szEntry_v (x0 : TEntry) (L : Int) (hx : EntryMax x0) (h0 : 0 ≤ L) (h1 : L ≤ 1050000) : Z156 x0 L = some (szR (sizeEntry x0) L) := by
  unfold Z156 sizeEntry
  exact szR_s h0 h1 hx.m0 (fun M h0 h1 => szR_l h0 (szStringS_v _ _ hx.m1 h0 h1))
theorem toEntry_v (x0 : TEntry) (hx : sizeEntry x0 ≤ 1050000) : Z159 x0 = some x0 := by
  unfold sizeEntry at hx
  unfold Z159
  exact bnd (toStringS_v _ (by omega)) (rfl)
theorem eqEntry_v (a : TEntry) (hx : sizeEntry a ≤ 1152921504606846976) : Z121 a a = some true := by
  unfold sizeEntry at hx
  unfold Z121
  exact cF (nbeq _) (cF (bne_self _) (cF (bne_self _) (bnd (eqStringS_v _ (by omega)) (cF rfl (rfl)))))
def sizeEntryS (xs : List TEntry) : Nat := sizeS sizeEntry xs
def EntrySMax (xs : List TEntry) : Prop := MaxS EntryMax xs
theorem szEntryS_v (x0 : List TEntry) (L : Int) (hx : EntrySMax x0) (h0 : 0 ≤ L) (h1 : L ≤ 1050000) : Z66 x0 L = some (szR (sizeEntryS x0) L) :=
  szList_v x0 dEntry sizeEntry Z156 L hx.len h0 h1 (fun i h L h0 h1 => szEntry_v _ _ (hx.each i h) h0 h1) (Z66.l10 x0) (fun n a b => Z66.u10 x0 n a b)
theorem toEntryS_v (x0 : List TEntry) (hx : sizeEntryS x0 ≤ 1050000) : Z70 x0 = some x0 :=
  toList_v x0 dEntry Z159 (by unfold sizeEntryS sizeS at hx; omega) (fun i h => toEntry_v _ (by have := size_at sizeEntry h; unfold sizeEntryS sizeS at hx; omega)) (Z70.l6 x0) (fun n a b => Z70.u6 x0 n a b)
theorem eqEntryS_v (x0 : List TEntry) (hx : sizeEntryS x0 ≤ 1152921504606846976) : Z62 x0 x0 = some true :=
  eqList_v x0 dEntry Z121 (by unfold sizeEntryS sizeS at hx; omega) (fun i h => eqEntry_v _ (by have := size_at sizeEntry h; unfold sizeEntryS sizeS at hx; omega)) (Z62.l8 x0 x0) (fun n a => Z62.u8 x0 x0 n a)
noncomputable def fullEntry (x : TEntry) (k : Int) : TEntry := (mtext (k), k + 1, k + 1 + 1, mkdStringS x.2.2.2 (k + 1 + 1 + 1))
def fendEntry (x : TEntry) (k : Int) : Int := endStringS x.2.2.2 (k + 1 + 1 + 1)
theorem fendEntry_b (x : TEntry) (k : Int) : k ≤ fendEntry x k ∧ fendEntry x k ≤ k + 64 * (1 + (sizeEntry x : Nat)) := by
  unfold fendEntry sizeEntry
  have b0 := endStringS_b x.2.2.2 (k + 1 + 1 + 1)
  omega
noncomputable def mkdEntryS (xs : List TEntry) (k : Int) : List TEntry := mkl fullEntry fendEntry xs k
def endEntryS (xs : List TEntry) (k : Int) : Int := endl fendEntry xs k
theorem endEntryS_b (xs : List TEntry) (k : Int) : k ≤ endEntryS xs k ∧ endEntryS xs k ≤ k + 64 * (sizeEntryS xs : Nat) := by
  have := endl_b fendEntry sizeEntry (fendEntry_b) xs k
  exact this
theorem markEntryS_v (xs : List TEntry) (k : Int) (h0 : 0 ≤ k) (h1 : k + 64 * (sizeEntryS xs : Nat) ≤ 2305843009213693952) : Z16 xs k = some (mkdEntryS xs k, endEntryS xs k) := by
  refine mark_l fullEntry fendEntry sizeEntry (fendEntry_b) Z16.l4 (fun n k ys => ?_) (fun n k i ys hi h0 h1 h2 => ?_) xs [] k KK (KK_gt (by unfold sizeEntryS sizeS at h1; omega)) h0 (h1) (by unfold sizeEntryS sizeS at h1; simp; omega)
  · rw [Z16.u4]
    simp only [Z16.g4, lt_f (Nat.le_refl _), cond_f]
  · rw [Z16.u4]
    unfold sizeEntry at h1
    simp only [Z16.g4, upd_ln, upd_upd, upd_get hi, lt_t hi, ge_t, cond_t, Int.toNat_natCast, at_n hi, z30, cond_f, Z16.w1, Z16.w2, Z16.w3]
    refine bndk (k := k) (by first | rfl | (simp (disch := omega) only [wd])) (markText_v k (by omega) (by omega)) ?_
    have b1 := endStringS_b ys[i].2.2.2 (k + 1 + 1 + 1)
    refine bndk (k := k + 1 + 1 + 1) (by first | rfl | (simp (disch := omega) only [wd])) (markStringS_v ys[i].2.2.2 (k + 1 + 1 + 1) (by omega) (by omega)) ?_
    generalize hk1 : endStringS ys[i].2.2.2 (k + 1 + 1 + 1) = k1 at b1 ⊢
    try simp (disch := omega) only [wd]
    subst hk1
    simp only [upd_st hi]
    rfl
def sizeProof (x : TProof) : Nat := x.2.length
theorem eqProof_v (a : TProof) (hx : sizeProof a ≤ 1152921504606846976) : Z134 a a = some true := by
  unfold sizeProof at hx
  unfold Z134
  exact cF (bne_self _) (bnd (eqIntS_v _ (by omega)) (cF rfl (rfl)))
def sizeGap (x : TGap) : Nat := sizeEntry (Gap_Before x) + (sizeEntry (Gap_After x) + (sizeProof (Gap_Left x) + (sizeProof (Gap_Right x))))
theorem eqGap_v (a : TGap) (hx : sizeGap a ≤ 1152921504606846976) : Z110 a a = some true := by
  unfold sizeGap at hx
  unfold Z110
  exact cF (bne_self _) (bnd (eqEntry_v _ (by omega)) (cF rfl (bnd (eqEntry_v _ (by omega)) (cF rfl (bnd (eqProof_v _ (by omega)) (cF rfl (bnd (eqProof_v _ (by omega)) (cF rfl (rfl)))))))))
def sizeZone (x : TZone) : Nat := sizeSignedS x.1 + (sizeEntryS x.2)
structure ZoneMax (x : TZone) : Prop where
  m0 : SignedSMax x.1
  m1 : EntrySMax x.2
theorem szZone_v (x0 : TZone) (L : Int) (hx : ZoneMax x0) (h0 : 0 ≤ L) (h1 : L ≤ 1050000) : Z158 x0 L = some (szR (sizeZone x0) L) := by
  unfold Z158 sizeZone
  exact szR_b h0 h1 (szSignedS_v _ _ hx.m0 h0 h1) (fun M h0 h1 => szR_l h0 (szEntryS_v _ _ hx.m1 h0 h1))
theorem toZone_v (x0 : TZone) (hx : sizeZone x0 ≤ 1050000) : Z161 x0 = some x0 := by
  unfold sizeZone at hx
  unfold Z161
  exact bnd (toSignedS_v _ (by omega)) (bnd (toEntryS_v _ (by omega)) (rfl))
theorem eqZone_v (a : TZone) (hx : sizeZone a ≤ 1152921504606846976) : Z155 a a = some true := by
  unfold sizeZone at hx
  unfold Z155
  exact bnd (eqSignedS_v _ (by omega)) (cF rfl (bnd (eqEntryS_v _ (by omega)) (cF rfl (rfl))))
def sizeZoneS (xs : List TZone) : Nat := sizeS sizeZone xs
def ZoneSMax (xs : List TZone) : Prop := MaxS ZoneMax xs
theorem szZoneS_v (x0 : List TZone) (L : Int) (hx : ZoneSMax x0) (h0 : 0 ≤ L) (h1 : L ≤ 1050000) : Z69 x0 L = some (szR (sizeZoneS x0) L) :=
  szList_v x0 dZone sizeZone Z158 L hx.len h0 h1 (fun i h L h0 h1 => szZone_v _ _ (hx.each i h) h0 h1) (Z69.l10 x0) (fun n a b => Z69.u10 x0 n a b)
theorem toZoneS_v (x0 : List TZone) (hx : sizeZoneS x0 ≤ 1050000) : Z75 x0 = some x0 :=
  toList_v x0 dZone Z161 (by unfold sizeZoneS sizeS at hx; omega) (fun i h => toZone_v _ (by have := size_at sizeZone h; unfold sizeZoneS sizeS at hx; omega)) (Z75.l6 x0) (fun n a b => Z75.u6 x0 n a b)
theorem eqZoneS_v (x0 : List TZone) (hx : sizeZoneS x0 ≤ 1152921504606846976) : Z65 x0 x0 = some true :=
  eqList_v x0 dZone Z155 (by unfold sizeZoneS sizeS at hx; omega) (fun i h => eqZone_v _ (by have := size_at sizeZone h; unfold sizeZoneS sizeS at hx; omega)) (Z65.l8 x0 x0) (fun n a => Z65.u8 x0 x0 n a)
noncomputable def fullZone (x : TZone) (k : Int) : TZone := (mkdSignedS x.1 k, mkdEntryS x.2 (endSignedS x.1 k))
def fendZone (x : TZone) (k : Int) : Int := endEntryS x.2 (endSignedS x.1 k)
theorem fendZone_b (x : TZone) (k : Int) : k ≤ fendZone x k ∧ fendZone x k ≤ k + 64 * (1 + (sizeZone x : Nat)) := by
  unfold fendZone sizeZone
  have b0 := endSignedS_b x.1 k
  have b1 := endEntryS_b x.2 (endSignedS x.1 k)
  omega
noncomputable def mkdZoneS (xs : List TZone) (k : Int) : List TZone := mkl fullZone fendZone xs k
def endZoneS (xs : List TZone) (k : Int) : Int := endl fendZone xs k
theorem endZoneS_b (xs : List TZone) (k : Int) : k ≤ endZoneS xs k ∧ endZoneS xs k ≤ k + 64 * (sizeZoneS xs : Nat) := by
  have := endl_b fendZone sizeZone (fendZone_b) xs k
  exact this
theorem markZoneS_v (xs : List TZone) (k : Int) (h0 : 0 ≤ k) (h1 : k + 64 * (sizeZoneS xs : Nat) ≤ 2305843009213693952) : Z26 xs k = some (mkdZoneS xs k, endZoneS xs k) := by
  refine mark_l fullZone fendZone sizeZone (fendZone_b) Z26.l4 (fun n k ys => ?_) (fun n k i ys hi h0 h1 h2 => ?_) xs [] k KK (KK_gt (by unfold sizeZoneS sizeS at h1; omega)) h0 (h1) (by unfold sizeZoneS sizeS at h1; simp; omega)
  · rw [Z26.u4]
    simp only [Z26.g4, lt_f (Nat.le_refl _), cond_f]
  · rw [Z26.u4]
    unfold sizeZone at h1
    simp only [Z26.g4, upd_ln, upd_upd, upd_get hi, lt_t hi, ge_t, cond_t, Int.toNat_natCast, at_n hi, z30, cond_f, Z26.w1]
    have b0 := endSignedS_b ys[i].1 k
    refine bndk (k := k) (by first | rfl | (simp (disch := omega) only [wd])) (markSignedS_v ys[i].1 k (by omega) (by omega)) ?_
    generalize hk0 : endSignedS ys[i].1 k = k0 at b0 ⊢
    have b3 := endEntryS_b ys[i].2 k0
    refine bndk (k := k0) (by first | rfl | (simp (disch := omega) only [wd])) (markEntryS_v ys[i].2 k0 (by omega) (by omega)) ?_
    generalize hk3 : endEntryS ys[i].2 k0 = k3 at b3 ⊢
    try simp (disch := omega) only [wd]
    subst hk3
    subst hk0
    simp only [upd_st hi]
    rfl
def sizeServer (x : TServer) : Nat := sizeZoneS x.1
def ServerMax (x : TServer) : Prop := ZoneSMax x.1
theorem szServer_v (x0 : TServer) (L : Int) (hx : ServerMax x0) (h0 : 0 ≤ L) (h1 : L ≤ 1050000) : Z157 x0 L = some (szR (sizeServer x0) L) := by
  unfold Z157 sizeServer
  exact szR_l h0 (szZoneS_v _ _ hx h0 h1)
theorem toServer_v (x0 : TServer) (hx : sizeServer x0 ≤ 1050000) : Z160 x0 = some x0 := by
  unfold sizeServer at hx
  unfold Z160
  exact bnd (toZoneS_v _ (by omega)) (rfl)
theorem eqServer_v (a : TServer) (hx : sizeServer a ≤ 1152921504606846976) : Z153 a a = some true := by
  unfold sizeServer at hx
  unfold Z153
  exact bnd (eqZoneS_v _ (by omega)) (cF rfl (cF (bne_self _) (rfl)))
def sizeServerS (xs : List TServer) : Nat := sizeS sizeServer xs
def ServerSMax (xs : List TServer) : Prop := MaxS ServerMax xs
theorem szServerS_v (x0 : List TServer) (L : Int) (hx : ServerSMax x0) (h0 : 0 ≤ L) (h1 : L ≤ 1050000) : Z67 x0 L = some (szR (sizeServerS x0) L) :=
  szList_v x0 dServer sizeServer Z157 L hx.len h0 h1 (fun i h L h0 h1 => szServer_v _ _ (hx.each i h) h0 h1) (Z67.l10 x0) (fun n a b => Z67.u10 x0 n a b)
theorem toServerS_v (x0 : List TServer) (hx : sizeServerS x0 ≤ 1050000) : Z48 x0 = some x0 :=
  toList_v x0 dServer Z160 (by unfold sizeServerS sizeS at hx; omega) (fun i h => toServer_v _ (by have := size_at sizeServer h; unfold sizeServerS sizeS at hx; omega)) (Z48.l6 x0) (fun n a b => Z48.u6 x0 n a b)
theorem eqServerS_v (x0 : List TServer) (hx : sizeServerS x0 ≤ 1152921504606846976) : Z63 x0 x0 = some true :=
  eqList_v x0 dServer Z153 (by unfold sizeServerS sizeS at hx; omega) (fun i h => eqServer_v _ (by have := size_at sizeServer h; unfold sizeServerS sizeS at hx; omega)) (Z63.l8 x0 x0) (fun n a => Z63.u8 x0 x0 n a)
noncomputable def fullServer (x : TServer) (k : Int) : TServer := (mkdZoneS x.1 k, endZoneS x.1 k)
def fendServer (x : TServer) (k : Int) : Int := endZoneS x.1 k + 1
theorem fendServer_b (x : TServer) (k : Int) : k ≤ fendServer x k ∧ fendServer x k ≤ k + 64 * (1 + (sizeServer x : Nat)) := by
  unfold fendServer sizeServer
  have b0 := endZoneS_b x.1 k
  omega
noncomputable def mkdServerS (xs : List TServer) (k : Int) : List TServer := mkl fullServer fendServer xs k
def endServerS (xs : List TServer) (k : Int) : Int := endl fendServer xs k
theorem endServerS_b (xs : List TServer) (k : Int) : k ≤ endServerS xs k ∧ endServerS xs k ≤ k + 64 * (sizeServerS xs : Nat) := by
  have := endl_b fendServer sizeServer (fendServer_b) xs k
  exact this
theorem markServerS_v (xs : List TServer) (k : Int) (h0 : 0 ≤ k) (h1 : k + 64 * (sizeServerS xs : Nat) ≤ 2305843009213693952) : Z24 xs k = some (mkdServerS xs k, endServerS xs k) := by
  refine mark_l fullServer fendServer sizeServer (fendServer_b) Z24.l4 (fun n k ys => ?_) (fun n k i ys hi h0 h1 h2 => ?_) xs [] k KK (KK_gt (by unfold sizeServerS sizeS at h1; omega)) h0 (h1) (by unfold sizeServerS sizeS at h1; simp; omega)
  · rw [Z24.u4]
    simp only [Z24.g4, lt_f (Nat.le_refl _), cond_f]
  · rw [Z24.u4]
    unfold sizeServer at h1
    simp only [Z24.g4, upd_ln, upd_upd, upd_get hi, lt_t hi, ge_t, cond_t, Int.toNat_natCast, at_n hi, z30, cond_f, Z24.w1]
    have b0 := endZoneS_b ys[i].1 k
    refine bndk (k := k) (by first | rfl | (simp (disch := omega) only [wd])) (markZoneS_v ys[i].1 k (by omega) (by omega)) ?_
    generalize hk0 : endZoneS ys[i].1 k = k0 at b0 ⊢
    try simp (disch := omega) only [wd]
    subst hk0
    simp only [upd_st hi]
    rfl
def sizeAnswer (x : TAnswer) : Nat := sizeSignedS (Answer_Chain x) + (sizeEntry (Answer_Entry x) + (sizeProof (Answer_Proof x) + (sizeGap (Answer_Gap x))))
theorem eqAnswer_v (a : TAnswer) (hx : sizeAnswer a ≤ 1152921504606846976) : Z99 a a = some true := by
  unfold sizeAnswer at hx
  unfold Z99
  exact bnd (eqSignedS_v _ (by omega)) (cF rfl (cF (nbeq _) (bnd (eqEntry_v _ (by omega)) (cF rfl (bnd (eqProof_v _ (by omega)) (cF rfl (bnd (eqGap_v _ (by omega)) (cF rfl (rfl)))))))))
def sizeAnswerS (xs : List TAnswer) : Nat := sizeS sizeAnswer xs
theorem eqAnswerS_v (x0 : List TAnswer) (hx : sizeAnswerS x0 ≤ 1152921504606846976) : Z53 x0 x0 = some true :=
  eqList_v x0 dAnswer Z99 (by unfold sizeAnswerS sizeS at hx; omega) (fun i h => eqAnswer_v _ (by have := size_at sizeAnswer h; unfold sizeAnswerS sizeS at hx; omega)) (Z53.l8 x0 x0) (fun n a => Z53.u8 x0 x0 n a)
noncomputable def fullAnswer (x : TAnswer) (k : Int) : TAnswer := Answer_mk (mkdSignedS (Answer_Chain x) k) (Int.tmod (endSignedS (Answer_Chain x) k) 3 == 0) (mtext (endSignedS (Answer_Chain x) k + 1), endSignedS (Answer_Chain x) k + 1 + 1, endSignedS (Answer_Chain x) k + 1 + 1 + 1, mkdStringS (Answer_Entry x).2.2.2 (endSignedS (Answer_Chain x) k + 1 + 1 + 1 + 1)) (endStringS (Answer_Entry x).2.2.2 (endSignedS (Answer_Chain x) k + 1 + 1 + 1 + 1), mkdIntS (Answer_Proof x).2 (endStringS (Answer_Entry x).2.2.2 (endSignedS (Answer_Chain x) k + 1 + 1 + 1 + 1) + 1)) (Gap_mk (endIntS (Answer_Proof x).2 (endStringS (Answer_Entry x).2.2.2 (endSignedS (Answer_Chain x) k + 1 + 1 + 1 + 1) + 1)) (mtext (endIntS (Answer_Proof x).2 (endStringS (Answer_Entry x).2.2.2 (endSignedS (Answer_Chain x) k + 1 + 1 + 1 + 1) + 1) + 1), endIntS (Answer_Proof x).2 (endStringS (Answer_Entry x).2.2.2 (endSignedS (Answer_Chain x) k + 1 + 1 + 1 + 1) + 1) + 1 + 1, endIntS (Answer_Proof x).2 (endStringS (Answer_Entry x).2.2.2 (endSignedS (Answer_Chain x) k + 1 + 1 + 1 + 1) + 1) + 1 + 1 + 1, mkdStringS (Gap_Before (Answer_Gap x)).2.2.2 (endIntS (Answer_Proof x).2 (endStringS (Answer_Entry x).2.2.2 (endSignedS (Answer_Chain x) k + 1 + 1 + 1 + 1) + 1) + 1 + 1 + 1 + 1)) (mtext (endStringS (Gap_Before (Answer_Gap x)).2.2.2 (endIntS (Answer_Proof x).2 (endStringS (Answer_Entry x).2.2.2 (endSignedS (Answer_Chain x) k + 1 + 1 + 1 + 1) + 1) + 1 + 1 + 1 + 1)), endStringS (Gap_Before (Answer_Gap x)).2.2.2 (endIntS (Answer_Proof x).2 (endStringS (Answer_Entry x).2.2.2 (endSignedS (Answer_Chain x) k + 1 + 1 + 1 + 1) + 1) + 1 + 1 + 1 + 1) + 1, endStringS (Gap_Before (Answer_Gap x)).2.2.2 (endIntS (Answer_Proof x).2 (endStringS (Answer_Entry x).2.2.2 (endSignedS (Answer_Chain x) k + 1 + 1 + 1 + 1) + 1) + 1 + 1 + 1 + 1) + 1 + 1, mkdStringS (Gap_After (Answer_Gap x)).2.2.2 (endStringS (Gap_Before (Answer_Gap x)).2.2.2 (endIntS (Answer_Proof x).2 (endStringS (Answer_Entry x).2.2.2 (endSignedS (Answer_Chain x) k + 1 + 1 + 1 + 1) + 1) + 1 + 1 + 1 + 1) + 1 + 1 + 1)) (endStringS (Gap_After (Answer_Gap x)).2.2.2 (endStringS (Gap_Before (Answer_Gap x)).2.2.2 (endIntS (Answer_Proof x).2 (endStringS (Answer_Entry x).2.2.2 (endSignedS (Answer_Chain x) k + 1 + 1 + 1 + 1) + 1) + 1 + 1 + 1 + 1) + 1 + 1 + 1), mkdIntS (Gap_Left (Answer_Gap x)).2 (endStringS (Gap_After (Answer_Gap x)).2.2.2 (endStringS (Gap_Before (Answer_Gap x)).2.2.2 (endIntS (Answer_Proof x).2 (endStringS (Answer_Entry x).2.2.2 (endSignedS (Answer_Chain x) k + 1 + 1 + 1 + 1) + 1) + 1 + 1 + 1 + 1) + 1 + 1 + 1) + 1)) (endIntS (Gap_Left (Answer_Gap x)).2 (endStringS (Gap_After (Answer_Gap x)).2.2.2 (endStringS (Gap_Before (Answer_Gap x)).2.2.2 (endIntS (Answer_Proof x).2 (endStringS (Answer_Entry x).2.2.2 (endSignedS (Answer_Chain x) k + 1 + 1 + 1 + 1) + 1) + 1 + 1 + 1 + 1) + 1 + 1 + 1) + 1), mkdIntS (Gap_Right (Answer_Gap x)).2 (endIntS (Gap_Left (Answer_Gap x)).2 (endStringS (Gap_After (Answer_Gap x)).2.2.2 (endStringS (Gap_Before (Answer_Gap x)).2.2.2 (endIntS (Answer_Proof x).2 (endStringS (Answer_Entry x).2.2.2 (endSignedS (Answer_Chain x) k + 1 + 1 + 1 + 1) + 1) + 1 + 1 + 1 + 1) + 1 + 1 + 1) + 1) + 1)))
def fendAnswer (x : TAnswer) (k : Int) : Int := endIntS (Gap_Right (Answer_Gap x)).2 (endIntS (Gap_Left (Answer_Gap x)).2 (endStringS (Gap_After (Answer_Gap x)).2.2.2 (endStringS (Gap_Before (Answer_Gap x)).2.2.2 (endIntS (Answer_Proof x).2 (endStringS (Answer_Entry x).2.2.2 (endSignedS (Answer_Chain x) k + 1 + 1 + 1 + 1) + 1) + 1 + 1 + 1 + 1) + 1 + 1 + 1) + 1) + 1)
theorem fendAnswer_b (x : TAnswer) (k : Int) : k ≤ fendAnswer x k ∧ fendAnswer x k ≤ k + 64 * (1 + (sizeAnswer x : Nat)) := by
  unfold fendAnswer sizeAnswer sizeGap sizeEntry sizeProof
  have b0 := endSignedS_b (Answer_Chain x) k
  have b1 := endStringS_b (Answer_Entry x).2.2.2 (endSignedS (Answer_Chain x) k + 1 + 1 + 1 + 1)
  have b2 := endIntS_b (Answer_Proof x).2 (endStringS (Answer_Entry x).2.2.2 (endSignedS (Answer_Chain x) k + 1 + 1 + 1 + 1) + 1)
  have b3 := endStringS_b (Gap_Before (Answer_Gap x)).2.2.2 (endIntS (Answer_Proof x).2 (endStringS (Answer_Entry x).2.2.2 (endSignedS (Answer_Chain x) k + 1 + 1 + 1 + 1) + 1) + 1 + 1 + 1 + 1)
  have b4 := endStringS_b (Gap_After (Answer_Gap x)).2.2.2 (endStringS (Gap_Before (Answer_Gap x)).2.2.2 (endIntS (Answer_Proof x).2 (endStringS (Answer_Entry x).2.2.2 (endSignedS (Answer_Chain x) k + 1 + 1 + 1 + 1) + 1) + 1 + 1 + 1 + 1) + 1 + 1 + 1)
  have b5 := endIntS_b (Gap_Left (Answer_Gap x)).2 (endStringS (Gap_After (Answer_Gap x)).2.2.2 (endStringS (Gap_Before (Answer_Gap x)).2.2.2 (endIntS (Answer_Proof x).2 (endStringS (Answer_Entry x).2.2.2 (endSignedS (Answer_Chain x) k + 1 + 1 + 1 + 1) + 1) + 1 + 1 + 1 + 1) + 1 + 1 + 1) + 1)
  have b6 := endIntS_b (Gap_Right (Answer_Gap x)).2 (endIntS (Gap_Left (Answer_Gap x)).2 (endStringS (Gap_After (Answer_Gap x)).2.2.2 (endStringS (Gap_Before (Answer_Gap x)).2.2.2 (endIntS (Answer_Proof x).2 (endStringS (Answer_Entry x).2.2.2 (endSignedS (Answer_Chain x) k + 1 + 1 + 1 + 1) + 1) + 1 + 1 + 1 + 1) + 1 + 1 + 1) + 1) + 1)
  omega
noncomputable def mkdAnswerS (xs : List TAnswer) (k : Int) : List TAnswer := mkl fullAnswer fendAnswer xs k
def endAnswerS (xs : List TAnswer) (k : Int) : Int := endl fendAnswer xs k
theorem endAnswerS_b (xs : List TAnswer) (k : Int) : k ≤ endAnswerS xs k ∧ endAnswerS xs k ≤ k + 64 * (sizeAnswerS xs : Nat) := by
  have := endl_b fendAnswer sizeAnswer (fendAnswer_b) xs k
  exact this
theorem markAnswerS_v (xs : List TAnswer) (k : Int) (h0 : 0 ≤ k) (h1 : k + 64 * (sizeAnswerS xs : Nat) ≤ 2305843009213693952) : Z0 xs k = some (mkdAnswerS xs k, endAnswerS xs k) := by
  refine mark_l fullAnswer fendAnswer sizeAnswer (fendAnswer_b) Z0.l4 (fun n k ys => ?_) (fun n k i ys hi h0 h1 h2 => ?_) xs [] k KK (KK_gt (by unfold sizeAnswerS sizeS at h1; omega)) h0 (h1) (by unfold sizeAnswerS sizeS at h1; simp; omega)
  · rw [Z0.u4]
    simp only [Z0.g4, lt_f (Nat.le_refl _), cond_f]
  · rw [Z0.u4]
    unfold sizeAnswer sizeGap sizeEntry sizeProof at h1
    simp only [Z0.g4, upd_ln, upd_upd, upd_get hi, lt_t hi, ge_t, cond_t, Int.toNat_natCast, at_n hi, z30, cond_f, Z0.w1, Z0.w2, Z0.w3, Z0.w4, Z0.w5, Z0.w6, Z0.w7, Z0.w8, Z0.w9, Z0.w10, Z0.w11, Z0.w12, Z0.w13, Z0.w14, Z0.w15, Z0.w16, Z0.w17, Z0.w18, Z0.w19, Z0.w20, Answer_Chain, Answer_Found, Answer_Entry, Answer_Proof, Answer_Gap, Gap_At, Gap_Before, Gap_After, Gap_Left, Gap_Right]
    have b0 := endSignedS_b (Answer_Chain ys[i]) k
    refine bndk (k := k) (by first | rfl | (simp (disch := omega) only [wd])) (markSignedS_v (Answer_Chain ys[i]) k (by omega) (by omega)) ?_
    generalize hk0 : endSignedS (Answer_Chain ys[i]) k = k0 at b0 ⊢
    refine bndk (k := k0 + 1) (by first | rfl | (simp (disch := omega) only [wd])) (markText_v (k0 + 1) (by omega) (by omega)) ?_
    have b4 := endStringS_b (Answer_Entry ys[i]).2.2.2 (k0 + 1 + 1 + 1 + 1)
    refine bndk (k := k0 + 1 + 1 + 1 + 1) (by first | rfl | (simp (disch := omega) only [wd])) (markStringS_v (Answer_Entry ys[i]).2.2.2 (k0 + 1 + 1 + 1 + 1) (by omega) (by omega)) ?_
    generalize hk4 : endStringS (Answer_Entry ys[i]).2.2.2 (k0 + 1 + 1 + 1 + 1) = k4 at b4 ⊢
    have b7 := endIntS_b (Answer_Proof ys[i]).2 (k4 + 1)
    refine bndk (k := k4 + 1) (by first | rfl | (simp (disch := omega) only [wd])) (markIntS_v (Answer_Proof ys[i]).2 (k4 + 1) (by omega) (by omega)) ?_
    generalize hk7 : endIntS (Answer_Proof ys[i]).2 (k4 + 1) = k7 at b7 ⊢
    refine bndk (k := k7 + 1) (by first | rfl | (simp (disch := omega) only [wd])) (markText_v (k7 + 1) (by omega) (by omega)) ?_
    have b11 := endStringS_b (Gap_Before (Answer_Gap ys[i])).2.2.2 (k7 + 1 + 1 + 1 + 1)
    refine bndk (k := k7 + 1 + 1 + 1 + 1) (by first | rfl | (simp (disch := omega) only [wd])) (markStringS_v (Gap_Before (Answer_Gap ys[i])).2.2.2 (k7 + 1 + 1 + 1 + 1) (by omega) (by omega)) ?_
    generalize hk11 : endStringS (Gap_Before (Answer_Gap ys[i])).2.2.2 (k7 + 1 + 1 + 1 + 1) = k11 at b11 ⊢
    refine bndk (k := k11) (by first | rfl | (simp (disch := omega) only [wd])) (markText_v k11 (by omega) (by omega)) ?_
    have b15 := endStringS_b (Gap_After (Answer_Gap ys[i])).2.2.2 (k11 + 1 + 1 + 1)
    refine bndk (k := k11 + 1 + 1 + 1) (by first | rfl | (simp (disch := omega) only [wd])) (markStringS_v (Gap_After (Answer_Gap ys[i])).2.2.2 (k11 + 1 + 1 + 1) (by omega) (by omega)) ?_
    generalize hk15 : endStringS (Gap_After (Answer_Gap ys[i])).2.2.2 (k11 + 1 + 1 + 1) = k15 at b15 ⊢
    have b18 := endIntS_b (Gap_Left (Answer_Gap ys[i])).2 (k15 + 1)
    refine bndk (k := k15 + 1) (by first | rfl | (simp (disch := omega) only [wd])) (markIntS_v (Gap_Left (Answer_Gap ys[i])).2 (k15 + 1) (by omega) (by omega)) ?_
    generalize hk18 : endIntS (Gap_Left (Answer_Gap ys[i])).2 (k15 + 1) = k18 at b18 ⊢
    have b21 := endIntS_b (Gap_Right (Answer_Gap ys[i])).2 (k18 + 1)
    refine bndk (k := k18 + 1) (by first | rfl | (simp (disch := omega) only [wd])) (markIntS_v (Gap_Right (Answer_Gap ys[i])).2 (k18 + 1) (by omega) (by omega)) ?_
    generalize hk21 : endIntS (Gap_Right (Answer_Gap ys[i])).2 (k18 + 1) = k21 at b21 ⊢
    try simp (disch := omega) only [wd]
    subst hk21
    subst hk18
    subst hk15
    subst hk11
    subst hk7
    subst hk4
    subst hk0
    simp only [upd_st hi]
    rfl
theorem heldAnswerS_v (xs : List TAnswer) (k : Int) (h0 : 0 ≤ k) (h1 : k + 64 * (sizeAnswerS xs : Nat) ≤ 2305843009213693952) : Z37 (mkdAnswerS xs k) k = some (endAnswerS xs k) := by
  refine held_l fullAnswer fendAnswer sizeAnswer (fendAnswer_b) (mkdAnswerS xs k) (Z37.l4 (mkdAnswerS xs k)) (fun n k => ?_) (fun n k i x hi hx h0 h1 h2 => ?_) xs [] k KK rfl (KK_gt (by unfold sizeAnswerS sizeS at h1; omega)) h0 (h1) (by unfold sizeAnswerS sizeS at h1; simp; omega)
  · rw [Z37.u4]
    simp only [Z37.g4, lt_f (Nat.le_refl _), cond_f]
  · rw [Z37.u4]
    unfold sizeAnswer sizeGap sizeEntry sizeProof at h1
    simp only [Z37.g4, lt_t hi, ge_t, cond_t, Int.toNat_natCast, at_n hi, hx, z30, cond_f]
    have b0 := endSignedS_b (Answer_Chain x) k
    refine bndk (k := k) (by first | rfl | (simp (disch := omega) only [wd])) (heldSignedS_v (Answer_Chain x) k (by omega) (by omega)) ?_
    refine cF (decide_eq_false (by omega)) ?_
    refine cF (by first | exact nbeq _ | (simp (disch := omega) only [wd]; exact nbeq _)) ?_
    refine bndk (k := endSignedS (Answer_Chain x) k + 1) (by first | rfl | (simp (disch := omega) only [wd])) (markText_v (endSignedS (Answer_Chain x) k + 1) (by omega) (by omega)) ?_
    refine cF (by first | exact nbeq _ | (simp (disch := omega) only [wd]; exact nbeq _)) ?_
    refine cF (by first | exact bne_self _ | (simp (disch := omega) only [wd]; exact bne_self _)) ?_
    refine cF (by first | exact bne_self _ | (simp (disch := omega) only [wd]; exact bne_self _)) ?_
    have b8 := endStringS_b (Answer_Entry x).2.2.2 (endSignedS (Answer_Chain x) k + 1 + 1 + 1 + 1)
    refine bndk (k := endSignedS (Answer_Chain x) k + 1 + 1 + 1 + 1) (by first | rfl | (simp (disch := omega) only [wd])) (heldStringS_v (Answer_Entry x).2.2.2 (endSignedS (Answer_Chain x) k + 1 + 1 + 1 + 1) (by omega) (by omega)) ?_
    refine cF (decide_eq_false (by omega)) ?_
    refine cF (by first | exact bne_self _ | (simp (disch := omega) only [wd]; exact bne_self _)) ?_
    have b12 := endIntS_b (Answer_Proof x).2 (endStringS (Answer_Entry x).2.2.2 (endSignedS (Answer_Chain x) k + 1 + 1 + 1 + 1) + 1)
    refine bndk (k := endStringS (Answer_Entry x).2.2.2 (endSignedS (Answer_Chain x) k + 1 + 1 + 1 + 1) + 1) (by first | rfl | (simp (disch := omega) only [wd])) (heldIntS_v (Answer_Proof x).2 (endStringS (Answer_Entry x).2.2.2 (endSignedS (Answer_Chain x) k + 1 + 1 + 1 + 1) + 1) (by omega) (by omega)) ?_
    refine cF (decide_eq_false (by omega)) ?_
    refine cF (by first | exact bne_self _ | (simp (disch := omega) only [wd]; exact bne_self _)) ?_
    refine bndk (k := endIntS (Answer_Proof x).2 (endStringS (Answer_Entry x).2.2.2 (endSignedS (Answer_Chain x) k + 1 + 1 + 1 + 1) + 1) + 1) (by first | rfl | (simp (disch := omega) only [wd])) (markText_v (endIntS (Answer_Proof x).2 (endStringS (Answer_Entry x).2.2.2 (endSignedS (Answer_Chain x) k + 1 + 1 + 1 + 1) + 1) + 1) (by omega) (by omega)) ?_
    refine cF (by first | exact nbeq _ | (simp (disch := omega) only [wd]; exact nbeq _)) ?_
    refine cF (by first | exact bne_self _ | (simp (disch := omega) only [wd]; exact bne_self _)) ?_
    refine cF (by first | exact bne_self _ | (simp (disch := omega) only [wd]; exact bne_self _)) ?_
    have b20 := endStringS_b (Gap_Before (Answer_Gap x)).2.2.2 (endIntS (Answer_Proof x).2 (endStringS (Answer_Entry x).2.2.2 (endSignedS (Answer_Chain x) k + 1 + 1 + 1 + 1) + 1) + 1 + 1 + 1 + 1)
    refine bndk (k := endIntS (Answer_Proof x).2 (endStringS (Answer_Entry x).2.2.2 (endSignedS (Answer_Chain x) k + 1 + 1 + 1 + 1) + 1) + 1 + 1 + 1 + 1) (by first | rfl | (simp (disch := omega) only [wd])) (heldStringS_v (Gap_Before (Answer_Gap x)).2.2.2 (endIntS (Answer_Proof x).2 (endStringS (Answer_Entry x).2.2.2 (endSignedS (Answer_Chain x) k + 1 + 1 + 1 + 1) + 1) + 1 + 1 + 1 + 1) (by omega) (by omega)) ?_
    refine cF (decide_eq_false (by omega)) ?_
    refine bndk (k := endStringS (Gap_Before (Answer_Gap x)).2.2.2 (endIntS (Answer_Proof x).2 (endStringS (Answer_Entry x).2.2.2 (endSignedS (Answer_Chain x) k + 1 + 1 + 1 + 1) + 1) + 1 + 1 + 1 + 1)) (by first | rfl | (simp (disch := omega) only [wd])) (markText_v (endStringS (Gap_Before (Answer_Gap x)).2.2.2 (endIntS (Answer_Proof x).2 (endStringS (Answer_Entry x).2.2.2 (endSignedS (Answer_Chain x) k + 1 + 1 + 1 + 1) + 1) + 1 + 1 + 1 + 1)) (by omega) (by omega)) ?_
    refine cF (by first | exact nbeq _ | (simp (disch := omega) only [wd]; exact nbeq _)) ?_
    refine cF (by first | exact bne_self _ | (simp (disch := omega) only [wd]; exact bne_self _)) ?_
    refine cF (by first | exact bne_self _ | (simp (disch := omega) only [wd]; exact bne_self _)) ?_
    have b27 := endStringS_b (Gap_After (Answer_Gap x)).2.2.2 (endStringS (Gap_Before (Answer_Gap x)).2.2.2 (endIntS (Answer_Proof x).2 (endStringS (Answer_Entry x).2.2.2 (endSignedS (Answer_Chain x) k + 1 + 1 + 1 + 1) + 1) + 1 + 1 + 1 + 1) + 1 + 1 + 1)
    refine bndk (k := endStringS (Gap_Before (Answer_Gap x)).2.2.2 (endIntS (Answer_Proof x).2 (endStringS (Answer_Entry x).2.2.2 (endSignedS (Answer_Chain x) k + 1 + 1 + 1 + 1) + 1) + 1 + 1 + 1 + 1) + 1 + 1 + 1) (by first | rfl | (simp (disch := omega) only [wd])) (heldStringS_v (Gap_After (Answer_Gap x)).2.2.2 (endStringS (Gap_Before (Answer_Gap x)).2.2.2 (endIntS (Answer_Proof x).2 (endStringS (Answer_Entry x).2.2.2 (endSignedS (Answer_Chain x) k + 1 + 1 + 1 + 1) + 1) + 1 + 1 + 1 + 1) + 1 + 1 + 1) (by omega) (by omega)) ?_
    refine cF (decide_eq_false (by omega)) ?_
    refine cF (by first | exact bne_self _ | (simp (disch := omega) only [wd]; exact bne_self _)) ?_
    have b31 := endIntS_b (Gap_Left (Answer_Gap x)).2 (endStringS (Gap_After (Answer_Gap x)).2.2.2 (endStringS (Gap_Before (Answer_Gap x)).2.2.2 (endIntS (Answer_Proof x).2 (endStringS (Answer_Entry x).2.2.2 (endSignedS (Answer_Chain x) k + 1 + 1 + 1 + 1) + 1) + 1 + 1 + 1 + 1) + 1 + 1 + 1) + 1)
    refine bndk (k := endStringS (Gap_After (Answer_Gap x)).2.2.2 (endStringS (Gap_Before (Answer_Gap x)).2.2.2 (endIntS (Answer_Proof x).2 (endStringS (Answer_Entry x).2.2.2 (endSignedS (Answer_Chain x) k + 1 + 1 + 1 + 1) + 1) + 1 + 1 + 1 + 1) + 1 + 1 + 1) + 1) (by first | rfl | (simp (disch := omega) only [wd])) (heldIntS_v (Gap_Left (Answer_Gap x)).2 (endStringS (Gap_After (Answer_Gap x)).2.2.2 (endStringS (Gap_Before (Answer_Gap x)).2.2.2 (endIntS (Answer_Proof x).2 (endStringS (Answer_Entry x).2.2.2 (endSignedS (Answer_Chain x) k + 1 + 1 + 1 + 1) + 1) + 1 + 1 + 1 + 1) + 1 + 1 + 1) + 1) (by omega) (by omega)) ?_
    refine cF (decide_eq_false (by omega)) ?_
    refine cF (by first | exact bne_self _ | (simp (disch := omega) only [wd]; exact bne_self _)) ?_
    have b35 := endIntS_b (Gap_Right (Answer_Gap x)).2 (endIntS (Gap_Left (Answer_Gap x)).2 (endStringS (Gap_After (Answer_Gap x)).2.2.2 (endStringS (Gap_Before (Answer_Gap x)).2.2.2 (endIntS (Answer_Proof x).2 (endStringS (Answer_Entry x).2.2.2 (endSignedS (Answer_Chain x) k + 1 + 1 + 1 + 1) + 1) + 1 + 1 + 1 + 1) + 1 + 1 + 1) + 1) + 1)
    refine bndk (k := endIntS (Gap_Left (Answer_Gap x)).2 (endStringS (Gap_After (Answer_Gap x)).2.2.2 (endStringS (Gap_Before (Answer_Gap x)).2.2.2 (endIntS (Answer_Proof x).2 (endStringS (Answer_Entry x).2.2.2 (endSignedS (Answer_Chain x) k + 1 + 1 + 1 + 1) + 1) + 1 + 1 + 1 + 1) + 1 + 1 + 1) + 1) + 1) (by first | rfl | (simp (disch := omega) only [wd])) (heldIntS_v (Gap_Right (Answer_Gap x)).2 (endIntS (Gap_Left (Answer_Gap x)).2 (endStringS (Gap_After (Answer_Gap x)).2.2.2 (endStringS (Gap_Before (Answer_Gap x)).2.2.2 (endIntS (Answer_Proof x).2 (endStringS (Answer_Entry x).2.2.2 (endSignedS (Answer_Chain x) k + 1 + 1 + 1 + 1) + 1) + 1 + 1 + 1 + 1) + 1 + 1 + 1) + 1) + 1) (by omega) (by omega)) ?_
    refine cF (decide_eq_false (by omega)) ?_
    try simp (disch := omega) only [wd]
    rfl
theorem Grow_v (n : Int) (h0 : 0 ≤ n) (h1 : n < 68719476736) : Z86 [] n = some [] := by
  have e0 : IntKind.i64.wrap ((0 : Int) - ((0 : Nat) : Int)) = 0 := w64 (by omega) (by omega)
  have e1 : IntKind.i64.wrap (n - 0) = n := by rw [w64 (by omega) (by omega)]; omega
  unfold Z86
  simp only [Z86.b, Z86.l7, Z86.g7, e0, e1]
  rw [decide_eq_false (by omega), cond_f]
  by_cases h : n > 0
  · rw [decide_eq_true h, cond_t, decide_eq_true (by omega), cond_t, decide_eq_true h1, cond_t, decide_eq_true (by omega), cond_t, decide_eq_true (by omega), cond_t, decide_eq_true (by omega), cond_t]
    simp
  · rw [decide_eq_false h, cond_f]
theorem Concat_l22 (x0 : List (List Int)) (hl : x0.length < 1152921504606846976) : ∀ i n, i ≤ x0.length → x0.length - i < n → ∀ acc : List Int, acc.length + (x0.drop i).flatten.length < 68719476736 → Z5.l22 x0 n (x0.length : Int) (i : Int) acc = some (acc ++ (x0.drop i).flatten) := by
  refine idx_ind ?_ ?_
  · intro n acc ha
    rw [Z5.u22]
    simp only [Z5.g22, lt_f (Nat.le_refl _), cond_f, List.drop_length, List.flatten_nil, List.append_nil]
  · intro i n hi ih acc ha
    rw [List.drop_eq_getElem_cons hi, List.flatten_cons] at ha ⊢
    rw [List.length_append] at ha
    rw [Z5.u22]
    simp only [Z5.g22, lt_t hi, ge_t, cond_t, w64_succ (i := i) (by omega), Int.toNat_natCast, at_n hi]
    rw [decide_eq_true (by omega), cond_t, ih _ (by rw [List.length_append]; omega), List.append_assoc]
theorem Concat_l6 (x0 : List (List Int)) (hl : x0.length < 1152921504606846976) (hf : x0.flatten.length < 68719476736) : ∀ i n, i ≤ x0.length → x0.length - i < n → ∀ s : Int, 0 ≤ s → s + (x0.drop i).flatten.length < 68719476736 → Z5.l6 x0 n s (x0.length : Int) (i : Int) = some x0.flatten := by
  refine idx_ind ?_ ?_
  · intro n s h0 ha
    rw [Z5.u6]
    rw [List.drop_length, List.flatten_nil] at ha
    simp only [Z5.g6, lt_f (Nat.le_refl _), cond_f]
    rw [Grow_v s h0 (by simpa using ha), bind_s]
    have := Concat_l22 x0 hl 0 KK (Nat.zero_le _) (KK_gt (by omega)) [] (by simpa using hf)
    simpa using this
  · intro i n hi ih s h0 ha
    rw [List.drop_eq_getElem_cons hi, List.flatten_cons, List.length_append] at ha
    rw [Z5.u6]
    simp only [Z5.g6, lt_t hi, ge_t, cond_t, w64_succ (i := i) (by omega), Int.toNat_natCast, at_n hi]
    rw [w64 (n := s + (x0[i].length : Int)) (by omega) (by omega), decide_eq_false (by omega), cond_f, ih _ (by omega) (by omega)]
theorem Concat_v (x0 : List (List Int)) (hl : x0.length < 1152921504606846976) (hf : x0.flatten.length < 68719476736) : Z5 x0 = some x0.flatten := by
  have := Concat_l6 x0 hl hf 0 KK (Nat.zero_le _) (KK_gt (by omega)) 0 (Int.le_refl 0) (by rw [List.drop_zero, Int.zero_add]; omega)
  exact this
theorem Mod_eq (a b : Int) : Z190 a b = Z144 a b := by
  unfold Z190 Z144
  rw [l1In_v, InRange_v]
def mod2 (a : Int) : Int := Int.tmod (IntKind.i64.wrap (Int.tmod a 2147483647 + 2147483647)) 2147483647
theorem Mod_v (a : Int) : Z144 a 2147483647 = some (mod2 a) := by
  unfold Z144 mod2
  rw [InRange_v, bind_s]
  rw [decide_eq_true (by omega), decide_eq_true (by omega), Bool.and_self, Bool.not_true, cond_f]
  rw [show ((2147483647 : Int) == 0) = false from by decide, cond_f, cond_f]
def hstep (h a : Int) : Int := Int.tmod (IntKind.i64.wrap ((IntKind.i64.wrap ((IntKind.i64.wrap (h * (1000003 : Int))) + mod2 a)) + (13 : Int))) (2147483647 : Int)
theorem sHash_l (x0 : List Int) (hx : x0.length ≤ 1152921504606846976) : ∀ i n, i ≤ x0.length → x0.length - i < n → ∀ h : Int, Z11.l6 x0 n h (i : Int) = some ((x0.drop i).foldl hstep h) := by
  refine idx_ind ?_ ?_
  · intro n h
    rw [Z11.u6]
    simp only [Z11.g6, lt_f (Nat.le_refl _), cond_f, List.drop_length, List.foldl_nil]
  · intro i n hi ih h
    rw [List.drop_eq_getElem_cons hi, List.foldl_cons]
    rw [Z11.u6]
    simp only [Z11.g6, lt_t hi, ge_t, cond_t, bind_s, w64_succ (i := i) (by omega), Int.toNat_natCast, at_n hi, Mod_eq, Mod_v]
    rw [show ((2147483647 : Int) == 0) = false from by decide, cond_f, ih]
    rfl
theorem iHash_l (x0 : List Int) (hx : x0.length ≤ 1152921504606846976) : ∀ i n, i ≤ x0.length → x0.length - i < n → ∀ h : Int, Z15.l6 x0 n h (x0.length : Int) (i : Int) = some ((x0.drop i).foldl hstep h) := by
  refine idx_ind ?_ ?_
  · intro n h
    rw [Z15.u6]
    simp only [Z15.g6, lt_f (Nat.le_refl _), cond_f, List.drop_length, List.foldl_nil]
  · intro i n hi ih h
    rw [List.drop_eq_getElem_cons hi, List.foldl_cons]
    rw [Z15.u6]
    simp only [Z15.g6, lt_t hi, ge_t, cond_t, bind_s, w64_succ (i := i) (by omega), Int.toNat_natCast, at_n hi, Mod_v]
    rw [show ((2147483647 : Int) == 0) = false from by decide, cond_f, ih]
    rfl
theorem sHash_v (x0 : List Int) (hx : x0.length ≤ 1152921504606846976) : Z11 x0 = some (x0.foldl hstep 11) := by
  have := sHash_l x0 hx 0 KK (Nat.zero_le _) (KK_gt (by omega)) 11
  rw [List.drop_zero] at this
  exact this
theorem iHash_v (x0 : List Int) (hx : x0.length ≤ 1152921504606846976) : Z15 x0 = some (x0.foldl hstep 11) := by
  have := iHash_l x0 hx 0 KK (Nat.zero_le _) (KK_gt (by omega)) 11
  rw [List.drop_zero] at this
  exact this
def keysInts (k : TKeys) : List Int := [k.2, (k.1.length : Int)] ++ k.1
theorem keysInts_len (k : TKeys) : (keysInts k).length = k.1.length + 2 := by unfold keysInts; simp
theorem sKeysInts_v (k : TKeys) (h : k.1.length ≤ 1050000) : Z122 k = some (keysInts k) := by
  unfold Z122 keysInts
  rw [decide_eq_true (by simp; omega), cond_t]
theorem iKeysInts_v (k : TKeys) (h : k.1.length ≤ 1050000) : Z120 k = some (keysInts k) := by
  unfold Z120 keysInts
  rw [decide_eq_true (by simp; omega), cond_t]
def hd8 (x0 : THead) : List Int := [(Head_Zone x0), (Head_Epoch x0), (Head_Kind x0), (Head_Time x0), (Head_Until x0), (Head_Count x0), (Head_Root x0), (Head_Prev x0)]
def hde (x0 : THead) : List Int := [(Head_Wait x0)]
def hdb (x0 : THead) : List Int := [bif (Head_Frozen x0) then (1 : Int) else 0]
def headInts (x0 : THead) : List Int := ((((hd8 x0 ++ keysInts (Head_Keys x0)) ++ keysInts (Head_Heirs x0)) ++ hde x0) ++ keysInts (Head_Judge x0)) ++ hdb x0
theorem headInts_len (x0 : THead) : (headInts x0).length = sizeHead x0 + 16 := by
  unfold headInts sizeHead sizeKeys
  simp only [List.length_append, keysInts_len]
  simp [hd8, hde, hdb]; omega
theorem app_le {α : Type} (a b : List α) : (a ++ b).length = a.length + b.length := List.length_append
theorem sHeadInts_v (x0 : THead) (h : sizeHead x0 ≤ 1050000) : Z92 x0 = some (headInts x0) := by
  have hs := h
  unfold sizeHead sizeKeys at hs
  have e1 := sKeysInts_v (Head_Keys x0) (by omega)
  have e2 := sKeysInts_v (Head_Heirs x0) (by omega)
  have e3 := sKeysInts_v (Head_Judge x0) (by omega)
  have l1 := keysInts_len (Head_Keys x0)
  have l2 := keysInts_len (Head_Heirs x0)
  have l3 := keysInts_len (Head_Judge x0)
  have l8 : (hd8 x0).length = 8 := rfl
  have le : (hde x0).length = 1 := rfl
  show ((Z122 (Head_Keys x0)).bind fun y1 => bif decide ((hd8 x0).length + y1.length < 68719476736) then (Z122 (Head_Heirs x0)).bind fun y2 => bif decide ((hd8 x0 ++ y1).length + y2.length < 68719476736) then bif decide (((hd8 x0 ++ y1) ++ y2).length + (hde x0).length < 68719476736) then (Z122 (Head_Judge x0)).bind fun y3 => bif decide ((((hd8 x0 ++ y1) ++ y2) ++ hde x0).length + y3.length < 68719476736) then bif (Head_Frozen x0) then bif decide (((((hd8 x0 ++ y1) ++ y2) ++ hde x0) ++ y3).length + [(1 : Int)].length < 68719476736) then some (((((hd8 x0 ++ y1) ++ y2) ++ hde x0) ++ y3) ++ [(1 : Int)]) else none else bif decide (((((hd8 x0 ++ y1) ++ y2) ++ hde x0) ++ y3).length + [(0 : Int)].length < 68719476736) then some (((((hd8 x0 ++ y1) ++ y2) ++ hde x0) ++ y3) ++ [(0 : Int)]) else none else none else none else none else none) = _
  simp only [e1, e2, e3, bind_s, app_le, l1, l2, l3, l8, le, List.length_singleton]
  rw [decide_eq_true (by omega), cond_t, decide_eq_true (by omega), cond_t, decide_eq_true (by omega), cond_t, decide_eq_true (by omega), cond_t, decide_eq_true (by omega), cond_t]
  unfold headInts hdb
  cases (Head_Frozen x0) <;> rfl
theorem iHeadInts_v (x0 : THead) (h : sizeHead x0 ≤ 1050000) : Z95 x0 = some (headInts x0) := by
  have hs := h
  unfold sizeHead sizeKeys at hs
  have e1 := iKeysInts_v (Head_Keys x0) (by omega)
  have e2 := iKeysInts_v (Head_Heirs x0) (by omega)
  have e3 := iKeysInts_v (Head_Judge x0) (by omega)
  have eb : Z152 (Head_Frozen x0) = some (bif (Head_Frozen x0) then (1 : Int) else 0) := by
    unfold Z152
    cases (Head_Frozen x0) <;> rfl
  have ef : [hd8 x0, keysInts (Head_Keys x0), keysInts (Head_Heirs x0), hde x0, keysInts (Head_Judge x0), hdb x0].flatten = headInts x0 := by
    simp [headInts]
  have ec := Concat_v [hd8 x0, keysInts (Head_Keys x0), keysInts (Head_Heirs x0), hde x0, keysInts (Head_Judge x0), hdb x0] (by simp) (by rw [ef, headInts_len]; omega)
  rw [ef] at ec
  show ((Z120 (Head_Keys x0)).bind fun y1 => (Z120 (Head_Heirs x0)).bind fun y2 => (Z120 (Head_Judge x0)).bind fun y3 => (Z152 (Head_Frozen x0)).bind fun y4 => (Z5 [hd8 x0, y1, y2, hde x0, y3, [y4]]).bind fun y5 => some y5) = _
  simp only [e1, e2, e3, eb, bind_s]
  rw [show [bif (Head_Frozen x0) then (1 : Int) else 0] = hdb x0 from rfl, ec, bind_s]
def headDigest (x0 : THead) : Int := ([(233 : Int)] ++ headInts x0).foldl hstep 11
theorem sHeadDigest_v (x0 : THead) (h : sizeHead x0 ≤ 1050000) : Z114 x0 = some (headDigest x0) := by
  have hl := headInts_len x0
  unfold Z114 headDigest
  rw [sHeadInts_v x0 h, bind_s, decide_eq_true (by simp [hl]; omega), cond_t, sHash_v _ (by simp [hl]; omega), bind_s]
theorem iHeadDigest_v (x0 : THead) (h : sizeHead x0 ≤ 1050000) : Z104 x0 = some (headDigest x0) := by
  have hl := headInts_len x0
  unfold Z104 headDigest
  rw [iHeadInts_v x0 h, bind_s, decide_eq_true (by simp [hl]; omega), cond_t, iHash_v _ (by simp [hl]; omega), bind_s]
def keyedHash (k : Int) (xs : List Int) : Int := (([k] ++ xs) ++ [k]).foldl hstep 11
theorem sKeyedHash_v (k : Int) (xs : List Int) (h : xs.length ≤ 16777216) : Z189 k xs = some (keyedHash k xs) := by
  unfold Z189 keyedHash
  rw [decide_eq_true (by simp; omega), cond_t, decide_eq_true (by simp; omega), cond_t, sHash_v _ (by simp; omega), bind_s]
theorem iKeyedHash_v (k : Int) (xs : List Int) (h : xs.length ≤ 16777216) : Z169 k xs = some (keyedHash k xs) := by
  have ef : [[k], xs, [k]].flatten = ([k] ++ xs) ++ [k] := by simp
  have ec := Concat_v [[k], xs, [k]] (by simp) (by rw [ef]; simp; omega)
  rw [ef] at ec
  unfold Z169 keyedHash
  rw [ec, bind_s, iHash_v _ (by simp; omega), bind_s]
def tagOf (k : Int) (xs : List Int) : Int := keyedHash k ([(223 : Int)] ++ xs)
theorem sTagOf_v (k : Int) (xs : List Int) (h : xs.length ≤ 8388608) : Z193 k xs = some (tagOf k xs) := by
  unfold Z193 tagOf
  rw [decide_eq_true (by simp; omega), cond_t, sKeyedHash_v _ _ (by simp; omega), bind_s]
theorem iTagOf_v (k : Int) (xs : List Int) (h : xs.length ≤ 8388608) : Z173 k xs = some (tagOf k xs) := by
  unfold Z173 tagOf
  rw [decide_eq_true (by simp; omega), cond_t, iKeyedHash_v _ _ (by simp; omega), bind_s]
theorem isKey_v (k : Int) : Z133 k = some (decide (1 ≤ k) && decide (k ≤ 99)) := by
  unfold Z133
  rw [InRange_v, bind_s]
def isSigBy (s : TSig) (xs : List Int) : Bool := (decide (1 ≤ s.1) && decide (s.1 ≤ 99)) && (s.2 == tagOf s.1 xs)
theorem sIsSigBy_v (s : TSig) (xs : List Int) (h : xs.length ≤ 8388608) : Z188 s xs = some (isSigBy s xs) := by
  unfold Z188 isSigBy
  rw [l1In_v, bind_s, sTagOf_v _ _ h, bind_s]
  cases (decide (1 ≤ s.1) && decide (s.1 ≤ 99)) <;> rfl
theorem iIsSigBy_v (s : TSig) (xs : List Int) (h : xs.length ≤ 8388608) : Z167 s xs = some (isSigBy s xs) := by
  unfold Z167 isSigBy
  rw [isKey_v, bind_s, iTagOf_v _ _ h, bind_s]
  cases (decide (1 ≤ s.1) && decide (s.1 ≤ 99)) <;> rfl
def sgBy (k : Int) (xs : List Int) (s : TSig) : Bool := s.1 == k && isSigBy s xs
theorem IndexFunc_Sig_l (x0 : List TSig) (x1 : Unit × (Int × List Int)) (hx : x0.length ≤ 1050000) (hm : x1.2.2.length ≤ 8388608) : ∀ i n, i ≤ x0.length → x0.length - i < n → Z33.l4 x0 x1 n (x0.length : Int) (i : Int) = some (fnd (sgBy x1.2.1 x1.2.2) (x0.drop i) (i : Int)) := by
  refine idx_ind ?_ ?_
  · intro n
    rw [Z33.u4]
    simp only [Z33.g4, lt_f (Nat.le_refl _), cond_f, fnd_last]
  · intro i n hi ih
    rw [Z33.u4]
    simp only [Z33.g4, Z197, iIsSigBy_v _ _ hm, lt_t hi, ge_t, cond_t, bind_s, w64_succ (i := i) (by omega), Int.toNat_natCast, at_n hi, fnd_step _ hi, ih]
    unfold sgBy
    cases (x0[i].1 == x1.2.1) <;> cases (isSigBy x0[i] x1.2.2) <;> rfl
theorem ContainsFunc_Sig_v (x0 : List TSig) (k : Int) (xs : List Int) (hx : x0.length ≤ 1050000) (hm : xs.length ≤ 8388608) : Z183 x0 ((), (k, xs)) = some (x0.any (sgBy k xs)) := by
  have h := IndexFunc_Sig_l x0 ((), (k, xs)) hx hm 0 KK (Nat.zero_le _) (KK_gt (by omega))
  have e : Z33 x0 ((), (k, xs)) = some (fnd (sgBy k xs) x0 0) := by
    unfold Z33
    simpa [Z33.b] using h
  unfold Z183
  rw [e, bind_s, fnd_ge _ _ _ (Int.le_refl 0)]
def cnt (p : Int → Bool) : List Int → Int → Int
  | [], c => c
  | k :: ks, c => cnt p ks (bif p k then c + 1 else c)
theorem cnt_step (p : Int → Bool) {ks : List Int} {i : Nat} (h : i < ks.length) (c : Int) : cnt p (ks.drop i) c = cnt p (ks.drop (i + 1)) (bif p ks[i] then c + 1 else c) := by
  rw [List.drop_eq_getElem_cons h]; rfl
theorem cnt_last (p : Int → Bool) (ks : List Int) (c : Int) : cnt p (ks.drop ks.length) c = c := by
  rw [List.drop_length]; rfl
def hasSig (sg : List TSig) (xs : List Int) (k : Int) : Bool := sg.any (sgBy k xs)
theorem iCountSigs_l (x0 : TKeys) (xs : List Int) (sg : List TSig) (hk : x0.1.length ≤ 1050000) (hs : sg.length ≤ 1050000) (hm : xs.length ≤ 8388608) : ∀ i n, i ≤ x0.1.length → x0.1.length - i < n → ∀ c : Int, 0 ≤ c → c ≤ i → Z41.l6 x0 xs sg n c (x0.1.length : Int) (i : Int) = some (cnt (hasSig sg xs) (x0.1.drop i) c) := by
  refine idx_ind ?_ ?_
  · intro n c h0 h1
    rw [Z41.u6]
    simp only [Z41.g6, lt_f (Nat.le_refl _), cond_f, cnt_last]
  · intro i n hi ih c h0 h1
    rw [Z41.u6]
    simp only [Z41.g6, lt_t hi, ge_t, cond_t, bind_s, w64_succ (i := i) (by omega), Int.toNat_natCast, at_n hi, ContainsFunc_Sig_v _ _ _ hs hm, cnt_step _ hi, w64 (n := c + 1) (by omega) (by omega)]
    rw [show sg.any (sgBy x0.1[i] xs) = hasSig sg xs x0.1[i] from rfl]
    cases hasSig sg xs x0.1[i] with
    | true => rw [cond_t, cond_t]; exact ih _ (by omega) (by omega)
    | false => rw [cond_f, cond_f]; exact ih _ (by omega) (by omega)
theorem iCountSigs_v (x0 : TKeys) (xs : List Int) (sg : List TSig) (hk : x0.1.length ≤ 1050000) (hs : sg.length ≤ 1050000) (hm : xs.length ≤ 8388608) : Z41 x0 xs sg = some (cnt (hasSig sg xs) x0.1 0) := by
  have := iCountSigs_l x0 xs sg hk hs hm 0 KK (Nat.zero_le _) (KK_gt (by omega)) 0 (Int.le_refl 0) (by omega)
  rw [List.drop_zero] at this
  exact this
theorem sCountSigs_l12 (x0 : TKeys) (xs : List Int) (sg : List TSig) (hs : sg.length ≤ 1050000) (hm : xs.length ≤ 8388608) (c : Int) (j : Nat) (hj : j < x0.1.length) (r : Int → Int → Option Int) : ∀ i n, i ≤ sg.length → sg.length - i < n → Z2.l12 x0 xs sg c (j : Int) r n (i : Int) = bif (sg.drop i).any (sgBy x0.1[j] xs) then r (IntKind.i64.wrap (c + 1)) (IntKind.i64.wrap ((j : Int) + 1)) else r c (IntKind.i64.wrap ((j : Int) + 1)) := by
  refine idx_ind ?_ ?_
  · intro n
    rw [Z2.u12]
    simp only [Z2.g12, lt_f (Nat.le_refl _), cond_f, List.drop_length, List.any_nil]
  · intro i n hi ih
    rw [Z2.u12]
    simp only [Z2.g12, Z2.l19, Z2.g19, lt_t hi, lt_t hj, ge_t, cond_t, cond_f, bind_s, w64_succ (i := i) (by omega), Int.toNat_natCast, at_n hi, at_n hj, sIsSigBy_v _ _ hm, ih]
    rw [List.drop_eq_getElem_cons hi, List.any_cons]
    rw [show sgBy x0.1[j] xs sg[i] = (sg[i].1 == x0.1[j] && isSigBy sg[i] xs) from rfl]
    cases (sg[i].1 == x0.1[j]) <;> cases (isSigBy sg[i] xs) <;> rfl
theorem sCountSigs_l (x0 : TKeys) (xs : List Int) (sg : List TSig) (hk : x0.1.length ≤ 1050000) (hs : sg.length ≤ 1050000) (hm : xs.length ≤ 8388608) : ∀ i n, i ≤ x0.1.length → x0.1.length - i < n → ∀ c : Int, 0 ≤ c → c ≤ i → Z2.l6 x0 xs sg n c (i : Int) = some (cnt (hasSig sg xs) (x0.1.drop i) c) := by
  refine idx_ind ?_ ?_
  · intro n c h0 h1
    rw [Z2.u6]
    simp only [Z2.g6, lt_f (Nat.le_refl _), cond_f, cnt_last]
  · intro i n hi ih c h0 h1
    have hl := sCountSigs_l12 x0 xs sg hs hm c i hi (Z2.l6 x0 xs sg n) 0 KK (Nat.zero_le _) (KK_gt (by omega))
    rw [List.drop_zero] at hl
    rw [Z2.u6]
    simp only [Z2.g6, lt_t hi, cond_t]
    refine Eq.trans hl ?_
    rw [w64_succ (i := i) (by omega), w64 (n := c + 1) (by omega) (by omega), cnt_step _ hi]
    rw [show sg.any (sgBy x0.1[i] xs) = hasSig sg xs x0.1[i] from rfl]
    cases hasSig sg xs x0.1[i] with
    | true => rw [cond_t, cond_t]; exact ih _ (by omega) (by omega)
    | false => rw [cond_f, cond_f]; exact ih _ (by omega) (by omega)
theorem sCountSigs_v (x0 : TKeys) (xs : List Int) (sg : List TSig) (hk : x0.1.length ≤ 1050000) (hs : sg.length ≤ 1050000) (hm : xs.length ≤ 8388608) : Z2 x0 xs sg = some (cnt (hasSig sg xs) x0.1 0) := by
  have := sCountSigs_l x0 xs sg hk hs hm 0 KK (Nat.zero_le _) (KK_gt (by omega)) 0 (Int.le_refl 0) (by omega)
  rw [List.drop_zero] at this
  exact this
def gk (x0 : TKeys) (j : Nat) : Int := x0.1.getD j 0
theorem gk_def (x0 : TKeys) (j : Nat) : x0.1.getD j 0 = gk x0 j := rfl
def keysAsc (x0 : TKeys) (i : Nat) : Prop := ∀ j, j < x0.1.length → i ≤ j → 0 < j → gk x0 (j - 1) < gk x0 j
def keysIn (x0 : TKeys) (i : Nat) : Prop := ∀ j, j < x0.1.length → i ≤ j → (1 ≤ gk x0 j ∧ gk x0 j ≤ 99) ∧ (0 < j → gk x0 (j - 1) < gk x0 j)
def keysNeed (x0 : TKeys) : Prop := (1 ≤ (x0.1.length : Int) ∧ (x0.1.length : Int) ≤ 4) ∧ (1 ≤ x0.2 ∧ x0.2 ≤ (x0.1.length : Int))
theorem sIsKeys_l (x0 : TKeys) (hx : x0.1.length ≤ 1050000) : ∀ i n, i ≤ x0.1.length → x0.1.length - i < n → ∃ b, Z18.l4 x0 n (i : Int) = some b ∧ (b = true ↔ keysIn x0 i ∧ keysNeed x0) := by
  refine idx_ind ?_ ?_
  · intro n
    rw [Z18.u4]
    simp only [Z18.g4, lt_f (Nat.le_refl _), cond_f, l1In_v, bind_s]
    refine ⟨(decide ((1 : Int) ≤ (x0.1.length : Int)) && decide ((x0.1.length : Int) ≤ 4)) && (decide (1 ≤ x0.2) && decide (x0.2 ≤ (x0.1.length : Int))), ?_, ?_⟩
    · cases (decide ((1 : Int) ≤ (x0.1.length : Int)) && decide ((x0.1.length : Int) ≤ 4)) <;> rfl
    · unfold keysIn keysNeed
      simp only [Bool.and_eq_true, decide_eq_true_eq]
      exact ⟨fun h => ⟨fun j h1 h2 => absurd h1 (by omega), h⟩, fun h => h.2⟩
  · intro i n hi ih
    obtain ⟨b, hb, hP⟩ := ih
    rw [Z18.u4]
    simp only [Z18.g4, lt_t hi, ge_t, cond_t, l1In_v, bind_s, w64_succ (i := i) (by omega), Int.toNat_natCast, hb, gk_def]
    by_cases hr : 1 ≤ gk x0 i ∧ gk x0 i ≤ 99
    · rw [decide_eq_true hr.1, decide_eq_true hr.2, Bool.and_self, Bool.not_true, cond_f]
      by_cases h0 : 0 < i
      · have ew : IntKind.i64.wrap ((i : Int) - 1) = ((i - 1 : Nat) : Int) := by rw [w64 (by omega) (by omega)]; omega
        simp only [decide_eq_true (show (i : Int) > 0 by omega), cond_t, ew, ge_t, lt_t (show i - 1 < x0.1.length by omega), Int.toNat_natCast, gk_def]
        by_cases ha : gk x0 (i - 1) < gk x0 i
        · rw [decide_eq_false (by omega), cond_f]
          refine ⟨b, rfl, hP.trans ⟨fun h => ⟨fun j h1 h2 => ?_, h.2⟩, fun h => ⟨fun j h1 h2 => h.1 j h1 (by omega), h.2⟩⟩⟩
          by_cases e : j = i
          · subst e; exact ⟨hr, fun _ => ha⟩
          · exact h.1 j h1 (by omega)
        · rw [decide_eq_true (by omega), cond_t]
          refine ⟨false, rfl, ⟨fun h => Bool.noConfusion h, fun h => absurd ((h.1 i hi (Nat.le_refl _)).2 h0) ha⟩⟩
      · rw [decide_eq_false (by omega), cond_f]
        refine ⟨b, rfl, hP.trans ⟨fun h => ⟨fun j h1 h2 => ?_, h.2⟩, fun h => ⟨fun j h1 h2 => h.1 j h1 (by omega), h.2⟩⟩⟩
        by_cases e : j = i
        · subst e; exact ⟨hr, fun h => absurd h h0⟩
        · exact h.1 j h1 (by omega)
    · have e : (decide (1 ≤ gk x0 i) && decide (gk x0 i ≤ 99)) = false := by
        cases hc : (decide (1 ≤ gk x0 i) && decide (gk x0 i ≤ 99))
        · rfl
        · simp only [Bool.and_eq_true, decide_eq_true_eq] at hc; exact absurd hc hr
      rw [e, Bool.not_false, cond_t]
      exact ⟨false, rfl, ⟨fun h => Bool.noConfusion h, fun h => absurd (h.1 i hi (Nat.le_refl _)).1 hr⟩⟩
theorem asc_l (x0 : TKeys) (hx : x0.1.length ≤ 1050000) : ∀ i n, i ≤ x0.1.length → x0.1.length - i < n → ∃ b, Z43.l4 x0.1 n (x0.1.length : Int) (i : Int) = some b ∧ (b = true ↔ keysAsc x0 i) := by
  refine idx_ind ?_ ?_
  · intro n
    rw [Z43.u4]
    simp only [Z43.g4, lt_f (Nat.le_refl _), cond_f]
    exact ⟨true, rfl, ⟨fun _ j h1 h2 => absurd h1 (by omega), fun _ => rfl⟩⟩
  · intro i n hi ih
    obtain ⟨b, hb, hP⟩ := ih
    rw [Z43.u4]
    simp only [Z43.g4, lt_t hi, ge_t, cond_t, w64_succ (i := i) (by omega), Int.toNat_natCast, hb, gk_def]
    by_cases h0 : 0 < i
    · have ew : IntKind.i64.wrap ((i : Int) - 1) = ((i - 1 : Nat) : Int) := by rw [w64 (by omega) (by omega)]; omega
      simp only [decide_eq_true (show (i : Int) > 0 by omega), cond_t, ew, ge_t, lt_t (show i - 1 < x0.1.length by omega), Int.toNat_natCast, gk_def]
      by_cases ha : gk x0 (i - 1) < gk x0 i
      · rw [decide_eq_false (by omega), cond_f]
        refine ⟨b, rfl, hP.trans ⟨fun h j h1 h2 h3 => ?_, fun h j h1 h2 h3 => h j h1 (by omega) h3⟩⟩
        by_cases e : j = i
        · subst e; exact ha
        · exact h j h1 (by omega) h3
      · rw [decide_eq_true (by omega), cond_t]
        exact ⟨false, rfl, ⟨fun h => Bool.noConfusion h, fun h => absurd (h i hi (Nat.le_refl _) h0) ha⟩⟩
    · rw [decide_eq_false (by omega), cond_f]
      refine ⟨b, rfl, hP.trans ⟨fun h j h1 h2 h3 => h j h1 (by omega) h3, fun h j h1 h2 h3 => h j h1 (by omega) h3⟩⟩
theorem asc_le (x0 : TKeys) (h : keysAsc x0 0) (a : Nat) : ∀ b, a ≤ b → b < x0.1.length → gk x0 a ≤ gk x0 b := by
  intro b
  induction b with
  | zero => intro h1 _; have : a = 0 := by omega
            subst this; exact Int.le_refl _
  | succ b ih =>
    intro h1 h2
    by_cases e : a = b + 1
    · subst e; exact Int.le_refl _
    · have := ih (by omega) (by omega)
      have h3 := h (b + 1) h2 (by omega) (by omega)
      rw [show b + 1 - 1 = b from rfl] at h3
      omega
theorem keysIn_of (x0 : TKeys) (h : keysAsc x0 0) (h0 : 1 ≤ gk x0 0) (h1 : gk x0 (x0.1.length - 1) ≤ 99) : keysIn x0 0 := by
  intro j hj _
  have a := asc_le x0 h 0 j (by omega) hj
  have b := asc_le x0 h j (x0.1.length - 1) (by omega) (by omega)
  exact ⟨⟨by omega, by omega⟩, h j hj (by omega)⟩
theorem bool_eq {a b : Bool} (h : a = true ↔ b = true) : a = b := by cases a <;> cases b <;> simp_all
theorem IsKeys_v (x0 : TKeys) (hx : x0.1.length ≤ 1050000) : ∃ b, Z18 x0 = some b ∧ Z123 x0 = some b := by
  obtain ⟨s, hs, hS⟩ := sIsKeys_l x0 hx 0 KK (Nat.zero_le _) (KK_gt (by omega))
  obtain ⟨a, ha, hA⟩ := asc_l x0 hx 0 KK (Nat.zero_le _) (KK_gt (by omega))
  refine ⟨s, hs, ?_⟩
  have ea : Z43 x0.1 = some a := ha
  unfold Z123
  rw [InRange_v, bind_s]
  by_cases hl : 1 ≤ (x0.1.length : Int) ∧ (x0.1.length : Int) ≤ 4
  · rw [decide_eq_true hl.1, decide_eq_true hl.2, Bool.and_self, cond_t, ea, bind_s]
    have ew : IntKind.i64.wrap ((x0.1.length : Int) - 1) = ((x0.1.length - 1 : Nat) : Int) := by rw [w64 (by omega) (by omega)]; omega
    cases a with
    | false =>
      rw [cond_f]
      have : s = false := by
        cases s with
        | false => rfl
        | true =>
          have h := (hS.mp rfl).1
          exact (hA.mpr (fun j h1 h2 h3 => (h j h1 h2).2 h3)).symm
      rw [this]
    | true =>
      have hasc := hA.mp rfl
      rw [cond_t, decide_eq_true (Int.le_refl 0), cond_t, decide_eq_true (by omega), cond_t, isKey_v, bind_s, ew, ge_t, cond_t, lt_t (by omega), cond_t, isKey_v, bind_s, InRange_v, bind_s, Int.toNat_natCast, show (0 : Int).toNat = 0 from rfl]
      rw [show x0.1.getD 0 0 = gk x0 0 from rfl, show x0.1.getD (x0.1.length - 1) 0 = gk x0 (x0.1.length - 1) from rfl]
      have e : s = ((decide (1 ≤ gk x0 0) && decide (gk x0 0 ≤ 99)) && ((decide (1 ≤ gk x0 (x0.1.length - 1)) && decide (gk x0 (x0.1.length - 1) ≤ 99)) && (decide (1 ≤ x0.2) && decide (x0.2 ≤ (x0.1.length : Int))))) := by
        refine bool_eq (hS.trans ?_)
        simp only [Bool.and_eq_true, decide_eq_true_eq]
        constructor
        · intro h
          exact ⟨(h.1 0 (by omega) (Nat.le_refl _)).1, (h.1 (x0.1.length - 1) (by omega) (by omega)).1, h.2.2⟩
        · intro h
          exact ⟨keysIn_of x0 hasc h.1.1 h.2.1.2, hl, h.2.2⟩
      rw [e]
      cases (decide (1 ≤ gk x0 0) && decide (gk x0 0 ≤ 99)) <;> cases (decide (1 ≤ gk x0 (x0.1.length - 1)) && decide (gk x0 (x0.1.length - 1) ≤ 99)) <;> rfl
  · have e : (decide (1 ≤ (x0.1.length : Int)) && decide ((x0.1.length : Int) ≤ 4)) = false := by
      cases hc : (decide (1 ≤ (x0.1.length : Int)) && decide ((x0.1.length : Int) ≤ 4))
      · rfl
      · simp only [Bool.and_eq_true, decide_eq_true_eq] at hc; exact absurd hc hl
    rw [e, cond_f]
    have : s = false := by
      cases s with
      | false => rfl
      | true => exact absurd (hS.mp rfl).2.1 hl
    rw [this]
theorem IsKeys_pos (x0 : TKeys) (hx : x0.1.length ≤ 1050000) (h : Z18 x0 = some true) : 1 ≤ x0.1.length := by
  obtain ⟨s, hs, hS⟩ := sIsKeys_l x0 hx 0 KK (Nat.zero_le _) (KK_gt (by omega))
  have e : Z18 x0 = some s := hs
  rw [h] at e
  injection e with e
  have := (hS.mp e.symm).2.1
  omega
noncomputable def keysB (k : TKeys) : Bool := (Z18 k).getD false
theorem sKeysB (k : TKeys) (hx : k.1.length ≤ 1050000) : Z18 k = some (keysB k) := by
  obtain ⟨b, h1, h2⟩ := IsKeys_v k hx
  unfold keysB
  rw [h1]; rfl
theorem iKeysB (k : TKeys) (hx : k.1.length ≤ 1050000) : Z123 k = some (keysB k) := by
  obtain ⟨b, h1, h2⟩ := IsKeys_v k hx
  unfold keysB
  rw [h1, h2]; rfl
def noK (k : TKeys) : Bool := k.2 == (0 : Int) && ((k.1.length : Int) == (0 : Int))
theorem sNoKeys_v (k : TKeys) : Z125 k = some (noK k) := by
  unfold Z125 noK
  cases (k.2 == (0 : Int)) <;> rfl
theorem iNoKeys_v (k : TKeys) : Z119 k = some (noK k) := by
  unfold Z119 noK
  cases (k.2 == (0 : Int)) <;> rfl
theorem keysB_no (k : TKeys) (hx : k.1.length ≤ 1050000) : (keysB k && noK k) = false := by
  cases h : keysB k with
  | false => rfl
  | true =>
    have := IsKeys_pos k hx (by rw [sKeysB k hx, h])
    unfold noK
    have e : ((k.1.length : Int) == (0 : Int)) = false := by rw [beq_eq_false_iff_ne]; omega
    rw [e, Bool.and_false]; rfl
def inR (a b c : Int) : Bool := decide (b ≤ a) && decide (a ≤ c)
theorem l1In_r (a b c : Int) : Z80 a b c = some (inR a b c) := l1In_v a b c
theorem InRange_r (a b c : Int) : Z84 a b c = some (inR a b c) := InRange_v a b c
theorem isDigest_r (a : Int) : Z124 a = some (inR a 0 2147483646) := by
  unfold Z124
  rw [InRange_r, bind_s]
theorem bif_some {α : Type} (c : Bool) (a b : α) : (bif c then some a else some b) = some (bif c then a else b) := by cases c <;> rfl
theorem bif_ff (c a : Bool) : (bif c then a else false) = (c && a) := by cases c <;> rfl
theorem bif_fl (c a : Bool) : (bif c then false else a) = (!c && a) := by cases c <;> rfl
theorem bif_tl (c a : Bool) : (bif c then true else a) = (c || a) := by cases c <;> rfl
theorem bif_tr (c a : Bool) : (bif c then a else true) = (!c || a) := by cases c <;> rfl
def hr4 (x : THead) : Bool := inR (Head_Zone x) 0 2147483646 && (inR (Head_Root x) 0 2147483646 && (inR (Head_Prev x) 0 2147483646 && (inR (Head_Epoch x) 0 200 && inR (Head_Kind x) 1 3)))
def spanB (x : THead) : Bool := decide ((Head_Time x) ≥ 0) && (decide ((Head_Time x) ≤ (Head_Until x)) && (decide ((Head_Until x) ≤ 100000) && decide (IntKind.i64.wrap ((Head_Until x) - (Head_Time x)) ≤ 200)))
theorem span_eq (x : THead) (r : Bool) : (inR (Head_Time x) 0 100000 && (inR (Head_Until x) (Head_Time x) 100000 && (!decide (IntKind.i64.wrap ((Head_Until x) - (Head_Time x)) > 200) && r))) = (spanB x && r) := by
  have : (inR (Head_Time x) 0 100000 && (inR (Head_Until x) (Head_Time x) 100000 && !decide (IntKind.i64.wrap ((Head_Until x) - (Head_Time x)) > 200))) = spanB x := by
    unfold inR spanB
    generalize IntKind.i64.wrap ((Head_Until x) - (Head_Time x)) = w
    refine bool_eq ?_
    simp only [Bool.and_eq_true, decide_eq_true_eq, Bool.not_eq_true', decide_eq_false_iff_not]
    omega
  rw [← this]
  simp only [Bool.and_assoc]
noncomputable def keyPart (x : THead) : Bool := (bif noK (Head_Heirs x) then ((Head_Wait x) == (0 : Int)) else (keysB (Head_Heirs x) && inR (Head_Wait x) 1 500)) && (keysB (Head_Judge x) || (noK (Head_Judge x) && !(Head_Frozen x)))
noncomputable def isHeadB (x : THead) : Bool := hr4 x && (spanB x && (inR (Head_Count x) 0 12 && (keysB (Head_Keys x) && keyPart x)))
theorem sIsHead_v (x : THead) (hx : sizeHead x ≤ 1050000) : Z3 x = some (isHeadB x) := by
  unfold sizeHead sizeKeys at hx
  have k1 := sKeysB (Head_Keys x) (by omega)
  have k2 := sKeysB (Head_Heirs x) (by omega)
  have k3 := sKeysB (Head_Judge x) (by omega)
  have n2 := sNoKeys_v (Head_Heirs x)
  have n3 := sNoKeys_v (Head_Judge x)
  have key : (bif noK (Head_Heirs x) then (!((Head_Wait x) != (0 : Int)) && (keysB (Head_Judge x) || (noK (Head_Judge x) && !(Head_Frozen x)))) else (keysB (Head_Heirs x) && (inR (Head_Wait x) 1 500 && (keysB (Head_Judge x) || (noK (Head_Judge x) && !(Head_Frozen x)))))) = keyPart x := by
    unfold keyPart
    cases noK (Head_Heirs x) with
    | true => simp [bne]
    | false => simp only [cond_f, Bool.and_assoc]
  unfold Z3
  simp only [Z3.b, Z3.l7, Z3.g7, Z3.l11, Z3.g11, Z3.l21, Z3.g21, l1In_r, k1, k2, k3, n2, n3, bind_s, bif_some, bif_ff, bif_fl, bif_tl, bif_tr, Bool.not_not]
  rw [key, span_eq]
  unfold isHeadB hr4 Head_Keys
  simp only [Bool.and_assoc]
theorem iIsHead_v (x : THead) (hx : sizeHead x ≤ 1050000) : Z93 x = some (isHeadB x) := by
  unfold sizeHead sizeKeys at hx
  have k1 := iKeysB (Head_Keys x) (by omega)
  have k2 := iKeysB (Head_Heirs x) (by omega)
  have k3 := iKeysB (Head_Judge x) (by omega)
  have n2 := iNoKeys_v (Head_Heirs x)
  have n3 := iNoKeys_v (Head_Judge x)
  have q3 := keysB_no (Head_Judge x) (by omega)
  have key : ((noK (Head_Heirs x) || keysB (Head_Heirs x)) && ((noK (Head_Judge x) || keysB (Head_Judge x)) && ((bif noK (Head_Heirs x) then ((Head_Wait x) == (0 : Int)) else inR (Head_Wait x) 1 500) && (!(Head_Frozen x) || !noK (Head_Judge x))))) = keyPart x := by
    unfold keyPart
    revert q3
    generalize ((Head_Wait x) == (0 : Int)) = a
    generalize inR (Head_Wait x) 1 500 = b
    generalize (Head_Frozen x) = c
    cases noK (Head_Heirs x) <;> cases keysB (Head_Heirs x) <;> cases noK (Head_Judge x) <;> cases keysB (Head_Judge x) <;> cases a <;> cases b <;> cases c <;> decide
  unfold Z93
  simp only [Z176, Z201, Z118, isDigest_r, InRange_r, k1, k2, k3, n2, n3, bind_s, bif_some, bif_ff, bif_fl, bif_tl, bif_tr, Bool.not_not]
  rw [key]
  unfold isHeadB hr4 spanB Head_Keys
  simp only [Bool.and_assoc]
theorem EqualInts_l (x0 x1 : List Int) (hl : x0.length = x1.length) (hx : x0.length ≤ 1152921504606846976) : ∀ i n, i ≤ x0.length → x0.length - i < n → Z29.l8 x0 x1 n (i : Int) = some (decide (x0.drop i = x1.drop i)) := by
  refine idx_ind ?_ ?_
  · intro n
    rw [Z29.u8]
    simp only [Z29.g8, lt_f (Nat.le_refl _), cond_f]
    rw [List.drop_length, hl, List.drop_length]; simp
  · intro i n hi ih
    have hi' : i < x1.length := by omega
    rw [Z29.u8]
    simp only [Z29.g8, lt_t hi, lt_t hi', ge_t, cond_t, w64_succ (i := i) (by omega), Int.toNat_natCast, at_n hi, at_n hi']
    rw [dec_step (drop_eq hi hi')]
    by_cases he : x0[i] = x1[i]
    · rw [show (x0[i] != x1[i]) = false by simp [he], cond_f, ih, decide_eq_true he, Bool.true_and]
    · rw [show (x0[i] != x1[i]) = true by simp [he], cond_t, decide_eq_false he, Bool.false_and]
theorem EqualInts_v (x0 x1 : List Int) (hx : x0.length ≤ 1152921504606846976) : Z29 x0 x1 = some (decide (x0 = x1)) := by
  unfold Z29
  by_cases hl : x0.length = x1.length
  · simp only [Z29.b, len_eq hl, cond_f]
    have := EqualInts_l x0 x1 hl hx 0 KK (Nat.zero_le _) (KK_gt (by omega))
    simpa using this
  · simp only [Z29.b, len_ne hl, cond_t]
    rw [decide_eq_false (fun h => hl (by rw [h]))]
theorem slicesEq_int_l (x0 x1 : List Int) (hl : x0.length = x1.length) (hx : x0.length ≤ 1152921504606846976) : ∀ i n, i ≤ x0.length → x0.length - i < n → Z27.l8 x0 x1 n (x0.length : Int) (i : Int) = some (decide (x0.drop i = x1.drop i)) := by
  refine idx_ind ?_ ?_
  · intro n
    rw [Z27.u8]
    simp only [Z27.g8, lt_f (Nat.le_refl _), cond_f]
    rw [List.drop_length, hl, List.drop_length]; simp
  · intro i n hi ih
    have hi' : i < x1.length := by omega
    rw [Z27.u8]
    simp only [Z27.g8, lt_t hi, lt_t hi', ge_t, cond_t, w64_succ (i := i) (by omega), Int.toNat_natCast, at_n hi, at_n hi']
    rw [dec_step (drop_eq hi hi')]
    by_cases he : x0[i] = x1[i]
    · rw [show (x0[i] != x1[i]) = false by simp [he], cond_f, ih, decide_eq_true he, Bool.true_and]
    · rw [show (x0[i] != x1[i]) = true by simp [he], cond_t, decide_eq_false he, Bool.false_and]
theorem slicesEq_int_v (x0 x1 : List Int) (hx : x0.length ≤ 1152921504606846976) : Z27 x0 x1 = some (decide (x0 = x1)) := by
  unfold Z27
  by_cases hl : x0.length = x1.length
  · simp only [Z27.b, len_eq hl, cond_f]
    have := slicesEq_int_l x0 x1 hl hx 0 KK (Nat.zero_le _) (KK_gt (by omega))
    simpa using this
  · simp only [Z27.b, len_ne hl, cond_t]
    rw [decide_eq_false (fun h => hl (by rw [h]))]
theorem EqualKeys_v (a b : TKeys) (hx : a.1.length ≤ 1050000) : Z126 a b = some (decide (a = b)) := by
  unfold Z126
  rw [slicesEq_int_v _ _ (by omega), bind_s]
  obtain ⟨a1, a2⟩ := a
  obtain ⟨b1, b2⟩ := b
  by_cases h1 : a1 = b1 <;> by_cases h2 : a2 = b2 <;> simp [h1, h2]
def eqHeads (a b : THead) : Bool := decide (headInts a = headInts b)
theorem l6Copy_v (x : TKeys) (hx : x.1.length ≤ 1050000) : Z150 x = some x := by
  unfold Z150
  rw [decide_eq_true (by simp; omega), cond_t]; rfl
theorem Clone_int_v (x : List Int) (hx : x.length ≤ 1050000) : Z181 x = some x := by
  have e : (bif decide (([] : List Int).length + x.length < 68719476736) then some ([] ++ x) else none) = some x := by
    rw [decide_eq_true (by simp; omega), cond_t]; rfl
  unfold Z181
  rw [e]
  cases x with
  | nil => exact both_eq _
  | cons a t => rfl
theorem copyKeys_v (x : TKeys) (hx : x.1.length ≤ 1050000) : Z145 x = some x := by
  unfold Z145
  rw [Clone_int_v _ hx, bind_s]
theorem l13Copy_v (x0 : THead) (hx : sizeHead x0 ≤ 1050000) : Z94 x0 = some x0 := by
  unfold sizeHead sizeKeys at hx
  unfold Z94
  exact bnd (l6Copy_v _ (by omega)) (bnd (l6Copy_v _ (by omega)) (bnd (l6Copy_v _ (by omega)) rfl))
theorem copyHead_v (x0 : THead) (hx : sizeHead x0 ≤ 1050000) : Z107 x0 = some x0 := by
  unfold sizeHead sizeKeys at hx
  unfold Z107
  exact bnd (copyKeys_v _ (by omega)) (bnd (copyKeys_v _ (by omega)) (bnd (copyKeys_v _ (by omega)) rfl))
theorem Clone_Sig_v (x : List TSig) (hx : x.length ≤ 1050000) : Z180 x = some x := by
  have e : (bif decide (([] : List TSig).length + x.length < 68719476736) then some ([] ++ x) else none) = some x := by
    rw [decide_eq_true (by simp; omega), cond_t]; rfl
  unfold Z180
  rw [e]
  cases x with
  | nil => exact both_eq _
  | cons a t => rfl
theorem l14Copy_v (x0 : TSigned) (hx : sizeSigned x0 ≤ 1050000) : Z103 x0 = some x0 := by
  unfold sizeSigned at hx
  unfold Z103
  exact bnd (l13Copy_v _ (by omega)) (cT (decide_eq_true (by simp; omega)) rfl)
theorem copySigned_v (x0 : TSigned) (hx : sizeSigned x0 ≤ 1050000) : Z98 x0 = some x0 := by
  unfold sizeSigned at hx
  unfold Z98
  exact bnd (copyHead_v _ (by omega)) (bnd (Clone_Sig_v _ (by omega)) rfl)
theorem aB {e f : Option Bool} {b c : Bool} (h : e = some b) (hf : f = some c) : (e.bind fun y => bif y then f else some false) = some (b && c) := by
  rw [h, bind_s, hf]; cases b <;> rfl
theorem aC {f : Option Bool} {c d : Bool} (hf : f = some d) : (bif c then f else some false) = some (c && d) := by
  rw [hf]; cases c <;> rfl
theorem aL {α : Type} {e : Option α} {b : α} (h : e = some b) : (e.bind fun y => some y) = some b := by rw [h, bind_s]
theorem zone_at {xs : List TZone} {i : Nat} (h : i < xs.length) {n : Nat} (hx : sizeZoneS xs ≤ n) : sizeZone xs[i] ≤ n := by
  have := size_at sizeZone h
  unfold sizeZoneS sizeS at hx
  omega
theorem signed_at {xs : List TSigned} {i : Nat} (h : i < xs.length) {n : Nat} (hx : sizeSignedS xs ≤ n) : sizeSigned xs[i] ≤ n := by
  have := size_at sizeSigned h
  unfold sizeSignedS sizeS at hx
  omega
theorem entry_at {xs : List TEntry} {i : Nat} (h : i < xs.length) {n : Nat} (hx : sizeEntryS xs ≤ n) : sizeEntry xs[i] ≤ n := by
  have := size_at sizeEntry h
  unfold sizeEntryS sizeS at hx
  omega
def zoneOf (k : TKeys) (s : Int) : Int := ([(239 : Int), s] ++ keysInts k).foldl hstep 11
theorem sZoneOf_v (k : TKeys) (s : Int) (hk : k.1.length ≤ 1050000) : Z195 k s = some (zoneOf k s) := by
  have hl := keysInts_len k
  unfold Z195 zoneOf
  rw [sKeysInts_v k hk, bind_s, decide_eq_true (by simp [hl]; omega), cond_t, sHash_v _ (by simp [hl]; omega), bind_s]
theorem iZoneOf_v (k : TKeys) (s : Int) (hk : k.1.length ≤ 1050000) : Z175 k s = some (zoneOf k s) := by
  have hl := keysInts_len k
  unfold Z175 zoneOf
  rw [iKeysInts_v k hk, bind_s, decide_eq_true (by simp [hl]; omega), cond_t, iHash_v _ (by simp [hl]; omega), bind_s]
noncomputable def isSigned (k : TKeys) (m : List Int) (sg : List TSig) : Bool := keysB k && decide (cnt (hasSig sg m) k.1 0 ≥ k.2)
theorem sIsSigned_v (k : TKeys) (m : List Int) (sg : List TSig) (hk : k.1.length ≤ 1050000) (hs : sg.length ≤ 1050000) (hm : m.length ≤ 8388608) : Z140 k m sg = some (isSigned k m sg) := by
  unfold Z140 isSigned
  exact aB (sKeysB k hk) (bnd (sCountSigs_v k m sg hk hs hm) rfl)
theorem iIsSigned_v (k : TKeys) (m : List Int) (sg : List TSig) (hk : k.1.length ≤ 1050000) (hs : sg.length ≤ 1050000) (hm : m.length ≤ 8388608) : Z168 k m sg = some (isSigned k m sg) := by
  unfold Z168 isSigned
  exact aB (iKeysB k hk) (bnd (iCountSigs_v k m sg hk hs hm) rfl)
noncomputable def signedBy (s : TSigned) (k : TKeys) : Bool := isSigned k (headInts (Signed_Head s)) (Signed_Sigs s)
theorem hi_len (x : THead) (hx : sizeHead x ≤ 1050000) : (headInts x).length ≤ 8388608 := by rw [headInts_len]; omega
theorem isSignedBy_v (s : TSigned) (k : TKeys) (hs : sizeSigned s ≤ 1050000) (hk : k.1.length ≤ 1050000) : Z91 s k = some (signedBy s k) := by
  unfold sizeSigned at hs
  unfold Z91 signedBy
  exact bnd (iHeadInts_v _ (by omega)) (aL (iIsSigned_v _ _ _ hk (by omega) (hi_len _ (by omega))))
noncomputable def isFirst (s : TSigned) : Bool := isHeadB (Signed_Head s) && (Head_Epoch (Signed_Head s) == (0 : Int) && (Head_Kind (Signed_Head s) == (1 : Int) && (!(Head_Frozen (Signed_Head s)) && (Head_Zone (Signed_Head s) == zoneOf (Head_Keys (Signed_Head s)) (Head_Prev (Signed_Head s)) && signedBy s (Head_Keys (Signed_Head s))))))
theorem sIsFirst_v (s : TSigned) (hs : sizeSigned s ≤ 1050000) : Z115 s = some (isFirst s) := by
  unfold sizeSigned at hs
  have hk : (Head_Keys (Signed_Head s)).1.length ≤ 1050000 := by unfold sizeHead sizeKeys at hs; omega
  unfold Z115 isFirst
  exact aB (sIsHead_v _ (by omega)) (aC (aC (aC (bnd (sZoneOf_v _ _ hk) (aC (bnd (sHeadInts_v _ (by omega)) (aL (sIsSigned_v _ _ _ hk (by omega) (hi_len _ (by omega))))))))))
theorem iIsFirst_v (s : TSigned) (hs : sizeSigned s ≤ 1050000) : Z105 s = some (isFirst s) := by
  have hs' := hs
  unfold sizeSigned at hs'
  have hk : (Head_Keys (Signed_Head s)).1.length ≤ 1050000 := by unfold sizeHead sizeKeys at hs'; omega
  unfold Z105 isFirst
  exact aB (iIsHead_v _ (by omega)) (aC (aC (aC (bnd (iZoneOf_v _ _ hk) (aC (aL (isSignedBy_v _ _ hs hk)))))))
theorem sEqualKeys_v (a b : TKeys) (hx : a.1.length ≤ 1050000) : Z130 a b = some (decide (a = b)) := by
  unfold Z130
  refine (aC (aL (EqualInts_v _ _ (by omega)))).trans ?_
  obtain ⟨a1, a2⟩ := a
  obtain ⟨b1, b2⟩ := b
  by_cases h1 : a1 = b1 <;> by_cases h2 : a2 = b2 <;> simp [h1, h2]
def sameC (a b : THead) : Bool := Head_Count a == Head_Count b && Head_Root a == Head_Root b
theorem sSame_v (a b : THead) : Z97 a b = some (sameC a b) := aC rfl
theorem iSame_v (a b : THead) : Z96 a b = some (sameC a b) := aC rfl
def ownC (p h : THead) : Int := bif Head_Frozen p then 4 else bif Head_Frozen h then 6 else 1
def lateB (p h : THead) : Bool := noK (Head_Heirs p) || decide ((Head_Time h) < (IntKind.i64.wrap ((Head_Until p) + (Head_Wait p))))
def heirC (p h : THead) : Int := bif Head_Frozen p then 4 else bif lateB p h then 5 else bif Head_Frozen h || (!decide (Head_Keys h = Head_Heirs p) || !sameC h p) then 6 else 1
def judgeC (p h : THead) : Int := bif noK (Head_Judge p) then 5 else bif (Head_Frozen h == Head_Frozen p) || !(sameC h p && (decide (Head_Judge h = Head_Judge p) && (decide (Head_Heirs h = Head_Heirs p) && (Head_Wait h == Head_Wait p)))) then 6 else bif Head_Frozen h && !decide (Head_Keys h = Head_Keys p) then 6 else 1
theorem sOwn_v (p h : THead) : Z117 p h = some (ownC p h) := by
  unfold Z117 ownC
  cases Head_Frozen p <;> cases Head_Frozen h <;> rfl
theorem heads_len (h : THead) (hx : sizeHead h ≤ 1050000) : (Head_Keys h).1.length ≤ 1050000 ∧ (Head_Heirs h).1.length ≤ 1050000 ∧ (Head_Judge h).1.length ≤ 1050000 := by
  unfold sizeHead sizeKeys at hx; omega
theorem sHeir_v (p h : THead) (hh : sizeHead h ≤ 1050000) : Z34 p h = some (heirC p h) := by
  have hk := (heads_len h hh).1
  unfold Z34 heirC lateB
  simp only [Z34.b, Z34.l9, Z34.g9, sNoKeys_v, sEqualKeys_v _ _ hk, sSame_v, bind_s]
  generalize decide ((Head_Time h) < (IntKind.i64.wrap ((Head_Until p) + (Head_Wait p)))) = a
  generalize decide (Head_Keys h = Head_Heirs p) = b
  cases Head_Frozen p <;> cases noK (Head_Heirs p) <;> cases a <;> cases Head_Frozen h <;> cases b <;> cases sameC h p <;> rfl
theorem sJudge_v (p h : THead) (hh : sizeHead h ≤ 1050000) : Z35 p h = some (judgeC p h) := by
  have hk := heads_len h hh
  unfold Z35 judgeC
  simp only [Z35.b, Z35.l9, Z35.g9, sNoKeys_v, sEqualKeys_v _ _ hk.1, sEqualKeys_v _ _ hk.2.1, sEqualKeys_v _ _ hk.2.2, sSame_v, bind_s, bne]
  generalize (Head_Wait h == Head_Wait p) = w
  generalize (Head_Frozen h == Head_Frozen p) = q
  generalize decide (Head_Judge h = Head_Judge p) = a
  generalize decide (Head_Heirs h = Head_Heirs p) = b
  generalize decide (Head_Keys h = Head_Keys p) = d
  cases noK (Head_Judge p) <;> cases q <;> cases sameC h p <;> cases a <;> cases b <;> cases w <;> cases Head_Frozen h <;> cases d <;> rfl
def finC (code : Int) (b : Bool) : Int := bif code == (1 : Int) then (bif b then code else 7) else code
noncomputable def isNext (p h : THead) : Bool := Head_Zone h == Head_Zone p && (Head_Epoch h == IntKind.i64.wrap ((Head_Epoch p) + (1 : Int)) && (Head_Prev h == headDigest p && decide (Head_Time h ≥ Head_Time p)))
theorem isNext_v (p h : THead) (hp : sizeHead p ≤ 1050000) : Z108 p h = some (isNext p h) := by
  unfold Z108 isNext
  exact aC (aC (bnd (iHeadDigest_v p hp) (aC rfl)))
noncomputable def kindC (p : THead) (s : TSigned) : Int :=
  bif Head_Kind (Signed_Head s) == (2 : Int) then finC (heirC p (Signed_Head s)) (signedBy s (Head_Heirs p)) else bif Head_Kind (Signed_Head s) == (3 : Int) then finC (judgeC p (Signed_Head s)) (signedBy s (Head_Judge p)) else finC (ownC p (Signed_Head s)) (signedBy s (Head_Keys p))
noncomputable def nextCode (p : THead) (s : TSigned) : Int :=
  bif !(isHeadB p && isHeadB (Signed_Head s)) then 2 else bif !isNext p (Signed_Head s) then 3 else kindC p s
theorem finC_v (c : Int) (b : Bool) : (bif c == (1 : Int) then (bif !b then some (7 : Int) else some c) else some c) = some (finC c b) := by
  unfold finC
  cases (c == (1 : Int)) <;> cases b <;> rfl
theorem sNext31_v (s : TSigned) (c : Int) (k : TKeys) (hs : sizeSigned s ≤ 1050000) (hk : k.1.length ≤ 1050000) : Z4.l31 s c k.1 k.2 = some (finC c (signedBy s k)) := by
  unfold sizeSigned at hs
  unfold Z4.l31
  simp only [Z4.g31, sHeadInts_v _ (show sizeHead (Signed_Head s) ≤ 1050000 by omega), sIsSigned_v k _ _ hk (show (Signed_Sigs s).length ≤ 1050000 by omega) (hi_len (Signed_Head s) (by omega)), bind_s]
  exact finC_v c _
theorem sNextCode_v (p : THead) (s : TSigned) (hp : sizeHead p ≤ 1050000) (hs : sizeSigned s ≤ 1050000) : Z4 p s = some (nextCode p s) := by
  have hs' := hs
  unfold sizeSigned at hs'
  have hk := heads_len p hp
  unfold Z4 nextCode isNext
  simp only [Z4.b, Z4.l9, Z4.g9, Z4.l13, Z4.g13, sIsHead_v p hp, sIsHead_v (Signed_Head s) (show _ ≤ 1050000 by omega), sHeadDigest_v p hp, sOwn_v, sHeir_v p (Signed_Head s) (by omega), sJudge_v p (Signed_Head s) (by omega), sNext31_v s _ _ hs hk.1, sNext31_v s _ _ hs hk.2.1, sNext31_v s _ _ hs hk.2.2, bind_s, bif_some, bne]
  show some _ = some _
  unfold kindC
  congr 1
  generalize (Head_Zone (Signed_Head s) == Head_Zone p) = a
  generalize (Head_Epoch (Signed_Head s) == IntKind.i64.wrap ((Head_Epoch p) + (1 : Int))) = b
  generalize (Head_Prev (Signed_Head s) == headDigest p) = c
  have e : decide ((Head_Time (Signed_Head s)) < (Head_Time p)) = !decide (Head_Time (Signed_Head s) ≥ Head_Time p) := by
    by_cases h : Head_Time (Signed_Head s) < Head_Time p
    · rw [decide_eq_true h, decide_eq_false (by omega)]; rfl
    · rw [decide_eq_false h, decide_eq_true (by omega)]; rfl
  rw [e]
  generalize decide (Head_Time (Signed_Head s) ≥ Head_Time p) = d
  cases isHeadB p <;> cases isHeadB (Signed_Head s) <;> cases a <;> cases b <;> cases c <;> cases d <;> rfl
theorem iOwn_v (p : THead) (s : TSigned) (hp : sizeHead p ≤ 1050000) (hs : sizeSigned s ≤ 1050000) : Z109 p s = some (finC (ownC p (Signed_Head s)) (signedBy s (Head_Keys p))) := by
  have hk := heads_len p hp
  unfold Z109 ownC
  rw [isSignedBy_v s _ hs hk.1, bind_s]
  cases Head_Frozen p <;> cases Head_Frozen (Signed_Head s) <;> cases signedBy s (Head_Keys p) <;> rfl
theorem iHeir_v (p : THead) (s : TSigned) (hp : sizeHead p ≤ 1050000) (hs : sizeSigned s ≤ 1050000) : Z8 p s = some (finC (heirC p (Signed_Head s)) (signedBy s (Head_Heirs p))) := by
  have hk := heads_len p hp
  have hs' := hs
  unfold sizeSigned at hs'
  have hq := heads_len (Signed_Head s) (by omega)
  unfold Z8 heirC lateB
  simp only [Z8.b, Z8.l11, Z8.g11, Z8.l15, Z8.g15, iNoKeys_v, EqualKeys_v _ _ hq.1, iSame_v, isSignedBy_v s _ hs hk.2.1, bind_s]
  generalize decide ((Head_Time (Signed_Head s)) < (IntKind.i64.wrap ((Head_Until p) + (Head_Wait p)))) = a
  generalize decide (Head_Keys (Signed_Head s) = Head_Heirs p) = b
  generalize signedBy s (Head_Heirs p) = c
  cases Head_Frozen p <;> cases noK (Head_Heirs p) <;> cases a <;> cases Head_Frozen (Signed_Head s) <;> cases b <;> cases sameC (Signed_Head s) p <;> cases c <;> rfl
theorem iJudge_v (p : THead) (s : TSigned) (hp : sizeHead p ≤ 1050000) (hs : sizeSigned s ≤ 1050000) : Z9 p s = some (finC (judgeC p (Signed_Head s)) (signedBy s (Head_Judge p))) := by
  have hk := heads_len p hp
  have hs' := hs
  unfold sizeSigned at hs'
  have hq := heads_len (Signed_Head s) (by omega)
  unfold Z9 judgeC
  simp only [Z9.b, Z9.l7, Z9.g7, Z9.l13, Z9.g13, iNoKeys_v, EqualKeys_v _ _ hq.1, EqualKeys_v _ _ hq.2.1, EqualKeys_v _ _ hq.2.2, iSame_v, isSignedBy_v s _ hs hk.2.2, bind_s]
  generalize (Head_Wait (Signed_Head s) == Head_Wait p) = w
  generalize (Head_Frozen (Signed_Head s) == Head_Frozen p) = q
  generalize decide (Head_Judge (Signed_Head s) = Head_Judge p) = a
  generalize decide (Head_Heirs (Signed_Head s) = Head_Heirs p) = b
  generalize decide (Head_Keys (Signed_Head s) = Head_Keys p) = d
  generalize signedBy s (Head_Judge p) = c
  cases noK (Head_Judge p) <;> cases q <;> cases sameC (Signed_Head s) p <;> cases a <;> cases b <;> cases w <;> cases Head_Frozen (Signed_Head s) <;> cases d <;> cases c <;> rfl
theorem isHeadB_kind (x : THead) (h : isHeadB x = true) : Head_Kind x = 1 ∨ Head_Kind x = 2 ∨ Head_Kind x = 3 := by
  unfold isHeadB hr4 at h
  simp only [Bool.and_eq_true] at h
  have h1 := h.1.2.2.2.2
  unfold inR at h1
  simp only [Bool.and_eq_true, decide_eq_true_eq] at h1
  omega
theorem iNextCode_v (p : THead) (s : TSigned) (hp : sizeHead p ≤ 1050000) (hs : sizeSigned s ≤ 1050000) : Z30 p s = some (nextCode p s) := by
  have hs' := hs
  unfold sizeSigned at hs'
  unfold Z30 nextCode
  simp only [Z30.b, Z30.l5, Z30.g5, iIsHead_v p hp, iIsHead_v (Signed_Head s) (show _ ≤ 1050000 by omega), isNext_v p _ hp, iOwn_v p s hp hs, iHeir_v p s hp hs, iJudge_v p s hp hs, bind_s]
  cases h1 : isHeadB p with
  | false => rfl
  | true =>
    cases h2 : isHeadB (Signed_Head s) with
    | false => rfl
    | true =>
      cases isNext p (Signed_Head s) with
      | false => rfl
      | true =>
        show _ = some (kindC p s)
        unfold kindC
        rcases isHeadB_kind _ h2 with h | h | h <;> rw [h] <;> rfl
noncomputable def mayFollow (p : THead) (s : TSigned) : Bool := nextCode p s == (1 : Int)
theorem sMay_v (p : THead) (s : TSigned) (hp : sizeHead p ≤ 1050000) (hs : sizeSigned s ≤ 1050000) : Z116 p s = some (mayFollow p s) := bnd (sNextCode_v p s hp hs) rfl
theorem iMay_v (p : THead) (s : TSigned) (hp : sizeHead p ≤ 1050000) (hs : sizeSigned s ≤ 1050000) : Z106 p s = some (mayFollow p s) := bnd (iNextCode_v p s hp hs) rfl
noncomputable def fw : Option THead → List TSigned → Int → Int
  | _, [], _ => -1
  | none, s :: t, k => bif !isFirst s then k else fw (some (Signed_Head s)) t (k + 1)
  | some p, s :: t, k => bif !mayFollow p s then k else fw (some (Signed_Head s)) t (k + 1)
def prevAt (xs : List TSigned) : Nat → Option THead
  | 0 => none
  | j + 1 => some (Signed_Head (xs.getD j dSigned))
theorem fw_last (o : Option THead) (xs : List TSigned) (k : Int) : fw o (xs.drop xs.length) k = -1 := by
  rw [List.drop_length]
  cases o <;> rfl
theorem fw_zero {xs : List TSigned} (h : 0 < xs.length) : fw none (xs.drop 0) 0 = bif !isFirst xs[0] then 0 else fw (prevAt xs 1) (xs.drop 1) 1 := by
  rw [List.drop_eq_getElem_cons h]
  show _ = bif !isFirst xs[0] then 0 else fw (some (Signed_Head (xs.getD 0 dSigned))) (xs.drop 1) 1
  rw [at_n h]; rfl
theorem fw_succ {xs : List TSigned} {j : Nat} (h : j + 1 < xs.length) : fw (prevAt xs (j + 1)) (xs.drop (j + 1)) ((j + 1 : Nat) : Int) = bif !mayFollow (Signed_Head xs[j]) xs[j + 1] then ((j + 1 : Nat) : Int) else fw (prevAt xs (j + 2)) (xs.drop (j + 2)) ((j + 2 : Nat) : Int) := by
  rw [List.drop_eq_getElem_cons h]
  show fw (some (Signed_Head (xs.getD j dSigned))) _ _ = bif !mayFollow (Signed_Head xs[j]) xs[j + 1] then ((j + 1 : Nat) : Int) else fw (some (Signed_Head (xs.getD (j + 1) dSigned))) (xs.drop (j + 2)) ((j + 2 : Nat) : Int)
  rw [at_n h, at_n (show j < xs.length by omega)]; rfl
theorem head_at {xs : List TSigned} {i : Nat} (h : i < xs.length) {n : Nat} (hx : sizeSignedS xs ≤ n) : sizeHead (Signed_Head xs[i]) ≤ n := by
  have := signed_at h hx
  unfold sizeSigned at this
  omega
theorem sFirstWrong_l (x0 : List TSigned) (hx : sizeSignedS x0 ≤ 1050000) : ∀ i n, i ≤ x0.length → x0.length - i < n → Z38.l4 x0 n (i : Int) = some (fw (prevAt x0 i) (x0.drop i) (i : Int)) := by
  have hl : x0.length ≤ 1050000 := by unfold sizeSignedS sizeS at hx; omega
  refine idx_ind ?_ ?_
  · intro n
    rw [Z38.u4]
    simp only [Z38.g4, lt_f (Nat.le_refl _), cond_f, fw_last]
  · intro i n hi ih
    rw [Z38.u4]
    match i, hi, ih with
    | 0, hi, ih =>
      have e := fw_zero hi
      have hg : x0.getD ((0 : Int).toNat) dSigned = x0[0] := at_n hi _
      simp only [Z38.g4, lt_t hi, cond_t, Int.natCast_zero, beq_self_eq_true, decide_eq_true (Int.le_refl 0), hg, sIsFirst_v _ (signed_at hi hx), bind_s]
      rw [decide_eq_true (show (0 : Int) < (x0.length : Int) by omega), cond_t, cond_t, wd (n := (0 : Int) + 1) (by omega), decide_eq_false (by omega), cond_f, show (0 : Int) + 1 = ((0 + 1 : Nat) : Int) from rfl, ih]
      rw [show prevAt x0 0 = none from rfl, e, bif_some]; rfl
    | j + 1, hi, ih =>
      have e := fw_succ hi
      have hj : j < x0.length := by omega
      have ew : IntKind.i64.wrap (((j + 1 : Nat) : Int) - 1) = (j : Int) := by rw [wd (by omega)]; omega
      simp only [Z38.g4, lt_t hi, cond_t, ew, ge_t, lt_t hj, Int.toNat_natCast, at_n hi, at_n hj, sMay_v _ _ (head_at hj hx) (signed_at hi hx), bind_s]
      rw [show (((j + 1 : Nat) : Int) == (0 : Int)) = false by rw [beq_eq_false_iff_ne]; omega, cond_f, decide_eq_true (by omega), cond_t, w64_succ (by omega), ih, e, bif_some]
theorem iFirstWrong_l (x0 : List TSigned) (hx : sizeSignedS x0 ≤ 1050000) : ∀ i n, i ≤ x0.length → x0.length - i < n → Z36.l4 x0 n (x0.length : Int) (i : Int) = some (fw (prevAt x0 i) (x0.drop i) (i : Int)) := by
  have hl : x0.length ≤ 1050000 := by unfold sizeSignedS sizeS at hx; omega
  refine idx_ind ?_ ?_
  · intro n
    rw [Z36.u4]
    simp only [Z36.g4, lt_f (Nat.le_refl _), cond_f, fw_last]
  · intro i n hi ih
    rw [Z36.u4]
    match i, hi, ih with
    | 0, hi, ih =>
      have e := fw_zero hi
      have hg : x0.getD ((0 : Int).toNat) dSigned = x0[0] := at_n hi _
      simp only [Z36.g4, lt_t hi, cond_t, Int.natCast_zero, beq_self_eq_true, decide_eq_true (Int.le_refl 0), hg, iIsFirst_v _ (signed_at hi hx), bind_s]
      rw [decide_eq_true (show (0 : Int) < (x0.length : Int) by omega), cond_t, cond_t, wd (n := (0 : Int) + 1) (by omega), decide_eq_false (by omega), cond_f, show (0 : Int) + 1 = ((0 + 1 : Nat) : Int) from rfl, ih]
      rw [show prevAt x0 0 = none from rfl, e, bif_some]; rfl
    | j + 1, hi, ih =>
      have e := fw_succ hi
      have hj : j < x0.length := by omega
      have ew : IntKind.i64.wrap (((j + 1 : Nat) : Int) - 1) = (j : Int) := by rw [wd (by omega)]; omega
      simp only [Z36.g4, lt_t hi, cond_t, ew, ge_t, lt_t hj, Int.toNat_natCast, at_n hi, at_n hj, iMay_v _ _ (head_at hj hx) (signed_at hi hx), bind_s]
      rw [show (((j + 1 : Nat) : Int) == (0 : Int)) = false by rw [beq_eq_false_iff_ne]; omega, cond_f, decide_eq_true (by omega), cond_t, w64_succ (by omega), ih, e, bif_some]
noncomputable def isChain (xs : List TSigned) : Bool := inR (xs.length : Int) 1 12 && decide (fw none xs 0 < 0)
theorem sFirstWrong_v (x0 : List TSigned) (hx : sizeSignedS x0 ≤ 1050000) : Z38 x0 = some (fw none x0 0) :=
  sFirstWrong_l x0 hx 0 KK (Nat.zero_le _) (KK_gt (by unfold sizeSignedS sizeS at hx; omega))
theorem iFirstWrong_v (x0 : List TSigned) (hx : sizeSignedS x0 ≤ 1050000) : Z36 x0 = some (fw none x0 0) :=
  iFirstWrong_l x0 hx 0 KK (Nat.zero_le _) (KK_gt (by unfold sizeSignedS sizeS at hx; omega))
theorem sIsChain_v (x0 : List TSigned) (hx : sizeSignedS x0 ≤ 1050000) : Z186 x0 = some (isChain x0) := by
  unfold Z186 isChain
  exact aB (l1In_r _ _ _) (bnd (sFirstWrong_v x0 hx) rfl)
theorem iIsChain_v (x0 : List TSigned) (hx : sizeSignedS x0 ≤ 1050000) : Z164 x0 = some (isChain x0) := by
  unfold Z164 isChain
  exact aB (InRange_r _ _ _) (bnd (iFirstWrong_v x0 hx) rfl)
theorem isChain_len (xs : List TSigned) (h : isChain xs = true) : 1 ≤ xs.length ∧ xs.length ≤ 12 := by
  unfold isChain inR at h
  simp only [Bool.and_eq_true, decide_eq_true_eq] at h
  omega
theorem keys_getD (xs : List TSigned) (i : Nat) (n : Nat) (hx : sizeSignedS xs ≤ n) : sizeHead (Signed_Head (xs.getD i dSigned)) ≤ n := by
  by_cases h : i < xs.length
  · rw [at_n h]; exact head_at h hx
  · have e : xs.getD i dSigned = dSigned := by simp [List.getD, show xs.length ≤ i by omega]
    rw [e]; exact Nat.zero_le _
theorem l5Copy_v (x : List ByteArray) (hx : x.length ≤ 1050000) : Z196 x = some x := by
  unfold Z196
  rw [decide_eq_true (by simp; omega), cond_t]; rfl
theorem Clone_string_v (x : List ByteArray) (hx : x.length ≤ 1050000) : Z182 x = some x := by
  have e : (bif decide (([] : List ByteArray).length + x.length < 68719476736) then some ([] ++ x) else none) = some x := by
    rw [decide_eq_true (by simp; omega), cond_t]; rfl
  unfold Z182
  rw [e]
  cases x with
  | nil => exact both_eq _
  | cons a t => rfl
theorem entry_path (e : TEntry) (hx : sizeEntry e ≤ 1050000) : e.2.2.2.length ≤ 1050000 := by
  unfold sizeEntry sizeStringS sizeS at hx; omega
theorem l8Copy_v (e : TEntry) (hx : sizeEntry e ≤ 1050000) : Z131 e = some e := by
  unfold Z131
  exact bnd (l5Copy_v _ (entry_path e hx)) rfl
theorem copyEntry_v (e : TEntry) (hx : sizeEntry e ≤ 1050000) : Z128 e = some e := by
  unfold Z128
  exact bnd (Clone_string_v _ (entry_path e hx)) rfl
theorem R_alt (c : Bool) (h : THead) : RHeadBool_r1 (bif c then RHeadBool_mk h true else dRHeadBool) = c ∧ (c = true → RHeadBool_r0 (bif c then RHeadBool_mk h true else dRHeadBool) = h) := by
  cases c
  · exact ⟨rfl, fun h => Bool.noConfusion h⟩
  · exact ⟨rfl, fun _ => rfl⟩
theorem idxF {α : Type} (xs : List α) (d : α) (f : α → Option Bool) (p : α → Bool) (hl : xs.length ≤ 1050000) (hf : ∀ i (h : i < xs.length), f xs[i] = some (p xs[i])) (l : Nat → Int → Int → Option Int) (u : ∀ n L a, l (n + 1) L a = (bif decide (a < L) then bif decide (0 ≤ a) then bif decide (a < (xs.length : Int)) then (f (xs.getD a.toNat d)).bind fun y1 => bif y1 then some a else l n L (IntKind.i64.wrap (a + (1 : Int))) else none else none else some (-1 : Int))) : l KK (xs.length : Int) (0 : Int) = some (fnd p xs 0) := by
  have hh : ∀ i n, i ≤ xs.length → xs.length - i < n → l n (xs.length : Int) (i : Int) = some (fnd p (xs.drop i) (i : Int)) := by
    refine idx_ind ?_ ?_
    · intro n
      rw [u]
      simp only [lt_f (Nat.le_refl _), cond_f, fnd_last]
    · intro i n hi ih
      rw [u]
      simp only [lt_t hi, ge_t, cond_t, Int.toNat_natCast, at_n hi, hf i hi, bind_s, w64_succ (i := i) (by omega), ih, fnd_step p hi]
      cases p xs[i] <;> rfl
  have := hh 0 KK (Nat.zero_le _) (KK_gt (by omega))
  rw [List.drop_zero] at this
  exact this
theorem cntF {α : Type} (xs : List α) (p : α → Bool) {e : Option Int} (h : e = some (fnd p xs 0)) : (e.bind fun y1 => some (decide (y1 ≥ (0 : Int)))) = some (xs.any p) := by
  rw [h, bind_s, fnd_ge _ _ _ (Int.le_refl 0)]
theorem copyL {α : Type} (xs : List α) (d : α) (f : α → Option α) (hl : xs.length ≤ 1050000) (hf : ∀ i (h : i < xs.length), f xs[i] = some xs[i]) (l : Nat → List α → Int → Option (List α)) (u : ∀ n ys a, l (n + 1) ys a = (bif decide (a < (xs.length : Int)) then bif decide (0 ≤ a) then bif decide (a < (xs.length : Int)) then (f (xs.getD a.toNat d)).bind fun y1 => bif decide (ys.length + [y1].length < 68719476736) then l n (ys ++ [y1]) (IntKind.i64.wrap (a + (1 : Int))) else none else none else none else some ys)) : l KK [] (0 : Int) = some xs := by
  have hh : ∀ i n, i ≤ xs.length → xs.length - i < n → l n (xs.take i) (i : Int) = some xs := by
    refine idx_ind ?_ ?_
    · intro n
      rw [u]
      simp only [lt_f (Nat.le_refl _), cond_f, List.take_length]
    · intro i n hi ih
      rw [u]
      have hg : (xs.take i).length + [xs[i]].length < 68719476736 := by rw [List.length_take]; show _ + 1 < _; omega
      simp only [lt_t hi, ge_t, cond_t, Int.toNat_natCast, at_n hi, hf i hi, bind_s, w64_succ (i := i) (by omega), List.take_append_getElem hi]
      rw [decide_eq_true hg, cond_t]
      exact ih
  have := hh 0 KK (Nat.zero_le _) (KK_gt (by omega))
  rw [List.take_zero] at this
  exact this
def lastS (xs : List TSigned) : TSigned := xs.getD (IntKind.i64.wrap ((xs.length : Int) - (1 : Int))).toNat dSigned
noncomputable def lastHead (xs : List TSigned) : TRHeadBool := bif isChain xs then RHeadBool_mk (Signed_Head (lastS xs)) true else dRHeadBool
theorem wl {n : Nat} (h : 1 ≤ n ∧ n ≤ 12) : IntKind.i64.wrap ((n : Int) - (1 : Int)) = (n : Int) - 1 := wd (by omega)
theorem lastS_size (xs : List TSigned) (hx : sizeSignedS xs ≤ 1050000) : sizeHead (Signed_Head (lastS xs)) ≤ 1050000 := keys_getD xs _ _ hx
theorem sLastHead_v (xs : List TSigned) (hx : sizeSignedS xs ≤ 1050000) : Z142 xs = some (lastHead xs) := by
  unfold Z142 lastHead
  refine bnd (sIsChain_v xs hx) ?_
  cases hc : isChain xs with
  | false => rfl
  | true =>
    have hl := isChain_len xs hc
    exact cF rfl (cT (decide_eq_true (by rw [wl hl]; omega)) (cT (decide_eq_true (by rw [wl hl]; omega)) (bnd (l13Copy_v _ (lastS_size xs hx)) rfl)))
theorem last_v (xs : List TSigned) (hc : isChain xs = true) : Z139 xs = some (Signed_Head (lastS xs)) := by
  have hl := isChain_len xs hc
  unfold Z139
  exact cT (decide_eq_true (by rw [wl hl]; omega)) (cT (decide_eq_true (by rw [wl hl]; omega)) rfl)
theorem l16Copy_v (xs : List TSigned) (hx : sizeSignedS xs ≤ 1050000) : Z79 xs = some xs :=
  copyL xs dSigned Z103 (by unfold sizeSignedS sizeS at hx; omega) (fun i h => l14Copy_v _ (signed_at h hx)) (fun n ys a => Z79.l6 xs n a ys) (fun n ys a => Z79.u6 xs n a ys)
theorem copyChain_v (xs : List TSigned) (hx : sizeSignedS xs ≤ 1050000) : Z61 xs = some xs :=
  copyL xs dSigned Z98 (by unfold sizeSignedS sizeS at hx; omega) (fun i h => copySigned_v _ (signed_at h hx)) (fun n ys a => Z61.l6 xs n (xs.length : Int) a ys) (fun n ys a => Z61.u6 xs n (xs.length : Int) a ys)
theorem lastHead_r (xs : List TSigned) : RHeadBool_r1 (lastHead xs) = isChain xs ∧ (isChain xs = true → RHeadBool_r0 (lastHead xs) = Signed_Head (lastS xs)) := R_alt (isChain xs) (Signed_Head (lastS xs))
def hq (s t : TSigned) : Bool := eqHeads (Signed_Head s) (Signed_Head t)
theorem cmp_less : ∀ a b : List UInt8, Lib.compareBytes a b = bif Op.bytesLess a b then (-1 : Int) else bif a == b then 0 else 1
  | [], [] => rfl
  | [], _ :: _ => rfl
  | _ :: _, [] => rfl
  | a :: x, b :: y => by
    have ih := cmp_less x y
    unfold Lib.compareBytes Op.bytesLess
    by_cases h : a < b
    · rw [if_pos h, decide_eq_true h, Bool.true_or]; rfl
    · rw [if_neg h, decide_eq_false h, Bool.false_or]
      by_cases g : b < a
      · rw [if_pos g]
        have ne : (a == b) = false := by rw [beq_eq_false_iff_ne]; rintro rfl; exact h g
        have ne2 : (a :: x == b :: y) = false := by rw [List.cons_beq_cons, ne, Bool.false_and]
        rw [ne, ne2, Bool.false_and]; rfl
      · have e : a = b := UInt8.le_antisymm (UInt8.not_lt.1 g) (UInt8.not_lt.1 h)
        subst e
        rw [if_neg g, ih, beq_self_eq_true, Bool.true_and, List.cons_beq_cons, beq_self_eq_true, Bool.true_and]
theorem cmp_anti : ∀ a b : List UInt8, Lib.compareBytes b a = - Lib.compareBytes a b
  | [], [] => rfl
  | [], _ :: _ => rfl
  | _ :: _, [] => rfl
  | a :: x, b :: y => by
    have ih := cmp_anti x y
    unfold Lib.compareBytes
    by_cases h : a < b
    · have g : ¬ b < a := fun g => UInt8.lt_irrefl _ (UInt8.lt_trans h g)
      rw [if_pos h, if_neg g, if_pos h]; rfl
    · by_cases g : b < a
      · rw [if_pos g, if_neg h, if_pos g]
      · rw [if_neg h, if_neg g, if_neg g, if_neg h, ih]
theorem cmp_vals (a b : List UInt8) : Lib.compareBytes a b = -1 ∨ Lib.compareBytes a b = 0 ∨ Lib.compareBytes a b = 1 := by
  rw [cmp_less]
  cases Op.bytesLess a b <;> cases a == b <;> simp
def cmpS (a b : ByteArray) : Int := Lib.compareBytes a.data.toList b.data.toList
theorem cmpS_anti (a b : ByteArray) : cmpS b a = - cmpS a b := cmp_anti _ _
theorem cmpS_vals (a b : ByteArray) : cmpS a b = -1 ∨ cmpS a b = 0 ∨ cmpS a b = 1 := cmp_vals _ _
theorem cmpS_le (a b : ByteArray) : decide (cmpS b a ≤ 0) = (cmpS a b != -1) := by
  rw [cmpS_anti a b]
  rcases cmpS_vals a b with h | h | h <;> rw [h] <;> rfl
def allN (p : Nat → Bool) (n : Nat) : Bool := decide (∀ i, i < n → p i = true)
theorem allN_iff (p : Nat → Bool) (n : Nat) : allN p n = true ↔ ∀ i, i < n → p i = true := by unfold allN; exact decide_eq_true_iff
theorem allL {len : Nat} (hl : len ≤ 1152921504606846976) (p : Nat → Bool) (z : Bool) (l : Nat → Int → Option Bool) (u0 : ∀ n, l (n + 1) (len : Int) = some z) (u : ∀ n i, i < len → l (n + 1) (i : Int) = bif p i then l n ((i + 1 : Nat) : Int) else some false) : l KK (0 : Int) = some (allN p len && z) := by
  have hh : ∀ i n, i ≤ len → len - i < n → l n (i : Int) = some (decide (∀ j, j < len → i ≤ j → p j = true) && z) := by
    refine idx_ind ?_ ?_
    · intro n
      have e : decide (∀ j, j < len → len ≤ j → p j = true) = true := decide_eq_true (fun j h1 h2 => absurd h1 (by omega))
      rw [u0, e, Bool.true_and]
    · intro i n hi ih
      rw [u n i hi, ih]
      cases hp : p i with
      | false =>
        have e : decide (∀ j, j < len → i ≤ j → p j = true) = false := decide_eq_false (fun h => by have := h i hi (Nat.le_refl _); rw [hp] at this; cases this)
        rw [cond_f, e, Bool.false_and]
      | true =>
        rw [cond_t]
        have e : decide (∀ j, j < len → i ≤ j → p j = true) = decide (∀ j, j < len → i + 1 ≤ j → p j = true) := by
          refine decide_eq_decide.2 ⟨fun h j h1 h2 => h j h1 (by omega), fun h j h1 h2 => ?_⟩
          by_cases e : j = i
          · subst e; exact hp
          · exact h j h1 (by omega)
        rw [e]
  have := hh 0 KK (Nat.zero_le _) (KK_gt (by omega))
  have e : decide (∀ j, j < len → 0 ≤ j → p j = true) = allN p len := decide_eq_decide.2 ⟨fun h j h1 => h j h1 (Nat.zero_le _), fun h j h1 _ => h j h1⟩
  rw [e] at this
  exact this
def lcS (c : Int) : Bool := (!(decide (c < 97) || decide (c > 122))) || (!(decide (c < 48) || decide (c > 57)))
def btN (s : ByteArray) (i : Nat) : Int := V.bt s (i : Int)
theorem sIsLabel_l (s : ByteArray) (hs : s.size ≤ 1050000) : Z6.l7 s = some (allN (fun i => lcS (btN s i) || !(btN s i != (45 : Int))) s.size && true) := by
  refine allL (by omega) _ _ (Z6.l8 s) (fun n => ?_) (fun n i hi => ?_)
  · rw [Z6.u8]
    simp only [Z6.g8, lt_f (Nat.le_refl _), cond_f]
  · rw [Z6.u8]
    simp only [Z6.g8, lt_t hi, ge_t, cond_t, w64_succ (i := i) (by omega)]
    rw [show V.bt s (i : Int) = btN s i from rfl]
    generalize btN s i = c
    unfold lcS
    cases decide (c < 97) <;> cases decide (c > 122) <;> cases decide (c < 48) <;> cases decide (c > 57) <;> cases (c != (45 : Int)) <;> rfl
theorem iIsLabel_l (s : ByteArray) (hs : s.size ≤ 1050000) : Z17.l4 s KK (s.size : Int) (0 : Int) = some (allN (fun i => lcS (btN s i) || ((btN s i == (45 : Int)) && (decide ((i : Int) > 0) && decide ((i : Int) < IntKind.i64.wrap ((s.size : Int) - (1 : Int)))))) s.size && (decide ((1 : Int) ≤ (s.size : Int)) && decide ((s.size : Int) ≤ 8))) := by
  refine allL (by omega) _ _ (fun n v => Z17.l4 s n (s.size : Int) v) (fun n => ?_) (fun n i hi => ?_)
  · rw [Z17.u4]
    simp only [Z17.g4, lt_f (Nat.le_refl _), cond_f]
    exact bnd (InRange_v _ _ _) rfl
  · rw [Z17.u4]
    simp only [Z17.g4, lt_t hi, ge_t, cond_t, w64_succ (i := i) (by omega)]
    rw [show V.bt s (i : Int) = btN s i from rfl]
    generalize btN s i = c
    unfold lcS
    rw [show decide (c ≥ 97) = !decide (c < 97) by by_cases h : c < 97 <;> simp [h] <;> omega, show decide (c ≤ 122) = !decide (c > 122) by by_cases h : c > 122 <;> simp [h] <;> omega, show decide (c ≥ 48) = !decide (c < 48) by by_cases h : c < 48 <;> simp [h] <;> omega, show decide (c ≤ 57) = !decide (c > 57) by by_cases h : c > 57 <;> simp [h] <;> omega]
    generalize decide ((i : Int) < IntKind.i64.wrap ((s.size : Int) - (1 : Int))) = g
    cases decide (c < 97) <;> cases decide (c > 122) <;> cases decide (c < 48) <;> cases decide (c > 57) <;> cases (c == (45 : Int)) <;> cases decide ((i : Int) > 0) <;> cases g <;> rfl
def isLabel (s : ByteArray) : Bool := (decide (1 ≤ s.size) && decide (s.size ≤ 8)) && (allN (fun i => lcS (btN s i) || ((btN s i == (45 : Int)) && (decide (0 < i) && decide (i + 1 < s.size)))) s.size)
theorem iIsLabel_v (s : ByteArray) (hs : s.size ≤ 1050000) : Z17 s = some (isLabel s) := by
  refine (iIsLabel_l s hs).trans (congrArg some (bool_eq ?_))
  unfold isLabel
  simp only [Bool.and_eq_true, decide_eq_true_eq, allN_iff, Bool.or_eq_true]
  constructor
  · intro h
    have hw : IntKind.i64.wrap ((s.size : Int) - (1 : Int)) = (s.size : Int) - 1 := wd (by omega)
    refine ⟨by omega, fun i hi => (h.1 i hi).imp_right fun g => ⟨g.1, by omega, ?_⟩⟩
    have := g.2.2; rw [hw] at this; omega
  · intro h
    have hw : IntKind.i64.wrap ((s.size : Int) - (1 : Int)) = (s.size : Int) - 1 := wd (by omega)
    refine ⟨fun i hi => (h.2 i hi).imp_right fun g => ⟨g.1, by omega, ?_⟩, by omega⟩
    rw [hw]; omega
theorem lc45 : lcS 45 = false := by decide
theorem sIsLabel_v (s : ByteArray) (hs : s.size ≤ 1050000) : Z6 s = some (isLabel s) := by
  unfold Z6
  rw [sIsLabel_l s hs]
  refine bnd (l1In_v _ _ _) ?_
  by_cases hl : 1 ≤ s.size ∧ s.size ≤ 8
  · have hw : IntKind.i64.wrap ((s.size : Int) - (1 : Int)) = ((s.size - 1 : Nat) : Int) := by rw [wd (by omega)]; omega
    refine cF (by rw [decide_eq_true (by omega), decide_eq_true (by omega)]; rfl) (cT rfl (cT (decide_eq_true (by omega)) ?_))
    rw [hw]
    rw [show V.bt s (0 : Int) = btN s 0 from rfl, show V.bt s ((s.size - 1 : Nat) : Int) = btN s (s.size - 1) from rfl]
    have key : (bif btN s 0 == (45 : Int) then false else bif btN s (s.size - 1) == (45 : Int) then false else (allN (fun i => lcS (btN s i) || !(btN s i != (45 : Int))) s.size && true)) = isLabel s := by
      unfold isLabel
      rw [decide_eq_true hl.1, decide_eq_true hl.2, Bool.and_self, Bool.true_and, Bool.and_true]
      refine bool_eq ?_
      rw [allN_iff]
      constructor
      · intro h i hi
        cases h0 : (btN s 0 == (45 : Int)) with
        | true => rw [h0] at h; cases h
        | false =>
          rw [h0, cond_f] at h
          cases h1 : (btN s (s.size - 1) == (45 : Int)) with
          | true => rw [h1] at h; cases h
          | false =>
            rw [h1, cond_f, allN_iff] at h
            have := h i hi
            simp only [Bool.or_eq_true, Bool.and_eq_true, decide_eq_true_eq, Bool.not_eq_true', bne_eq_false_iff_eq] at this ⊢
            refine this.imp_right fun g => ⟨by rw [g]; rfl, ?_, ?_⟩
            · refine Nat.pos_of_ne_zero fun e => ?_
              subst e
              rw [g] at h0; cases h0
            · refine Nat.lt_of_not_le fun e => ?_
              have e2 : i = s.size - 1 := by omega
              subst e2
              rw [g] at h1; cases h1
      · intro h
        have h0 : (btN s 0 == (45 : Int)) = false := by
          cases hc : (btN s 0 == (45 : Int)) with
          | false => rfl
          | true =>
            have e : btN s 0 = 45 := eq_of_beq hc
            have := h 0 (by omega)
            rw [e, lc45] at this
            simp at this
        have h1 : (btN s (s.size - 1) == (45 : Int)) = false := by
          cases hc : (btN s (s.size - 1) == (45 : Int)) with
          | false => rfl
          | true =>
            have e : btN s (s.size - 1) = 45 := eq_of_beq hc
            have := h (s.size - 1) (by omega)
            rw [e, lc45] at this
            simp only [Bool.false_or, Bool.and_eq_true, decide_eq_true_eq] at this
            omega
        rw [h0, h1, cond_f, cond_f, allN_iff]
        intro i hi
        have := h i hi
        simp only [Bool.or_eq_true, Bool.and_eq_true] at this
        rw [Bool.or_eq_true]
        refine this.imp_right fun g => ?_
        have e : btN s i = 45 := eq_of_beq g.1
        rw [e]; rfl
    rw [← key]
    cases (btN s 0 == (45 : Int)) with
    | true => rfl
    | false =>
      refine cF rfl (cT ge_t (cT (lt_t (by omega)) ?_))
      cases (btN s (s.size - 1) == (45 : Int)) <;> rfl
  · have e : isLabel s = false := by
      unfold isLabel
      have : (decide (1 ≤ s.size) && decide (s.size ≤ 8)) = false := by
        rw [← Bool.decide_and]
        exact decide_eq_false hl
      rw [this, Bool.false_and]
    rw [e]
    refine cT ?_ rfl
    by_cases h1 : 1 ≤ s.size
    · rw [decide_eq_true (show (1 : Int) ≤ (s.size : Int) by omega), decide_eq_false (show ¬ (s.size : Int) ≤ 8 by omega)]; rfl
    · rw [decide_eq_false (show ¬ (1 : Int) ≤ (s.size : Int) by omega)]; rfl
theorem entry_label (e : TEntry) {n : Nat} (hx : sizeEntry e ≤ n) : e.1.size ≤ n := by
  unfold sizeEntry sizeStr at hx; omega
theorem entry_paths (e : TEntry) {n : Nat} (hx : sizeEntry e ≤ n) : sizeStringS e.2.2.2 ≤ n := by
  unfold sizeEntry at hx; omega
theorem str_at {xs : List ByteArray} {i : Nat} (h : i < xs.length) {n : Nat} (hx : sizeStringS xs ≤ n) : xs[i].size ≤ n := by
  have := size_at sizeStr h
  unfold sizeStringS sizeS at hx
  unfold sizeStr at this hx
  omega
theorem all_not {α : Type} (xs : List α) (p : α → Bool) : (!(xs.any fun x => !p x)) = xs.all p := by
  induction xs with
  | nil => rfl
  | cons x t ih => rw [List.any_cons, List.all_cons, Bool.not_or, ih, Bool.not_not]
def isPath (p : List ByteArray) : Bool := (decide ((1 : Int) ≤ (p.length : Int)) && decide ((p.length : Int) ≤ 4)) && p.all isLabel
theorem allGet {α : Type} (xs : List α) (p : α → Bool) (q : Nat → Bool) (h : ∀ i (hi : i < xs.length), q i = p xs[i]) : allN q xs.length = xs.all p := by
  refine bool_eq ?_
  rw [allN_iff, List.all_eq_true]
  constructor
  · intro g x hx
    obtain ⟨i, hi, rfl⟩ := List.getElem_of_mem hx
    rw [← h i hi]
    exact g i hi
  · intro g i hi
    rw [h i hi]
    exact g _ (List.getElem_mem _)
theorem sIsPath_v (p : List ByteArray) (hp : sizeStringS p ≤ 1050000) : Z49 p = some (isPath p) := by
  have hl : p.length ≤ 1050000 := by unfold sizeStringS sizeS at hp; omega
  refine (allL (len := p.length) (by omega) (fun i => isLabel (p.getD i (⟨#[]⟩ : ByteArray))) (decide ((1 : Int) ≤ (p.length : Int)) && decide ((p.length : Int) ≤ 4)) (Z49.l4 p) (fun n => ?_) (fun n i hi => ?_)).trans ?_
  · rw [Z49.u4]
    simp only [Z49.g4, lt_f (Nat.le_refl _), cond_f]
    exact bnd (l1In_v _ _ _) rfl
  · rw [Z49.u4]
    simp only [Z49.g4, lt_t hi, ge_t, cond_t, w64_succ (i := i) (by omega), Int.toNat_natCast, at_n hi]
    rw [sIsLabel_v _ (str_at hi hp), bind_s]
    cases isLabel p[i] <;> rfl
  · unfold isPath
    rw [allGet p isLabel _ (fun i hi => by rw [at_n hi]), Bool.and_comm]
theorem anyBad_v (p : List ByteArray) (hp : sizeStringS p ≤ 1050000) : Z184 p ((), ()) = some (p.any fun s => !isLabel s) := by
  unfold Z184
  refine cntF p _ ?_
  exact idxF p (⟨#[]⟩ : ByteArray) (fun s => Z199 s) (fun s => !isLabel s) (by unfold sizeStringS sizeS at hp; omega) (fun i h => bnd (iIsLabel_v _ (str_at h hp)) rfl) (Z83.l4 p) (fun n L a => Z83.u4 p n L a)
theorem iIsPath_v (p : List ByteArray) (hp : sizeStringS p ≤ 1050000) : Z166 p = some (isPath p) := by
  unfold Z166 isPath
  refine bnd (InRange_v _ _ _) ?_
  cases (decide ((1 : Int) ≤ (p.length : Int)) && decide ((p.length : Int) ≤ 4)) with
  | false => rfl
  | true => exact cT rfl (bnd (anyBad_v p hp) (by rw [all_not, Bool.true_and]))
def inR2 (a b c : Int) : Bool := decide (b ≤ a) && decide (a ≤ c)
def isEntry (e : TEntry) : Bool := isLabel e.1 && (bif e.2.1 == (1 : Int) then inR2 e.2.2.1 0 999999 && ((e.2.2.2.length : Int) == (0 : Int)) else bif e.2.1 == (2 : Int) then inR2 e.2.2.1 0 2147483646 && ((e.2.2.2.length : Int) == (0 : Int)) else bif e.2.1 == (3 : Int) then inR2 e.2.2.1 0 2147483646 && isPath e.2.2.2 else false)
theorem sIsEntry_v (e : TEntry) (hx : sizeEntry e ≤ 1050000) : Z187 e = some (isEntry e) := by
  have h1 := sIsLabel_v e.1 (entry_label e hx)
  have h2 := sIsPath_v e.2.2.2 (entry_paths e hx)
  unfold Z187 isEntry
  cases e.2.1 == (1 : Int) with
  | true =>
    refine cT rfl (bnd h1 ?_)
    cases isLabel e.1 with
    | false => rfl
    | true =>
      refine cT rfl (bnd (l1In_v _ _ _) ?_)
      show _ = some (true && (inR2 e.2.2.1 0 999999 && _))
      unfold inR2
      cases (decide (0 ≤ e.2.2.1) && decide (e.2.2.1 ≤ 999999)) <;> rfl
  | false =>
    refine cF rfl ?_
    cases e.2.1 == (2 : Int) with
    | true =>
      refine cT rfl (bnd h1 ?_)
      cases isLabel e.1 with
      | false => rfl
      | true =>
        refine cT rfl (bnd (l1In_v _ _ _) ?_)
        show _ = some (true && (inR2 e.2.2.1 0 2147483646 && _))
        unfold inR2
        cases (decide (0 ≤ e.2.2.1) && decide (e.2.2.1 ≤ 2147483646)) <;> rfl
    | false =>
      refine cF rfl ?_
      cases e.2.1 == (3 : Int) with
      | true =>
        refine cT rfl (bnd h1 ?_)
        cases isLabel e.1 with
        | false => rfl
        | true =>
          refine cT rfl (bnd (l1In_v _ _ _) ?_)
          show _ = some (true && (inR2 e.2.2.1 0 2147483646 && _))
          unfold inR2
          cases (decide (0 ≤ e.2.2.1) && decide (e.2.2.1 ≤ 2147483646)) with
          | false => rfl
          | true => exact cT rfl (bnd h2 (by rw [Bool.true_and, Bool.true_and]))
      | false => exact cF rfl (by rw [cond_f, cond_f, cond_f, Bool.and_false])
theorem isDigest_v (a : Int) : Z124 a = some (inR2 a 0 2147483646) := bnd (InRange_v _ _ _) rfl
theorem iIsEntry_v (e : TEntry) (hx : sizeEntry e ≤ 1050000) : Z165 e = some (isEntry e) := by
  have h1 := iIsLabel_v e.1 (entry_label e hx)
  have h2 := iIsPath_v e.2.2.2 (entry_paths e hx)
  unfold Z165 isEntry
  refine bnd h1 ?_
  cases isLabel e.1 with
  | false => rfl
  | true =>
    refine cF rfl ?_
    rw [Bool.true_and]
    cases e.2.1 == (1 : Int) with
    | true =>
      refine cT rfl (bnd (InRange_v _ _ _) ?_)
      show _ = some (inR2 e.2.2.1 0 999999 && _)
      unfold inR2
      cases (decide (0 ≤ e.2.2.1) && decide (e.2.2.1 ≤ 999999)) <;> rfl
    | false =>
      refine cF rfl ?_
      cases e.2.1 == (2 : Int) with
      | true =>
        refine cT rfl (bnd (isDigest_v _) ?_)
        show _ = some (inR2 e.2.2.1 0 2147483646 && _)
        cases inR2 e.2.2.1 0 2147483646 <;> rfl
      | false =>
        refine cF rfl ?_
        cases e.2.1 == (3 : Int) with
        | true =>
          refine cT rfl (bnd (isDigest_v _) ?_)
          show _ = some (inR2 e.2.2.1 0 2147483646 && _)
          cases inR2 e.2.2.1 0 2147483646 with
          | false => rfl
          | true => exact cT rfl (bnd h2 (by rw [Bool.true_and]))
        | false => rfl
theorem sCompare_v (a b : ByteArray) : Z135 a b = some (cmpS a b) := by
  unfold Z135 cmpS
  rw [cmp_less, ByteArray.toList_eq, ByteArray.toList_eq]
  cases Op.bytesLess a.data.toList b.data.toList with
  | true => rfl
  | false => cases a.data.toList == b.data.toList <;> rfl
theorem iCompare_v (a b : ByteArray) : Z137 a b = some (cmpS a b) := rfl
def areEntries (xs : List TEntry) : Bool := allN (fun i => isEntry (xs.getD i dEntry) && (decide (i = 0) || cmpS (xs.getD (i - 1) dEntry).1 (xs.getD i dEntry).1 == -1)) xs.length && decide ((xs.length : Int) ≤ (12 : Int))
theorem areEntries_len (xs : List TEntry) (h : areEntries xs = true) : xs.length ≤ 12 := by
  unfold areEntries at h
  rw [Bool.and_eq_true] at h
  have := of_decide_eq_true h.2
  omega
theorem sAreEntries_v (xs : List TEntry) (hx : sizeEntryS xs ≤ 1050000) : Z28 xs = some (areEntries xs) := by
  have hl : xs.length ≤ 1050000 := by unfold sizeEntryS sizeS at hx; omega
  refine allL (len := xs.length) (by omega) _ _ (Z28.l4 xs) (fun n => ?_) (fun n i hi => ?_)
  · rw [Z28.u4]
    simp only [Z28.g4, lt_f (Nat.le_refl _), cond_f]
  · rw [Z28.u4]
    simp only [Z28.g4, lt_t hi, ge_t, cond_t, w64_succ (i := i) (by omega), Int.toNat_natCast, at_n hi]
    rw [sIsEntry_v _ (entry_at hi hx), bind_s]
    cases isEntry xs[i] with
    | false => rfl
    | true =>
      by_cases h0 : i = 0
      · subst h0; rfl
      · have ew : IntKind.i64.wrap ((i : Int) - 1) = ((i - 1 : Nat) : Int) := by rw [w64 (by omega) (by omega)]; omega
        rw [decide_eq_true (show (i : Int) > 0 by omega), decide_eq_false h0, ew]
        refine cF rfl (cT rfl (cT ge_t (cT (lt_t (by omega)) (bnd (sCompare_v _ _) ?_))))
        rw [Int.toNat_natCast, Bool.true_and, Bool.false_or]
        show _ = bif (cmpS (xs.getD (i - 1) dEntry).1 xs[i].1 == -1) then _ else _
        show (bif !(cmpS (xs.getD (i - 1) dEntry).1 xs[i].1 == -1) then _ else _) = _
        cases (cmpS (xs.getD (i - 1) dEntry).1 xs[i].1 == -1) <;> rfl
theorem iAreEntries_v (xs : List TEntry) (hx : sizeEntryS xs ≤ 1050000) : Z23 xs = some (areEntries xs) := by
  have hl : xs.length ≤ 1050000 := by unfold sizeEntryS sizeS at hx; omega
  refine allL (len := xs.length) (by omega) _ _ (fun n v => Z23.l4 xs n (xs.length : Int) v) (fun n => ?_) (fun n i hi => ?_)
  · rw [Z23.u4]
    simp only [Z23.g4, lt_f (Nat.le_refl _), cond_f]
  · rw [Z23.u4]
    simp only [Z23.g4, lt_t hi, ge_t, cond_t, w64_succ (i := i) (by omega), Int.toNat_natCast, at_n hi]
    rw [iIsEntry_v _ (entry_at hi hx), bind_s]
    cases isEntry xs[i] with
    | false => rfl
    | true =>
      by_cases h0 : i = 0
      · subst h0; rfl
      · have ew : IntKind.i64.wrap ((i : Int) - 1) = ((i - 1 : Nat) : Int) := by rw [w64 (by omega) (by omega)]; omega
        rw [decide_eq_true (show (i : Int) > 0 by omega), decide_eq_false h0, ew]
        refine cF rfl (cT rfl (cT ge_t (cT (lt_t (by omega)) (bnd (iCompare_v _ _) ?_))))
        rw [Int.toNat_natCast, Bool.true_and, Bool.false_or, cmpS_le (xs.getD (i - 1) dEntry).1 xs[i].1]
        show (bif !(cmpS (xs.getD (i - 1) dEntry).1 xs[i].1 == -1) then _ else _) = bif (cmpS (xs.getD (i - 1) dEntry).1 xs[i].1 == -1) then _ else _
        cases (cmpS (xs.getD (i - 1) dEntry).1 xs[i].1 == -1) <;> rfl
theorem mapL {α β : Type} (xs : List α) (d : α) (f : α → Option β) (g : α → β) (pre : List β) (hl : xs.length ≤ 1050000) (hp : pre.length ≤ 1050000) (hf : ∀ i (h : i < xs.length), f xs[i] = some (g xs[i])) (l : Nat → List β → Int → Option (List β)) (u : ∀ n ys a, l (n + 1) ys a = (bif decide (a < (xs.length : Int)) then bif decide (0 ≤ a) then bif decide (a < (xs.length : Int)) then (f (xs.getD a.toNat d)).bind fun y1 => bif decide (ys.length + [y1].length < 68719476736) then l n (ys ++ [y1]) (IntKind.i64.wrap (a + (1 : Int))) else none else none else none else some ys)) : l KK pre (0 : Int) = some (pre ++ xs.map g) := by
  have hh : ∀ i n, i ≤ xs.length → xs.length - i < n → l n (pre ++ (xs.take i).map g) (i : Int) = some (pre ++ xs.map g) := by
    refine idx_ind ?_ ?_
    · intro n
      rw [u]
      simp only [lt_f (Nat.le_refl _), cond_f, List.take_length]
    · intro i n hi ih
      rw [u]
      have hg : (pre ++ (xs.take i).map g).length + [g xs[i]].length < 68719476736 := by rw [List.length_append, List.length_map, List.length_take]; show _ + 1 < _; omega
      simp only [lt_t hi, ge_t, cond_t, Int.toNat_natCast, at_n hi, hf i hi, bind_s, w64_succ (i := i) (by omega)]
      rw [decide_eq_true hg, cond_t]
      have e : pre ++ (xs.take i).map g ++ [g xs[i]] = pre ++ (xs.take (i + 1)).map g := by
        rw [List.append_assoc, ← List.take_append_getElem hi, List.map_append]; rfl
      rw [e]
      exact ih
  have := hh 0 KK (Nat.zero_le _) (KK_gt (by omega))
  rw [List.take_zero, List.map_nil, List.append_nil] at this
  exact this
theorem catL {α β : Type} (xs : List α) (d : α) (f : α → Option (List β)) (g : α → List β) (pre : List β) (B : Nat) (hB : pre.length + (xs.flatMap g).length ≤ B) (hB2 : B ≤ 1073741824) (hl : xs.length ≤ 1050000) (hf : ∀ i (h : i < xs.length), f xs[i] = some (g xs[i])) (l : Nat → List β → Int → Option (List β)) (u : ∀ n ys a, l (n + 1) ys a = (bif decide (a < (xs.length : Int)) then bif decide (0 ≤ a) then bif decide (a < (xs.length : Int)) then (f (xs.getD a.toNat d)).bind fun y1 => bif decide (ys.length + y1.length < 68719476736) then l n (ys ++ y1) (IntKind.i64.wrap (a + (1 : Int))) else none else none else none else some ys)) : l KK pre (0 : Int) = some (pre ++ xs.flatMap g) := by
  have hh : ∀ i n, i ≤ xs.length → xs.length - i < n → l n (pre ++ (xs.take i).flatMap g) (i : Int) = some (pre ++ xs.flatMap g) := by
    refine idx_ind ?_ ?_
    · intro n
      rw [u]
      simp only [lt_f (Nat.le_refl _), cond_f, List.take_length]
    · intro i n hi ih
      rw [u]
      have e : pre ++ (xs.take i).flatMap g ++ g xs[i] = pre ++ (xs.take (i + 1)).flatMap g := by
        rw [List.append_assoc, ← List.take_append_getElem hi, List.flatMap_append, List.flatMap_singleton]
      have hle : (pre ++ (xs.take (i + 1)).flatMap g).length ≤ B := by
        have : (xs.flatMap g).length = ((xs.take (i + 1)).flatMap g).length + ((xs.drop (i + 1)).flatMap g).length := by
          rw [← List.length_append, ← List.flatMap_append, List.take_append_drop]
        rw [List.length_append]; omega
      have hg : (pre ++ (xs.take i).flatMap g).length + (g xs[i]).length < 68719476736 := by
        rw [← List.length_append, e]; omega
      simp only [lt_t hi, ge_t, cond_t, Int.toNat_natCast, at_n hi, hf i hi, bind_s, w64_succ (i := i) (by omega)]
      rw [decide_eq_true hg, cond_t, e]
      exact ih
  have := hh 0 KK (Nat.zero_le _) (KK_gt (by omega))
  rw [List.take_zero, List.flatMap_nil, List.append_nil] at this
  exact this
theorem bytesOf_ln (s : ByteArray) : (V.bytesOf s).length = s.size := by
  unfold V.bytesOf
  rw [List.length_map, Array.length_toList]; rfl
noncomputable def bti (xs : List Int) : List Int := (xs.length : Int) :: xs.map IntKind.i64.wrap
theorem bti_len (xs : List Int) : (bti xs).length = xs.length + 1 := by unfold bti; rw [List.length_cons, List.length_map]
theorem sBti_v (xs : List Int) (hx : xs.length ≤ 1050000) : Z76 xs = some (bti xs) :=
  mapL xs 0 (fun a => some (IntKind.i64.wrap a)) IntKind.i64.wrap [(xs.length : Int)] hx (by simp) (fun i h => rfl) (fun n ys a => Z76.l6 xs n a ys) (fun n ys a => Z76.u6 xs n a ys)
theorem iBti_v (xs : List Int) (hx : xs.length ≤ 1050000) : Z58 xs = some (bti xs) :=
  mapL xs 0 (fun a => some (IntKind.i64.wrap a)) IntKind.i64.wrap [(xs.length : Int)] hx (by simp) (fun i h => rfl) (fun n ys a => Z58.l6 xs n (xs.length : Int) a ys) (fun n ys a => Z58.u6 xs n (xs.length : Int) a ys)
theorem smallS_t {s : ByteArray} (hs : s.size ≤ 1050000) : V.smallS s = true := by
  rw [V.smallS_eq]
  exact decide_eq_true (by show (s.size : Int) < 68719476736; omega)
noncomputable def lints (s : ByteArray) : List Int := bti (V.bytesOf s)
theorem lints_len (s : ByteArray) : (lints s).length = s.size + 1 := by unfold lints; rw [bti_len, bytesOf_ln]
theorem sLints_v (s : ByteArray) (hs : s.size ≤ 1050000) : Z149 s = some (lints s) := by
  unfold Z149
  exact cT (smallS_t hs) (bnd (sBti_v _ (by rw [bytesOf_ln]; exact hs)) rfl)
theorem iLints_v (s : ByteArray) (hs : s.size ≤ 1050000) : Z143 s = some (lints s) := by
  unfold Z143
  exact cT (smallS_t hs) (bnd (iBti_v _ (by rw [bytesOf_ln]; exact hs)) rfl)
noncomputable def eints (e : TEntry) : List Int := (lints e.1 ++ [e.2.1, e.2.2.1, (e.2.2.2.length : Int)]) ++ e.2.2.2.flatMap lints
theorem flat_len (p : List ByteArray) : (p.flatMap lints).length = sizeStringS p := by
  unfold sizeStringS sizeS
  induction p with
  | nil => rfl
  | cons x t ih =>
    rw [List.flatMap_cons, List.length_append, ih, lints_len, List.length_cons, List.map_cons, List.sum_cons]
    unfold sizeStr
    omega
theorem eints_len (e : TEntry) : (eints e).length = sizeEntry e + 4 := by
  unfold eints sizeEntry sizeStr
  rw [List.length_append, List.length_append, lints_len, flat_len]
  show e.1.size + 1 + 3 + _ = _
  omega
theorem eL (e : TEntry) (hx : sizeEntry e ≤ 1050000) (f : ByteArray → Option (List Int)) (hf : ∀ s, s.size ≤ 1050000 → f s = some (lints s)) (l : Nat → List Int → Int → Option (List Int)) (u : ∀ n ys a, l (n + 1) ys a = (bif decide (a < (e.2.2.2.length : Int)) then bif decide (0 ≤ a) then bif decide (a < (e.2.2.2.length : Int)) then (f (e.2.2.2.getD a.toNat (⟨#[]⟩ : ByteArray))).bind fun y1 => bif decide (ys.length + y1.length < 68719476736) then l n (ys ++ y1) (IntKind.i64.wrap (a + (1 : Int))) else none else none else none else some ys)) : ((f e.1).bind fun y1 => bif decide (y1.length + [e.2.1, e.2.2.1, (e.2.2.2.length : Int)].length < 68719476736) then l KK (y1 ++ [e.2.1, e.2.2.1, (e.2.2.2.length : Int)]) (0 : Int) else none) = some (eints e) := by
  have h1 := entry_label e hx
  have h2 := entry_paths e hx
  refine bnd (hf _ h1) (cT (decide_eq_true (by rw [lints_len]; show _ + 3 < _; omega)) ?_)
  exact catL e.2.2.2 (⟨#[]⟩ : ByteArray) f lints _ 2200000 (by rw [List.length_append, lints_len, flat_len]; show _ + 3 + _ ≤ _; omega) (by omega) (by unfold sizeStringS sizeS at h2; omega) (fun i h => hf _ (str_at h h2)) l u
theorem sEints_v (e : TEntry) (hx : sizeEntry e ≤ 1050000) : Z77 e = some (eints e) :=
  eL e hx Z149 sLints_v (fun n ys a => Z77.l6 e n a ys) (fun n ys a => Z77.u6 e n a ys)
theorem iEints_v (e : TEntry) (hx : sizeEntry e ≤ 1050000) : Z59 e = some (eints e) :=
  eL e hx Z143 iLints_v (fun n ys a => Z59.l6 e n (e.2.2.2.length : Int) a ys) (fun n ys a => Z59.u6 e n (e.2.2.2.length : Int) a ys)
def hs (xs : List Int) : Int := xs.foldl hstep 11
noncomputable def leafOf (e : TEntry) : Int := hs (227 :: eints e)
theorem sLeaf_v (e : TEntry) (hx : sizeEntry e ≤ 1050000) : Z162 e = some (leafOf e) := by
  unfold Z162
  have hl := eints_len e
  exact bnd (sEints_v e hx) (cT (decide_eq_true (by show 1 + _ < _; omega)) (bnd (sHash_v _ (show ([(227 : Int)] ++ eints e).length ≤ _ by rw [List.length_append]; show 1 + _ ≤ _; omega)) rfl))
theorem iLeaf_v (e : TEntry) (hx : sizeEntry e ≤ 1050000) : Z151 e = some (leafOf e) := by
  unfold Z151
  have hl := eints_len e
  exact bnd (iEints_v e hx) (cT (decide_eq_true (by show 1 + _ < _; omega)) (bnd (iHash_v _ (show ([(227 : Int)] ++ eints e).length ≤ _ by rw [List.length_append]; show 1 + _ ≤ _; omega)) rfl))
noncomputable def leaves (xs : List TEntry) : List Int := xs.map leafOf
theorem leaves_len (xs : List TEntry) : (leaves xs).length = xs.length := List.length_map ..
theorem sLeaves_v (xs : List TEntry) (hx : sizeEntryS xs ≤ 1050000) : Z50 xs = some (leaves xs) :=
  mapL xs dEntry Z162 leafOf [] (by unfold sizeEntryS sizeS at hx; omega) (by simp) (fun i h => sLeaf_v _ (entry_at h hx)) (fun n ys a => Z50.l6 xs n a ys) (fun n ys a => Z50.u6 xs n a ys)
theorem iLeaves_v (xs : List TEntry) (hx : sizeEntryS xs ≤ 1050000) : Z42 xs = some (leaves xs) :=
  mapL xs dEntry Z151 leafOf [] (by unfold sizeEntryS sizeS at hx; omega) (by simp) (fun i h => iLeaf_v _ (entry_at h hx)) (fun n ys a => Z42.l6 xs n (xs.length : Int) a ys) (fun n ys a => Z42.u6 xs n (xs.length : Int) a ys)
def node (a b : Int) : Int := hs [229, a, b]
theorem sNode_v (a b : Int) : Z191 a b = some (node a b) := bnd (sHash_v _ (by show 3 ≤ _; omega)) rfl
theorem ihash_v (xs : List Int) (hx : xs.length ≤ 1050000) : Z129 xs = some (hs xs) := bnd (iHash_v _ (by omega)) rfl
theorem iNode_v (a b : Int) : Z170 a b = some (node a b) := bnd (ihash_v _ (by show 3 ≤ _; omega)) rfl
def up : List Int → List Int
  | a :: b :: t => node a b :: up t
  | [a] => [a]
  | [] => []
theorem up_len : ∀ xs : List Int, (up xs).length = (xs.length + 1) / 2
  | [] => by rw [up]; rfl
  | [a] => by simp [up]
  | a :: b :: t => by
    show (up t).length + 1 = (t.length + 1 + 1 + 1) / 2
    rw [up_len t]; omega
theorem upL (f : Int → Int → Option Int) (hf : ∀ a b, f a b = some (node a b)) (xs : List Int) (hx : xs.length ≤ 1050000) (l : Nat → Int → List Int → Option (List Int)) (u : ∀ n a ys, l (n + 1) a ys = (bif decide (a < (xs.length : Int)) then bif decide ((IntKind.i64.wrap (a + (1 : Int))) < (xs.length : Int)) then bif decide (0 ≤ a) then bif decide (a < (xs.length : Int)) then bif decide (0 ≤ (IntKind.i64.wrap (a + (1 : Int)))) then bif decide ((IntKind.i64.wrap (a + (1 : Int))) < (xs.length : Int)) then (f (xs.getD a.toNat (0 : Int)) (xs.getD ((IntKind.i64.wrap (a + (1 : Int))).toNat) (0 : Int))).bind fun y1 => bif decide (ys.length + [y1].length < 68719476736) then l n (IntKind.i64.wrap (a + (2 : Int))) (ys ++ [y1]) else none else none else none else none else none else bif decide (0 ≤ a) then bif decide (a < (xs.length : Int)) then bif decide (ys.length + [xs.getD a.toNat (0 : Int)].length < 68719476736) then l n (IntKind.i64.wrap (a + (2 : Int))) (ys ++ [xs.getD a.toNat (0 : Int)]) else none else none else none else some ys)) : l KK (0 : Int) [] = some (up xs) := by
  have hh : ∀ (suf : List Int) (i n : Nat) (ys : List Int), suf = xs.drop i → suf.length < n → ys.length ≤ i → i ≤ xs.length + 1 → l n (i : Int) ys = some (ys ++ up suf) := by
    intro suf
    induction suf using up.induct with
    | case1 a b t ih =>
      intro i n ys hs hn hy hi0
      have hlen : (xs.drop i).length = t.length + 2 := by rw [← hs]; rfl
      rw [List.length_drop] at hlen
      have hi : i < xs.length := by omega
      have hi' : i + 1 < xs.length := by omega
      have e1 := List.drop_eq_getElem_cons hi
      have e2 := List.drop_eq_getElem_cons hi'
      rw [e1, e2] at hs
      injection hs with ha hs
      injection hs with hb ht
      cases n with
      | zero => simp at hn
      | succ n =>
        have ew : IntKind.i64.wrap ((i : Int) + 2) = ((i + 2 : Nat) : Int) := by rw [w64 (by omega) (by omega)]; omega
        have hg : ys.length + [node xs[i] xs[i + 1]].length < 68719476736 := by show _ + 1 < _; omega
        rw [u]
        simp only [w64_succ (i := i) (by omega), lt_t hi, lt_t hi', ge_t, cond_t, Int.toNat_natCast, at_n hi, at_n hi', hf, bind_s, ew]
        rw [decide_eq_true hg, cond_t]
        rw [ih (i + 2) n _ ht (by simp at hn; omega) (by rw [List.length_append]; show _ + 1 ≤ _; omega) (by omega)]
        rw [List.append_assoc, ha, hb]; rfl
    | case2 a =>
      intro i n ys hs hn hy hi0
      have hlen : (xs.drop i).length = 1 := by rw [← hs]; rfl
      rw [List.length_drop] at hlen
      have hi : i < xs.length := by omega
      have e1 := List.drop_eq_getElem_cons hi
      rw [e1] at hs
      injection hs with ha hs
      match n, hn with
      | n + 2, _ =>
        have ew : IntKind.i64.wrap ((i : Int) + 2) = ((i + 2 : Nat) : Int) := by rw [w64 (by omega) (by omega)]; omega
        have hg : ys.length + [xs[i]].length < 68719476736 := by show _ + 1 < _; omega
        rw [u]
        simp only [w64_succ (i := i) (by omega), lt_t hi, lt_f (show xs.length ≤ i + 1 by omega), ge_t, cond_t, cond_f, Int.toNat_natCast, at_n hi, ew]
        rw [decide_eq_true hg, cond_t, u]
        simp only [lt_f (show xs.length ≤ i + 2 by omega), cond_f]
        rw [ha]; rfl
    | case3 =>
      intro i n ys hs hn hy hi0
      have hlen : (xs.drop i).length = 0 := by rw [← hs]; rfl
      rw [List.length_drop] at hlen
      cases n with
      | zero => simp at hn
      | succ n =>
        rw [u]
        simp only [lt_f (show xs.length ≤ i by omega), cond_f]
        rw [up, List.append_nil]
  have := hh xs 0 KK [] (by rw [List.drop_zero]) (KK_gt (by omega)) (Nat.le_refl _) (Nat.zero_le _)
  exact this
theorem sUp_v (xs : List Int) (hx : xs.length ≤ 1050000) : Z39 xs = some (up xs) := upL Z191 sNode_v xs hx (Z39.l6 xs) (fun n a ys => Z39.u6 xs n a ys)
theorem iUp_v (xs : List Int) (hx : xs.length ≤ 1050000) : Z31 xs = some (up xs) := upL Z170 iNode_v xs hx (Z31.l6 xs) (fun n a ys => Z31.u6 xs n a ys)
def topF : Nat → List Int → Int
  | 0, _ => 0
  | n + 1, xs => bif decide ((xs.length : Int) > (1 : Int)) then topF n (up xs) else xs.getD 0 0
noncomputable def topOf (xs : List Int) : Int := bif (xs.length : Int) == (0 : Int) then hs [229] else topF KK xs
theorem topL (f : List Int → Option (List Int)) (hf : ∀ xs : List Int, xs.length ≤ 1050000 → f xs = some (up xs)) (l : Nat → List Int → Option Int) (u : ∀ n xs, l (n + 1) xs = (bif decide ((xs.length : Int) > (1 : Int)) then (f xs).bind fun y2 => l n y2 else bif decide (0 ≤ (0 : Int)) then bif decide ((0 : Int) < (xs.length : Int)) then some (xs.getD ((0 : Int).toNat) (0 : Int)) else none else none)) : ∀ (n : Nat) (xs : List Int), 0 < xs.length → xs.length < n → xs.length ≤ 1050000 → l n xs = some (topF n xs) := by
  intro n
  induction n with
  | zero => intro xs h0 h1; omega
  | succ n ih =>
    intro xs h0 h1 h2
    rw [u]
    show _ = some (bif decide ((xs.length : Int) > (1 : Int)) then topF n (up xs) else xs.getD 0 0)
    by_cases h : 1 < xs.length
    · rw [decide_eq_true (show (xs.length : Int) > 1 by omega), cond_t, cond_t, hf xs h2, bind_s]
      have := up_len xs
      exact ih _ (by omega) (by omega) (by omega)
    · rw [decide_eq_false (show ¬ (xs.length : Int) > 1 by omega), cond_f, cond_f]
      exact cT rfl (cT (decide_eq_true (by omega)) rfl)
theorem sTop_v (xs : List Int) (hx : xs.length ≤ 1050000) : Z57 xs = some (topOf xs) := by
  unfold Z57 topOf
  cases h : ((xs.length : Int) == (0 : Int)) with
  | true => exact cT h (bnd (sHash_v _ (by show 1 ≤ _; omega)) rfl)
  | false =>
    have h0 : (xs.length : Int) ≠ 0 := by simpa using h
    exact cF h (topL Z39 sUp_v Z57.l8 (fun n xs => Z57.u8 n xs) KK xs (by omega) (KK_gt (by omega)) hx)
theorem iTop_v (xs : List Int) (hx : xs.length ≤ 1050000) : Z55 xs = some (topOf xs) := by
  unfold Z55 topOf
  cases h : ((xs.length : Int) == (0 : Int)) with
  | true => exact cT h (bnd (ihash_v _ (by show 1 ≤ _; omega)) rfl)
  | false =>
    have h0 : (xs.length : Int) ≠ 0 := by simpa using h
    exact cF h (topL Z31 iUp_v Z55.l6 (fun n xs => Z55.u6 n xs) KK xs (by omega) (KK_gt (by omega)) hx)
noncomputable def rootF (n t : Int) : Int := hs [231, n, t]
noncomputable def rootOf (xs : List TEntry) : Int := rootF (xs.length : Int) (topOf (leaves xs))
theorem sRootF_v (n t : Int) : Z203 n t = some (rootF n t) := bnd (sHash_v _ (by show 3 ≤ _; omega)) rfl
theorem iRootF_v (n t : Int) : Z202 n t = some (rootF n t) := bnd (ihash_v _ (by show 3 ≤ _; omega)) rfl
theorem sRoot_v (xs : List TEntry) (hx : sizeEntryS xs ≤ 1050000) : Z192 xs = some (rootOf xs) := by
  unfold Z192
  have hl : xs.length ≤ 1050000 := by unfold sizeEntryS sizeS at hx; omega
  exact bnd (sLeaves_v xs hx) (bnd (sTop_v _ (by rw [leaves_len]; exact hl)) (bnd (sRootF_v _ _) rfl))
theorem iRoot_v (xs : List TEntry) (hx : sizeEntryS xs ≤ 1050000) : Z171 xs = some (rootOf xs) := by
  unfold Z171
  have hl : xs.length ≤ 1050000 := by unfold sizeEntryS sizeS at hx; omega
  exact bnd (iLeaves_v xs hx) (bnd (iTop_v _ (by rw [leaves_len]; exact hl)) (bnd (iRootF_v _ _) rfl))
theorem zone_chain (z : TZone) {n : Nat} (hx : sizeZone z ≤ n) : sizeSignedS z.1 ≤ n := by unfold sizeZone at hx; omega
theorem zone_ents (z : TZone) {n : Nat} (hx : sizeZone z ≤ n) : sizeEntryS z.2 ≤ n := by unfold sizeZone at hx; omega
noncomputable def checkAll (r : Int) (xs : List TEntry) : Bool := areEntries xs && (rootOf xs == r)
theorem sCheckAll_v (r : Int) (xs : List TEntry) (hx : sizeEntryS xs ≤ 1050000) : Z185 r xs = some (checkAll r xs) := by
  unfold Z185 checkAll
  refine bnd (sAreEntries_v xs hx) ?_
  cases areEntries xs with
  | false => rfl
  | true => exact cT rfl (bnd (sRoot_v xs hx) (by rw [Bool.true_and]))
theorem iCheckAll_v (r : Int) (xs : List TEntry) (hx : sizeEntryS xs ≤ 1050000) : Z163 r xs = some (checkAll r xs) := by
  unfold Z163 checkAll
  refine bnd (iAreEntries_v xs hx) ?_
  cases areEntries xs with
  | false => rfl
  | true => exact cT rfl (bnd (iRoot_v xs hx) (by rw [Bool.true_and]))
noncomputable def zHead (z : TZone) : THead := Signed_Head (lastS z.1)
noncomputable def isZone (z : TZone) : Bool := isChain z.1 && ((Head_Count (zHead z) == (z.2.length : Int)) && checkAll (Head_Root (zHead z)) z.2)
theorem isZone_chain (z : TZone) (h : isZone z = true) : isChain z.1 = true := by unfold isZone at h; rw [Bool.and_eq_true] at h; exact h.1
theorem sIsZone_v (z : TZone) (hx : sizeZone z ≤ 1050000) : Z141 z = some (isZone z) := by
  unfold Z141 isZone
  refine bnd (sLastHead_v z.1 (zone_chain z hx)) ?_
  rw [(lastHead_r z.1).1]
  cases hc : isChain z.1 with
  | false => rfl
  | true =>
    rw [(lastHead_r z.1).2 hc, cond_t, Bool.true_and]
    show (bif (Head_Count (zHead z) == (z.2.length : Int)) then _ else _) = _
    cases (Head_Count (zHead z) == (z.2.length : Int)) with
    | false => rfl
    | true => exact cT rfl (bnd (sCheckAll_v _ z.2 (zone_ents z hx)) (by rw [Bool.true_and]; rfl))
theorem iIsZone_v (z : TZone) (hx : sizeZone z ≤ 1050000) : Z138 z = some (isZone z) := by
  unfold Z138 isZone
  refine bnd (iIsChain_v z.1 (zone_chain z hx)) ?_
  cases hc : isChain z.1 with
  | false => rfl
  | true =>
    refine cF rfl (bnd (last_v z.1 hc) ?_)
    rw [Bool.true_and]
    show (bif (Head_Count (zHead z) == (z.2.length : Int)) then _ else _) = _
    cases (Head_Count (zHead z) == (z.2.length : Int)) with
    | false => rfl
    | true => exact cT rfl (bnd (iCheckAll_v _ z.2 (zone_ents z hx)) (by rw [Bool.true_and]; rfl))
noncomputable def zoneId (z : TZone) : Int := bif isZone z then Head_Zone (zHead z) else -1
theorem sZoneId_v (z : TZone) (hx : sizeZone z ≤ 1050000) : Z194 z = some (zoneId z) := by
  unfold Z194 zoneId
  refine bnd (sLastHead_v z.1 (zone_chain z hx)) (bnd (sIsZone_v z hx) ?_)
  cases hz : isZone z with
  | false => rfl
  | true =>
    rw [(lastHead_r z.1).2 (isZone_chain z hz)]
    rfl
theorem iZoneId_v (z : TZone) (hx : sizeZone z ≤ 1050000) : Z174 z = some (zoneId z) := by
  unfold Z174 zoneId
  refine bnd (iIsZone_v z hx) ?_
  cases hz : isZone z with
  | false => rfl
  | true => exact cF rfl (bnd (last_v z.1 (isZone_chain z hz)) rfl)
theorem server_zones (s : TServer) {n : Nat} (hx : sizeServer s ≤ n) : sizeZoneS s.1 ≤ n := hx
noncomputable def servedZone (s : TServer) (z : Int) : Int := bif decide (z < 0) then -1 else fnd (fun t => zoneId t == z) s.1 0
theorem fnd_none {α : Type} (p : α → Bool) (xs : List α) (h : ∀ x, p x = false) : ∀ k : Int, fnd p xs k = -1 := by
  induction xs with
  | nil => intro k; rfl
  | cons x t ih => intro k; rw [fnd_cons, h, cond_f]; exact ih _
theorem sServedZone_v (s : TServer) (z : Int) (hx : sizeServer s ≤ 1050000) : Z51 s z = some (servedZone s z) := by
  have hz := server_zones s hx
  have hl : s.1.length ≤ 1050000 := by unfold sizeZoneS sizeS at hz; omega
  have hh : ∀ i n, i ≤ s.1.length → s.1.length - i < n → Z51.l4 s z n (i : Int) = some (fnd (fun t => zoneId t == z && decide (z ≥ (0 : Int))) (s.1.drop i) (i : Int)) := by
    refine idx_ind ?_ ?_
    · intro n
      rw [Z51.u4]
      simp only [Z51.g4, lt_f (Nat.le_refl _), cond_f, fnd_last]
    · intro i n hi ih
      rw [Z51.u4]
      simp only [Z51.g4, lt_t hi, ge_t, cond_t, w64_succ (i := i) (by omega), Int.toNat_natCast, at_n hi, fnd_step _ hi, ih]
      rw [sZoneId_v _ (zone_at hi hz), bind_s]
      cases (zoneId s.1[i] == z) <;> cases decide (z ≥ (0 : Int)) <;> rfl
  have h := hh 0 KK (Nat.zero_le _) (KK_gt (by omega))
  rw [List.drop_zero] at h
  refine Eq.trans h (congrArg some ?_)
  unfold servedZone
  by_cases h0 : z < 0
  · rw [decide_eq_true h0, cond_t]
    exact fnd_none _ _ (fun x => by rw [decide_eq_false (show ¬ z ≥ (0 : Int) by omega), Bool.and_false]) _
  · rw [decide_eq_false h0, cond_f]
    have e : (fun t => zoneId t == z && decide (z ≥ (0 : Int))) = (fun t => zoneId t == z) := by
      funext t
      rw [decide_eq_true (show z ≥ (0 : Int) by omega), Bool.and_true]
    rw [e]; rfl
theorem iServedZone_v (s : TServer) (z : Int) (hx : sizeServer s ≤ 1050000) : Z172 s z = some (servedZone s z) := by
  have hz := server_zones s hx
  unfold Z172 servedZone
  cases decide (z < (0 : Int)) with
  | true => rfl
  | false => exact cF rfl (bnd (idxF s.1 dZone (fun t => Z200 t z) (fun t => zoneId t == z) (by unfold sizeZoneS sizeS at hz; omega) (fun i h => bnd (iZoneId_v _ (zone_at h hz)) rfl) (Z82.l4 s.1 ((), z)) (fun n L a => Z82.u4 s.1 ((), z) n L a)) rfl)
theorem l1In_2 (a b c : Int) : Z80 a b c = some (inR2 a b c) := l1In_v a b c
theorem InRange_2 (a b c : Int) : Z84 a b c = some (inR2 a b c) := InRange_v a b c
theorem tdiv2 (i : Nat) (h : i ≤ 1000) : IntKind.i64.wrap (Int.tdiv (i : Int) 2) = ((i / 2 : Nat) : Int) := by
  have e : Int.tdiv (i : Int) 2 = ((i / 2 : Nat) : Int) := rfl
  rw [e, w64 (by omega) (by omega)]
theorem tmod2 (i : Nat) : Int.tmod (i : Int) 2 = ((i % 2 : Nat) : Int) := rfl
theorem xor1 : ∀ i : Nat, i < 12 → IntKind.i64.wrap ((BitVec.ofInt IntKind.i64.bits (i : Int) ^^^ BitVec.ofInt IntKind.i64.bits (1 : Int)).toNat : Int) = bif decide (i % 2 = 0) then (i : Int) + 1 else (i : Int) - 1 := by
  intro i hi
  have h : i = 0 ∨ i = 1 ∨ i = 2 ∨ i = 3 ∨ i = 4 ∨ i = 5 ∨ i = 6 ∨ i = 7 ∨ i = 8 ∨ i = 9 ∨ i = 10 ∨ i = 11 := by omega
  rcases h with rfl | rfl | rfl | rfl | rfl | rfl | rfl | rfl | rfl | rfl | rfl | rfl <;> (rw [w64 (by decide) (by decide)]; decide)
theorem two0 : ((2 : Int) == (0 : Int)) = false := rfl
theorem inR2_iff (a b c : Int) : inR2 a b c = true ↔ b ≤ a ∧ a ≤ c := by unfold inR2; rw [Bool.and_eq_true, decide_eq_true_eq, decide_eq_true_eq]
theorem fnd_hi {α : Type} (p : α → Bool) (xs : List α) : ∀ k : Int, fnd p xs k = -1 ∨ fnd p xs k < k + xs.length := by
  induction xs with
  | nil => intro k; exact .inl rfl
  | cons x t ih =>
    intro k
    rw [fnd_cons, List.length_cons]
    cases p x with
    | true => rw [cond_t]; right; omega
    | false => rw [cond_f]; rcases ih (k + 1) with h | h
               · exact .inl h
               · right; omega
theorem served_hi (s : TServer) (z : Int) (h : 0 ≤ servedZone s z) : servedZone s z < (s.1.length : Int) := by
  unfold servedZone at h ⊢
  revert h
  cases decide (z < 0) with
  | true => rw [cond_t]; intro h; omega
  | false =>
    rw [cond_f]
    intro h
    rcases fnd_hi (fun t => zoneId t == z) s.1 0 with e | e
    · omega
    · omega
theorem sum_le {α : Type} (f : α → Nat) (B : Nat) (xs : List α) (h : ∀ x ∈ xs, f x ≤ B) : (xs.map f).sum ≤ xs.length * B := by
  induction xs with
  | nil => simp
  | cons x t ih =>
    have h1 := h x (List.mem_cons_self)
    have h2 := ih (fun y hy => h y (List.mem_cons_of_mem _ hy))
    rw [List.map_cons, List.sum_cons, List.length_cons, Nat.add_mul]
    omega
theorem isZone_ents (z : TZone) (h : isZone z = true) : areEntries z.2 = true := by
  unfold isZone checkAll at h
  simp only [Bool.and_eq_true] at h
  exact h.2.2.1
noncomputable def findE (xs : List TEntry) (l : ByteArray) : Int := fnd (fun e => e.1.toList == l.toList) xs 0
def sib (i : Nat) : Nat := bif decide (i % 2 = 0) then i + 1 else i - 1
def pf : Nat → List Int → Nat → List Int
  | 0, _, _ => []
  | k + 1, l, i => bif decide ((l.length : Int) > (1 : Int)) then (bif decide (sib i < l.length) then [l.getD (sib i) 0] else []) ++ pf k (up l) (i / 2) else []
noncomputable def pathFor (l : List Int) (i : Int) : List Int := bif inR2 i 0 ((l.length : Int) - 1) then pf KK l i.toNat else []
theorem pf_len : ∀ (k : Nat) (l : List Int) (i : Nat), (pf k l i).length ≤ l.length
  | 0, l, i => Nat.zero_le _
  | k + 1, l, i => by
    unfold pf
    by_cases h : (l.length : Int) > 1
    · rw [decide_eq_true h, cond_t, List.length_append]
      have h1 := pf_len k (up l) (i / 2)
      have h2 := up_len l
      have h3 : (bif decide (sib i < l.length) then [l.getD (sib i) 0] else []).length ≤ 1 := by cases decide (sib i < l.length) <;> simp
      omega
    · rw [decide_eq_false h, cond_f]; exact Nat.zero_le _
theorem pathFor_len (l : List Int) (i : Int) : (pathFor l i).length ≤ l.length := by
  unfold pathFor
  cases inR2 i 0 ((l.length : Int) - 1) with
  | false => exact Nat.zero_le _
  | true => exact pf_len _ _ _
theorem sib_x (i : Nat) (h : i < 12) : (bif decide (i % 2 = 0) then (i : Int) + 1 else (i : Int) - 1) = ((sib i : Nat) : Int) := by
  unfold sib
  by_cases e : i % 2 = 0
  · rw [decide_eq_true e, cond_t, cond_t]; omega
  · rw [decide_eq_false e, cond_f, cond_f]; omega
theorem sib_s (i : Nat) (h : i < 12) : IntKind.i64.wrap ((IntKind.i64.wrap ((i : Int) + (1 : Int))) - (IntKind.i64.wrap ((2 : Int) * (Int.tmod (i : Int) (2 : Int))))) = ((sib i : Nat) : Int) := by
  rw [tmod2, w64 (n := (i : Int) + 1) (by omega) (by omega), w64 (n := (2 : Int) * ((i % 2 : Nat) : Int)) (by omega) (by omega), w64 (by omega) (by omega)]
  unfold sib
  by_cases e : i % 2 = 0
  · rw [decide_eq_true e, cond_t]; omega
  · rw [decide_eq_false e, cond_f]; omega
theorem iPf_l : ∀ (m : Nat) (l : List Int) (i : Nat) (out : List Int), l.length < m → l.length ≤ 12 → i < 12 → out.length + l.length ≤ 1000 → Z52.l8 m l (i : Int) out = some (out ++ pf m l i) := by
  intro m
  induction m with
  | zero => intro l i out h0; omega
  | succ m ih =>
    intro l i out h0 h1 h2 h3
    have hu := up_len l
    rw [Z52.u8]
    unfold pf
    by_cases h : (l.length : Int) > 1
    · refine cT (decide_eq_true h) ?_
      rw [decide_eq_true h, cond_t, xor1 i h2, sib_x i h2]
      have next : ∀ o : List Int, o.length ≤ out.length + 1 → Z52.l8 m (up l) (IntKind.i64.wrap (Int.tdiv (i : Int) (2 : Int))) o = some (o ++ pf m (up l) (i / 2)) := by
        intro o ho
        rw [tdiv2 i (by omega)]
        exact ih (up l) (i / 2) o (by omega) (by omega) (by omega) (by omega)
      by_cases hs : sib i < l.length
      · rw [decide_eq_true hs]
        refine cT (lt_t hs) (cT ge_t (cT (lt_t hs) (cT (decide_eq_true (by show _ + 1 < _; omega)) (bnd (iUp_v l (by omega)) ?_))))
        rw [Int.toNat_natCast]
        refine (next (out ++ [l.getD (sib i) 0]) (by rw [List.length_append]; show _ + 1 ≤ _; omega)).trans ?_
        rw [List.append_assoc]; rfl
      · rw [decide_eq_false hs]
        refine cF (lt_f (by omega)) (bnd (iUp_v l (by omega)) ?_)
        exact next out (by omega)
    · refine cF (decide_eq_false h) ?_
      rw [decide_eq_false h, cond_f, List.append_nil]
theorem sPf_l : ∀ (m : Nat) (l : List Int) (i : Nat) (out : List Int), l.length < m → l.length ≤ 12 → i < 12 → out.length + l.length ≤ 1000 → Z7.l10 m (i : Int) l out = some (out ++ pf m l i) := by
  intro m
  induction m with
  | zero => intro l i out h0; omega
  | succ m ih =>
    intro l i out h0 h1 h2 h3
    have hu := up_len l
    rw [Z7.u10]
    unfold pf
    by_cases h : (l.length : Int) > 1
    · refine cT (decide_eq_true h) ?_
      rw [decide_eq_true h, cond_t, sib_s i h2]
      have next : ∀ o : List Int, o.length ≤ out.length + 1 → Z7.l19 (i : Int) l (Z7.l10 m) o = some (o ++ pf m (up l) (i / 2)) := by
        intro o ho
        refine bnd (sUp_v l (by omega)) ?_
        show Z7.l10 m (IntKind.i64.wrap (Int.tdiv (i : Int) (2 : Int))) (up l) o = _
        rw [tdiv2 i (by omega)]
        exact ih (up l) (i / 2) o (by omega) (by omega) (by omega) (by omega)
      refine cF two0 ?_
      by_cases hs : sib i < l.length
      · rw [decide_eq_true hs]
        refine cT (lt_t hs) (cT ge_t (cT (lt_t hs) (cT (decide_eq_true (by show _ + 1 < _; omega)) ?_)))
        rw [Int.toNat_natCast]
        refine (next (out ++ [l.getD (sib i) 0]) (by rw [List.length_append]; show _ + 1 ≤ _; omega)).trans ?_
        rw [List.append_assoc]; rfl
      · rw [decide_eq_false hs]
        refine cF (lt_f (by omega)) ?_
        exact next out (by omega)
    · refine cF (decide_eq_false h) ?_
      rw [decide_eq_false h, cond_f, List.append_nil]
theorem sPath_v (l : List Int) (i : Int) (hl : l.length ≤ 12) : Z7 l i = some (pathFor l i) := by
  unfold Z7 pathFor
  refine bnd (l1In_2 _ _ _) ?_
  rw [w64 (n := (l.length : Int) - 1) (by omega) (by omega)]
  cases hi : inR2 i 0 ((l.length : Int) - 1) with
  | false => rfl
  | true =>
    have h2 := (inR2_iff _ _ _).1 hi
    refine cF rfl ?_
    have := sPf_l KK l i.toNat [] (KK_gt (by omega)) hl (by omega) (by show 0 + _ ≤ _; omega)
    rw [Int.toNat_of_nonneg h2.1] at this
    exact this
theorem iPath_v (l : List Int) (i : Int) (hl : l.length ≤ 12) : Z52 l i = some (pathFor l i) := by
  unfold Z52 pathFor
  refine bnd (InRange_2 _ _ _) ?_
  rw [w64 (n := (l.length : Int) - 1) (by omega) (by omega)]
  cases hi : inR2 i 0 ((l.length : Int) - 1) with
  | false => rfl
  | true =>
    have h2 := (inR2_iff _ _ _).1 hi
    refine cF rfl ?_
    have := iPf_l KK l i.toNat [] (KK_gt (by omega)) hl (by omega) (by show 0 + _ ≤ _; omega)
    rw [Int.toNat_of_nonneg h2.1] at this
    exact this
theorem sFind_v (xs : List TEntry) (l : ByteArray) (hx : xs.length ≤ 1050000) : Z21 xs l = some (findE xs l) := by
  have hh : ∀ i n, i ≤ xs.length → xs.length - i < n → Z21.l4 xs l n (i : Int) = some (fnd (fun e => e.1.toList == l.toList) (xs.drop i) (i : Int)) := by
    refine idx_ind ?_ ?_
    · intro n
      rw [Z21.u4]
      simp only [Z21.g4, lt_f (Nat.le_refl _), cond_f, fnd_last]
    · intro i n hi ih
      rw [Z21.u4]
      simp only [Z21.g4, lt_t hi, ge_t, cond_t, w64_succ (i := i) (by omega), Int.toNat_natCast, at_n hi, fnd_step _ hi, ih]
      cases (xs[i].1.toList == l.toList) <;> rfl
  have h := hh 0 KK (Nat.zero_le _) (KK_gt (by omega))
  rw [List.drop_zero] at h
  exact h
theorem iFind_v (xs : List TEntry) (l : ByteArray) (hx : xs.length ≤ 1050000) : Z127 xs l = some (findE xs l) :=
  bnd (idxF xs dEntry (fun e => Z198 e l) (fun e => e.1.toList == l.toList) hx (fun i h => rfl) (Z81.l4 xs ((), l)) (fun n L a => Z81.u4 xs ((), l) n L a)) rfl
theorem find_hi (xs : List TEntry) (l : ByteArray) : findE xs l < (xs.length : Int) := by
  rcases fnd_hi (fun e : TEntry => e.1.toList == l.toList) xs 0 with e | e
  · unfold findE; omega
  · unfold findE; omega
noncomputable def proveE (xs : List TEntry) (l : ByteArray) : TRProofBool := bif decide (findE xs l < 0) then dRProofBool else RProofBool_mk (findE xs l, pathFor (leaves xs) (findE xs l)) true
theorem sProveE_v (xs : List TEntry) (l : ByteArray) (hx : sizeEntryS xs ≤ 1050000) (hl : xs.length ≤ 12) : Z136 xs l = some (proveE xs l) := by
  unfold Z136 proveE
  refine bnd (sFind_v xs l (by omega)) ?_
  cases decide (findE xs l < 0) with
  | true => rfl
  | false => exact cF rfl (bnd (sLeaves_v xs hx) (bnd (sPath_v _ _ (by rw [leaves_len]; exact hl)) rfl))
theorem iProveE_v (xs : List TEntry) (l : ByteArray) (hx : sizeEntryS xs ≤ 1050000) (hl : xs.length ≤ 12) : Z132 xs l = some (proveE xs l) := by
  unfold Z132 proveE
  refine bnd (iFind_v xs l (by omega)) ?_
  cases decide (findE xs l < 0) with
  | true => rfl
  | false => exact cF rfl (bnd (iLeaves_v xs hx) (bnd (iPath_v _ _ (by rw [leaves_len]; exact hl)) rfl))
theorem proveE_len (xs : List TEntry) (l : ByteArray) : sizeProof (RProofBool_r0 (proveE xs l)) ≤ xs.length := by
  unfold proveE
  cases decide (findE xs l < 0) with
  | true => exact Nat.zero_le _
  | false =>
    rw [cond_f, (RProofBool_s _ _).1]
    have := pathFor_len (leaves xs) (findE xs l)
    rw [leaves_len] at this
    exact this
def rk (xs : List TEntry) (l : ByteArray) : Nat := xs.countP fun e => decide (cmpS e.1 l < 0)
theorem rk_le (xs : List TEntry) (l : ByteArray) : rk xs l ≤ xs.length := List.countP_le_length
theorem rankL (xs : List TEntry) (l : ByteArray) (hx : xs.length ≤ 1050000) (f : ByteArray → ByteArray → Option Int) (hf : ∀ a b, f a b = some (cmpS a b)) (g : Nat → Int → Int → Option Int) (u : ∀ n c a, g (n + 1) c a = (bif decide (a < (xs.length : Int)) then bif decide (0 ≤ a) then bif decide (a < (xs.length : Int)) then (f (xs.getD a.toNat dEntry).1 l).bind fun y1 => bif decide (y1 < (0 : Int)) then g n (IntKind.i64.wrap (c + (1 : Int))) (IntKind.i64.wrap (a + (1 : Int))) else g n c (IntKind.i64.wrap (a + (1 : Int))) else none else none else some c)) : g KK (0 : Int) (0 : Int) = some (rk xs l : Int) := by
  have hh : ∀ i n, i ≤ xs.length → xs.length - i < n → ∀ c : Nat, c ≤ i → g n (c : Int) (i : Int) = some ((c + rk (xs.drop i) l : Nat) : Int) := by
    refine idx_ind ?_ ?_
    · intro n c hc
      rw [u]
      simp only [lt_f (Nat.le_refl _), cond_f, List.drop_length]
      rfl
    · intro i n hi ih c hc
      rw [u]
      simp only [lt_t hi, ge_t, cond_t, Int.toNat_natCast, at_n hi, hf, bind_s, w64_succ (i := i) (by omega), w64_succ (i := c) (by omega)]
      rw [ih c (by omega), ih (c + 1) (by omega), List.drop_eq_getElem_cons hi]
      unfold rk
      rw [List.countP_cons]
      cases decide (cmpS xs[i].1 l < 0) with
      | true => rw [cond_t, if_pos rfl]; congr 1; omega
      | false => rw [cond_f, if_neg (by decide)]; rfl
  have := hh 0 KK (Nat.zero_le _) (KK_gt (by omega)) 0 (Nat.le_refl _)
  rw [List.drop_zero, Nat.zero_add] at this
  exact this
theorem sRank_v (xs : List TEntry) (l : ByteArray) (hx : xs.length ≤ 1050000) : Z78 xs l = some (rk xs l : Int) := rankL xs l hx Z135 sCompare_v (fun n c a => Z78.l6 xs l n c a) (fun n c a => Z78.u6 xs l n c a)
theorem iRank_v (xs : List TEntry) (l : ByteArray) (hx : xs.length ≤ 1050000) : Z60 xs l = some (rk xs l : Int) := rankL xs l hx Z137 iCompare_v (fun n c a => Z60.l6 xs l n c (xs.length : Int) a) (fun n c a => Z60.u6 xs l n c (xs.length : Int) a)
noncomputable def gapRt (xs : List TEntry) (k : Nat) (B : TEntry) (L : TProof) : TGap := bif decide (k < xs.length) then Gap_mk (k : Int) B (xs.getD k dEntry) L (RProofBool_r0 (proveE xs (xs.getD k dEntry).1)) else Gap_mk (k : Int) B dEntry L dProof
noncomputable def gapOf (xs : List TEntry) (k : Nat) : TGap := bif decide (0 < k) then gapRt xs k (xs.getD (k - 1) dEntry) (RProofBool_r0 (proveE xs (xs.getD (k - 1) dEntry).1)) else gapRt xs k dEntry dProof
noncomputable def proveAbs (xs : List TEntry) (l : ByteArray) : TRGapBool := bif areEntries xs && (isLabel l && !decide (findE xs l ≥ 0)) then RGapBool_mk (gapOf xs (rk xs l)) true else dRGapBool
theorem ent_getD (xs : List TEntry) (i : Nat) (hx : sizeEntryS xs ≤ 1050000) : sizeEntry (xs.getD i dEntry) ≤ 1050000 := by
  by_cases h : i < xs.length
  · rw [at_n h]; exact entry_at h hx
  · have e : xs.getD i dEntry = dEntry := by simp [List.getD, show xs.length ≤ i by omega]
    rw [e]; exact Nat.zero_le _
theorem sGapRt_v (xs : List TEntry) (k : Nat) (B : TEntry) (L : TProof) (hx : sizeEntryS xs ≤ 1050000) (hl : xs.length ≤ 12) : Z14.l17 xs (k : Int) B.1 B.2.1 B.2.2.1 L.1 B.2.2.2 L.2 = some (RGapBool_mk (gapRt xs k B L) true) := by
  unfold Z14.l17 gapRt
  by_cases h : k < xs.length
  · rw [decide_eq_true h, cond_t]
    refine cT (lt_t h) (cT ge_t (cT (lt_t h) (bnd (l8Copy_v _ (ent_getD xs _ hx)) (cT ge_t (cT (lt_t h) (bnd (sProveE_v xs _ hx hl) ?_))))))
    rw [Int.toNat_natCast]
  · rw [decide_eq_false h, cond_f]
    exact cF (lt_f (by omega)) rfl
theorem iGapRt_v (xs : List TEntry) (k : Nat) (B : TEntry) (L : TProof) (hx : sizeEntryS xs ≤ 1050000) (hl : xs.length ≤ 12) : Z13.l15 xs (k : Int) B.1 B.2.1 B.2.2.1 L.1 B.2.2.2 L.2 = some (RGapBool_mk (gapRt xs k B L) true) := by
  unfold Z13.l15 gapRt
  by_cases h : k < xs.length
  · rw [decide_eq_true h, cond_t]
    refine cT (lt_t h) (cT ge_t (cT (lt_t h) (bnd (copyEntry_v _ (ent_getD xs _ hx)) (bnd (iProveE_v xs _ hx hl) ?_))))
    rw [Int.toNat_natCast]
  · rw [decide_eq_false h, cond_f]
    exact cF (lt_f (by omega)) rfl
theorem sAbs5_v (xs : List TEntry) (l : ByteArray) (v : Bool) (hx : sizeEntryS xs ≤ 1050000) (hl : xs.length ≤ 12) : Z14.l5 xs l v = some (bif v then dRGapBool else RGapBool_mk (gapOf xs (rk xs l)) true) := by
  cases v with
  | true => rfl
  | false =>
    refine bnd (sRank_v xs l (by omega)) ?_
    have hr := rk_le xs l
    rw [cond_f]
    unfold gapOf
    by_cases h : 0 < rk xs l
    · have e : IntKind.i64.wrap ((rk xs l : Int) - (1 : Int)) = ((rk xs l - 1 : Nat) : Int) := by rw [w64 (by omega) (by omega)]; omega
      rw [decide_eq_true h, cond_t, e]
      refine cT (decide_eq_true (by omega)) (cT ge_t (cT (lt_t (by omega)) (bnd (l8Copy_v _ (ent_getD xs _ hx)) (cT ge_t (cT (lt_t (by omega)) (bnd (sProveE_v xs _ hx hl) ?_))))))
      rw [Int.toNat_natCast]
      exact sGapRt_v xs (rk xs l) _ _ hx hl
    · rw [decide_eq_false h, cond_f]
      exact cF (decide_eq_false (by omega)) (sGapRt_v xs (rk xs l) dEntry dProof hx hl)
theorem iAbs5_v (xs : List TEntry) (l : ByteArray) (v : Bool) (hx : sizeEntryS xs ≤ 1050000) (hl : xs.length ≤ 12) : Z13.l5 xs l v = some (bif v then dRGapBool else RGapBool_mk (gapOf xs (rk xs l)) true) := by
  cases v with
  | true => rfl
  | false =>
    refine bnd (iRank_v xs l (by omega)) ?_
    have hr := rk_le xs l
    rw [cond_f]
    unfold gapOf
    by_cases h : 0 < rk xs l
    · have e : IntKind.i64.wrap ((rk xs l : Int) - (1 : Int)) = ((rk xs l - 1 : Nat) : Int) := by rw [w64 (by omega) (by omega)]; omega
      rw [decide_eq_true h, cond_t, e]
      refine cT (decide_eq_true (by omega)) (cT ge_t (cT (lt_t (by omega)) (bnd (copyEntry_v _ (ent_getD xs _ hx)) (bnd (iProveE_v xs _ hx hl) ?_))))
      rw [Int.toNat_natCast]
      exact iGapRt_v xs (rk xs l) _ _ hx hl
    · rw [decide_eq_false h, cond_f]
      exact cF (decide_eq_false (by omega)) (iGapRt_v xs (rk xs l) dEntry dProof hx hl)
theorem sProveAbs_v (xs : List TEntry) (l : ByteArray) (hx : sizeEntryS xs ≤ 1050000) (hl : xs.length ≤ 12) (hs : l.size ≤ 1050000) : Z14 xs l = some (proveAbs xs l) := by
  unfold Z14 proveAbs
  refine bnd (sAreEntries_v xs hx) ?_
  cases areEntries xs with
  | false => exact sAbs5_v xs l true hx hl
  | true =>
    refine cF rfl (bnd (sIsLabel_v l hs) ?_)
    cases isLabel l with
    | false => exact sAbs5_v xs l true hx hl
    | true =>
      refine cF rfl (bnd (sFind_v xs l (by omega)) ?_)
      rw [sAbs5_v xs l _ hx hl]
      cases decide (findE xs l ≥ 0) <;> rfl
theorem iProveAbs_v (xs : List TEntry) (l : ByteArray) (hx : sizeEntryS xs ≤ 1050000) (hl : xs.length ≤ 12) (hs : l.size ≤ 1050000) : Z13 xs l = some (proveAbs xs l) := by
  unfold Z13 proveAbs
  refine bnd (iAreEntries_v xs hx) ?_
  cases areEntries xs with
  | false => exact iAbs5_v xs l true hx hl
  | true =>
    refine cF rfl (bnd (iIsLabel_v l hs) ?_)
    cases isLabel l with
    | false => exact iAbs5_v xs l true hx hl
    | true =>
      refine cF rfl (bnd (iFind_v xs l (by omega)) ?_)
      rw [iAbs5_v xs l _ hx hl]
      cases decide (findE xs l ≥ 0) <;> rfl
noncomputable def answerIn (z : TZone) (l : ByteArray) : TAnswer := bif decide (findE z.2 l ≥ 0) then Answer_mk z.1 true (z.2.getD (findE z.2 l).toNat dEntry) (RProofBool_r0 (proveE z.2 l)) dGap else Answer_mk z.1 false dEntry dProof (RGapBool_r0 (proveAbs z.2 l))
noncomputable def answerFor (z : TZone) (l : ByteArray) : TAnswer := bif isZone z && isLabel l then answerIn z l else dAnswer
theorem afL (z : TZone) (l : ByteArray) (hx : sizeZone z ≤ 1050000) (hs : l.size ≤ 1050000) (cc : Option (List TSigned)) (h1 : cc = some z.1) (ff : Option Int) (h2 : ff = some (findE z.2 l)) (ce : TEntry → Option TEntry) (h3 : ∀ e, sizeEntry e ≤ 1050000 → ce e = some e) (pe : Option TRProofBool) (h4 : pe = some (proveE z.2 l)) (pa : Option TRGapBool) (h5 : pa = some (proveAbs z.2 l)) : (cc.bind fun y3 => ff.bind fun y4 => bif decide (y4 ≥ (0 : Int)) then bif decide (0 ≤ y4) then bif decide (y4 < (z.2.length : Int)) then (ce (z.2.getD y4.toNat dEntry)).bind fun y5 => pe.bind fun y6 => some (Answer_mk y3 true y5 (RProofBool_r0 y6) dGap) else none else none else pa.bind fun y7 => some (Answer_mk y3 false dEntry dProof (RGapBool_r0 y7))) = some (answerIn z l) := by
  subst h1 h2 h4 h5
  rw [bind_s, bind_s, bind_s]
  unfold answerIn
  by_cases h : findE z.2 l ≥ 0
  · have h' : 0 ≤ findE z.2 l := h
    rw [decide_eq_true (find_hi z.2 l), h3 _ (ent_getD z.2 _ (zone_ents z hx)), bind_s, bind_s]
    simp only [ge_iff_le, decide_eq_true h', cond_t]
  · rw [decide_eq_false h, cond_f, cond_f]
theorem sAnswerFor_v (z : TZone) (l : ByteArray) (hx : sizeZone z ≤ 1050000) (hs : l.size ≤ 1050000) : Z89 z l = some (answerFor z l) := by
  unfold Z89 answerFor
  refine bnd (sIsZone_v z hx) ?_
  cases hz : isZone z with
  | false => rfl
  | true =>
    have he := zone_ents z hx
    have hl := areEntries_len z.2 (isZone_ents z hz)
    refine cF rfl (bnd (sIsLabel_v l hs) ?_)
    cases isLabel l with
    | false => rfl
    | true => exact cF rfl (afL z l hx hs _ (l16Copy_v _ (zone_chain z hx)) _ (sFind_v z.2 l (by omega)) Z131 l8Copy_v _ (sProveE_v z.2 l he hl) _ (sProveAbs_v z.2 l he hl hs))
theorem iAnswerFor_v (z : TZone) (l : ByteArray) (hx : sizeZone z ≤ 1050000) (hs : l.size ≤ 1050000) : Z88 z l = some (answerFor z l) := by
  unfold Z88 answerFor
  refine bnd (iIsZone_v z hx) ?_
  cases hz : isZone z with
  | false => rfl
  | true =>
    have he := zone_ents z hx
    have hl := areEntries_len z.2 (isZone_ents z hz)
    refine cF rfl (bnd (iIsLabel_v l hs) ?_)
    cases isLabel l with
    | false => rfl
    | true => exact cF rfl (afL z l hx hs _ (copyChain_v _ (zone_chain z hx)) _ (iFind_v z.2 l (by omega)) Z128 copyEntry_v _ (iProveE_v z.2 l he hl) _ (iProveAbs_v z.2 l he hl hs))
theorem gapRt_size (xs : List TEntry) (k : Nat) (B : TEntry) (L : TProof) (hx : sizeEntryS xs ≤ 1050000) (hB : sizeEntry B ≤ 1050000) (hL : sizeProof L ≤ 1050000) : sizeGap (gapRt xs k B L) ≤ 4200000 := by
  have h1 := ent_getD xs k hx
  have h2 := proveE_len xs (xs.getD k dEntry).1
  have hl : xs.length ≤ 1050000 := by unfold sizeEntryS sizeS at hx; omega
  unfold gapRt sizeGap
  cases decide (k < xs.length) with
  | true =>
    rw [cond_t, (Gap_s _ _ _ _ _).2.1, (Gap_s _ _ _ _ _).2.2.1, (Gap_s _ _ _ _ _).2.2.2.1, (Gap_s _ _ _ _ _).2.2.2.2]
    omega
  | false =>
    rw [cond_f, (Gap_s _ _ _ _ _).2.1, (Gap_s _ _ _ _ _).2.2.1, (Gap_s _ _ _ _ _).2.2.2.1, (Gap_s _ _ _ _ _).2.2.2.2]
    have e1 : sizeEntry dEntry = 0 := rfl
    have e2 : sizeProof dProof = 0 := rfl
    omega
theorem proveAbs_size (xs : List TEntry) (l : ByteArray) (hx : sizeEntryS xs ≤ 1050000) : sizeGap (RGapBool_r0 (proveAbs xs l)) ≤ 4200000 := by
  have hl : xs.length ≤ 1050000 := by unfold sizeEntryS sizeS at hx; omega
  unfold proveAbs
  cases (areEntries xs && (isLabel l && !decide (findE xs l ≥ 0))) with
  | false => exact Nat.zero_le _
  | true =>
    rw [cond_t, (RGapBool_s _ _).1]
    unfold gapOf
    cases decide (0 < rk xs l) with
    | true =>
      have h2 := proveE_len xs (xs.getD (rk xs l - 1) dEntry).1
      rw [cond_t]
      exact gapRt_size xs _ _ _ hx (ent_getD xs _ hx) (by omega)
    | false => rw [cond_f]; exact gapRt_size xs _ _ _ hx (Nat.zero_le _) (Nat.zero_le _)
theorem answerFor_size (z : TZone) (l : ByteArray) (hx : sizeZone z ≤ 1050000) : sizeAnswer (answerFor z l) ≤ 7350000 := by
  have h1 := zone_chain z hx
  have h2 := zone_ents z hx
  have hl : z.2.length ≤ 1050000 := by unfold sizeEntryS sizeS at h2; omega
  have h3 := proveAbs_size z.2 l h2
  have h4 := ent_getD z.2 (findE z.2 l).toNat h2
  have h5 := proveE_len z.2 l
  have e1 : sizeEntry dEntry = 0 := rfl
  have e2 : sizeProof dProof = 0 := rfl
  have e3 : sizeGap dGap = 0 := rfl
  unfold answerFor answerIn
  cases (isZone z && isLabel l) with
  | false => exact Nat.zero_le _
  | true =>
    rw [cond_t]
    unfold sizeAnswer
    cases decide (findE z.2 l ≥ 0) with
    | true =>
      rw [cond_t, (Answer_s _ _ _ _ _).1, (Answer_s _ _ _ _ _).2.2.1, (Answer_s _ _ _ _ _).2.2.2.1, (Answer_s _ _ _ _ _).2.2.2.2]
      omega
    | false =>
      rw [cond_f, (Answer_s _ _ _ _ _).1, (Answer_s _ _ _ _ _).2.2.1, (Answer_s _ _ _ _ _).2.2.2.1, (Answer_s _ _ _ _ _).2.2.2.2]
      omega
def lieV (y : TAnswer) : TAnswer := Answer_mk (Answer_Chain y) (Answer_Found y) ((Answer_Entry y).1, (Answer_Entry y).2.1, IntKind.i64.wrap ((Answer_Entry y).2.2.1 + (1 : Int)), (Answer_Entry y).2.2.2) (Answer_Proof y) (Answer_Gap y)
def lieO (y : TAnswer) : TAnswer := Answer_mk ((Answer_Chain y).take ((Answer_Chain y).length - 1)) (Answer_Found y) (Answer_Entry y) (Answer_Proof y) (Answer_Gap y)
def lieD (y : TAnswer) : TAnswer := Answer_mk (Answer_Chain y) false dEntry dProof dGap
def lie (k : Int) (y : TAnswer) : TAnswer := bif k == (1 : Int) then lieV y else bif k == (2 : Int) then lieO y else bif k == (3 : Int) then lieD y else y
noncomputable def ask (s : TServer) (zone : Int) (l : ByteArray) : TAnswer := bif decide (servedZone s zone < 0) then dAnswer else bif s.2 == (4 : Int) then dAnswer else lie s.2 (answerFor (s.1.getD (servedZone s zone).toNat dZone) l)
theorem zone_getD (xs : List TZone) (i : Nat) (hx : sizeZoneS xs ≤ 1050000) : sizeZone (xs.getD i dZone) ≤ 1050000 := by
  by_cases h : i < xs.length
  · rw [at_n h]; exact zone_at h hx
  · have e : xs.getD i dZone = dZone := by simp [List.getD, show xs.length ≤ i by omega]
    rw [e]; exact Nat.zero_le _
theorem answerFor_chain (z : TZone) (l : ByteArray) (hx : sizeZone z ≤ 1050000) : (Answer_Chain (answerFor z l)).length ≤ 1050000 := by
  have h := zone_chain z hx
  have h1 : z.1.length ≤ 1050000 := by unfold sizeSignedS sizeS at h; omega
  unfold answerFor answerIn
  cases (isZone z && isLabel l) with
  | false => exact Nat.zero_le _
  | true =>
    cases decide (findE z.2 l ≥ 0) with
    | true => rw [cond_t, cond_t, (Answer_s _ _ _ _ _).1]; exact h1
    | false => rw [cond_t, cond_f, (Answer_s _ _ _ _ _).1]; exact h1
theorem sAsk9_v (s : TServer) (l : ByteArray) (i : Int) (h0 : 0 ≤ i) (h1 : i < (s.1.length : Int)) (hx : sizeServer s ≤ 1050000) (hl : l.size ≤ 1050000) : Z87.l9 s l i = some (lie s.2 (answerFor (s.1.getD i.toNat dZone) l)) := by
  have hz := zone_getD s.1 i.toNat (server_zones s hx)
  have hc := answerFor_chain (s.1.getD i.toNat dZone) l hz
  refine cT (decide_eq_true h0) (cT (decide_eq_true h1) (bnd (sAnswerFor_v _ l hz hl) ?_))
  generalize answerFor (s.1.getD i.toNat dZone) l = y at hc ⊢
  unfold lie
  cases hk1 : (s.2 == (1 : Int)) with
  | true => exact cT rfl rfl
  | false =>
    refine cF rfl ?_
    rw [cond_f]
    cases hk2 : (s.2 == (2 : Int)) with
    | true =>
      refine cT rfl ?_
      rw [cond_t]
      by_cases hp : 0 < (Answer_Chain y).length
      · have ew : IntKind.i64.wrap (((Answer_Chain y).length : Int) - (1 : Int)) = (((Answer_Chain y).length - 1 : Nat) : Int) := by rw [w64 (by omega) (by omega)]; omega
        refine cT (decide_eq_true (by omega)) (cT rfl ?_)
        rw [ew]
        refine cT ge_t (cT (decide_eq_true (by omega)) ?_)
        rw [Int.toNat_natCast]; rfl
      · refine cF (decide_eq_false (by omega)) ?_
        have e : (Answer_Chain y).take ((Answer_Chain y).length - 1) = Answer_Chain y := by
          have : Answer_Chain y = [] := List.eq_nil_of_length_eq_zero (by omega)
          rw [this]; rfl
        unfold lieO
        rw [e, Answer_e]
    | false =>
      refine cF rfl ?_
      rw [cond_f]
      cases (s.2 == (3 : Int)) <;> rfl
theorem iAsk9_v (s : TServer) (l : ByteArray) (i : Int) (h0 : 0 ≤ i) (h1 : i < (s.1.length : Int)) (hx : sizeServer s ≤ 1050000) (hl : l.size ≤ 1050000) : Z85.l9 s l i = some (lie s.2 (answerFor (s.1.getD i.toNat dZone) l)) := by
  have hz := zone_getD s.1 i.toNat (server_zones s hx)
  have hc := answerFor_chain (s.1.getD i.toNat dZone) l hz
  refine cT (decide_eq_true h0) (cT (decide_eq_true h1) (bnd (iAnswerFor_v _ l hz hl) ?_))
  generalize answerFor (s.1.getD i.toNat dZone) l = y at hc ⊢
  unfold lie
  cases hk1 : (s.2 == (1 : Int)) with
  | true => exact cT rfl rfl
  | false =>
    refine cF rfl ?_
    rw [cond_f]
    cases hk2 : (s.2 == (2 : Int)) with
    | true =>
      refine cT rfl ?_
      rw [cond_t]
      have em : V.mm true (0 : Int) (IntKind.i64.wrap (((Answer_Chain y).length : Int) - (1 : Int))) = (((Answer_Chain y).length - 1 : Nat) : Int) := by
        rw [w64 (by omega) (by omega)]
        show (if ((Answer_Chain y).length : Int) - 1 > 0 then ((Answer_Chain y).length : Int) - 1 else 0) = _
        by_cases hp : ((Answer_Chain y).length : Int) - 1 > 0
        · rw [if_pos hp]; omega
        · rw [if_neg hp]; omega
      rw [em]
      refine cT rfl (cT ge_t (cT (decide_eq_true (by omega)) ?_))
      rw [Int.toNat_natCast]; rfl
    | false =>
      refine cF rfl ?_
      rw [cond_f]
      cases (s.2 == (3 : Int)) <;> rfl
theorem sAsk_v (s : TServer) (zone : Int) (l : ByteArray) (hx : sizeServer s ≤ 1050000) (hl : l.size ≤ 1050000) : Z87 s zone l = some (ask s zone l) := by
  unfold Z87 ask
  refine bnd (sServedZone_v s zone hx) ?_
  by_cases h : servedZone s zone < 0
  · rw [decide_eq_true h]; rfl
  · rw [decide_eq_false h, cond_f, cond_f]
    cases (s.2 == (4 : Int)) with
    | true => rfl
    | false => exact sAsk9_v s l _ (by omega) (served_hi s zone (by omega)) hx hl
theorem iAsk_v (s : TServer) (zone : Int) (l : ByteArray) (hx : sizeServer s ≤ 1050000) (hl : l.size ≤ 1050000) : Z85 s zone l = some (ask s zone l) := by
  unfold Z85 ask
  refine bnd (iServedZone_v s zone hx) ?_
  by_cases h : servedZone s zone < 0
  · rw [decide_eq_true h]; rfl
  · rw [decide_eq_false h, cond_f, cond_f]
    cases (s.2 == (4 : Int)) with
    | true => rfl
    | false => exact iAsk9_v s l _ (by omega) (served_hi s zone (by omega)) hx hl
theorem take_size (xs : List TSigned) : ∀ k, sizeSignedS (xs.take k) ≤ sizeSignedS xs := by
  have h : ∀ (xs : List TSigned) k, ((xs.take k).map sizeSigned).sum ≤ (xs.map sizeSigned).sum := by
    intro xs
    induction xs with
    | nil => intro k; simp
    | cons x t ih =>
      intro k
      cases k with
      | zero => simp
      | succ k => have := ih k; simp only [List.take_succ_cons, List.map_cons, List.sum_cons]; omega
  intro k
  have := h xs k
  unfold sizeSignedS sizeS
  rw [List.length_take]
  omega
theorem lie_size (k : Int) (y : TAnswer) : sizeAnswer (lie k y) ≤ sizeAnswer y := by
  have e1 : sizeEntry dEntry = 0 := rfl
  have e2 : sizeProof dProof = 0 := rfl
  have e3 : sizeGap dGap = 0 := rfl
  have ht := take_size (Answer_Chain y) ((Answer_Chain y).length - 1)
  unfold lie
  cases (k == (1 : Int)) with
  | true => exact Nat.le_refl _
  | false =>
    cases (k == (2 : Int)) with
    | true =>
      rw [cond_f, cond_t]
      unfold lieO sizeAnswer
      rw [(Answer_s _ _ _ _ _).1, (Answer_s _ _ _ _ _).2.2.1, (Answer_s _ _ _ _ _).2.2.2.1, (Answer_s _ _ _ _ _).2.2.2.2]
      omega
    | false =>
      cases (k == (3 : Int)) with
      | true =>
        rw [cond_f, cond_f, cond_t]
        unfold lieD sizeAnswer
        rw [(Answer_s _ _ _ _ _).1, (Answer_s _ _ _ _ _).2.2.1, (Answer_s _ _ _ _ _).2.2.2.1, (Answer_s _ _ _ _ _).2.2.2.2]
        omega
      | false => exact Nat.le_refl _
theorem ask_size (s : TServer) (zone : Int) (l : ByteArray) (hx : sizeServer s ≤ 1050000) : sizeAnswer (ask s zone l) ≤ 7350000 := by
  unfold ask
  cases decide (servedZone s zone < 0) with
  | true => exact Nat.zero_le _
  | false =>
    cases (s.2 == (4 : Int)) with
    | true => exact Nat.zero_le _
    | false =>
      rw [cond_f, cond_f]
      exact Nat.le_trans (lie_size _ _) (answerFor_size _ l (zone_getD s.1 _ (server_zones s hx)))
noncomputable def askAll (xs : List TServer) (zone : Int) (l : ByteArray) : List TAnswer := (xs.take 4).map fun s => ask s zone l
theorem server_at {xs : List TServer} {i : Nat} (h : i < xs.length) {n : Nat} (hx : sizeServerS xs ≤ n) : sizeServer xs[i] ≤ n := by
  have := size_at sizeServer h
  unfold sizeServerS sizeS at hx
  omega
theorem sAskAll_v (xs : List TServer) (zone : Int) (l : ByteArray) (hx : sizeServerS xs ≤ 1050000) (hl : l.size ≤ 1050000) : Z10 xs zone l = some (askAll xs zone l) := by
  have hn : xs.length ≤ 1050000 := by unfold sizeServerS sizeS at hx; omega
  have hh : ∀ i n, i ≤ min 4 xs.length → min 4 xs.length - i < n → Z10.l6 xs zone l n (i : Int) ((xs.take i).map fun s => ask s zone l) = some (askAll xs zone l) := by
    refine idx_ind ?_ ?_
    · intro n
      rw [Z10.u6]
      unfold askAll
      have e : xs.take (min 4 xs.length) = xs.take 4 := by
        by_cases h : 4 ≤ xs.length
        · rw [Nat.min_eq_left h]
        · rw [Nat.min_eq_right (by omega), List.take_length, List.take_of_length_le (by omega)]
      rw [e]
      by_cases h : 4 ≤ xs.length
      · have e4 : min 4 xs.length = 4 := Nat.min_eq_left h
        rw [e4]
        by_cases h5 : 4 < xs.length
        · exact cT (lt_t h5) (cF (by decide) rfl)
        · exact cF (lt_f (by omega)) rfl
      · have e4 : min 4 xs.length = xs.length := Nat.min_eq_right (by omega)
        rw [e4]
        exact cF (lt_f (Nat.le_refl _)) rfl
    · intro i n hi ih
      have h1 : i < xs.length := by omega
      have h2 : i < 4 := by omega
      rw [Z10.u6]
      refine cT (lt_t h1) (cT (decide_eq_true (by omega)) ?_)
      unfold Z10.l11
      refine cT ge_t (cT (lt_t h1) (bnd (sAsk_v _ zone l (by rw [Int.toNat_natCast, at_n h1]; exact server_at h1 hx) hl) (cT (decide_eq_true ?_) ?_)))
      · rw [List.length_map, List.length_take]; show _ + 1 < _; omega
      · rw [w64_succ (by omega), Int.toNat_natCast, at_n h1]
        have e : ((xs.take i).map fun s => ask s zone l) ++ [ask xs[i] zone l] = (xs.take (i + 1)).map fun s => ask s zone l := by
          rw [← List.take_append_getElem h1, List.map_append]; rfl
        rw [e]
        exact ih
  have := hh 0 KK (Nat.zero_le _) (KK_gt (by omega))
  rw [List.take_zero, List.map_nil] at this
  exact this
theorem iAskAll_v (xs : List TServer) (zone : Int) (l : ByteArray) (hx : sizeServerS xs ≤ 1050000) (hl : l.size ≤ 1050000) : Z40 xs zone l = some (askAll xs zone l) := by
  have hn : xs.length ≤ 1050000 := by unfold sizeServerS sizeS at hx; omega
  have em : V.mm false (4 : Int) (xs.length : Int) = ((min 4 xs.length : Nat) : Int) := by
    show (if (xs.length : Int) < 4 then (xs.length : Int) else 4) = _
    by_cases h : (xs.length : Int) < 4
    · rw [if_pos h]; omega
    · rw [if_neg h]; omega
  unfold Z40
  refine cT rfl ?_
  rw [em]
  refine cT ge_t (cT (decide_eq_true (by omega)) ?_)
  rw [Int.toNat_natCast]
  have e : xs.take (min 4 xs.length) = xs.take 4 := by
    by_cases h : 4 ≤ xs.length
    · rw [Nat.min_eq_left h]
    · rw [Nat.min_eq_right (by omega), List.take_length, List.take_of_length_le (by omega)]
  rw [e]
  have hy : ∀ i (h : i < (xs.take 4).length), Z85 (xs.take 4)[i] zone l = some (ask (xs.take 4)[i] zone l) := by
    intro i h
    rw [List.getElem_take]
    exact iAsk_v _ zone l (server_at _ hx) hl
  unfold askAll
  refine mapL (xs.take 4) dServer (fun s => Z85 s zone l) (fun s => ask s zone l) [] (by rw [List.length_take]; omega) (by simp) hy (fun n ys a => Z40.l6 zone l n (xs.take 4) ((xs.take 4).length : Int) a ys) (fun n ys a => ?_)
  exact Z40.u6 zone l n (xs.take 4) ((xs.take 4).length : Int) a ys
theorem askAll_size (xs : List TServer) (zone : Int) (l : ByteArray) (hx : sizeServerS xs ≤ 1050000) : sizeAnswerS (askAll xs zone l) ≤ 29400004 := by
  have hs := sum_le sizeAnswer 7350000 (askAll xs zone l) (by
    intro y hy
    unfold askAll at hy
    obtain ⟨s, hs, rfl⟩ := List.mem_map.1 hy
    obtain ⟨i, hi, rfl⟩ := List.getElem_of_mem hs
    rw [List.getElem_take]
    exact ask_size _ zone l (server_at _ hx))
  have hl : (askAll xs zone l).length ≤ 4 := by unfold askAll; rw [List.length_map, List.length_take]; omega
  unfold sizeAnswerS sizeS
  omega
theorem pure_FnExactAskAll (x0 : List TServer) (x1 : Int) (x2 : ByteArray) (h0 : ServerSMax x0) (h2 : x2.size ≤ 9223372036854775807) : Z90 x0 x1 x2 = some true := by
  unfold Z90
  by_cases g2 : ((x2.size : Nat) : Int) > 1048576
  · exact cT (decide_eq_true g2) rfl
  refine cF (decide_eq_false g2) ?_
  refine sz_law (by omega) (szServerS_v _ _ h0 (by omega) (by omega)) (fun g0 => ?_)
  have b0 : sizeServerS x0 ≤ 1050000 := by omega
  have b2 : x2.size ≤ 1050000 := by omega
  obtain ⟨r, hs, hi, hr⟩ : ∃ r, Z10 x0 x1 x2 = some r ∧ Z40 x0 x1 x2 = some r ∧ sizeAnswerS r ≤ 29400004 := ⟨askAll x0 x1 x2, sAskAll_v x0 x1 x2 b0 b2, iAskAll_v x0 x1 x2 b0 b2, askAll_size x0 x1 x2 b0⟩
  refine bnd (toServerS_v x0 b0) ?_
  refine bnd hs ?_
  refine bnd (toServerS_v x0 b0) ?_
  refine bnd hi ?_
  refine bnd (eqAnswerS_v r (by omega)) ?_
  refine cF rfl ?_
  refine bnd (toServerS_v x0 b0) ?_
  refine bnd (eqServerS_v x0 (by omega)) ?_
  refine cF rfl ?_
  have k0 := endServerS_b x0 1
  refine bnd (markServerS_v x0 1 (by omega) (by omega)) ?_
  refine cF (decide_eq_false (by (try unfold RServerSInt_r1); (try dsimp only); omega)) ?_
  refine bnd (eqAnswerS_v r (by omega)) ?_
  refine cF rfl ?_
  have m0 := endAnswerS_b r 1
  refine bnd (markAnswerS_v r 1 (by omega) (by omega)) ?_
  refine bnd (heldAnswerS_v r 1 (by omega) (by omega)) ?_
  refine cF (decide_eq_false (by (try dsimp only); omega)) ?_
  refine cF (bne_self _) ?_
  refine bnd (toServerS_v x0 b0) ?_
  refine bnd hi ?_
  refine bnd (eqAnswerS_v r (by omega)) ?_
  refine cF rfl ?_
  refine bnd (heldAnswerS_v r 1 (by omega) (by omega)) ?_
  refine cF (decide_eq_false (by (try dsimp only); omega)) ?_
  refine cF (bne_self _) ?_
  rfl

end Go.Proofs.YtddgjofdkdmmmaaGreat
