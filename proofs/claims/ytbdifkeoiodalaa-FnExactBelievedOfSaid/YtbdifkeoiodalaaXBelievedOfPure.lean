/- The plain law of FnExactBelievedOf: what the printed functions compute is true, for all data in range. -/
import Derived.Test.YtbdifkeoiodalaaXBelievedOfPure0
namespace Go.Proofs.Ytbdifkeoiodalaa
open V
set_option linter.unusedVariables false
set_option linter.unusedSimpArgs false
set_option maxHeartbeats 1000000
theorem bnd {α β : Type} {e : Option α} {a : α} {f : α → Option β} {r : Option β} (h : e = some a) (hf : f a = r) : e.bind f = r := by rw [h, bind_s]; exact hf
theorem bndk {α β : Type} {f : Int → Option α} {k k' : Int} (hk : k' = k) {a : α} (h : f k = some a) {g : α → Option β} {r : Option β} (hg : g a = r) : (f k').bind g = r := by rw [hk, h, bind_s]; exact hg
theorem cF {α : Type} {c : Bool} {a b r : α} (h : c = false) (hb : b = r) : (bif c then a else b) = r := by rw [h, cond_f]; exact hb
theorem cT {α : Type} {c : Bool} {a b r : α} (h : c = true) (ha : a = r) : (bif c then a else b) = r := by rw [h, cond_t]; exact ha
theorem nbeq {α : Type} [BEq α] [ReflBEq α] (a : α) : (!(a == a)) = false := by rw [beq_self_eq_true]; rfl
def szR (s : Nat) (L : Int) : Int := if (s : Int) ≤ L then L - s else -1
theorem szR_b {s1 s2 : Nat} {L : Int} (h0 : 0 ≤ L) (h1 : L ≤ 1048576) {e : Option Int} (he : e = some (szR s1 L)) {f : Int → Option Int} (hf : ∀ M, 0 ≤ M → M ≤ 1048576 → f M = some (szR s2 M)) : (e.bind fun y => bif decide (y < (0 : Int)) then some (-1 : Int) else f y) = some (szR (s1 + s2) L) := by
  rw [he, bind_s]
  unfold szR
  by_cases g : (s1 : Int) ≤ L
  · rw [if_pos g, decide_eq_false (by omega), cond_f, hf _ (by omega) (by omega)]
    unfold szR
    by_cases k : (s2 : Int) ≤ L - s1
    · rw [if_pos k, if_pos (by omega)]; congr 1; omega
    · rw [if_neg k, if_neg (by omega)]
  · rw [if_neg g, decide_eq_true (by omega), cond_t, if_neg (by omega)]
theorem szR_l {s : Nat} {L : Int} (h0 : 0 ≤ L) {e : Option Int} (he : e = some (szR s L)) : (e.bind fun y => bif decide (y < (0 : Int)) then some (-1 : Int) else some y) = some (szR s L) := by
  rw [he, bind_s]
  unfold szR
  by_cases g : (s : Int) ≤ L
  · rw [if_pos g, decide_eq_false (by omega), cond_f]
  · rw [if_neg g, decide_eq_true (by omega), cond_t]
theorem szR_s {s1 s2 : Nat} {L : Int} (h0 : 0 ≤ L) (h1 : L ≤ 1048576) (hm : s1 ≤ 9223372036854775807) {f : Int → Option Int} (hf : ∀ M, 0 ≤ M → M ≤ 1048576 → f M = some (szR s2 M)) : (bif decide (IntKind.i64.wrap (L - (s1 : Int)) < (0 : Int)) then some (-1 : Int) else f (IntKind.i64.wrap (L - (s1 : Int)))) = some (szR (s1 + s2) L) := by
  rw [w64 (by omega) (by omega)]
  unfold szR
  by_cases g : (s1 : Int) ≤ L
  · rw [decide_eq_false (by omega), cond_f, hf _ (by omega) (by omega)]
    unfold szR
    by_cases k : (s2 : Int) ≤ L - s1
    · rw [if_pos k, if_pos (by omega)]; congr 1; omega
    · rw [if_neg k, if_neg (by omega)]
  · rw [decide_eq_true (by omega), cond_t, if_neg (by omega)]
theorem sz_law {s : Nat} {L : Int} (h0 : 0 ≤ L) {e : Option Int} (he : e = some (szR s L)) {f : Int → Option Bool} (hf : (s : Int) ≤ L → f (L - s) = some true) : (e.bind fun y => bif decide (y < (0 : Int)) then some true else f y) = some true := by
  rw [he, bind_s]
  unfold szR
  by_cases g : (s : Int) ≤ L
  · rw [if_pos g, decide_eq_false (by omega), cond_f]; exact hf g
  · rw [if_neg g, decide_eq_true (by omega), cond_t]
def sizeS {α : Type} (size : α → Nat) (xs : List α) : Nat := xs.length + (xs.map size).sum
structure MaxS {α : Type} (M : α → Prop) (xs : List α) : Prop where
  len : xs.length ≤ 9223372036854775807
  each : ∀ i (h : i < xs.length), M xs[i]
theorem sum_step {α : Type} (size : α → Nat) {xs : List α} {i : Nat} (h : i < xs.length) : ((xs.drop i).map size).sum = size xs[i] + ((xs.drop (i + 1)).map size).sum := by
  rw [List.drop_eq_getElem_cons h, List.map_cons, List.sum_cons]
theorem sum_last {α : Type} (size : α → Nat) (xs : List α) : ((xs.drop xs.length).map size).sum = 0 := by
  rw [List.drop_length]; rfl
theorem size_at {α : Type} (size : α → Nat) {xs : List α} {i : Nat} (h : i < xs.length) : size xs[i] ≤ (xs.map size).sum := by
  induction xs generalizing i with
  | nil => simp at h
  | cons x t ih =>
    rw [List.map_cons, List.sum_cons]
    cases i with
    | zero => show size x ≤ _; omega
    | succ i =>
      have hi : i < t.length := by simpa using h
      have := ih hi
      show size t[i] ≤ _
      omega
theorem szList_l {α : Type} (xs : List α) (d : α) (size : α → Nat) (f : α → Int → Option Int) (hl : xs.length ≤ 1048576) (hf : ∀ i (h : i < xs.length) (L : Int), 0 ≤ L → L ≤ 1048576 → f xs[i] L = some (if (size xs[i] : Int) ≤ L then L - size xs[i] else -1)) (l : Nat → Int → Int → Option Int) (u : ∀ n a b, l (n + 1) a b = (bif decide (b < (xs.length : Int)) then bif decide (0 ≤ b) then bif decide (b < (xs.length : Int)) then (f (xs.getD b.toNat d) a).bind fun y1 => bif decide (y1 < (0 : Int)) then some (-1 : Int) else l n y1 (IntKind.i64.wrap (b + (1 : Int))) else none else none else some a)) : ∀ i n, i ≤ xs.length → xs.length - i < n → ∀ L : Int, 0 ≤ L → L ≤ 1048576 → l n L (i : Int) = some (if (((xs.drop i).map size).sum : Int) ≤ L then L - ((xs.drop i).map size).sum else -1) := by
  refine idx_ind ?_ ?_
  · intro n L h0 h1
    rw [u]
    simp only [lt_f (Nat.le_refl _), cond_f, sum_last]
    rw [if_pos (by omega)]
    congr 1; omega
  · intro i n hi ih L h0 h1
    rw [u]
    simp only [lt_t hi, ge_t, cond_t, Int.toNat_natCast, at_n hi, hf i hi L h0 h1, bind_s, w64_succ (i := i) (by omega)]
    rw [sum_step _ hi]
    by_cases g : (size xs[i] : Int) ≤ L
    · rw [if_pos g, decide_eq_false (by omega), cond_f, ih _ (by omega) (by omega)]
      by_cases k : ((((xs.drop (i + 1)).map size).sum : Nat) : Int) ≤ L - size xs[i]
      · rw [if_pos k, if_pos (by omega)]; congr 1; omega
      · rw [if_neg k, if_neg (by omega)]
    · rw [if_neg g, decide_eq_true (by omega), cond_t, if_neg (by omega)]
theorem szList_v {α : Type} (xs : List α) (d : α) (size : α → Nat) (f : α → Int → Option Int) (L : Int) (hm : xs.length ≤ 9223372036854775807) (h0 : 0 ≤ L) (h1 : L ≤ 1048576) (hf : ∀ i (h : i < xs.length) (L : Int), 0 ≤ L → L ≤ 1048576 → f xs[i] L = some (if (size xs[i] : Int) ≤ L then L - size xs[i] else -1)) (l : Nat → Int → Int → Option Int) (u : ∀ n a b, l (n + 1) a b = (bif decide (b < (xs.length : Int)) then bif decide (0 ≤ b) then bif decide (b < (xs.length : Int)) then (f (xs.getD b.toNat d) a).bind fun y1 => bif decide (y1 < (0 : Int)) then some (-1 : Int) else l n y1 (IntKind.i64.wrap (b + (1 : Int))) else none else none else some a)) : (bif decide ((IntKind.i64.wrap (L - (xs.length : Int))) < (0 : Int)) then some (-1 : Int) else l KK (IntKind.i64.wrap (L - (xs.length : Int))) (0 : Int)) = some (if (sizeS size xs : Int) ≤ L then L - sizeS size xs else -1) := by
  unfold sizeS
  rw [w64 (by omega) (by omega)]
  by_cases g : (xs.length : Int) ≤ L
  · have hh := szList_l xs d size f (by omega) hf l u 0 KK (Nat.zero_le _) (KK_gt (by omega)) (L - xs.length) (by omega) (by omega)
    rw [List.drop_zero] at hh
    rw [decide_eq_false (by omega), cond_f]
    refine Eq.trans hh ?_
    by_cases k : (((xs.map size).sum : Nat) : Int) ≤ L - xs.length
    · rw [if_pos k, if_pos (by omega)]; congr 1; omega
    · rw [if_neg k, if_neg (by omega)]
  · rw [decide_eq_true (by omega), cond_t, if_neg (by omega)]
theorem toList_v {α : Type} (xs : List α) (d : α) (f : α → Option α) (hl : xs.length ≤ 1048576) (hf : ∀ i (h : i < xs.length), f xs[i] = some xs[i]) (l : Nat → Int → List α → Option (List α)) (u : ∀ n a ys, l (n + 1) a ys = (bif decide (a < (xs.length : Int)) then bif decide (0 ≤ a) then bif decide (a < (xs.length : Int)) then (f (xs.getD a.toNat d)).bind fun y1 => bif decide (0 ≤ a) then bif decide (a < (ys.length : Int)) then l n (IntKind.i64.wrap (a + (1 : Int))) (ys.set a.toNat y1) else none else none else none else none else some ys)) : (bif ((xs.length : Int) == (xs.length : Int)) then bif decide (0 ≤ (xs.length : Int)) then bif decide ((xs.length : Int) < (68719476736 : Int)) then l KK (0 : Int) (List.replicate ((xs.length : Int).toNat) d) else none else none else none) = some xs := by
  have hh : ∀ i n, i ≤ xs.length → xs.length - i < n → ∀ ys, ys = xs.take i ++ List.replicate (xs.length - i) d → l n (i : Int) ys = some xs := by
    refine idx_ind ?_ ?_
    · intro n ys hy
      subst hy
      rw [u]
      simp only [lt_f (Nat.le_refl _), cond_f]
      simp
    · intro i n hi ih ys hy
      have hyl : i < ys.length := by subst hy; simp; omega
      rw [u]
      simp only [lt_t hi, lt_t hyl, ge_t, cond_t, Int.toNat_natCast, at_n hi, hf i hi, bind_s, w64_succ (i := i) (by omega)]
      exact ih _ (fill_set hy hi)
  rw [beq_self_eq_true, cond_t, ge_t, cond_t, decide_eq_true (by omega), cond_t, Int.toNat_natCast]
  have := hh 0 KK (Nat.zero_le _) (KK_gt (by omega)) _ rfl
  simpa using this
theorem eqList_v {α : Type} (xs : List α) (d : α) (f : α → α → Option Bool) (hl : xs.length ≤ 1152921504606846976) (hf : ∀ i (h : i < xs.length), f xs[i] xs[i] = some true) (l : Nat → Int → Option Bool) (u : ∀ n a, l (n + 1) a = (bif decide (a < (xs.length : Int)) then bif decide (0 ≤ a) then bif decide (a < (xs.length : Int)) then bif decide (0 ≤ a) then bif decide (a < (xs.length : Int)) then (f (xs.getD a.toNat d) (xs.getD a.toNat d)).bind fun y1 => bif !y1 then some false else l n (IntKind.i64.wrap (a + (1 : Int))) else none else none else none else none else some true)) : (bif (xs.length : Int) != (xs.length : Int) then some false else l KK (0 : Int)) = some true := by
  have hh : ∀ i n, i ≤ xs.length → xs.length - i < n → l n (i : Int) = some true := by
    refine idx_ind ?_ ?_
    · intro n
      rw [u]
      simp only [lt_f (Nat.le_refl _), cond_f]
    · intro i n hi ih
      rw [u]
      simp only [lt_t hi, ge_t, cond_t, Int.toNat_natCast, at_n hi, hf i hi, bind_s, w64_succ (i := i) (by omega), Bool.not_true, cond_f]
      exact ih
  rw [bne_self, cond_f]
  exact hh 0 KK (Nat.zero_le _) (KK_gt (by omega))
theorem upd_ln {α : Type} (xs : List α) (i : Nat) (f : α → α) : (upd xs i f).length = xs.length := by
  induction xs generalizing i with
  | nil => rfl
  | cons x t ih =>
    cases i with
    | zero => rfl
    | succ i => show (upd t i f).length + 1 = _; rw [ih]; rfl
theorem upd_upd {α : Type} (xs : List α) (i : Nat) (f g : α → α) : upd (upd xs i f) i g = upd xs i (fun z => g (f z)) := by
  induction xs generalizing i with
  | nil => rfl
  | cons x t ih =>
    cases i with
    | zero => rfl
    | succ i => show x :: upd (upd t i f) i g = x :: _; rw [ih]
theorem upd_get {α : Type} {xs : List α} {i : Nat} (h : i < xs.length) (f : α → α) (d : α) : (upd xs i f).getD i d = f xs[i] := by
  induction xs generalizing i with
  | nil => simp at h
  | cons x t ih =>
    cases i with
    | zero => rfl
    | succ i => exact ih (by simpa using h)
theorem upd_st {α : Type} {xs : List α} {i : Nat} (h : i < xs.length) (f : α → α) : upd xs i f = xs.set i (f xs[i]) := by
  induction xs generalizing i with
  | nil => simp at h
  | cons x t ih =>
    cases i with
    | zero => rfl
    | succ i => show x :: upd t i f = x :: _; rw [ih (by simpa using h)]; rfl
theorem wd {n : Int} (h : 0 ≤ n ∧ n ≤ 4611686018427387904) : IntKind.i64.wrap n = n := w64 (by omega) (by omega)
/-- Marks of a list, each element's from the last one's end. -/
def mkl {α : Type} (M : α → Int → α) (E : α → Int → Int) : List α → Int → List α
  | [], _ => []
  | x :: t, k => M x k :: mkl M E t (E x k)
def endl {α : Type} (E : α → Int → Int) : List α → Int → Int
  | [], k => k
  | x :: t, k => endl E t (E x k)
theorem endl_b {α : Type} (E : α → Int → Int) (size : α → Nat) (hE : ∀ x k, k ≤ E x k ∧ E x k ≤ k + 64 * (1 + size x)) (xs : List α) : ∀ k, k ≤ endl E xs k ∧ endl E xs k ≤ k + 64 * (sizeS size xs : Nat) := by
  induction xs with
  | nil => intro k; exact ⟨Int.le_refl _, by show k ≤ _; omega⟩
  | cons x t ih =>
    intro k
    have h1 := hE x k
    have h2 := ih (E x k)
    have e : sizeS size (x :: t) = 1 + size x + sizeS size t := by unfold sizeS; simp; omega
    show k ≤ endl E t (E x k) ∧ endl E t (E x k) ≤ _
    rw [e]
    omega
theorem mark_l {α : Type} (M : α → Int → α) (E : α → Int → Int) (size : α → Nat) (hE : ∀ x k, k ≤ E x k ∧ E x k ≤ k + 64 * (1 + size x)) (l : Nat → Int → Int → List α → Option (List α × Int)) (u0 : ∀ n k (ys : List α), l (n + 1) k (ys.length : Int) ys = some (ys, k)) (u : ∀ n k (i : Nat) (ys : List α) (hi : i < ys.length), 0 ≤ k → k + 64 * (1 + (size ys[i] : Int)) ≤ 2305843009213693952 → (i : Int) ≤ 2305843009213693952 → l (n + 1) k (i : Int) ys = l n (E ys[i] k) ((i + 1 : Nat) : Int) (ys.set i (M ys[i] k))) : ∀ (suf pre : List α) (k : Int) (n : Nat), suf.length < n → 0 ≤ k → k + 64 * (sizeS size suf : Nat) ≤ 2305843009213693952 → (pre.length : Int) + suf.length ≤ 2305843009213693952 → l n k (pre.length : Int) (pre ++ suf) = some (pre ++ mkl M E suf k, endl E suf k) := by
  intro suf
  induction suf with
  | nil =>
    intro pre k n hn h0 h1 h2
    match n, hn with
    | n + 1, _ =>
      have := u0 n k (pre ++ [])
      rw [List.append_nil] at this ⊢
      rw [this]; show _ = some (pre ++ [], k); rw [List.append_nil]
  | cons x t ih =>
    intro pre k n hn h0 h1 h2
    have e : sizeS size (x :: t) = 1 + size x + sizeS size t := by unfold sizeS; simp; omega
    rw [e] at h1
    have hx := hE x k
    match n, hn with
    | n + 1, hn =>
      have hi : pre.length < (pre ++ x :: t).length := by simp
      have hg : (pre ++ x :: t)[pre.length] = x := by simp
      rw [u n k pre.length (pre ++ x :: t) hi h0 (by rw [hg]; omega) (by omega), hg]
      have hs : (pre ++ x :: t).set pre.length (M x k) = (pre ++ [M x k]) ++ t := by simp
      have := ih (pre ++ [M x k]) (E x k) n (by simp at hn; omega) (by omega) (by omega) (by simp at h2 ⊢; omega)
      rw [hs]
      simp only [List.length_append, List.length_cons, List.length_nil] at this
      rw [show pre.length + 1 = pre.length + (0 + 1) by omega, this]
      show some ((pre ++ [M x k]) ++ mkl M E t (E x k), endl E t (E x k)) = some (pre ++ (M x k :: mkl M E t (E x k)), endl E t (E x k))
      rw [List.append_assoc]; rfl
theorem held_l {α : Type} (M : α → Int → α) (E : α → Int → Int) (size : α → Nat) (hE : ∀ x k, k ≤ E x k ∧ E x k ≤ k + 64 * (1 + size x)) (xs : List α) (l : Nat → Int → Int → Option Int) (u0 : ∀ n k, l (n + 1) k (xs.length : Int) = some k) (u : ∀ n k (i : Nat) (x : α) (hi : i < xs.length), xs[i] = M x k → 0 ≤ k → k + 64 * (1 + (size x : Int)) ≤ 2305843009213693952 → (i : Int) ≤ 2305843009213693952 → l (n + 1) k (i : Int) = l n (E x k) ((i + 1 : Nat) : Int)) : ∀ (suf : List α) (pre : List α) (k : Int) (n : Nat), xs = pre ++ mkl M E suf k → suf.length < n → 0 ≤ k → k + 64 * (sizeS size suf : Nat) ≤ 2305843009213693952 → (pre.length : Int) + suf.length ≤ 2305843009213693952 → l n k (pre.length : Int) = some (endl E suf k) := by
  intro suf
  induction suf with
  | nil =>
    intro pre k n hx hn h0 h1 h2
    match n, hn with
    | n + 1, _ =>
      have e : xs.length = pre.length := by rw [hx]; show (pre ++ []).length = _; rw [List.append_nil]
      have := u0 n k
      rw [e] at this
      exact this
  | cons x t ih =>
    intro pre k n hx hn h0 h1 h2
    have e : sizeS size (x :: t) = 1 + size x + sizeS size t := by unfold sizeS; simp; omega
    rw [e] at h1
    have hb := hE x k
    have hx' : xs = pre ++ (M x k :: mkl M E t (E x k)) := hx
    match n, hn with
    | n + 1, hn =>
      have hi : pre.length < xs.length := by rw [hx']; simp
      have hg : xs[pre.length] = M x k := by
        have : xs[pre.length]? = some (M x k) := by rw [hx']; simp
        rw [List.getElem?_eq_getElem hi] at this
        injection this
      rw [u n k pre.length x hi hg h0 (by omega) (by omega)]
      have := ih (pre ++ [M x k]) (E x k) n (by rw [hx']; simp) (by simp at hn; omega) (by omega) (by omega) (by simp at h2 ⊢; omega)
      simp only [List.length_append, List.length_cons, List.length_nil] at this
      exact this
theorem szR_fl {s : Nat} {L : Int} (h0 : 0 ≤ L) (h1 : L ≤ 1048576) (hm : s ≤ 9223372036854775807) : (bif decide (IntKind.i64.wrap (L - (s : Int)) < (0 : Int)) then some (-1 : Int) else some (IntKind.i64.wrap (L - (s : Int)))) = some (szR s L) := by
  rw [w64 (by omega) (by omega)]
  unfold szR
  by_cases g : (s : Int) ≤ L
  · rw [decide_eq_false (by omega), cond_f, if_pos g]
  · rw [decide_eq_true (by omega), cond_t, if_neg g]
theorem z30 : ((3 : Int) == (0 : Int)) = false := by decide
def size0 {α : Type} (_ : α) : Nat := 0
theorem sizeS0 {α : Type} (xs : List α) : sizeS (size0 (α := α)) xs = xs.length := by
  unfold sizeS
  have : ∀ ys : List α, (ys.map size0).sum = 0 := by
    intro ys
    induction ys with
    | nil => rfl
    | cons y t ih => rw [List.map_cons, List.sum_cons, ih]; rfl
  rw [this, Nat.add_zero]
theorem szIntS_v (x0 : List Int) (L : Int) (hx : x0.length ≤ 9223372036854775807) (h0 : 0 ≤ L) (h1 : L ≤ 1048576) : laws_szIntS x0 L = some (szR x0.length L) := by
  unfold laws_szIntS
  exact szR_fl h0 h1 hx
theorem toIntS_v (x0 : List Int) (hx : x0.length ≤ 1048576) : laws_toIntS x0 = some x0 :=
  toList_v x0 (0 : Int) (fun s => some s) hx (fun i h => rfl) (laws_toIntS.l6 x0) (fun n a b => laws_toIntS.u6 x0 n a b)
theorem eqIntS_v (x0 : List Int) (hx : x0.length ≤ 1152921504606846976) : laws_eqIntS x0 x0 = some true :=
  eqList_v x0 (0 : Int) (fun s t => some (s == t)) hx (fun i h => by rw [beq_self_eq_true]) (laws_eqIntS.l8 x0 x0) (fun n a => laws_eqIntS.u8 x0 x0 n a)
def fullInt (x : Int) (k : Int) : Int := k
def fendInt (x : Int) (k : Int) : Int := k + 1
theorem fendInt_b (x : Int) (k : Int) : k ≤ fendInt x k ∧ fendInt x k ≤ k + 64 * (1 + (size0 x : Nat)) := by
  unfold fendInt size0
  omega
def mkdIntS (xs : List Int) (k : Int) : List Int := mkl fullInt fendInt xs k
def endIntS (xs : List Int) (k : Int) : Int := endl fendInt xs k
theorem endIntS_b (xs : List Int) (k : Int) : k ≤ endIntS xs k ∧ endIntS xs k ≤ k + 64 * (xs.length : Nat) := by
  have := endl_b fendInt size0 (fendInt_b) xs k
  rw [sizeS0] at this
  exact this
theorem markIntS_v (xs : List Int) (k : Int) (h0 : 0 ≤ k) (h1 : k + 64 * (xs.length : Nat) ≤ 2305843009213693952) : laws_markIntS xs k = some (mkdIntS xs k, endIntS xs k) := by
  refine mark_l fullInt fendInt size0 (fendInt_b) laws_markIntS.l4 (fun n k ys => ?_) (fun n k i ys hi h0 h1 h2 => ?_) xs [] k KK (KK_gt (by omega)) h0 (by rw [sizeS0]; exact h1) (by simp; omega)
  · rw [laws_markIntS.u4]
    simp only [laws_markIntS.g4, lt_f (Nat.le_refl _), cond_f]
  · rw [laws_markIntS.u4]
    unfold size0 at h1
    simp only [laws_markIntS.g4, upd_ln, upd_upd, upd_get hi, lt_t hi, ge_t, cond_t, Int.toNat_natCast, at_n hi, z30, cond_f]
    simp (disch := omega) only [wd]
    rfl
def sizeStr (x : ByteArray) : Nat := x.size
def StrMax (x : ByteArray) : Prop := x.size ≤ 9223372036854775807
def sizeStringS (xs : List ByteArray) : Nat := sizeS sizeStr xs
def StringSMax (xs : List ByteArray) : Prop := MaxS StrMax xs
theorem szStr_v (x : ByteArray) (L : Int) (hx : StrMax x) (h0 : 0 ≤ L) (h1 : L ≤ 1048576) : (bif decide ((IntKind.i64.wrap (L - (x.size : Int))) < (0 : Int)) then some (-1 : Int) else some (IntKind.i64.wrap (L - (x.size : Int)))) = some (szR (sizeStr x) L) := szR_fl h0 h1 hx
theorem str_bif (c : Bool) (a b : Int) (g : Int → Option Int) (hc : c = decide (b < 0)) : (bif c then some (-1 : Int) else g b) = ((bif c then some (-1 : Int) else some b) : Option Int).bind fun y1 => bif decide (y1 < (0 : Int)) then some (-1 : Int) else g y1 := by
  subst hc
  by_cases h : b < 0
  · rw [decide_eq_true h, cond_t, cond_t, bind_s]; rfl
  · rw [decide_eq_false h, cond_f, cond_f, bind_s, decide_eq_false h, cond_f]
theorem szStringS_v (x0 : List ByteArray) (L : Int) (hx : StringSMax x0) (h0 : 0 ≤ L) (h1 : L ≤ 1048576) : laws_szStringS x0 L = some (szR (sizeStringS x0) L) := by
  refine szList_v x0 (⟨#[]⟩ : ByteArray) sizeStr (fun s L => bif decide ((IntKind.i64.wrap (L - (s.size : Int))) < (0 : Int)) then some (-1 : Int) else some (IntKind.i64.wrap (L - (s.size : Int)))) L hx.len h0 h1 (fun i h L h0 h1 => szStr_v _ _ (hx.each i h) h0 h1) (laws_szStringS.l10 x0) (fun n a b => ?_)
  rw [laws_szStringS.u10]
  simp only [laws_szStringS.g10]
  rw [str_bif _ a _ (fun y => laws_szStringS.l10 x0 n y (IntKind.i64.wrap (b + (1 : Int)))) rfl]
theorem toStringS_v (x0 : List ByteArray) (hx : sizeStringS x0 ≤ 1048576) : laws_toStringS x0 = some x0 :=
  toList_v x0 (⟨#[]⟩ : ByteArray) (fun s => some s) (by unfold sizeStringS sizeS at hx; omega) (fun i h => rfl) (laws_toStringS.l6 x0) (fun n a b => laws_toStringS.u6 x0 n a b)
theorem eqStringS_v (x0 : List ByteArray) (hx : sizeStringS x0 ≤ 1152921504606846976) : laws_eqStringS x0 x0 = some true := by
  refine eqList_v x0 (⟨#[]⟩ : ByteArray) (fun s t => some (s.toList == t.toList)) (by unfold sizeStringS sizeS at hx; omega) (fun i h => by rw [beq_self_eq_true]) (laws_eqStringS.l8 x0 x0) (fun n a => ?_)
  rw [laws_eqStringS.u8]
  simp only [laws_eqStringS.g8, bind_s]
theorem ba_app (a b : ByteArray) : (a ++ b).size = a.size + b.size := by
  exact ByteArray.size_append
theorem str1 (x : Int) : (strOf [x]).size = 1 := rfl
theorem markText_l : ∀ (d : Nat) (k : Int) (n : Nat) (acc : ByteArray), 0 ≤ k → k < (10 ^ d : Nat) → k ≤ 4611686018427387904 → d < n → acc.size + d + 1 < 281474976710656 → ∃ b, laws_markText.l8 n k acc = some b := by
  intro d
  induction d with
  | zero =>
    intro k n acc h0 h1 h3 hn hs
    match n, hn with
    | n + 1, _ =>
      rw [laws_markText.u8]
      have e : ((⟨#[109]⟩ : ByteArray).size : Nat) = 1 := rfl
      refine ⟨_, cF (decide_eq_false (by simp at h1; omega)) (cT (decide_eq_true (by rw [e]; omega)) rfl)⟩
  | succ d ih =>
    intro k n acc h0 h1 h3 hn hs
    match n, hn with
    | n + 1, hn =>
      rw [laws_markText.u8]
      by_cases hk : 0 < k
      · have hd : 0 ≤ Int.tdiv k 10 := Int.tdiv_nonneg h0 (by omega)
        have hdv : Int.tdiv k 10 = k / 10 := Int.tdiv_eq_ediv_of_nonneg h0
        have hlt : k / 10 < ((10 ^ d : Nat) : Int) := by
          refine Int.ediv_lt_of_lt_mul (by omega) ?_
          rw [Nat.pow_succ] at h1
          omega
        have hz : ((10 : Int) == (0 : Int)) = false := by decide
        obtain ⟨b, hb⟩ := ih (k / 10) n (strOf [IntKind.u8.wrap (IntKind.i64.wrap ((48 : Int) + (Int.tmod k (10 : Int))))] ++ acc) (by omega) hlt (by omega) (by omega) (by rw [ba_app, str1]; omega)
        refine ⟨b, cT (decide_eq_true hk) (cF hz (cT (decide_eq_true (by rw [str1]; omega)) (cF hz ?_)))⟩
        rw [hdv, wd (n := k / 10) (by omega)]
        exact hb
      · have e : ((⟨#[109]⟩ : ByteArray).size : Nat) = 1 := rfl
        exact ⟨_, cF (decide_eq_false hk) (cT (decide_eq_true (by rw [e]; omega)) rfl)⟩
theorem markText_ex (k : Int) (h0 : 0 ≤ k) (h1 : k ≤ 4611686018427387904) : ∃ b, laws_markText k = some b := by
  unfold laws_markText
  by_cases h : k ≤ 0
  · exact ⟨_, cT (decide_eq_true h) rfl⟩
  · have e19 : ((10 ^ 19 : Nat) : Int) = 10000000000000000000 := by decide
    obtain ⟨b, hb⟩ := markText_l 19 k KK ⟨#[]⟩ h0 (by rw [e19]; omega) h1 (KK_gt (by omega)) (by show 0 + 19 + 1 < _; omega)
    exact ⟨b, cF (decide_eq_false h) hb⟩
noncomputable def mtext (k : Int) : ByteArray := (laws_markText k).getD ⟨#[]⟩
theorem markText_v (k : Int) (h0 : 0 ≤ k) (h1 : k ≤ 4611686018427387904) : laws_markText k = some (mtext k) := by
  obtain ⟨b, hb⟩ := markText_ex k h0 h1
  unfold mtext
  rw [hb]; rfl
noncomputable def fullStr (_ : ByteArray) (k : Int) : ByteArray := mtext k
def fendStr (_ : ByteArray) (k : Int) : Int := k + 1
theorem fendStr_b (x : ByteArray) (k : Int) : k ≤ fendStr x k ∧ fendStr x k ≤ k + 64 * (1 + (sizeStr x : Nat)) := by
  unfold fendStr; omega
noncomputable def mkdStringS (xs : List ByteArray) (k : Int) : List ByteArray := mkl fullStr fendStr xs k
def endStringS (xs : List ByteArray) (k : Int) : Int := endl fendStr xs k
theorem endStringS_b (xs : List ByteArray) (k : Int) : k ≤ endStringS xs k ∧ endStringS xs k ≤ k + 64 * (sizeStringS xs : Nat) :=
  endl_b fendStr sizeStr fendStr_b xs k
theorem markStringS_v (xs : List ByteArray) (k : Int) (h0 : 0 ≤ k) (h1 : k + 64 * (sizeStringS xs : Nat) ≤ 2305843009213693952) : laws_markStringS xs k = some (mkdStringS xs k, endStringS xs k) := by
  refine mark_l fullStr fendStr sizeStr fendStr_b laws_markStringS.l4 (fun n k ys => ?_) (fun n k i ys hi h0 h1 h2 => ?_) xs [] k KK (KK_gt (by unfold sizeStringS sizeS at h1; omega)) h0 h1 (by unfold sizeStringS sizeS at h1; simp; omega)
  · rw [laws_markStringS.u4]
    simp only [laws_markStringS.g4, lt_f (Nat.le_refl _), cond_f]
  · rw [laws_markStringS.u4]
    simp only [laws_markStringS.g4, lt_t hi, ge_t, cond_t, Int.toNat_natCast, markText_v k h0 (by omega), bind_s]
    rw [wd (n := (i : Int) + 1) (by omega), wd (n := k + 1) (by omega)]
    rfl
theorem heldStringS_v (xs : List ByteArray) (k : Int) (h0 : 0 ≤ k) (h1 : k + 64 * (sizeStringS xs : Nat) ≤ 2305843009213693952) : laws_heldStringS (mkdStringS xs k) k = some (endStringS xs k) := by
  refine held_l fullStr fendStr sizeStr fendStr_b (mkdStringS xs k) (laws_heldStringS.l4 (mkdStringS xs k)) (fun n k => ?_) (fun n k i x hi hx h0 h1 h2 => ?_) xs [] k KK rfl (KK_gt (by unfold sizeStringS sizeS at h1; omega)) h0 h1 (by unfold sizeStringS sizeS at h1; simp; omega)
  · rw [laws_heldStringS.u4]
    simp only [laws_heldStringS.g4, lt_f (Nat.le_refl _), cond_f]
  · rw [laws_heldStringS.u4]
    simp only [laws_heldStringS.g4, lt_t hi, ge_t, cond_t, Int.toNat_natCast, at_n hi, hx, markText_v k h0 (by omega), bind_s]
    rw [wd (n := (i : Int) + 1) (by omega), wd (n := k + 1) (by omega), show (!((fullStr x k).toList == (mtext k).toList)) = false from nbeq _, cond_f]
    rfl

def sizeKeys (x : TKeys) : Nat := x.1.length
def KeysMax (x : TKeys) : Prop := x.1.length ≤ 9223372036854775807
theorem szKeys_v (x0 : TKeys) (L : Int) (hx : KeysMax x0) (h0 : 0 ≤ L) (h1 : L ≤ 1048576) : laws_szKeys x0 L = some (szR (sizeKeys x0) L) := by
  unfold laws_szKeys sizeKeys
  exact szR_l h0 (szIntS_v _ _ hx h0 h1)
theorem toKeys_v (x0 : TKeys) (hx : sizeKeys x0 ≤ 1048576) : laws_toKeys x0 = some x0 := by
  unfold sizeKeys at hx
  unfold laws_toKeys
  exact bnd (toIntS_v _ (by omega)) (rfl)
theorem eqKeys_v (a : TKeys) (hx : sizeKeys a ≤ 1152921504606846976) : laws_eqKeys a a = some true := by
  unfold sizeKeys at hx
  unfold laws_eqKeys
  exact bnd (eqIntS_v _ (by omega)) (cF rfl (cF (bne_self _) (rfl)))
def sizeHead (x : THead) : Nat := sizeKeys (Head_Keys x) + (sizeKeys (Head_Heirs x) + (sizeKeys (Head_Judge x)))
structure HeadMax (x : THead) : Prop where
  m0 : KeysMax (Head_Keys x)
  m1 : KeysMax (Head_Heirs x)
  m2 : KeysMax (Head_Judge x)
theorem szHead_v (x0 : THead) (L : Int) (hx : HeadMax x0) (h0 : 0 ≤ L) (h1 : L ≤ 1048576) : laws_szHead x0 L = some (szR (sizeHead x0) L) := by
  unfold laws_szHead sizeHead
  exact szR_b h0 h1 (szKeys_v _ _ hx.m0 h0 h1) (fun M h0 h1 => szR_b h0 h1 (szKeys_v _ _ hx.m1 h0 h1) (fun M h0 h1 => szR_l h0 (szKeys_v _ _ hx.m2 h0 h1)))
theorem toHead_v (x0 : THead) (hx : sizeHead x0 ≤ 1048576) : laws_toHead x0 = some x0 := by
  unfold sizeHead at hx
  unfold laws_toHead
  exact bnd (toKeys_v _ (by omega)) (bnd (toKeys_v _ (by omega)) (bnd (toKeys_v _ (by omega)) (rfl)))
theorem eqHead_v (a : THead) (hx : sizeHead a ≤ 1152921504606846976) : laws_eqHead a a = some true := by
  unfold sizeHead at hx
  unfold laws_eqHead
  exact cF (bne_self _) (cF (bne_self _) (cF (bne_self _) (cF (bne_self _) (cF (bne_self _) (cF (bne_self _) (cF (bne_self _) (cF (bne_self _) (bnd (eqKeys_v _ (by omega)) (cF rfl (bnd (eqKeys_v _ (by omega)) (cF rfl (cF (bne_self _) (bnd (eqKeys_v _ (by omega)) (cF rfl (cF (nbeq _) (rfl))))))))))))))))
theorem toSig_v (x0 : TSig) : laws_toSig x0 = some x0 := rfl
theorem eqSig_v (a : TSig) : laws_eqSig a a = some true := by
  unfold laws_eqSig
  simp only [bne_self, cond_f]
theorem szSigS_v (x0 : List TSig) (L : Int) (hx : x0.length ≤ 9223372036854775807) (h0 : 0 ≤ L) (h1 : L ≤ 1048576) : laws_szSigS x0 L = some (szR x0.length L) := by
  unfold laws_szSigS
  exact szR_fl h0 h1 hx
theorem toSigS_v (x0 : List TSig) (hx : x0.length ≤ 1048576) : laws_toSigS x0 = some x0 :=
  toList_v x0 dSig laws_toSig hx (fun i h => toSig_v _) (laws_toSigS.l6 x0) (fun n a b => laws_toSigS.u6 x0 n a b)
theorem eqSigS_v (x0 : List TSig) (hx : x0.length ≤ 1152921504606846976) : laws_eqSigS x0 x0 = some true :=
  eqList_v x0 dSig laws_eqSig hx (fun i h => eqSig_v _) (laws_eqSigS.l8 x0 x0) (fun n a => laws_eqSigS.u8 x0 x0 n a)
def fullSig (x : TSig) (k : Int) : TSig := (k, k + 1)
def fendSig (x : TSig) (k : Int) : Int := k + 1 + 1
theorem fendSig_b (x : TSig) (k : Int) : k ≤ fendSig x k ∧ fendSig x k ≤ k + 64 * (1 + (size0 x : Nat)) := by
  unfold fendSig size0
  omega
def mkdSigS (xs : List TSig) (k : Int) : List TSig := mkl fullSig fendSig xs k
def endSigS (xs : List TSig) (k : Int) : Int := endl fendSig xs k
theorem endSigS_b (xs : List TSig) (k : Int) : k ≤ endSigS xs k ∧ endSigS xs k ≤ k + 64 * (xs.length : Nat) := by
  have := endl_b fendSig size0 (fendSig_b) xs k
  rw [sizeS0] at this
  exact this
theorem markSigS_v (xs : List TSig) (k : Int) (h0 : 0 ≤ k) (h1 : k + 64 * (xs.length : Nat) ≤ 2305843009213693952) : laws_markSigS xs k = some (mkdSigS xs k, endSigS xs k) := by
  refine mark_l fullSig fendSig size0 (fendSig_b) laws_markSigS.l4 (fun n k ys => ?_) (fun n k i ys hi h0 h1 h2 => ?_) xs [] k KK (KK_gt (by omega)) h0 (by rw [sizeS0]; exact h1) (by simp; omega)
  · rw [laws_markSigS.u4]
    simp only [laws_markSigS.g4, lt_f (Nat.le_refl _), cond_f]
  · rw [laws_markSigS.u4]
    unfold size0 at h1
    simp only [laws_markSigS.g4, upd_ln, upd_upd, upd_get hi, lt_t hi, ge_t, cond_t, Int.toNat_natCast, at_n hi, z30, cond_f, laws_markSigS.w1]
    try simp (disch := omega) only [wd]
    simp only [upd_st hi]
    rfl
def sizeSigned (x : TSigned) : Nat := sizeHead (Signed_Head x) + ((Signed_Sigs x).length)
structure SignedMax (x : TSigned) : Prop where
  m0 : HeadMax (Signed_Head x)
  m1 : (Signed_Sigs x).length ≤ 9223372036854775807
theorem szSigned_v (x0 : TSigned) (L : Int) (hx : SignedMax x0) (h0 : 0 ≤ L) (h1 : L ≤ 1048576) : laws_szSigned x0 L = some (szR (sizeSigned x0) L) := by
  unfold laws_szSigned sizeSigned
  exact szR_b h0 h1 (szHead_v _ _ hx.m0 h0 h1) (fun M h0 h1 => szR_l h0 (szSigS_v _ _ hx.m1 h0 h1))
theorem toSigned_v (x0 : TSigned) (hx : sizeSigned x0 ≤ 1048576) : laws_toSigned x0 = some x0 := by
  unfold sizeSigned at hx
  unfold laws_toSigned
  exact bnd (toHead_v _ (by omega)) (bnd (toSigS_v _ (by omega)) (rfl))
theorem eqSigned_v (a : TSigned) (hx : sizeSigned a ≤ 1152921504606846976) : laws_eqSigned a a = some true := by
  unfold sizeSigned at hx
  unfold laws_eqSigned
  exact bnd (eqHead_v _ (by omega)) (cF rfl (bnd (eqSigS_v _ (by omega)) (cF rfl (rfl))))
def sizeSignedS (xs : List TSigned) : Nat := sizeS sizeSigned xs
def SignedSMax (xs : List TSigned) : Prop := MaxS SignedMax xs
theorem szSignedS_v (x0 : List TSigned) (L : Int) (hx : SignedSMax x0) (h0 : 0 ≤ L) (h1 : L ≤ 1048576) : laws_szSignedS x0 L = some (szR (sizeSignedS x0) L) :=
  szList_v x0 dSigned sizeSigned laws_szSigned L hx.len h0 h1 (fun i h L h0 h1 => szSigned_v _ _ (hx.each i h) h0 h1) (laws_szSignedS.l10 x0) (fun n a b => laws_szSignedS.u10 x0 n a b)
theorem toSignedS_v (x0 : List TSigned) (hx : sizeSignedS x0 ≤ 1048576) : laws_toSignedS x0 = some x0 :=
  toList_v x0 dSigned laws_toSigned (by unfold sizeSignedS sizeS at hx; omega) (fun i h => toSigned_v _ (by have := size_at sizeSigned h; unfold sizeSignedS sizeS at hx; omega)) (laws_toSignedS.l6 x0) (fun n a b => laws_toSignedS.u6 x0 n a b)
theorem eqSignedS_v (x0 : List TSigned) (hx : sizeSignedS x0 ≤ 1152921504606846976) : laws_eqSignedS x0 x0 = some true :=
  eqList_v x0 dSigned laws_eqSigned (by unfold sizeSignedS sizeS at hx; omega) (fun i h => eqSigned_v _ (by have := size_at sizeSigned h; unfold sizeSignedS sizeS at hx; omega)) (laws_eqSignedS.l8 x0 x0) (fun n a => laws_eqSignedS.u8 x0 x0 n a)
def fullSigned (x : TSigned) (k : Int) : TSigned := Signed_mk (Head_mk k (k + 1) (k + 1 + 1) (k + 1 + 1 + 1) (k + 1 + 1 + 1 + 1) (k + 1 + 1 + 1 + 1 + 1) (k + 1 + 1 + 1 + 1 + 1 + 1) (k + 1 + 1 + 1 + 1 + 1 + 1 + 1) (mkdIntS (Head_Keys (Signed_Head x)).1 (k + 1 + 1 + 1 + 1 + 1 + 1 + 1 + 1), endIntS (Head_Keys (Signed_Head x)).1 (k + 1 + 1 + 1 + 1 + 1 + 1 + 1 + 1)) (mkdIntS (Head_Heirs (Signed_Head x)).1 (endIntS (Head_Keys (Signed_Head x)).1 (k + 1 + 1 + 1 + 1 + 1 + 1 + 1 + 1) + 1), endIntS (Head_Heirs (Signed_Head x)).1 (endIntS (Head_Keys (Signed_Head x)).1 (k + 1 + 1 + 1 + 1 + 1 + 1 + 1 + 1) + 1)) (endIntS (Head_Heirs (Signed_Head x)).1 (endIntS (Head_Keys (Signed_Head x)).1 (k + 1 + 1 + 1 + 1 + 1 + 1 + 1 + 1) + 1) + 1) (mkdIntS (Head_Judge (Signed_Head x)).1 (endIntS (Head_Heirs (Signed_Head x)).1 (endIntS (Head_Keys (Signed_Head x)).1 (k + 1 + 1 + 1 + 1 + 1 + 1 + 1 + 1) + 1) + 1 + 1), endIntS (Head_Judge (Signed_Head x)).1 (endIntS (Head_Heirs (Signed_Head x)).1 (endIntS (Head_Keys (Signed_Head x)).1 (k + 1 + 1 + 1 + 1 + 1 + 1 + 1 + 1) + 1) + 1 + 1)) (Int.tmod (endIntS (Head_Judge (Signed_Head x)).1 (endIntS (Head_Heirs (Signed_Head x)).1 (endIntS (Head_Keys (Signed_Head x)).1 (k + 1 + 1 + 1 + 1 + 1 + 1 + 1 + 1) + 1) + 1 + 1) + 1) 3 == 0)) (mkdSigS (Signed_Sigs x) (endIntS (Head_Judge (Signed_Head x)).1 (endIntS (Head_Heirs (Signed_Head x)).1 (endIntS (Head_Keys (Signed_Head x)).1 (k + 1 + 1 + 1 + 1 + 1 + 1 + 1 + 1) + 1) + 1 + 1) + 1 + 1))
def fendSigned (x : TSigned) (k : Int) : Int := endSigS (Signed_Sigs x) (endIntS (Head_Judge (Signed_Head x)).1 (endIntS (Head_Heirs (Signed_Head x)).1 (endIntS (Head_Keys (Signed_Head x)).1 (k + 1 + 1 + 1 + 1 + 1 + 1 + 1 + 1) + 1) + 1 + 1) + 1 + 1)
theorem fendSigned_b (x : TSigned) (k : Int) : k ≤ fendSigned x k ∧ fendSigned x k ≤ k + 64 * (1 + (sizeSigned x : Nat)) := by
  unfold fendSigned sizeSigned sizeHead sizeKeys
  have b0 := endIntS_b (Head_Keys (Signed_Head x)).1 (k + 1 + 1 + 1 + 1 + 1 + 1 + 1 + 1)
  have b1 := endIntS_b (Head_Heirs (Signed_Head x)).1 (endIntS (Head_Keys (Signed_Head x)).1 (k + 1 + 1 + 1 + 1 + 1 + 1 + 1 + 1) + 1)
  have b2 := endIntS_b (Head_Judge (Signed_Head x)).1 (endIntS (Head_Heirs (Signed_Head x)).1 (endIntS (Head_Keys (Signed_Head x)).1 (k + 1 + 1 + 1 + 1 + 1 + 1 + 1 + 1) + 1) + 1 + 1)
  have b3 := endSigS_b (Signed_Sigs x) (endIntS (Head_Judge (Signed_Head x)).1 (endIntS (Head_Heirs (Signed_Head x)).1 (endIntS (Head_Keys (Signed_Head x)).1 (k + 1 + 1 + 1 + 1 + 1 + 1 + 1 + 1) + 1) + 1 + 1) + 1 + 1)
  omega
def mkdSignedS (xs : List TSigned) (k : Int) : List TSigned := mkl fullSigned fendSigned xs k
def endSignedS (xs : List TSigned) (k : Int) : Int := endl fendSigned xs k
theorem endSignedS_b (xs : List TSigned) (k : Int) : k ≤ endSignedS xs k ∧ endSignedS xs k ≤ k + 64 * (sizeSignedS xs : Nat) := by
  have := endl_b fendSigned sizeSigned (fendSigned_b) xs k
  exact this
theorem markSignedS_v (xs : List TSigned) (k : Int) (h0 : 0 ≤ k) (h1 : k + 64 * (sizeSignedS xs : Nat) ≤ 2305843009213693952) : laws_markSignedS xs k = some (mkdSignedS xs k, endSignedS xs k) := by
  refine mark_l fullSigned fendSigned sizeSigned (fendSigned_b) laws_markSignedS.l4 (fun n k ys => ?_) (fun n k i ys hi h0 h1 h2 => ?_) xs [] k KK (KK_gt (by unfold sizeSignedS sizeS at h1; omega)) h0 (h1) (by unfold sizeSignedS sizeS at h1; simp; omega)
  · rw [laws_markSignedS.u4]
    simp only [laws_markSignedS.g4, lt_f (Nat.le_refl _), cond_f]
  · rw [laws_markSignedS.u4]
    unfold sizeSigned sizeHead sizeKeys at h1
    simp only [laws_markSignedS.g4, upd_ln, upd_upd, upd_get hi, lt_t hi, ge_t, cond_t, Int.toNat_natCast, at_n hi, z30, cond_f, laws_markSignedS.w1, laws_markSignedS.w2, laws_markSignedS.w3, laws_markSignedS.w4, laws_markSignedS.w5, laws_markSignedS.w6, laws_markSignedS.w7, laws_markSignedS.w8, laws_markSignedS.w9, laws_markSignedS.w10, laws_markSignedS.w11, laws_markSignedS.w12, laws_markSignedS.w13, laws_markSignedS.w14, laws_markSignedS.w15, laws_markSignedS.w16, Signed_Head, Signed_Sigs, Head_Zone, Head_Epoch, Head_Kind, Head_Time, Head_Until, Head_Count, Head_Root, Head_Prev, Head_Keys, Head_Heirs, Head_Wait, Head_Judge, Head_Frozen]
    have b0 := endIntS_b (Head_Keys (Signed_Head ys[i])).1 (k + 1 + 1 + 1 + 1 + 1 + 1 + 1 + 1)
    refine bndk (k := k + 1 + 1 + 1 + 1 + 1 + 1 + 1 + 1) (by first | rfl | (simp (disch := omega) only [wd])) (markIntS_v (Head_Keys (Signed_Head ys[i])).1 (k + 1 + 1 + 1 + 1 + 1 + 1 + 1 + 1) (by omega) (by omega)) ?_
    generalize hk0 : endIntS (Head_Keys (Signed_Head ys[i])).1 (k + 1 + 1 + 1 + 1 + 1 + 1 + 1 + 1) = k0 at b0 ⊢
    have b3 := endIntS_b (Head_Heirs (Signed_Head ys[i])).1 (k0 + 1)
    refine bndk (k := k0 + 1) (by first | rfl | (simp (disch := omega) only [wd])) (markIntS_v (Head_Heirs (Signed_Head ys[i])).1 (k0 + 1) (by omega) (by omega)) ?_
    generalize hk3 : endIntS (Head_Heirs (Signed_Head ys[i])).1 (k0 + 1) = k3 at b3 ⊢
    have b6 := endIntS_b (Head_Judge (Signed_Head ys[i])).1 (k3 + 1 + 1)
    refine bndk (k := k3 + 1 + 1) (by first | rfl | (simp (disch := omega) only [wd])) (markIntS_v (Head_Judge (Signed_Head ys[i])).1 (k3 + 1 + 1) (by omega) (by omega)) ?_
    generalize hk6 : endIntS (Head_Judge (Signed_Head ys[i])).1 (k3 + 1 + 1) = k6 at b6 ⊢
    have b9 := endSigS_b (Signed_Sigs ys[i]) (k6 + 1 + 1)
    refine bndk (k := k6 + 1 + 1) (by first | rfl | (simp (disch := omega) only [wd])) (markSigS_v (Signed_Sigs ys[i]) (k6 + 1 + 1) (by omega) (by omega)) ?_
    generalize hk9 : endSigS (Signed_Sigs ys[i]) (k6 + 1 + 1) = k9 at b9 ⊢
    try simp (disch := omega) only [wd]
    subst hk9
    subst hk6
    subst hk3
    subst hk0
    simp only [upd_st hi]
    rfl
def sizeSignedSS (xs : List (List TSigned)) : Nat := sizeS sizeSignedS xs
def SignedSSMax (xs : List (List TSigned)) : Prop := MaxS SignedSMax xs
theorem szSignedSS_v (x0 : List (List TSigned)) (L : Int) (hx : SignedSSMax x0) (h0 : 0 ≤ L) (h1 : L ≤ 1048576) : laws_szSignedSS x0 L = some (szR (sizeSignedSS x0) L) :=
  szList_v x0 ([] : List TSigned) sizeSignedS laws_szSignedS L hx.len h0 h1 (fun i h L h0 h1 => szSignedS_v _ _ (hx.each i h) h0 h1) (laws_szSignedSS.l10 x0) (fun n a b => laws_szSignedSS.u10 x0 n a b)
theorem toSignedSS_v (x0 : List (List TSigned)) (hx : sizeSignedSS x0 ≤ 1048576) : laws_toSignedSS x0 = some x0 :=
  toList_v x0 ([] : List TSigned) laws_toSignedS (by unfold sizeSignedSS sizeS at hx; omega) (fun i h => toSignedS_v _ (by have := size_at sizeSignedS h; unfold sizeSignedSS sizeS at hx; omega)) (laws_toSignedSS.l6 x0) (fun n a b => laws_toSignedSS.u6 x0 n a b)
theorem eqSignedSS_v (x0 : List (List TSigned)) (hx : sizeSignedSS x0 ≤ 1152921504606846976) : laws_eqSignedSS x0 x0 = some true :=
  eqList_v x0 ([] : List TSigned) laws_eqSignedS (by unfold sizeSignedSS sizeS at hx; omega) (fun i h => eqSignedS_v _ (by have := size_at sizeSignedS h; unfold sizeSignedSS sizeS at hx; omega)) (laws_eqSignedSS.l8 x0 x0) (fun n a => laws_eqSignedSS.u8 x0 x0 n a)
def mkdSignedSS (xs : List (List TSigned)) (k : Int) : List (List TSigned) := mkl mkdSignedS endSignedS xs k
def endSignedSS (xs : List (List TSigned)) (k : Int) : Int := endl endSignedS xs k
theorem endSignedSS_b (xs : List (List TSigned)) (k : Int) : k ≤ endSignedSS xs k ∧ endSignedSS xs k ≤ k + 64 * (sizeSignedSS xs : Nat) := by
  have := endl_b endSignedS sizeSignedS (fun x k => by have := endSignedS_b x k; omega) xs k
  exact this
theorem markSignedSS_v (xs : List (List TSigned)) (k : Int) (h0 : 0 ≤ k) (h1 : k + 64 * (sizeSignedSS xs : Nat) ≤ 2305843009213693952) : laws_markSignedSS xs k = some (mkdSignedSS xs k, endSignedSS xs k) := by
  refine mark_l mkdSignedS endSignedS sizeSignedS (fun x k => by have := endSignedS_b x k; omega) laws_markSignedSS.l4 (fun n k ys => ?_) (fun n k i ys hi h0 h1 h2 => ?_) xs [] k KK (KK_gt (by unfold sizeSignedSS sizeS at h1; omega)) h0 (h1) (by unfold sizeSignedSS sizeS at h1; simp; omega)
  · rw [laws_markSignedSS.u4]
    simp only [laws_markSignedSS.g4, lt_f (Nat.le_refl _), cond_f]
  · rw [laws_markSignedSS.u4]
    simp only [laws_markSignedSS.g4, upd_ln, upd_upd, upd_get hi, lt_t hi, ge_t, cond_t, Int.toNat_natCast, at_n hi, z30, cond_f]
    have b0 := endSignedS_b ys[i] k
    refine bnd (markSignedS_v ys[i] k (by omega) (by omega)) ?_
    try dsimp only
    try simp (disch := omega) only [wd]
    simp only [upd_st hi]
    rfl
def sizeFork (x : TFork) : Nat := sizeSigned (Fork_Before x) + (sizeSigned (Fork_A x) + (sizeSigned (Fork_B x)))
structure ForkMax (x : TFork) : Prop where
  m0 : SignedMax (Fork_Before x)
  m1 : SignedMax (Fork_A x)
  m2 : SignedMax (Fork_B x)
theorem szFork_v (x0 : TFork) (L : Int) (hx : ForkMax x0) (h0 : 0 ≤ L) (h1 : L ≤ 1048576) : laws_szFork x0 L = some (szR (sizeFork x0) L) := by
  unfold laws_szFork sizeFork
  exact szR_b h0 h1 (szSigned_v _ _ hx.m0 h0 h1) (fun M h0 h1 => szR_b h0 h1 (szSigned_v _ _ hx.m1 h0 h1) (fun M h0 h1 => szR_l h0 (szSigned_v _ _ hx.m2 h0 h1)))
theorem toFork_v (x0 : TFork) (hx : sizeFork x0 ≤ 1048576) : laws_toFork x0 = some x0 := by
  unfold sizeFork at hx
  unfold laws_toFork
  exact bnd (toSigned_v _ (by omega)) (bnd (toSigned_v _ (by omega)) (bnd (toSigned_v _ (by omega)) (rfl)))
theorem eqFork_v (a : TFork) (hx : sizeFork a ≤ 1152921504606846976) : laws_eqFork a a = some true := by
  unfold sizeFork at hx
  unfold laws_eqFork
  exact bnd (eqSigned_v _ (by omega)) (cF rfl (bnd (eqSigned_v _ (by omega)) (cF rfl (bnd (eqSigned_v _ (by omega)) (cF rfl (rfl))))))
def sizeForkS (xs : List TFork) : Nat := sizeS sizeFork xs
def ForkSMax (xs : List TFork) : Prop := MaxS ForkMax xs
theorem szForkS_v (x0 : List TFork) (L : Int) (hx : ForkSMax x0) (h0 : 0 ≤ L) (h1 : L ≤ 1048576) : laws_szForkS x0 L = some (szR (sizeForkS x0) L) :=
  szList_v x0 dFork sizeFork laws_szFork L hx.len h0 h1 (fun i h L h0 h1 => szFork_v _ _ (hx.each i h) h0 h1) (laws_szForkS.l10 x0) (fun n a b => laws_szForkS.u10 x0 n a b)
theorem toForkS_v (x0 : List TFork) (hx : sizeForkS x0 ≤ 1048576) : laws_toForkS x0 = some x0 :=
  toList_v x0 dFork laws_toFork (by unfold sizeForkS sizeS at hx; omega) (fun i h => toFork_v _ (by have := size_at sizeFork h; unfold sizeForkS sizeS at hx; omega)) (laws_toForkS.l6 x0) (fun n a b => laws_toForkS.u6 x0 n a b)
theorem eqForkS_v (x0 : List TFork) (hx : sizeForkS x0 ≤ 1152921504606846976) : laws_eqForkS x0 x0 = some true :=
  eqList_v x0 dFork laws_eqFork (by unfold sizeForkS sizeS at hx; omega) (fun i h => eqFork_v _ (by have := size_at sizeFork h; unfold sizeForkS sizeS at hx; omega)) (laws_eqForkS.l8 x0 x0) (fun n a => laws_eqForkS.u8 x0 x0 n a)
def fullFork (x : TFork) (k : Int) : TFork := Fork_mk (Signed_mk (Head_mk k (k + 1) (k + 1 + 1) (k + 1 + 1 + 1) (k + 1 + 1 + 1 + 1) (k + 1 + 1 + 1 + 1 + 1) (k + 1 + 1 + 1 + 1 + 1 + 1) (k + 1 + 1 + 1 + 1 + 1 + 1 + 1) (mkdIntS (Head_Keys (Signed_Head (Fork_Before x))).1 (k + 1 + 1 + 1 + 1 + 1 + 1 + 1 + 1), endIntS (Head_Keys (Signed_Head (Fork_Before x))).1 (k + 1 + 1 + 1 + 1 + 1 + 1 + 1 + 1)) (mkdIntS (Head_Heirs (Signed_Head (Fork_Before x))).1 (endIntS (Head_Keys (Signed_Head (Fork_Before x))).1 (k + 1 + 1 + 1 + 1 + 1 + 1 + 1 + 1) + 1), endIntS (Head_Heirs (Signed_Head (Fork_Before x))).1 (endIntS (Head_Keys (Signed_Head (Fork_Before x))).1 (k + 1 + 1 + 1 + 1 + 1 + 1 + 1 + 1) + 1)) (endIntS (Head_Heirs (Signed_Head (Fork_Before x))).1 (endIntS (Head_Keys (Signed_Head (Fork_Before x))).1 (k + 1 + 1 + 1 + 1 + 1 + 1 + 1 + 1) + 1) + 1) (mkdIntS (Head_Judge (Signed_Head (Fork_Before x))).1 (endIntS (Head_Heirs (Signed_Head (Fork_Before x))).1 (endIntS (Head_Keys (Signed_Head (Fork_Before x))).1 (k + 1 + 1 + 1 + 1 + 1 + 1 + 1 + 1) + 1) + 1 + 1), endIntS (Head_Judge (Signed_Head (Fork_Before x))).1 (endIntS (Head_Heirs (Signed_Head (Fork_Before x))).1 (endIntS (Head_Keys (Signed_Head (Fork_Before x))).1 (k + 1 + 1 + 1 + 1 + 1 + 1 + 1 + 1) + 1) + 1 + 1)) (Int.tmod (endIntS (Head_Judge (Signed_Head (Fork_Before x))).1 (endIntS (Head_Heirs (Signed_Head (Fork_Before x))).1 (endIntS (Head_Keys (Signed_Head (Fork_Before x))).1 (k + 1 + 1 + 1 + 1 + 1 + 1 + 1 + 1) + 1) + 1 + 1) + 1) 3 == 0)) (mkdSigS (Signed_Sigs (Fork_Before x)) (endIntS (Head_Judge (Signed_Head (Fork_Before x))).1 (endIntS (Head_Heirs (Signed_Head (Fork_Before x))).1 (endIntS (Head_Keys (Signed_Head (Fork_Before x))).1 (k + 1 + 1 + 1 + 1 + 1 + 1 + 1 + 1) + 1) + 1 + 1) + 1 + 1))) (Signed_mk (Head_mk (endSigS (Signed_Sigs (Fork_Before x)) (endIntS (Head_Judge (Signed_Head (Fork_Before x))).1 (endIntS (Head_Heirs (Signed_Head (Fork_Before x))).1 (endIntS (Head_Keys (Signed_Head (Fork_Before x))).1 (k + 1 + 1 + 1 + 1 + 1 + 1 + 1 + 1) + 1) + 1 + 1) + 1 + 1)) (endSigS (Signed_Sigs (Fork_Before x)) (endIntS (Head_Judge (Signed_Head (Fork_Before x))).1 (endIntS (Head_Heirs (Signed_Head (Fork_Before x))).1 (endIntS (Head_Keys (Signed_Head (Fork_Before x))).1 (k + 1 + 1 + 1 + 1 + 1 + 1 + 1 + 1) + 1) + 1 + 1) + 1 + 1) + 1) (endSigS (Signed_Sigs (Fork_Before x)) (endIntS (Head_Judge (Signed_Head (Fork_Before x))).1 (endIntS (Head_Heirs (Signed_Head (Fork_Before x))).1 (endIntS (Head_Keys (Signed_Head (Fork_Before x))).1 (k + 1 + 1 + 1 + 1 + 1 + 1 + 1 + 1) + 1) + 1 + 1) + 1 + 1) + 1 + 1) (endSigS (Signed_Sigs (Fork_Before x)) (endIntS (Head_Judge (Signed_Head (Fork_Before x))).1 (endIntS (Head_Heirs (Signed_Head (Fork_Before x))).1 (endIntS (Head_Keys (Signed_Head (Fork_Before x))).1 (k + 1 + 1 + 1 + 1 + 1 + 1 + 1 + 1) + 1) + 1 + 1) + 1 + 1) + 1 + 1 + 1) (endSigS (Signed_Sigs (Fork_Before x)) (endIntS (Head_Judge (Signed_Head (Fork_Before x))).1 (endIntS (Head_Heirs (Signed_Head (Fork_Before x))).1 (endIntS (Head_Keys (Signed_Head (Fork_Before x))).1 (k + 1 + 1 + 1 + 1 + 1 + 1 + 1 + 1) + 1) + 1 + 1) + 1 + 1) + 1 + 1 + 1 + 1) (endSigS (Signed_Sigs (Fork_Before x)) (endIntS (Head_Judge (Signed_Head (Fork_Before x))).1 (endIntS (Head_Heirs (Signed_Head (Fork_Before x))).1 (endIntS (Head_Keys (Signed_Head (Fork_Before x))).1 (k + 1 + 1 + 1 + 1 + 1 + 1 + 1 + 1) + 1) + 1 + 1) + 1 + 1) + 1 + 1 + 1 + 1 + 1) (endSigS (Signed_Sigs (Fork_Before x)) (endIntS (Head_Judge (Signed_Head (Fork_Before x))).1 (endIntS (Head_Heirs (Signed_Head (Fork_Before x))).1 (endIntS (Head_Keys (Signed_Head (Fork_Before x))).1 (k + 1 + 1 + 1 + 1 + 1 + 1 + 1 + 1) + 1) + 1 + 1) + 1 + 1) + 1 + 1 + 1 + 1 + 1 + 1) (endSigS (Signed_Sigs (Fork_Before x)) (endIntS (Head_Judge (Signed_Head (Fork_Before x))).1 (endIntS (Head_Heirs (Signed_Head (Fork_Before x))).1 (endIntS (Head_Keys (Signed_Head (Fork_Before x))).1 (k + 1 + 1 + 1 + 1 + 1 + 1 + 1 + 1) + 1) + 1 + 1) + 1 + 1) + 1 + 1 + 1 + 1 + 1 + 1 + 1) (mkdIntS (Head_Keys (Signed_Head (Fork_A x))).1 (endSigS (Signed_Sigs (Fork_Before x)) (endIntS (Head_Judge (Signed_Head (Fork_Before x))).1 (endIntS (Head_Heirs (Signed_Head (Fork_Before x))).1 (endIntS (Head_Keys (Signed_Head (Fork_Before x))).1 (k + 1 + 1 + 1 + 1 + 1 + 1 + 1 + 1) + 1) + 1 + 1) + 1 + 1) + 1 + 1 + 1 + 1 + 1 + 1 + 1 + 1), endIntS (Head_Keys (Signed_Head (Fork_A x))).1 (endSigS (Signed_Sigs (Fork_Before x)) (endIntS (Head_Judge (Signed_Head (Fork_Before x))).1 (endIntS (Head_Heirs (Signed_Head (Fork_Before x))).1 (endIntS (Head_Keys (Signed_Head (Fork_Before x))).1 (k + 1 + 1 + 1 + 1 + 1 + 1 + 1 + 1) + 1) + 1 + 1) + 1 + 1) + 1 + 1 + 1 + 1 + 1 + 1 + 1 + 1)) (mkdIntS (Head_Heirs (Signed_Head (Fork_A x))).1 (endIntS (Head_Keys (Signed_Head (Fork_A x))).1 (endSigS (Signed_Sigs (Fork_Before x)) (endIntS (Head_Judge (Signed_Head (Fork_Before x))).1 (endIntS (Head_Heirs (Signed_Head (Fork_Before x))).1 (endIntS (Head_Keys (Signed_Head (Fork_Before x))).1 (k + 1 + 1 + 1 + 1 + 1 + 1 + 1 + 1) + 1) + 1 + 1) + 1 + 1) + 1 + 1 + 1 + 1 + 1 + 1 + 1 + 1) + 1), endIntS (Head_Heirs (Signed_Head (Fork_A x))).1 (endIntS (Head_Keys (Signed_Head (Fork_A x))).1 (endSigS (Signed_Sigs (Fork_Before x)) (endIntS (Head_Judge (Signed_Head (Fork_Before x))).1 (endIntS (Head_Heirs (Signed_Head (Fork_Before x))).1 (endIntS (Head_Keys (Signed_Head (Fork_Before x))).1 (k + 1 + 1 + 1 + 1 + 1 + 1 + 1 + 1) + 1) + 1 + 1) + 1 + 1) + 1 + 1 + 1 + 1 + 1 + 1 + 1 + 1) + 1)) (endIntS (Head_Heirs (Signed_Head (Fork_A x))).1 (endIntS (Head_Keys (Signed_Head (Fork_A x))).1 (endSigS (Signed_Sigs (Fork_Before x)) (endIntS (Head_Judge (Signed_Head (Fork_Before x))).1 (endIntS (Head_Heirs (Signed_Head (Fork_Before x))).1 (endIntS (Head_Keys (Signed_Head (Fork_Before x))).1 (k + 1 + 1 + 1 + 1 + 1 + 1 + 1 + 1) + 1) + 1 + 1) + 1 + 1) + 1 + 1 + 1 + 1 + 1 + 1 + 1 + 1) + 1) + 1) (mkdIntS (Head_Judge (Signed_Head (Fork_A x))).1 (endIntS (Head_Heirs (Signed_Head (Fork_A x))).1 (endIntS (Head_Keys (Signed_Head (Fork_A x))).1 (endSigS (Signed_Sigs (Fork_Before x)) (endIntS (Head_Judge (Signed_Head (Fork_Before x))).1 (endIntS (Head_Heirs (Signed_Head (Fork_Before x))).1 (endIntS (Head_Keys (Signed_Head (Fork_Before x))).1 (k + 1 + 1 + 1 + 1 + 1 + 1 + 1 + 1) + 1) + 1 + 1) + 1 + 1) + 1 + 1 + 1 + 1 + 1 + 1 + 1 + 1) + 1) + 1 + 1), endIntS (Head_Judge (Signed_Head (Fork_A x))).1 (endIntS (Head_Heirs (Signed_Head (Fork_A x))).1 (endIntS (Head_Keys (Signed_Head (Fork_A x))).1 (endSigS (Signed_Sigs (Fork_Before x)) (endIntS (Head_Judge (Signed_Head (Fork_Before x))).1 (endIntS (Head_Heirs (Signed_Head (Fork_Before x))).1 (endIntS (Head_Keys (Signed_Head (Fork_Before x))).1 (k + 1 + 1 + 1 + 1 + 1 + 1 + 1 + 1) + 1) + 1 + 1) + 1 + 1) + 1 + 1 + 1 + 1 + 1 + 1 + 1 + 1) + 1) + 1 + 1)) (Int.tmod (endIntS (Head_Judge (Signed_Head (Fork_A x))).1 (endIntS (Head_Heirs (Signed_Head (Fork_A x))).1 (endIntS (Head_Keys (Signed_Head (Fork_A x))).1 (endSigS (Signed_Sigs (Fork_Before x)) (endIntS (Head_Judge (Signed_Head (Fork_Before x))).1 (endIntS (Head_Heirs (Signed_Head (Fork_Before x))).1 (endIntS (Head_Keys (Signed_Head (Fork_Before x))).1 (k + 1 + 1 + 1 + 1 + 1 + 1 + 1 + 1) + 1) + 1 + 1) + 1 + 1) + 1 + 1 + 1 + 1 + 1 + 1 + 1 + 1) + 1) + 1 + 1) + 1) 3 == 0)) (mkdSigS (Signed_Sigs (Fork_A x)) (endIntS (Head_Judge (Signed_Head (Fork_A x))).1 (endIntS (Head_Heirs (Signed_Head (Fork_A x))).1 (endIntS (Head_Keys (Signed_Head (Fork_A x))).1 (endSigS (Signed_Sigs (Fork_Before x)) (endIntS (Head_Judge (Signed_Head (Fork_Before x))).1 (endIntS (Head_Heirs (Signed_Head (Fork_Before x))).1 (endIntS (Head_Keys (Signed_Head (Fork_Before x))).1 (k + 1 + 1 + 1 + 1 + 1 + 1 + 1 + 1) + 1) + 1 + 1) + 1 + 1) + 1 + 1 + 1 + 1 + 1 + 1 + 1 + 1) + 1) + 1 + 1) + 1 + 1))) (Signed_mk (Head_mk (endSigS (Signed_Sigs (Fork_A x)) (endIntS (Head_Judge (Signed_Head (Fork_A x))).1 (endIntS (Head_Heirs (Signed_Head (Fork_A x))).1 (endIntS (Head_Keys (Signed_Head (Fork_A x))).1 (endSigS (Signed_Sigs (Fork_Before x)) (endIntS (Head_Judge (Signed_Head (Fork_Before x))).1 (endIntS (Head_Heirs (Signed_Head (Fork_Before x))).1 (endIntS (Head_Keys (Signed_Head (Fork_Before x))).1 (k + 1 + 1 + 1 + 1 + 1 + 1 + 1 + 1) + 1) + 1 + 1) + 1 + 1) + 1 + 1 + 1 + 1 + 1 + 1 + 1 + 1) + 1) + 1 + 1) + 1 + 1)) (endSigS (Signed_Sigs (Fork_A x)) (endIntS (Head_Judge (Signed_Head (Fork_A x))).1 (endIntS (Head_Heirs (Signed_Head (Fork_A x))).1 (endIntS (Head_Keys (Signed_Head (Fork_A x))).1 (endSigS (Signed_Sigs (Fork_Before x)) (endIntS (Head_Judge (Signed_Head (Fork_Before x))).1 (endIntS (Head_Heirs (Signed_Head (Fork_Before x))).1 (endIntS (Head_Keys (Signed_Head (Fork_Before x))).1 (k + 1 + 1 + 1 + 1 + 1 + 1 + 1 + 1) + 1) + 1 + 1) + 1 + 1) + 1 + 1 + 1 + 1 + 1 + 1 + 1 + 1) + 1) + 1 + 1) + 1 + 1) + 1) (endSigS (Signed_Sigs (Fork_A x)) (endIntS (Head_Judge (Signed_Head (Fork_A x))).1 (endIntS (Head_Heirs (Signed_Head (Fork_A x))).1 (endIntS (Head_Keys (Signed_Head (Fork_A x))).1 (endSigS (Signed_Sigs (Fork_Before x)) (endIntS (Head_Judge (Signed_Head (Fork_Before x))).1 (endIntS (Head_Heirs (Signed_Head (Fork_Before x))).1 (endIntS (Head_Keys (Signed_Head (Fork_Before x))).1 (k + 1 + 1 + 1 + 1 + 1 + 1 + 1 + 1) + 1) + 1 + 1) + 1 + 1) + 1 + 1 + 1 + 1 + 1 + 1 + 1 + 1) + 1) + 1 + 1) + 1 + 1) + 1 + 1) (endSigS (Signed_Sigs (Fork_A x)) (endIntS (Head_Judge (Signed_Head (Fork_A x))).1 (endIntS (Head_Heirs (Signed_Head (Fork_A x))).1 (endIntS (Head_Keys (Signed_Head (Fork_A x))).1 (endSigS (Signed_Sigs (Fork_Before x)) (endIntS (Head_Judge (Signed_Head (Fork_Before x))).1 (endIntS (Head_Heirs (Signed_Head (Fork_Before x))).1 (endIntS (Head_Keys (Signed_Head (Fork_Before x))).1 (k + 1 + 1 + 1 + 1 + 1 + 1 + 1 + 1) + 1) + 1 + 1) + 1 + 1) + 1 + 1 + 1 + 1 + 1 + 1 + 1 + 1) + 1) + 1 + 1) + 1 + 1) + 1 + 1 + 1) (endSigS (Signed_Sigs (Fork_A x)) (endIntS (Head_Judge (Signed_Head (Fork_A x))).1 (endIntS (Head_Heirs (Signed_Head (Fork_A x))).1 (endIntS (Head_Keys (Signed_Head (Fork_A x))).1 (endSigS (Signed_Sigs (Fork_Before x)) (endIntS (Head_Judge (Signed_Head (Fork_Before x))).1 (endIntS (Head_Heirs (Signed_Head (Fork_Before x))).1 (endIntS (Head_Keys (Signed_Head (Fork_Before x))).1 (k + 1 + 1 + 1 + 1 + 1 + 1 + 1 + 1) + 1) + 1 + 1) + 1 + 1) + 1 + 1 + 1 + 1 + 1 + 1 + 1 + 1) + 1) + 1 + 1) + 1 + 1) + 1 + 1 + 1 + 1) (endSigS (Signed_Sigs (Fork_A x)) (endIntS (Head_Judge (Signed_Head (Fork_A x))).1 (endIntS (Head_Heirs (Signed_Head (Fork_A x))).1 (endIntS (Head_Keys (Signed_Head (Fork_A x))).1 (endSigS (Signed_Sigs (Fork_Before x)) (endIntS (Head_Judge (Signed_Head (Fork_Before x))).1 (endIntS (Head_Heirs (Signed_Head (Fork_Before x))).1 (endIntS (Head_Keys (Signed_Head (Fork_Before x))).1 (k + 1 + 1 + 1 + 1 + 1 + 1 + 1 + 1) + 1) + 1 + 1) + 1 + 1) + 1 + 1 + 1 + 1 + 1 + 1 + 1 + 1) + 1) + 1 + 1) + 1 + 1) + 1 + 1 + 1 + 1 + 1) (endSigS (Signed_Sigs (Fork_A x)) (endIntS (Head_Judge (Signed_Head (Fork_A x))).1 (endIntS (Head_Heirs (Signed_Head (Fork_A x))).1 (endIntS (Head_Keys (Signed_Head (Fork_A x))).1 (endSigS (Signed_Sigs (Fork_Before x)) (endIntS (Head_Judge (Signed_Head (Fork_Before x))).1 (endIntS (Head_Heirs (Signed_Head (Fork_Before x))).1 (endIntS (Head_Keys (Signed_Head (Fork_Before x))).1 (k + 1 + 1 + 1 + 1 + 1 + 1 + 1 + 1) + 1) + 1 + 1) + 1 + 1) + 1 + 1 + 1 + 1 + 1 + 1 + 1 + 1) + 1) + 1 + 1) + 1 + 1) + 1 + 1 + 1 + 1 + 1 + 1) (endSigS (Signed_Sigs (Fork_A x)) (endIntS (Head_Judge (Signed_Head (Fork_A x))).1 (endIntS (Head_Heirs (Signed_Head (Fork_A x))).1 (endIntS (Head_Keys (Signed_Head (Fork_A x))).1 (endSigS (Signed_Sigs (Fork_Before x)) (endIntS (Head_Judge (Signed_Head (Fork_Before x))).1 (endIntS (Head_Heirs (Signed_Head (Fork_Before x))).1 (endIntS (Head_Keys (Signed_Head (Fork_Before x))).1 (k + 1 + 1 + 1 + 1 + 1 + 1 + 1 + 1) + 1) + 1 + 1) + 1 + 1) + 1 + 1 + 1 + 1 + 1 + 1 + 1 + 1) + 1) + 1 + 1) + 1 + 1) + 1 + 1 + 1 + 1 + 1 + 1 + 1) (mkdIntS (Head_Keys (Signed_Head (Fork_B x))).1 (endSigS (Signed_Sigs (Fork_A x)) (endIntS (Head_Judge (Signed_Head (Fork_A x))).1 (endIntS (Head_Heirs (Signed_Head (Fork_A x))).1 (endIntS (Head_Keys (Signed_Head (Fork_A x))).1 (endSigS (Signed_Sigs (Fork_Before x)) (endIntS (Head_Judge (Signed_Head (Fork_Before x))).1 (endIntS (Head_Heirs (Signed_Head (Fork_Before x))).1 (endIntS (Head_Keys (Signed_Head (Fork_Before x))).1 (k + 1 + 1 + 1 + 1 + 1 + 1 + 1 + 1) + 1) + 1 + 1) + 1 + 1) + 1 + 1 + 1 + 1 + 1 + 1 + 1 + 1) + 1) + 1 + 1) + 1 + 1) + 1 + 1 + 1 + 1 + 1 + 1 + 1 + 1), endIntS (Head_Keys (Signed_Head (Fork_B x))).1 (endSigS (Signed_Sigs (Fork_A x)) (endIntS (Head_Judge (Signed_Head (Fork_A x))).1 (endIntS (Head_Heirs (Signed_Head (Fork_A x))).1 (endIntS (Head_Keys (Signed_Head (Fork_A x))).1 (endSigS (Signed_Sigs (Fork_Before x)) (endIntS (Head_Judge (Signed_Head (Fork_Before x))).1 (endIntS (Head_Heirs (Signed_Head (Fork_Before x))).1 (endIntS (Head_Keys (Signed_Head (Fork_Before x))).1 (k + 1 + 1 + 1 + 1 + 1 + 1 + 1 + 1) + 1) + 1 + 1) + 1 + 1) + 1 + 1 + 1 + 1 + 1 + 1 + 1 + 1) + 1) + 1 + 1) + 1 + 1) + 1 + 1 + 1 + 1 + 1 + 1 + 1 + 1)) (mkdIntS (Head_Heirs (Signed_Head (Fork_B x))).1 (endIntS (Head_Keys (Signed_Head (Fork_B x))).1 (endSigS (Signed_Sigs (Fork_A x)) (endIntS (Head_Judge (Signed_Head (Fork_A x))).1 (endIntS (Head_Heirs (Signed_Head (Fork_A x))).1 (endIntS (Head_Keys (Signed_Head (Fork_A x))).1 (endSigS (Signed_Sigs (Fork_Before x)) (endIntS (Head_Judge (Signed_Head (Fork_Before x))).1 (endIntS (Head_Heirs (Signed_Head (Fork_Before x))).1 (endIntS (Head_Keys (Signed_Head (Fork_Before x))).1 (k + 1 + 1 + 1 + 1 + 1 + 1 + 1 + 1) + 1) + 1 + 1) + 1 + 1) + 1 + 1 + 1 + 1 + 1 + 1 + 1 + 1) + 1) + 1 + 1) + 1 + 1) + 1 + 1 + 1 + 1 + 1 + 1 + 1 + 1) + 1), endIntS (Head_Heirs (Signed_Head (Fork_B x))).1 (endIntS (Head_Keys (Signed_Head (Fork_B x))).1 (endSigS (Signed_Sigs (Fork_A x)) (endIntS (Head_Judge (Signed_Head (Fork_A x))).1 (endIntS (Head_Heirs (Signed_Head (Fork_A x))).1 (endIntS (Head_Keys (Signed_Head (Fork_A x))).1 (endSigS (Signed_Sigs (Fork_Before x)) (endIntS (Head_Judge (Signed_Head (Fork_Before x))).1 (endIntS (Head_Heirs (Signed_Head (Fork_Before x))).1 (endIntS (Head_Keys (Signed_Head (Fork_Before x))).1 (k + 1 + 1 + 1 + 1 + 1 + 1 + 1 + 1) + 1) + 1 + 1) + 1 + 1) + 1 + 1 + 1 + 1 + 1 + 1 + 1 + 1) + 1) + 1 + 1) + 1 + 1) + 1 + 1 + 1 + 1 + 1 + 1 + 1 + 1) + 1)) (endIntS (Head_Heirs (Signed_Head (Fork_B x))).1 (endIntS (Head_Keys (Signed_Head (Fork_B x))).1 (endSigS (Signed_Sigs (Fork_A x)) (endIntS (Head_Judge (Signed_Head (Fork_A x))).1 (endIntS (Head_Heirs (Signed_Head (Fork_A x))).1 (endIntS (Head_Keys (Signed_Head (Fork_A x))).1 (endSigS (Signed_Sigs (Fork_Before x)) (endIntS (Head_Judge (Signed_Head (Fork_Before x))).1 (endIntS (Head_Heirs (Signed_Head (Fork_Before x))).1 (endIntS (Head_Keys (Signed_Head (Fork_Before x))).1 (k + 1 + 1 + 1 + 1 + 1 + 1 + 1 + 1) + 1) + 1 + 1) + 1 + 1) + 1 + 1 + 1 + 1 + 1 + 1 + 1 + 1) + 1) + 1 + 1) + 1 + 1) + 1 + 1 + 1 + 1 + 1 + 1 + 1 + 1) + 1) + 1) (mkdIntS (Head_Judge (Signed_Head (Fork_B x))).1 (endIntS (Head_Heirs (Signed_Head (Fork_B x))).1 (endIntS (Head_Keys (Signed_Head (Fork_B x))).1 (endSigS (Signed_Sigs (Fork_A x)) (endIntS (Head_Judge (Signed_Head (Fork_A x))).1 (endIntS (Head_Heirs (Signed_Head (Fork_A x))).1 (endIntS (Head_Keys (Signed_Head (Fork_A x))).1 (endSigS (Signed_Sigs (Fork_Before x)) (endIntS (Head_Judge (Signed_Head (Fork_Before x))).1 (endIntS (Head_Heirs (Signed_Head (Fork_Before x))).1 (endIntS (Head_Keys (Signed_Head (Fork_Before x))).1 (k + 1 + 1 + 1 + 1 + 1 + 1 + 1 + 1) + 1) + 1 + 1) + 1 + 1) + 1 + 1 + 1 + 1 + 1 + 1 + 1 + 1) + 1) + 1 + 1) + 1 + 1) + 1 + 1 + 1 + 1 + 1 + 1 + 1 + 1) + 1) + 1 + 1), endIntS (Head_Judge (Signed_Head (Fork_B x))).1 (endIntS (Head_Heirs (Signed_Head (Fork_B x))).1 (endIntS (Head_Keys (Signed_Head (Fork_B x))).1 (endSigS (Signed_Sigs (Fork_A x)) (endIntS (Head_Judge (Signed_Head (Fork_A x))).1 (endIntS (Head_Heirs (Signed_Head (Fork_A x))).1 (endIntS (Head_Keys (Signed_Head (Fork_A x))).1 (endSigS (Signed_Sigs (Fork_Before x)) (endIntS (Head_Judge (Signed_Head (Fork_Before x))).1 (endIntS (Head_Heirs (Signed_Head (Fork_Before x))).1 (endIntS (Head_Keys (Signed_Head (Fork_Before x))).1 (k + 1 + 1 + 1 + 1 + 1 + 1 + 1 + 1) + 1) + 1 + 1) + 1 + 1) + 1 + 1 + 1 + 1 + 1 + 1 + 1 + 1) + 1) + 1 + 1) + 1 + 1) + 1 + 1 + 1 + 1 + 1 + 1 + 1 + 1) + 1) + 1 + 1)) (Int.tmod (endIntS (Head_Judge (Signed_Head (Fork_B x))).1 (endIntS (Head_Heirs (Signed_Head (Fork_B x))).1 (endIntS (Head_Keys (Signed_Head (Fork_B x))).1 (endSigS (Signed_Sigs (Fork_A x)) (endIntS (Head_Judge (Signed_Head (Fork_A x))).1 (endIntS (Head_Heirs (Signed_Head (Fork_A x))).1 (endIntS (Head_Keys (Signed_Head (Fork_A x))).1 (endSigS (Signed_Sigs (Fork_Before x)) (endIntS (Head_Judge (Signed_Head (Fork_Before x))).1 (endIntS (Head_Heirs (Signed_Head (Fork_Before x))).1 (endIntS (Head_Keys (Signed_Head (Fork_Before x))).1 (k + 1 + 1 + 1 + 1 + 1 + 1 + 1 + 1) + 1) + 1 + 1) + 1 + 1) + 1 + 1 + 1 + 1 + 1 + 1 + 1 + 1) + 1) + 1 + 1) + 1 + 1) + 1 + 1 + 1 + 1 + 1 + 1 + 1 + 1) + 1) + 1 + 1) + 1) 3 == 0)) (mkdSigS (Signed_Sigs (Fork_B x)) (endIntS (Head_Judge (Signed_Head (Fork_B x))).1 (endIntS (Head_Heirs (Signed_Head (Fork_B x))).1 (endIntS (Head_Keys (Signed_Head (Fork_B x))).1 (endSigS (Signed_Sigs (Fork_A x)) (endIntS (Head_Judge (Signed_Head (Fork_A x))).1 (endIntS (Head_Heirs (Signed_Head (Fork_A x))).1 (endIntS (Head_Keys (Signed_Head (Fork_A x))).1 (endSigS (Signed_Sigs (Fork_Before x)) (endIntS (Head_Judge (Signed_Head (Fork_Before x))).1 (endIntS (Head_Heirs (Signed_Head (Fork_Before x))).1 (endIntS (Head_Keys (Signed_Head (Fork_Before x))).1 (k + 1 + 1 + 1 + 1 + 1 + 1 + 1 + 1) + 1) + 1 + 1) + 1 + 1) + 1 + 1 + 1 + 1 + 1 + 1 + 1 + 1) + 1) + 1 + 1) + 1 + 1) + 1 + 1 + 1 + 1 + 1 + 1 + 1 + 1) + 1) + 1 + 1) + 1 + 1)))
def fendFork (x : TFork) (k : Int) : Int := endSigS (Signed_Sigs (Fork_B x)) (endIntS (Head_Judge (Signed_Head (Fork_B x))).1 (endIntS (Head_Heirs (Signed_Head (Fork_B x))).1 (endIntS (Head_Keys (Signed_Head (Fork_B x))).1 (endSigS (Signed_Sigs (Fork_A x)) (endIntS (Head_Judge (Signed_Head (Fork_A x))).1 (endIntS (Head_Heirs (Signed_Head (Fork_A x))).1 (endIntS (Head_Keys (Signed_Head (Fork_A x))).1 (endSigS (Signed_Sigs (Fork_Before x)) (endIntS (Head_Judge (Signed_Head (Fork_Before x))).1 (endIntS (Head_Heirs (Signed_Head (Fork_Before x))).1 (endIntS (Head_Keys (Signed_Head (Fork_Before x))).1 (k + 1 + 1 + 1 + 1 + 1 + 1 + 1 + 1) + 1) + 1 + 1) + 1 + 1) + 1 + 1 + 1 + 1 + 1 + 1 + 1 + 1) + 1) + 1 + 1) + 1 + 1) + 1 + 1 + 1 + 1 + 1 + 1 + 1 + 1) + 1) + 1 + 1) + 1 + 1)
theorem fendFork_b (x : TFork) (k : Int) : k ≤ fendFork x k ∧ fendFork x k ≤ k + 64 * (1 + (sizeFork x : Nat)) := by
  unfold fendFork sizeFork sizeSigned sizeHead sizeKeys
  have b0 := endIntS_b (Head_Keys (Signed_Head (Fork_Before x))).1 (k + 1 + 1 + 1 + 1 + 1 + 1 + 1 + 1)
  have b1 := endIntS_b (Head_Heirs (Signed_Head (Fork_Before x))).1 (endIntS (Head_Keys (Signed_Head (Fork_Before x))).1 (k + 1 + 1 + 1 + 1 + 1 + 1 + 1 + 1) + 1)
  have b2 := endIntS_b (Head_Judge (Signed_Head (Fork_Before x))).1 (endIntS (Head_Heirs (Signed_Head (Fork_Before x))).1 (endIntS (Head_Keys (Signed_Head (Fork_Before x))).1 (k + 1 + 1 + 1 + 1 + 1 + 1 + 1 + 1) + 1) + 1 + 1)
  have b3 := endSigS_b (Signed_Sigs (Fork_Before x)) (endIntS (Head_Judge (Signed_Head (Fork_Before x))).1 (endIntS (Head_Heirs (Signed_Head (Fork_Before x))).1 (endIntS (Head_Keys (Signed_Head (Fork_Before x))).1 (k + 1 + 1 + 1 + 1 + 1 + 1 + 1 + 1) + 1) + 1 + 1) + 1 + 1)
  have b4 := endIntS_b (Head_Keys (Signed_Head (Fork_A x))).1 (endSigS (Signed_Sigs (Fork_Before x)) (endIntS (Head_Judge (Signed_Head (Fork_Before x))).1 (endIntS (Head_Heirs (Signed_Head (Fork_Before x))).1 (endIntS (Head_Keys (Signed_Head (Fork_Before x))).1 (k + 1 + 1 + 1 + 1 + 1 + 1 + 1 + 1) + 1) + 1 + 1) + 1 + 1) + 1 + 1 + 1 + 1 + 1 + 1 + 1 + 1)
  have b5 := endIntS_b (Head_Heirs (Signed_Head (Fork_A x))).1 (endIntS (Head_Keys (Signed_Head (Fork_A x))).1 (endSigS (Signed_Sigs (Fork_Before x)) (endIntS (Head_Judge (Signed_Head (Fork_Before x))).1 (endIntS (Head_Heirs (Signed_Head (Fork_Before x))).1 (endIntS (Head_Keys (Signed_Head (Fork_Before x))).1 (k + 1 + 1 + 1 + 1 + 1 + 1 + 1 + 1) + 1) + 1 + 1) + 1 + 1) + 1 + 1 + 1 + 1 + 1 + 1 + 1 + 1) + 1)
  have b6 := endIntS_b (Head_Judge (Signed_Head (Fork_A x))).1 (endIntS (Head_Heirs (Signed_Head (Fork_A x))).1 (endIntS (Head_Keys (Signed_Head (Fork_A x))).1 (endSigS (Signed_Sigs (Fork_Before x)) (endIntS (Head_Judge (Signed_Head (Fork_Before x))).1 (endIntS (Head_Heirs (Signed_Head (Fork_Before x))).1 (endIntS (Head_Keys (Signed_Head (Fork_Before x))).1 (k + 1 + 1 + 1 + 1 + 1 + 1 + 1 + 1) + 1) + 1 + 1) + 1 + 1) + 1 + 1 + 1 + 1 + 1 + 1 + 1 + 1) + 1) + 1 + 1)
  have b7 := endSigS_b (Signed_Sigs (Fork_A x)) (endIntS (Head_Judge (Signed_Head (Fork_A x))).1 (endIntS (Head_Heirs (Signed_Head (Fork_A x))).1 (endIntS (Head_Keys (Signed_Head (Fork_A x))).1 (endSigS (Signed_Sigs (Fork_Before x)) (endIntS (Head_Judge (Signed_Head (Fork_Before x))).1 (endIntS (Head_Heirs (Signed_Head (Fork_Before x))).1 (endIntS (Head_Keys (Signed_Head (Fork_Before x))).1 (k + 1 + 1 + 1 + 1 + 1 + 1 + 1 + 1) + 1) + 1 + 1) + 1 + 1) + 1 + 1 + 1 + 1 + 1 + 1 + 1 + 1) + 1) + 1 + 1) + 1 + 1)
  have b8 := endIntS_b (Head_Keys (Signed_Head (Fork_B x))).1 (endSigS (Signed_Sigs (Fork_A x)) (endIntS (Head_Judge (Signed_Head (Fork_A x))).1 (endIntS (Head_Heirs (Signed_Head (Fork_A x))).1 (endIntS (Head_Keys (Signed_Head (Fork_A x))).1 (endSigS (Signed_Sigs (Fork_Before x)) (endIntS (Head_Judge (Signed_Head (Fork_Before x))).1 (endIntS (Head_Heirs (Signed_Head (Fork_Before x))).1 (endIntS (Head_Keys (Signed_Head (Fork_Before x))).1 (k + 1 + 1 + 1 + 1 + 1 + 1 + 1 + 1) + 1) + 1 + 1) + 1 + 1) + 1 + 1 + 1 + 1 + 1 + 1 + 1 + 1) + 1) + 1 + 1) + 1 + 1) + 1 + 1 + 1 + 1 + 1 + 1 + 1 + 1)
  have b9 := endIntS_b (Head_Heirs (Signed_Head (Fork_B x))).1 (endIntS (Head_Keys (Signed_Head (Fork_B x))).1 (endSigS (Signed_Sigs (Fork_A x)) (endIntS (Head_Judge (Signed_Head (Fork_A x))).1 (endIntS (Head_Heirs (Signed_Head (Fork_A x))).1 (endIntS (Head_Keys (Signed_Head (Fork_A x))).1 (endSigS (Signed_Sigs (Fork_Before x)) (endIntS (Head_Judge (Signed_Head (Fork_Before x))).1 (endIntS (Head_Heirs (Signed_Head (Fork_Before x))).1 (endIntS (Head_Keys (Signed_Head (Fork_Before x))).1 (k + 1 + 1 + 1 + 1 + 1 + 1 + 1 + 1) + 1) + 1 + 1) + 1 + 1) + 1 + 1 + 1 + 1 + 1 + 1 + 1 + 1) + 1) + 1 + 1) + 1 + 1) + 1 + 1 + 1 + 1 + 1 + 1 + 1 + 1) + 1)
  have b10 := endIntS_b (Head_Judge (Signed_Head (Fork_B x))).1 (endIntS (Head_Heirs (Signed_Head (Fork_B x))).1 (endIntS (Head_Keys (Signed_Head (Fork_B x))).1 (endSigS (Signed_Sigs (Fork_A x)) (endIntS (Head_Judge (Signed_Head (Fork_A x))).1 (endIntS (Head_Heirs (Signed_Head (Fork_A x))).1 (endIntS (Head_Keys (Signed_Head (Fork_A x))).1 (endSigS (Signed_Sigs (Fork_Before x)) (endIntS (Head_Judge (Signed_Head (Fork_Before x))).1 (endIntS (Head_Heirs (Signed_Head (Fork_Before x))).1 (endIntS (Head_Keys (Signed_Head (Fork_Before x))).1 (k + 1 + 1 + 1 + 1 + 1 + 1 + 1 + 1) + 1) + 1 + 1) + 1 + 1) + 1 + 1 + 1 + 1 + 1 + 1 + 1 + 1) + 1) + 1 + 1) + 1 + 1) + 1 + 1 + 1 + 1 + 1 + 1 + 1 + 1) + 1) + 1 + 1)
  have b11 := endSigS_b (Signed_Sigs (Fork_B x)) (endIntS (Head_Judge (Signed_Head (Fork_B x))).1 (endIntS (Head_Heirs (Signed_Head (Fork_B x))).1 (endIntS (Head_Keys (Signed_Head (Fork_B x))).1 (endSigS (Signed_Sigs (Fork_A x)) (endIntS (Head_Judge (Signed_Head (Fork_A x))).1 (endIntS (Head_Heirs (Signed_Head (Fork_A x))).1 (endIntS (Head_Keys (Signed_Head (Fork_A x))).1 (endSigS (Signed_Sigs (Fork_Before x)) (endIntS (Head_Judge (Signed_Head (Fork_Before x))).1 (endIntS (Head_Heirs (Signed_Head (Fork_Before x))).1 (endIntS (Head_Keys (Signed_Head (Fork_Before x))).1 (k + 1 + 1 + 1 + 1 + 1 + 1 + 1 + 1) + 1) + 1 + 1) + 1 + 1) + 1 + 1 + 1 + 1 + 1 + 1 + 1 + 1) + 1) + 1 + 1) + 1 + 1) + 1 + 1 + 1 + 1 + 1 + 1 + 1 + 1) + 1) + 1 + 1) + 1 + 1)
  omega
def mkdForkS (xs : List TFork) (k : Int) : List TFork := mkl fullFork fendFork xs k
def endForkS (xs : List TFork) (k : Int) : Int := endl fendFork xs k
theorem endForkS_b (xs : List TFork) (k : Int) : k ≤ endForkS xs k ∧ endForkS xs k ≤ k + 64 * (sizeForkS xs : Nat) := by
  have := endl_b fendFork sizeFork (fendFork_b) xs k
  exact this
theorem markForkS_v (xs : List TFork) (k : Int) (h0 : 0 ≤ k) (h1 : k + 64 * (sizeForkS xs : Nat) ≤ 2305843009213693952) : laws_markForkS xs k = some (mkdForkS xs k, endForkS xs k) := by
  refine mark_l fullFork fendFork sizeFork (fendFork_b) laws_markForkS.l4 (fun n k ys => ?_) (fun n k i ys hi h0 h1 h2 => ?_) xs [] k KK (KK_gt (by unfold sizeForkS sizeS at h1; omega)) h0 (h1) (by unfold sizeForkS sizeS at h1; simp; omega)
  · rw [laws_markForkS.u4]
    simp only [laws_markForkS.g4, lt_f (Nat.le_refl _), cond_f]
  · rw [laws_markForkS.u4]
    unfold sizeFork sizeSigned sizeHead sizeKeys at h1
    simp only [laws_markForkS.g4, upd_ln, upd_upd, upd_get hi, lt_t hi, ge_t, cond_t, Int.toNat_natCast, at_n hi, z30, cond_f, laws_markForkS.w1, laws_markForkS.w2, laws_markForkS.w3, laws_markForkS.w4, laws_markForkS.w5, laws_markForkS.w6, laws_markForkS.w7, laws_markForkS.w8, laws_markForkS.w9, laws_markForkS.w10, laws_markForkS.w11, laws_markForkS.w12, laws_markForkS.w13, laws_markForkS.w14, laws_markForkS.w15, laws_markForkS.w16, laws_markForkS.w17, laws_markForkS.w18, laws_markForkS.w19, laws_markForkS.w20, laws_markForkS.w21, laws_markForkS.w22, laws_markForkS.w23, laws_markForkS.w24, laws_markForkS.w25, laws_markForkS.w26, laws_markForkS.w27, laws_markForkS.w28, laws_markForkS.w29, laws_markForkS.w30, laws_markForkS.w31, laws_markForkS.w32, laws_markForkS.w33, laws_markForkS.w34, laws_markForkS.w35, laws_markForkS.w36, laws_markForkS.w37, laws_markForkS.w38, laws_markForkS.w39, laws_markForkS.w40, laws_markForkS.w41, laws_markForkS.w42, laws_markForkS.w43, laws_markForkS.w44, laws_markForkS.w45, laws_markForkS.w46, laws_markForkS.w47, laws_markForkS.w48, laws_markForkS.w49, laws_markForkS.w50, Fork_Before, Fork_A, Fork_B, Signed_Head, Signed_Sigs, Head_Zone, Head_Epoch, Head_Kind, Head_Time, Head_Until, Head_Count, Head_Root, Head_Prev, Head_Keys, Head_Heirs, Head_Wait, Head_Judge, Head_Frozen]
    have b0 := endIntS_b (Head_Keys (Signed_Head (Fork_Before ys[i]))).1 (k + 1 + 1 + 1 + 1 + 1 + 1 + 1 + 1)
    refine bndk (k := k + 1 + 1 + 1 + 1 + 1 + 1 + 1 + 1) (by first | rfl | (simp (disch := omega) only [wd])) (markIntS_v (Head_Keys (Signed_Head (Fork_Before ys[i]))).1 (k + 1 + 1 + 1 + 1 + 1 + 1 + 1 + 1) (by omega) (by omega)) ?_
    generalize hk0 : endIntS (Head_Keys (Signed_Head (Fork_Before ys[i]))).1 (k + 1 + 1 + 1 + 1 + 1 + 1 + 1 + 1) = k0 at b0 ⊢
    have b3 := endIntS_b (Head_Heirs (Signed_Head (Fork_Before ys[i]))).1 (k0 + 1)
    refine bndk (k := k0 + 1) (by first | rfl | (simp (disch := omega) only [wd])) (markIntS_v (Head_Heirs (Signed_Head (Fork_Before ys[i]))).1 (k0 + 1) (by omega) (by omega)) ?_
    generalize hk3 : endIntS (Head_Heirs (Signed_Head (Fork_Before ys[i]))).1 (k0 + 1) = k3 at b3 ⊢
    have b6 := endIntS_b (Head_Judge (Signed_Head (Fork_Before ys[i]))).1 (k3 + 1 + 1)
    refine bndk (k := k3 + 1 + 1) (by first | rfl | (simp (disch := omega) only [wd])) (markIntS_v (Head_Judge (Signed_Head (Fork_Before ys[i]))).1 (k3 + 1 + 1) (by omega) (by omega)) ?_
    generalize hk6 : endIntS (Head_Judge (Signed_Head (Fork_Before ys[i]))).1 (k3 + 1 + 1) = k6 at b6 ⊢
    have b9 := endSigS_b (Signed_Sigs (Fork_Before ys[i])) (k6 + 1 + 1)
    refine bndk (k := k6 + 1 + 1) (by first | rfl | (simp (disch := omega) only [wd])) (markSigS_v (Signed_Sigs (Fork_Before ys[i])) (k6 + 1 + 1) (by omega) (by omega)) ?_
    generalize hk9 : endSigS (Signed_Sigs (Fork_Before ys[i])) (k6 + 1 + 1) = k9 at b9 ⊢
    have b12 := endIntS_b (Head_Keys (Signed_Head (Fork_A ys[i]))).1 (k9 + 1 + 1 + 1 + 1 + 1 + 1 + 1 + 1)
    refine bndk (k := k9 + 1 + 1 + 1 + 1 + 1 + 1 + 1 + 1) (by first | rfl | (simp (disch := omega) only [wd])) (markIntS_v (Head_Keys (Signed_Head (Fork_A ys[i]))).1 (k9 + 1 + 1 + 1 + 1 + 1 + 1 + 1 + 1) (by omega) (by omega)) ?_
    generalize hk12 : endIntS (Head_Keys (Signed_Head (Fork_A ys[i]))).1 (k9 + 1 + 1 + 1 + 1 + 1 + 1 + 1 + 1) = k12 at b12 ⊢
    have b15 := endIntS_b (Head_Heirs (Signed_Head (Fork_A ys[i]))).1 (k12 + 1)
    refine bndk (k := k12 + 1) (by first | rfl | (simp (disch := omega) only [wd])) (markIntS_v (Head_Heirs (Signed_Head (Fork_A ys[i]))).1 (k12 + 1) (by omega) (by omega)) ?_
    generalize hk15 : endIntS (Head_Heirs (Signed_Head (Fork_A ys[i]))).1 (k12 + 1) = k15 at b15 ⊢
    have b18 := endIntS_b (Head_Judge (Signed_Head (Fork_A ys[i]))).1 (k15 + 1 + 1)
    refine bndk (k := k15 + 1 + 1) (by first | rfl | (simp (disch := omega) only [wd])) (markIntS_v (Head_Judge (Signed_Head (Fork_A ys[i]))).1 (k15 + 1 + 1) (by omega) (by omega)) ?_
    generalize hk18 : endIntS (Head_Judge (Signed_Head (Fork_A ys[i]))).1 (k15 + 1 + 1) = k18 at b18 ⊢
    have b21 := endSigS_b (Signed_Sigs (Fork_A ys[i])) (k18 + 1 + 1)
    refine bndk (k := k18 + 1 + 1) (by first | rfl | (simp (disch := omega) only [wd])) (markSigS_v (Signed_Sigs (Fork_A ys[i])) (k18 + 1 + 1) (by omega) (by omega)) ?_
    generalize hk21 : endSigS (Signed_Sigs (Fork_A ys[i])) (k18 + 1 + 1) = k21 at b21 ⊢
    have b24 := endIntS_b (Head_Keys (Signed_Head (Fork_B ys[i]))).1 (k21 + 1 + 1 + 1 + 1 + 1 + 1 + 1 + 1)
    refine bndk (k := k21 + 1 + 1 + 1 + 1 + 1 + 1 + 1 + 1) (by first | rfl | (simp (disch := omega) only [wd])) (markIntS_v (Head_Keys (Signed_Head (Fork_B ys[i]))).1 (k21 + 1 + 1 + 1 + 1 + 1 + 1 + 1 + 1) (by omega) (by omega)) ?_
    generalize hk24 : endIntS (Head_Keys (Signed_Head (Fork_B ys[i]))).1 (k21 + 1 + 1 + 1 + 1 + 1 + 1 + 1 + 1) = k24 at b24 ⊢
    have b27 := endIntS_b (Head_Heirs (Signed_Head (Fork_B ys[i]))).1 (k24 + 1)
    refine bndk (k := k24 + 1) (by first | rfl | (simp (disch := omega) only [wd])) (markIntS_v (Head_Heirs (Signed_Head (Fork_B ys[i]))).1 (k24 + 1) (by omega) (by omega)) ?_
    generalize hk27 : endIntS (Head_Heirs (Signed_Head (Fork_B ys[i]))).1 (k24 + 1) = k27 at b27 ⊢
    have b30 := endIntS_b (Head_Judge (Signed_Head (Fork_B ys[i]))).1 (k27 + 1 + 1)
    refine bndk (k := k27 + 1 + 1) (by first | rfl | (simp (disch := omega) only [wd])) (markIntS_v (Head_Judge (Signed_Head (Fork_B ys[i]))).1 (k27 + 1 + 1) (by omega) (by omega)) ?_
    generalize hk30 : endIntS (Head_Judge (Signed_Head (Fork_B ys[i]))).1 (k27 + 1 + 1) = k30 at b30 ⊢
    have b33 := endSigS_b (Signed_Sigs (Fork_B ys[i])) (k30 + 1 + 1)
    refine bndk (k := k30 + 1 + 1) (by first | rfl | (simp (disch := omega) only [wd])) (markSigS_v (Signed_Sigs (Fork_B ys[i])) (k30 + 1 + 1) (by omega) (by omega)) ?_
    generalize hk33 : endSigS (Signed_Sigs (Fork_B ys[i])) (k30 + 1 + 1) = k33 at b33 ⊢
    try simp (disch := omega) only [wd]
    subst hk33
    subst hk30
    subst hk27
    subst hk24
    subst hk21
    subst hk18
    subst hk15
    subst hk12
    subst hk9
    subst hk6
    subst hk3
    subst hk0
    simp only [upd_st hi]
    rfl
def sizeEntry (x : TEntry) : Nat := sizeStr x.1 + (sizeStringS x.2.2.2)
structure EntryMax (x : TEntry) : Prop where
  m0 : StrMax x.1
  m1 : StringSMax x.2.2.2
theorem szEntry_v (x0 : TEntry) (L : Int) (hx : EntryMax x0) (h0 : 0 ≤ L) (h1 : L ≤ 1048576) : laws_szEntry x0 L = some (szR (sizeEntry x0) L) := by
  unfold laws_szEntry sizeEntry
  exact szR_s h0 h1 hx.m0 (fun M h0 h1 => szR_l h0 (szStringS_v _ _ hx.m1 h0 h1))
theorem toEntry_v (x0 : TEntry) (hx : sizeEntry x0 ≤ 1048576) : laws_toEntry x0 = some x0 := by
  unfold sizeEntry at hx
  unfold laws_toEntry
  exact bnd (toStringS_v _ (by omega)) (rfl)
theorem eqEntry_v (a : TEntry) (hx : sizeEntry a ≤ 1152921504606846976) : laws_eqEntry a a = some true := by
  unfold sizeEntry at hx
  unfold laws_eqEntry
  exact cF (nbeq _) (cF (bne_self _) (cF (bne_self _) (bnd (eqStringS_v _ (by omega)) (cF rfl (rfl)))))
noncomputable def mkdEntry (x : TEntry) (k : Int) : TEntry := (x.1, x.2.1, x.2.2.1, mkdStringS x.2.2.2 k)
def endEntry (x : TEntry) (k : Int) : Int := endStringS x.2.2.2 k
theorem endEntry_b (x : TEntry) (k : Int) : k ≤ endEntry x k ∧ endEntry x k ≤ k + 64 * (sizeEntry x : Nat) := by
  unfold endEntry sizeEntry
  have b3 := endStringS_b x.2.2.2 k
  omega
theorem markEntry_v (x : TEntry) (k : Int) (h0 : 0 ≤ k) (h1 : k + 64 * (sizeEntry x : Nat) ≤ 2305843009213693952) : laws_markEntry x k = some ((mkdEntry x k).2.2.2, endEntry x k) := by
  unfold sizeEntry at h1
  have b3 := endStringS_b x.2.2.2 k
  unfold laws_markEntry
  exact bnd (markStringS_v x.2.2.2 k (by omega) (by omega)) (rfl)
theorem heldEntry_v (x : TEntry) (k : Int) (h0 : 0 ≤ k) (h1 : k + 64 * (sizeEntry x : Nat) ≤ 2305843009213693952) : laws_heldEntry (mkdEntry x k) k = some (endEntry x k) := by
  unfold sizeEntry at h1
  have b3 := endStringS_b x.2.2.2 k
  unfold laws_heldEntry
  exact bnd (heldStringS_v x.2.2.2 k (by omega) (by omega)) (cF (decide_eq_false (by omega)) (rfl))
def sizeKnown (x : TKnown) : Nat := sizeSignedSS x.1 + (sizeForkS x.2)
structure KnownMax (x : TKnown) : Prop where
  m0 : SignedSSMax x.1
  m1 : ForkSMax x.2
theorem szKnown_v (x0 : TKnown) (L : Int) (hx : KnownMax x0) (h0 : 0 ≤ L) (h1 : L ≤ 1048576) : laws_szKnown x0 L = some (szR (sizeKnown x0) L) := by
  unfold laws_szKnown sizeKnown
  exact szR_b h0 h1 (szSignedSS_v _ _ hx.m0 h0 h1) (fun M h0 h1 => szR_l h0 (szForkS_v _ _ hx.m1 h0 h1))
theorem toKnown_v (x0 : TKnown) (hx : sizeKnown x0 ≤ 1048576) : laws_toKnown x0 = some x0 := by
  unfold sizeKnown at hx
  unfold laws_toKnown
  exact bnd (toSignedSS_v _ (by omega)) (bnd (toForkS_v _ (by omega)) (rfl))
theorem eqKnown_v (a : TKnown) (hx : sizeKnown a ≤ 1152921504606846976) : laws_eqKnown a a = some true := by
  unfold sizeKnown at hx
  unfold laws_eqKnown
  exact bnd (eqSignedSS_v _ (by omega)) (cF rfl (bnd (eqForkS_v _ (by omega)) (cF rfl (rfl))))
def mkdKnown (x : TKnown) (k : Int) : TKnown := (mkdSignedSS x.1 k, mkdForkS x.2 (endSignedSS x.1 k))
def endKnown (x : TKnown) (k : Int) : Int := endForkS x.2 (endSignedSS x.1 k)
theorem endKnown_b (x : TKnown) (k : Int) : k ≤ endKnown x k ∧ endKnown x k ≤ k + 64 * (sizeKnown x : Nat) := by
  unfold endKnown sizeKnown
  have b0 := endSignedSS_b x.1 k
  have b1 := endForkS_b x.2 (endSignedSS x.1 k)
  omega
theorem markKnown_v (x : TKnown) (k : Int) (h0 : 0 ≤ k) (h1 : k + 64 * (sizeKnown x : Nat) ≤ 2305843009213693952) : laws_markKnown x k = some ((mkdKnown x k).1, (mkdKnown x k).2, endKnown x k) := by
  unfold sizeKnown at h1
  have b0 := endSignedSS_b x.1 k
  have b1 := endForkS_b x.2 (endSignedSS x.1 k)
  unfold laws_markKnown
  exact bnd (markSignedSS_v x.1 k (by omega) (by omega)) (bnd (markForkS_v x.2 (endSignedSS x.1 k) (by omega) (by omega)) (rfl))
def sizeLook (x : TLook) : Nat := sizeKnown (Look_Known x) + (sizeEntry (Look_Entry x) + ((Look_Codes x).length))
structure LookMax (x : TLook) : Prop where
  m0 : KnownMax (Look_Known x)
  m1 : EntryMax (Look_Entry x)
  m2 : (Look_Codes x).length ≤ 9223372036854775807
theorem szLook_v (x0 : TLook) (L : Int) (hx : LookMax x0) (h0 : 0 ≤ L) (h1 : L ≤ 1048576) : laws_szLook x0 L = some (szR (sizeLook x0) L) := by
  unfold laws_szLook sizeLook
  exact szR_b h0 h1 (szKnown_v _ _ hx.m0 h0 h1) (fun M h0 h1 => szR_b h0 h1 (szEntry_v _ _ hx.m1 h0 h1) (fun M h0 h1 => szR_l h0 (szIntS_v _ _ hx.m2 h0 h1)))
theorem toLook_v (x0 : TLook) (hx : sizeLook x0 ≤ 1048576) : laws_toLook x0 = some x0 := by
  unfold sizeLook at hx
  unfold laws_toLook
  exact bnd (toKnown_v _ (by omega)) (bnd (toEntry_v _ (by omega)) (bnd (toIntS_v _ (by omega)) (rfl)))
theorem eqLook_v (a : TLook) (hx : sizeLook a ≤ 1152921504606846976) : laws_eqLook a a = some true := by
  unfold sizeLook at hx
  unfold laws_eqLook
  exact bnd (eqKnown_v _ (by omega)) (cF rfl (cF (nbeq _) (bnd (eqEntry_v _ (by omega)) (cF rfl (cF (nbeq _) (bnd (eqIntS_v _ (by omega)) (cF rfl (rfl))))))))
noncomputable def mkdLook (x : TLook) (k : Int) : TLook := Look_mk (mkdKnown (Look_Known x) k) (Look_Found x) (mkdEntry (Look_Entry x) (endKnown (Look_Known x) k)) (Look_Done x) (mkdIntS (Look_Codes x) (endEntry (Look_Entry x) (endKnown (Look_Known x) k)))
def endLook (x : TLook) (k : Int) : Int := endIntS (Look_Codes x) (endEntry (Look_Entry x) (endKnown (Look_Known x) k))
theorem endLook_b (x : TLook) (k : Int) : k ≤ endLook x k ∧ endLook x k ≤ k + 64 * (sizeLook x : Nat) := by
  unfold endLook sizeLook
  have b0 := endKnown_b (Look_Known x) k
  have b2 := endEntry_b (Look_Entry x) (endKnown (Look_Known x) k)
  have b4 := endIntS_b (Look_Codes x) (endEntry (Look_Entry x) (endKnown (Look_Known x) k))
  omega
theorem markLook_v (x : TLook) (k : Int) (h0 : 0 ≤ k) (h1 : k + 64 * (sizeLook x : Nat) ≤ 2305843009213693952) : laws_markLook x k = some ((Look_Known (mkdLook x k)).1, (Look_Known (mkdLook x k)).2, (Look_Entry (mkdLook x k)).2.2.2, (Look_Codes (mkdLook x k)), endLook x k) := by
  unfold sizeLook at h1
  have b0 := endKnown_b (Look_Known x) k
  have b2 := endEntry_b (Look_Entry x) (endKnown (Look_Known x) k)
  have b4 := endIntS_b (Look_Codes x) (endEntry (Look_Entry x) (endKnown (Look_Known x) k))
  unfold laws_markLook
  exact bnd (markKnown_v (Look_Known x) k (by omega) (by omega)) (bnd (markEntry_v (Look_Entry x) (endKnown (Look_Known x) k) (by omega) (by omega)) (bnd (markIntS_v (Look_Codes x) (endEntry (Look_Entry x) (endKnown (Look_Known x) k)) (by omega) (by omega)) (rfl)))
theorem l5Copy_v (x : List ByteArray) (hx : x.length ≤ 1048576) : spec_l5Copy x = some x := by
  unfold spec_l5Copy
  rw [decide_eq_true (by simp; omega), cond_t]; rfl
theorem Clone_string_v (x : List ByteArray) (hx : x.length ≤ 1048576) : slices_Clone_string x = some x := by
  have e : (bif decide (([] : List ByteArray).length + x.length < 68719476736) then some ([] ++ x) else none) = some x := by
    rw [decide_eq_true (by simp; omega), cond_t]; rfl
  unfold slices_Clone_string
  rw [e]
  cases x with
  | nil => exact both_eq _
  | cons a t => rfl
theorem entry_path (e : TEntry) (hx : sizeEntry e ≤ 1048576) : e.2.2.2.length ≤ 1048576 := by
  unfold sizeEntry sizeStringS sizeS at hx; omega
theorem l8Copy_v (e : TEntry) (hx : sizeEntry e ≤ 1048576) : spec_l8Copy e = some e := by
  unfold spec_l8Copy
  exact bnd (l5Copy_v _ (entry_path e hx)) rfl
theorem copyEntry_v (e : TEntry) (hx : sizeEntry e ≤ 1048576) : impl_copyEntry e = some e := by
  unfold impl_copyEntry
  exact bnd (Clone_string_v _ (entry_path e hx)) rfl
def believedOf (l : TLook) : TREntryBool := bif Look_Done l && Look_Found l then REntryBool_mk (Look_Entry l) true else dREntryBool
theorem sBelievedOf_v (l : TLook) (hx : sizeLook l ≤ 1048576) : spec_BelievedOf l = some (believedOf l) := by
  unfold sizeLook at hx
  unfold spec_BelievedOf believedOf
  simp only [spec_BelievedOf.b, spec_BelievedOf.l5, spec_BelievedOf.g5, l8Copy_v (Look_Entry l) (by omega), bind_s]
  cases Look_Done l <;> cases Look_Found l <;> rfl
theorem iBelievedOf_v (l : TLook) (hx : sizeLook l ≤ 1048576) : impl_BelievedOf l = some (believedOf l) := by
  unfold sizeLook at hx
  unfold impl_BelievedOf believedOf
  simp only [impl_BelievedOf.b, impl_BelievedOf.l5, impl_BelievedOf.g5, copyEntry_v (Look_Entry l) (by omega), bind_s]
  cases Look_Done l <;> cases Look_Found l <;> rfl
theorem believedOf_size (l : TLook) (hx : sizeLook l ≤ 1048576) : sizeEntry (REntryBool_r0 (believedOf l)) ≤ 1048576 := by
  unfold sizeLook at hx
  unfold believedOf
  cases (Look_Done l && Look_Found l) with
  | false => exact Nat.zero_le _
  | true => show sizeEntry (Look_Entry l) ≤ _; omega
theorem pure_FnExactBelievedOf (x0 : TLook) (h0 : LookMax x0) : laws_FnExactBelievedOf x0 = some true := by
  unfold laws_FnExactBelievedOf
  refine sz_law (by omega) (szLook_v _ _ h0 (by omega) (by omega)) (fun g0 => ?_)
  have b0 : sizeLook x0 ≤ 1048576 := by omega
  obtain ⟨r, hs, hi, hr⟩ : ∃ r, spec_BelievedOf x0 = some r ∧ impl_BelievedOf x0 = some r ∧ sizeEntry (REntryBool_r0 r) ≤ 1048576 := ⟨believedOf x0, sBelievedOf_v x0 b0, iBelievedOf_v x0 b0, believedOf_size x0 b0⟩
  refine bnd (toLook_v x0 b0) ?_
  refine bnd hs ?_
  refine bnd (toLook_v x0 b0) ?_
  refine bnd hi ?_
  refine bnd (eqEntry_v (REntryBool_r0 r) (by omega)) ?_
  refine cF rfl ?_
  refine cF (nbeq _) ?_
  refine bnd (toLook_v x0 b0) ?_
  refine bnd (eqLook_v x0 (by omega)) ?_
  refine cF rfl ?_
  have k0 := endLook_b x0 1
  refine bnd (markLook_v x0 1 (by omega) (by omega)) ?_
  refine cF (decide_eq_false (by (try dsimp only); omega)) ?_
  refine bnd (eqEntry_v (REntryBool_r0 r) (by omega)) ?_
  refine cF rfl ?_
  refine cF (nbeq _) ?_
  have m0 := endEntry_b (REntryBool_r0 r) 1
  refine bnd (markEntry_v (REntryBool_r0 r) 1 (by omega) (by omega)) ?_
  refine bnd (heldEntry_v (REntryBool_r0 r) 1 (by omega) (by omega)) ?_
  refine cF (decide_eq_false (by (try dsimp only); omega)) ?_
  refine cF (bne_self _) ?_
  refine bnd (toLook_v x0 b0) ?_
  refine bnd hi ?_
  refine bnd (eqEntry_v (REntryBool_r0 r) (by omega)) ?_
  refine cF rfl ?_
  refine cF (nbeq _) ?_
  refine bnd (heldEntry_v (REntryBool_r0 r) 1 (by omega) (by omega)) ?_
  refine cF (decide_eq_false (by (try dsimp only); omega)) ?_
  refine cF (bne_self _) ?_
  rfl

end Go.Proofs.Ytbdifkeoiodalaa
