/- The plain law of FnExactNameHead: what the printed functions compute is true, for all data in range. -/
import Derived.Test.YtbdifkeoiodalaaXNameHeadPure0
namespace Go.Proofs.Ytbdifkeoiodalaa
open V
set_option linter.unusedVariables false
set_option linter.unusedSimpArgs false
set_option maxHeartbeats 1000000
theorem bnd {α β : Type} {e : Option α} {a : α} {f : α → Option β} {r : Option β} (h : e = some a) (hf : f a = r) : e.bind f = r := by rw [h, bind_s]; exact hf
theorem cF {α : Type} {c : Bool} {a b r : α} (h : c = false) (hb : b = r) : (bif c then a else b) = r := by rw [h, cond_f]; exact hb
theorem nbeq {α : Type} [BEq α] [ReflBEq α] (a : α) : (!(a == a)) = false := by rw [beq_self_eq_true]; rfl
def szR (s : Nat) (L : Int) : Int := if (s : Int) ≤ L then L - s else -1
theorem szR_b {s1 s2 : Nat} {L : Int} (h0 : 0 ≤ L) (h1 : L ≤ 1048576) {e : Option Int} (he : e = some (szR s1 L)) {f : Int → Option Int} (hf : ∀ M, 0 ≤ M → M ≤ 1048576 → f M = some (szR s2 M)) : (e.bind fun y => bif decide (y < (0 : Int)) then some (-1 : Int) else f y) = some (szR (s1 + s2) L) := by
  rw [he, bind_s]
  unfold szR
  by_cases g : (s1 : Int) ≤ L
  · rw [if_pos g, decide_eq_false (by omega), cond_f, hf _ (by omega) (by omega)]
    unfold szR
    by_cases k : (s2 : Int) ≤ L - s1
    · rw [if_pos k, if_pos (by omega)]; congr 1; omega
    · rw [if_neg k, if_neg (by omega)]
  · rw [if_neg g, decide_eq_true (by omega), cond_t, if_neg (by omega)]
theorem szR_l {s : Nat} {L : Int} (h0 : 0 ≤ L) {e : Option Int} (he : e = some (szR s L)) : (e.bind fun y => bif decide (y < (0 : Int)) then some (-1 : Int) else some y) = some (szR s L) := by
  rw [he, bind_s]
  unfold szR
  by_cases g : (s : Int) ≤ L
  · rw [if_pos g, decide_eq_false (by omega), cond_f]
  · rw [if_neg g, decide_eq_true (by omega), cond_t]
theorem sz_law {s : Nat} {L : Int} (h0 : 0 ≤ L) {e : Option Int} (he : e = some (szR s L)) {f : Int → Option Bool} (hf : (s : Int) ≤ L → f (L - s) = some true) : (e.bind fun y => bif decide (y < (0 : Int)) then some true else f y) = some true := by
  rw [he, bind_s]
  unfold szR
  by_cases g : (s : Int) ≤ L
  · rw [if_pos g, decide_eq_false (by omega), cond_f]; exact hf g
  · rw [if_neg g, decide_eq_true (by omega), cond_t]
theorem l1In_v (a b c : Int) : spec_l1In a b c = some (decide (b ≤ a) && decide (a ≤ c)) := by
  show (bif decide (b ≤ a) then some (decide (a ≤ c)) else some false) = _
  cases decide (b ≤ a) <;> rfl
theorem InRange_v (a b c : Int) : impl_InRange a b c = some (decide (b ≤ a) && decide (a ≤ c)) := by
  show (bif decide (b ≤ a) then some (decide (a ≤ c)) else some false) = _
  cases decide (b ≤ a) <;> rfl
def sizeS {α : Type} (size : α → Nat) (xs : List α) : Nat := xs.length + (xs.map size).sum
theorem toList_v {α : Type} (xs : List α) (d : α) (f : α → Option α) (hl : xs.length ≤ 1048576) (hf : ∀ i (h : i < xs.length), f xs[i] = some xs[i]) (l : Nat → Int → List α → Option (List α)) (u : ∀ n a ys, l (n + 1) a ys = (bif decide (a < (xs.length : Int)) then bif decide (0 ≤ a) then bif decide (a < (xs.length : Int)) then (f (xs.getD a.toNat d)).bind fun y1 => bif decide (0 ≤ a) then bif decide (a < (ys.length : Int)) then l n (IntKind.i64.wrap (a + (1 : Int))) (ys.set a.toNat y1) else none else none else none else none else some ys)) : (bif ((xs.length : Int) == (xs.length : Int)) then bif decide (0 ≤ (xs.length : Int)) then bif decide ((xs.length : Int) < (68719476736 : Int)) then l KK (0 : Int) (List.replicate ((xs.length : Int).toNat) d) else none else none else none) = some xs := by
  have hh : ∀ i n, i ≤ xs.length → xs.length - i < n → ∀ ys, ys = xs.take i ++ List.replicate (xs.length - i) d → l n (i : Int) ys = some xs := by
    refine idx_ind ?_ ?_
    · intro n ys hy
      subst hy
      rw [u]
      simp only [lt_f (Nat.le_refl _), cond_f]
      simp
    · intro i n hi ih ys hy
      have hyl : i < ys.length := by subst hy; simp; omega
      rw [u]
      simp only [lt_t hi, lt_t hyl, ge_t, cond_t, Int.toNat_natCast, at_n hi, hf i hi, bind_s, w64_succ (i := i) (by omega)]
      exact ih _ (fill_set hy hi)
  rw [beq_self_eq_true, cond_t, ge_t, cond_t, decide_eq_true (by omega), cond_t, Int.toNat_natCast]
  have := hh 0 KK (Nat.zero_le _) (KK_gt (by omega)) _ rfl
  simpa using this
theorem eqList_v {α : Type} (xs : List α) (d : α) (f : α → α → Option Bool) (hl : xs.length ≤ 1152921504606846976) (hf : ∀ i (h : i < xs.length), f xs[i] xs[i] = some true) (l : Nat → Int → Option Bool) (u : ∀ n a, l (n + 1) a = (bif decide (a < (xs.length : Int)) then bif decide (0 ≤ a) then bif decide (a < (xs.length : Int)) then bif decide (0 ≤ a) then bif decide (a < (xs.length : Int)) then (f (xs.getD a.toNat d) (xs.getD a.toNat d)).bind fun y1 => bif !y1 then some false else l n (IntKind.i64.wrap (a + (1 : Int))) else none else none else none else none else some true)) : (bif (xs.length : Int) != (xs.length : Int) then some false else l KK (0 : Int)) = some true := by
  have hh : ∀ i n, i ≤ xs.length → xs.length - i < n → l n (i : Int) = some true := by
    refine idx_ind ?_ ?_
    · intro n
      rw [u]
      simp only [lt_f (Nat.le_refl _), cond_f]
    · intro i n hi ih
      rw [u]
      simp only [lt_t hi, ge_t, cond_t, Int.toNat_natCast, at_n hi, hf i hi, bind_s, w64_succ (i := i) (by omega), Bool.not_true, cond_f]
      exact ih
  rw [bne_self, cond_f]
  exact hh 0 KK (Nat.zero_le _) (KK_gt (by omega))
theorem upd_ln {α : Type} (xs : List α) (i : Nat) (f : α → α) : (upd xs i f).length = xs.length := by
  induction xs generalizing i with
  | nil => rfl
  | cons x t ih =>
    cases i with
    | zero => rfl
    | succ i => show (upd t i f).length + 1 = _; rw [ih]; rfl
theorem upd_upd {α : Type} (xs : List α) (i : Nat) (f g : α → α) : upd (upd xs i f) i g = upd xs i (fun z => g (f z)) := by
  induction xs generalizing i with
  | nil => rfl
  | cons x t ih =>
    cases i with
    | zero => rfl
    | succ i => show x :: upd (upd t i f) i g = x :: _; rw [ih]
theorem upd_get {α : Type} {xs : List α} {i : Nat} (h : i < xs.length) (f : α → α) (d : α) : (upd xs i f).getD i d = f xs[i] := by
  induction xs generalizing i with
  | nil => simp at h
  | cons x t ih =>
    cases i with
    | zero => rfl
    | succ i => exact ih (by simpa using h)
theorem wd {n : Int} (h : 0 ≤ n ∧ n ≤ 4611686018427387904) : IntKind.i64.wrap n = n := w64 (by omega) (by omega)
/-- Marks of a list, each element's from the last one's end. -/
def mkl {α : Type} (M : α → Int → α) (E : α → Int → Int) : List α → Int → List α
  | [], _ => []
  | x :: t, k => M x k :: mkl M E t (E x k)
def endl {α : Type} (E : α → Int → Int) : List α → Int → Int
  | [], k => k
  | x :: t, k => endl E t (E x k)
theorem endl_b {α : Type} (E : α → Int → Int) (size : α → Nat) (hE : ∀ x k, k ≤ E x k ∧ E x k ≤ k + 64 * (1 + size x)) (xs : List α) : ∀ k, k ≤ endl E xs k ∧ endl E xs k ≤ k + 64 * (sizeS size xs : Nat) := by
  induction xs with
  | nil => intro k; exact ⟨Int.le_refl _, by show k ≤ _; omega⟩
  | cons x t ih =>
    intro k
    have h1 := hE x k
    have h2 := ih (E x k)
    have e : sizeS size (x :: t) = 1 + size x + sizeS size t := by unfold sizeS; simp; omega
    show k ≤ endl E t (E x k) ∧ endl E t (E x k) ≤ _
    rw [e]
    omega
theorem mark_l {α : Type} (M : α → Int → α) (E : α → Int → Int) (size : α → Nat) (hE : ∀ x k, k ≤ E x k ∧ E x k ≤ k + 64 * (1 + size x)) (l : Nat → Int → Int → List α → Option (List α × Int)) (u0 : ∀ n k (ys : List α), l (n + 1) k (ys.length : Int) ys = some (ys, k)) (u : ∀ n k (i : Nat) (ys : List α) (hi : i < ys.length), 0 ≤ k → k + 64 * (1 + (size ys[i] : Int)) ≤ 2305843009213693952 → (i : Int) ≤ 2305843009213693952 → l (n + 1) k (i : Int) ys = l n (E ys[i] k) ((i + 1 : Nat) : Int) (ys.set i (M ys[i] k))) : ∀ (suf pre : List α) (k : Int) (n : Nat), suf.length < n → 0 ≤ k → k + 64 * (sizeS size suf : Nat) ≤ 2305843009213693952 → (pre.length : Int) + suf.length ≤ 2305843009213693952 → l n k (pre.length : Int) (pre ++ suf) = some (pre ++ mkl M E suf k, endl E suf k) := by
  intro suf
  induction suf with
  | nil =>
    intro pre k n hn h0 h1 h2
    match n, hn with
    | n + 1, _ =>
      have := u0 n k (pre ++ [])
      rw [List.append_nil] at this ⊢
      rw [this]; show _ = some (pre ++ [], k); rw [List.append_nil]
  | cons x t ih =>
    intro pre k n hn h0 h1 h2
    have e : sizeS size (x :: t) = 1 + size x + sizeS size t := by unfold sizeS; simp; omega
    rw [e] at h1
    have hx := hE x k
    match n, hn with
    | n + 1, hn =>
      have hi : pre.length < (pre ++ x :: t).length := by simp
      have hg : (pre ++ x :: t)[pre.length] = x := by simp
      rw [u n k pre.length (pre ++ x :: t) hi h0 (by rw [hg]; omega) (by omega), hg]
      have hs : (pre ++ x :: t).set pre.length (M x k) = (pre ++ [M x k]) ++ t := by simp
      have := ih (pre ++ [M x k]) (E x k) n (by simp at hn; omega) (by omega) (by omega) (by simp at h2 ⊢; omega)
      rw [hs]
      simp only [List.length_append, List.length_cons, List.length_nil] at this
      rw [show pre.length + 1 = pre.length + (0 + 1) by omega, this]
      show some ((pre ++ [M x k]) ++ mkl M E t (E x k), endl E t (E x k)) = some (pre ++ (M x k :: mkl M E t (E x k)), endl E t (E x k))
      rw [List.append_assoc]; rfl
theorem held_l {α : Type} (M : α → Int → α) (E : α → Int → Int) (size : α → Nat) (hE : ∀ x k, k ≤ E x k ∧ E x k ≤ k + 64 * (1 + size x)) (xs : List α) (l : Nat → Int → Int → Option Int) (u0 : ∀ n k, l (n + 1) k (xs.length : Int) = some k) (u : ∀ n k (i : Nat) (x : α) (hi : i < xs.length), xs[i] = M x k → 0 ≤ k → k + 64 * (1 + (size x : Int)) ≤ 2305843009213693952 → (i : Int) ≤ 2305843009213693952 → l (n + 1) k (i : Int) = l n (E x k) ((i + 1 : Nat) : Int)) : ∀ (suf : List α) (pre : List α) (k : Int) (n : Nat), xs = pre ++ mkl M E suf k → suf.length < n → 0 ≤ k → k + 64 * (sizeS size suf : Nat) ≤ 2305843009213693952 → (pre.length : Int) + suf.length ≤ 2305843009213693952 → l n k (pre.length : Int) = some (endl E suf k) := by
  intro suf
  induction suf with
  | nil =>
    intro pre k n hx hn h0 h1 h2
    match n, hn with
    | n + 1, _ =>
      have e : xs.length = pre.length := by rw [hx]; show (pre ++ []).length = _; rw [List.append_nil]
      have := u0 n k
      rw [e] at this
      exact this
  | cons x t ih =>
    intro pre k n hx hn h0 h1 h2
    have e : sizeS size (x :: t) = 1 + size x + sizeS size t := by unfold sizeS; simp; omega
    rw [e] at h1
    have hb := hE x k
    have hx' : xs = pre ++ (M x k :: mkl M E t (E x k)) := hx
    match n, hn with
    | n + 1, hn =>
      have hi : pre.length < xs.length := by rw [hx']; simp
      have hg : xs[pre.length] = M x k := by
        have : xs[pre.length]? = some (M x k) := by rw [hx']; simp
        rw [List.getElem?_eq_getElem hi] at this
        injection this
      rw [u n k pre.length x hi hg h0 (by omega) (by omega)]
      have := ih (pre ++ [M x k]) (E x k) n (by rw [hx']; simp) (by simp at hn; omega) (by omega) (by omega) (by simp at h2 ⊢; omega)
      simp only [List.length_append, List.length_cons, List.length_nil] at this
      exact this
theorem szR_fl {s : Nat} {L : Int} (h0 : 0 ≤ L) (h1 : L ≤ 1048576) (hm : s ≤ 9223372036854775807) : (bif decide (IntKind.i64.wrap (L - (s : Int)) < (0 : Int)) then some (-1 : Int) else some (IntKind.i64.wrap (L - (s : Int)))) = some (szR s L) := by
  rw [w64 (by omega) (by omega)]
  unfold szR
  by_cases g : (s : Int) ≤ L
  · rw [decide_eq_false (by omega), cond_f, if_pos g]
  · rw [decide_eq_true (by omega), cond_t, if_neg g]
theorem z30 : ((3 : Int) == (0 : Int)) = false := by decide
def size0 {α : Type} (_ : α) : Nat := 0
theorem sizeS0 {α : Type} (xs : List α) : sizeS (size0 (α := α)) xs = xs.length := by
  unfold sizeS
  have : ∀ ys : List α, (ys.map size0).sum = 0 := by
    intro ys
    induction ys with
    | nil => rfl
    | cons y t ih => rw [List.map_cons, List.sum_cons, ih]; rfl
  rw [this, Nat.add_zero]
theorem szIntS_v (x0 : List Int) (L : Int) (hx : x0.length ≤ 9223372036854775807) (h0 : 0 ≤ L) (h1 : L ≤ 1048576) : laws_szIntS x0 L = some (szR x0.length L) := by
  unfold laws_szIntS
  exact szR_fl h0 h1 hx
theorem toIntS_v (x0 : List Int) (hx : x0.length ≤ 1048576) : laws_toIntS x0 = some x0 :=
  toList_v x0 (0 : Int) (fun s => some s) hx (fun i h => rfl) (laws_toIntS.l6 x0) (fun n a b => laws_toIntS.u6 x0 n a b)
theorem eqIntS_v (x0 : List Int) (hx : x0.length ≤ 1152921504606846976) : laws_eqIntS x0 x0 = some true :=
  eqList_v x0 (0 : Int) (fun s t => some (s == t)) hx (fun i h => by rw [beq_self_eq_true]) (laws_eqIntS.l8 x0 x0) (fun n a => laws_eqIntS.u8 x0 x0 n a)
def fullInt (x : Int) (k : Int) : Int := k
def fendInt (x : Int) (k : Int) : Int := k + 1
theorem fendInt_b (x : Int) (k : Int) : k ≤ fendInt x k ∧ fendInt x k ≤ k + 64 * (1 + (size0 x : Nat)) := by
  unfold fendInt size0
  omega
def mkdIntS (xs : List Int) (k : Int) : List Int := mkl fullInt fendInt xs k
def endIntS (xs : List Int) (k : Int) : Int := endl fendInt xs k
theorem endIntS_b (xs : List Int) (k : Int) : k ≤ endIntS xs k ∧ endIntS xs k ≤ k + 64 * (xs.length : Nat) := by
  have := endl_b fendInt size0 (fendInt_b) xs k
  rw [sizeS0] at this
  exact this
theorem markIntS_v (xs : List Int) (k : Int) (h0 : 0 ≤ k) (h1 : k + 64 * (xs.length : Nat) ≤ 2305843009213693952) : laws_markIntS xs k = some (mkdIntS xs k, endIntS xs k) := by
  refine mark_l fullInt fendInt size0 (fendInt_b) laws_markIntS.l4 (fun n k ys => ?_) (fun n k i ys hi h0 h1 h2 => ?_) xs [] k KK (KK_gt (by omega)) h0 (by rw [sizeS0]; exact h1) (by simp; omega)
  · rw [laws_markIntS.u4]
    simp only [laws_markIntS.g4, lt_f (Nat.le_refl _), cond_f]
  · rw [laws_markIntS.u4]
    unfold size0 at h1
    simp only [laws_markIntS.g4, upd_ln, upd_upd, upd_get hi, lt_t hi, ge_t, cond_t, Int.toNat_natCast, at_n hi, z30, cond_f]
    simp (disch := omega) only [wd]
    rfl
theorem heldIntS_v (xs : List Int) (k : Int) (h0 : 0 ≤ k) (h1 : k + 64 * (xs.length : Nat) ≤ 2305843009213693952) : laws_heldIntS (mkdIntS xs k) k = some (endIntS xs k) := by
  refine held_l fullInt fendInt size0 (fendInt_b) (mkdIntS xs k) (laws_heldIntS.l4 (mkdIntS xs k)) (fun n k => ?_) (fun n k i x hi hx h0 h1 h2 => ?_) xs [] k KK rfl (KK_gt (by omega)) h0 (by rw [sizeS0]; exact h1) (by simp; omega)
  · rw [laws_heldIntS.u4]
    simp only [laws_heldIntS.g4, lt_f (Nat.le_refl _), cond_f]
  · rw [laws_heldIntS.u4]
    unfold size0 at h1
    simp only [laws_heldIntS.g4, lt_t hi, ge_t, cond_t, Int.toNat_natCast, at_n hi, hx, z30, cond_f]
    refine cF (bne_self _) ?_
    simp (disch := omega) only [wd]
    rfl
def sizeKeys (x : TKeys) : Nat := x.1.length
def KeysMax (x : TKeys) : Prop := x.1.length ≤ 9223372036854775807
theorem szKeys_v (x0 : TKeys) (L : Int) (hx : KeysMax x0) (h0 : 0 ≤ L) (h1 : L ≤ 1048576) : laws_szKeys x0 L = some (szR (sizeKeys x0) L) := by
  unfold laws_szKeys sizeKeys
  exact szR_l h0 (szIntS_v _ _ hx h0 h1)
theorem toKeys_v (x0 : TKeys) (hx : sizeKeys x0 ≤ 1048576) : laws_toKeys x0 = some x0 := by
  unfold sizeKeys at hx
  unfold laws_toKeys
  exact bnd (toIntS_v _ (by omega)) (rfl)
theorem eqKeys_v (a : TKeys) (hx : sizeKeys a ≤ 1152921504606846976) : laws_eqKeys a a = some true := by
  unfold sizeKeys at hx
  unfold laws_eqKeys
  exact bnd (eqIntS_v _ (by omega)) (cF rfl (cF (bne_self _) (rfl)))
def mkdKeys (x : TKeys) (k : Int) : TKeys := (mkdIntS x.1 k, x.2)
def endKeys (x : TKeys) (k : Int) : Int := endIntS x.1 k
theorem endKeys_b (x : TKeys) (k : Int) : k ≤ endKeys x k ∧ endKeys x k ≤ k + 64 * (sizeKeys x : Nat) := by
  unfold endKeys sizeKeys
  have b0 := endIntS_b x.1 k
  omega
theorem markKeys_v (x : TKeys) (k : Int) (h0 : 0 ≤ k) (h1 : k + 64 * (sizeKeys x : Nat) ≤ 2305843009213693952) : laws_markKeys x k = some ((mkdKeys x k).1, endKeys x k) := by
  unfold sizeKeys at h1
  have b0 := endIntS_b x.1 k
  unfold laws_markKeys
  exact bnd (markIntS_v x.1 k (by omega) (by omega)) (rfl)
theorem heldKeys_v (x : TKeys) (k : Int) (h0 : 0 ≤ k) (h1 : k + 64 * (sizeKeys x : Nat) ≤ 2305843009213693952) : laws_heldKeys (mkdKeys x k) k = some (endKeys x k) := by
  unfold sizeKeys at h1
  have b0 := endIntS_b x.1 k
  unfold laws_heldKeys
  exact bnd (heldIntS_v x.1 k (by omega) (by omega)) (cF (decide_eq_false (by omega)) (rfl))
def sizeHead (x : THead) : Nat := sizeKeys (Head_Keys x) + (sizeKeys (Head_Heirs x) + (sizeKeys (Head_Judge x)))
structure HeadMax (x : THead) : Prop where
  m0 : KeysMax (Head_Keys x)
  m1 : KeysMax (Head_Heirs x)
  m2 : KeysMax (Head_Judge x)
theorem szHead_v (x0 : THead) (L : Int) (hx : HeadMax x0) (h0 : 0 ≤ L) (h1 : L ≤ 1048576) : laws_szHead x0 L = some (szR (sizeHead x0) L) := by
  unfold laws_szHead sizeHead
  exact szR_b h0 h1 (szKeys_v _ _ hx.m0 h0 h1) (fun M h0 h1 => szR_b h0 h1 (szKeys_v _ _ hx.m1 h0 h1) (fun M h0 h1 => szR_l h0 (szKeys_v _ _ hx.m2 h0 h1)))
theorem toHead_v (x0 : THead) (hx : sizeHead x0 ≤ 1048576) : laws_toHead x0 = some x0 := by
  unfold sizeHead at hx
  unfold laws_toHead
  exact bnd (toKeys_v _ (by omega)) (bnd (toKeys_v _ (by omega)) (bnd (toKeys_v _ (by omega)) (rfl)))
theorem eqHead_v (a : THead) (hx : sizeHead a ≤ 1152921504606846976) : laws_eqHead a a = some true := by
  unfold sizeHead at hx
  unfold laws_eqHead
  exact cF (bne_self _) (cF (bne_self _) (cF (bne_self _) (cF (bne_self _) (cF (bne_self _) (cF (bne_self _) (cF (bne_self _) (cF (bne_self _) (bnd (eqKeys_v _ (by omega)) (cF rfl (bnd (eqKeys_v _ (by omega)) (cF rfl (cF (bne_self _) (bnd (eqKeys_v _ (by omega)) (cF rfl (cF (nbeq _) (rfl))))))))))))))))
def mkdHead (x : THead) (k : Int) : THead := Head_mk (Head_Zone x) (Head_Epoch x) (Head_Kind x) (Head_Time x) (Head_Until x) (Head_Count x) (Head_Root x) (Head_Prev x) (mkdKeys (Head_Keys x) k) (mkdKeys (Head_Heirs x) (endKeys (Head_Keys x) k)) (Head_Wait x) (mkdKeys (Head_Judge x) (endKeys (Head_Heirs x) (endKeys (Head_Keys x) k))) (Head_Frozen x)
def endHead (x : THead) (k : Int) : Int := endKeys (Head_Judge x) (endKeys (Head_Heirs x) (endKeys (Head_Keys x) k))
theorem endHead_b (x : THead) (k : Int) : k ≤ endHead x k ∧ endHead x k ≤ k + 64 * (sizeHead x : Nat) := by
  unfold endHead sizeHead
  have b8 := endKeys_b (Head_Keys x) k
  have b9 := endKeys_b (Head_Heirs x) (endKeys (Head_Keys x) k)
  have b11 := endKeys_b (Head_Judge x) (endKeys (Head_Heirs x) (endKeys (Head_Keys x) k))
  omega
theorem markHead_v (x : THead) (k : Int) (h0 : 0 ≤ k) (h1 : k + 64 * (sizeHead x : Nat) ≤ 2305843009213693952) : laws_markHead x k = some ((Head_Keys (mkdHead x k)).1, (Head_Heirs (mkdHead x k)).1, (Head_Judge (mkdHead x k)).1, endHead x k) := by
  unfold sizeHead at h1
  have b8 := endKeys_b (Head_Keys x) k
  have b9 := endKeys_b (Head_Heirs x) (endKeys (Head_Keys x) k)
  have b11 := endKeys_b (Head_Judge x) (endKeys (Head_Heirs x) (endKeys (Head_Keys x) k))
  unfold laws_markHead
  exact bnd (markKeys_v (Head_Keys x) k (by omega) (by omega)) (bnd (markKeys_v (Head_Heirs x) (endKeys (Head_Keys x) k) (by omega) (by omega)) (bnd (markKeys_v (Head_Judge x) (endKeys (Head_Heirs x) (endKeys (Head_Keys x) k)) (by omega) (by omega)) (rfl)))
theorem heldHead_v (x : THead) (k : Int) (h0 : 0 ≤ k) (h1 : k + 64 * (sizeHead x : Nat) ≤ 2305843009213693952) : laws_heldHead (mkdHead x k) k = some (endHead x k) := by
  unfold sizeHead at h1
  have b8 := endKeys_b (Head_Keys x) k
  have b9 := endKeys_b (Head_Heirs x) (endKeys (Head_Keys x) k)
  have b11 := endKeys_b (Head_Judge x) (endKeys (Head_Heirs x) (endKeys (Head_Keys x) k))
  unfold laws_heldHead
  exact bnd (heldKeys_v (Head_Keys x) k (by omega) (by omega)) (cF (decide_eq_false (by omega)) (bnd (heldKeys_v (Head_Heirs x) (endKeys (Head_Keys x) k) (by omega) (by omega)) (cF (decide_eq_false (by omega)) (bnd (heldKeys_v (Head_Judge x) (endKeys (Head_Heirs x) (endKeys (Head_Keys x) k)) (by omega) (by omega)) (cF (decide_eq_false (by omega)) (rfl))))))
theorem Grow_v (n : Int) (h0 : 0 ≤ n) (h1 : n < 68719476736) : slices_Grow_int [] n = some [] := by
  have e0 : IntKind.i64.wrap ((0 : Int) - ((0 : Nat) : Int)) = 0 := w64 (by omega) (by omega)
  have e1 : IntKind.i64.wrap (n - 0) = n := by rw [w64 (by omega) (by omega)]; omega
  unfold slices_Grow_int
  simp only [slices_Grow_int.b, slices_Grow_int.l7, slices_Grow_int.g7, e0, e1]
  rw [decide_eq_false (by omega), cond_f]
  by_cases h : n > 0
  · rw [decide_eq_true h, cond_t, decide_eq_true (by omega), cond_t, decide_eq_true h1, cond_t, decide_eq_true (by omega), cond_t, decide_eq_true (by omega), cond_t, decide_eq_true (by omega), cond_t]
    simp
  · rw [decide_eq_false h, cond_f]
theorem Concat_l22 (x0 : List (List Int)) (hl : x0.length < 1152921504606846976) : ∀ i n, i ≤ x0.length → x0.length - i < n → ∀ acc : List Int, acc.length + (x0.drop i).flatten.length < 68719476736 → slices_Concat_int.l22 x0 n (x0.length : Int) (i : Int) acc = some (acc ++ (x0.drop i).flatten) := by
  refine idx_ind ?_ ?_
  · intro n acc ha
    rw [slices_Concat_int.u22]
    simp only [slices_Concat_int.g22, lt_f (Nat.le_refl _), cond_f, List.drop_length, List.flatten_nil, List.append_nil]
  · intro i n hi ih acc ha
    rw [List.drop_eq_getElem_cons hi, List.flatten_cons] at ha ⊢
    rw [List.length_append] at ha
    rw [slices_Concat_int.u22]
    simp only [slices_Concat_int.g22, lt_t hi, ge_t, cond_t, w64_succ (i := i) (by omega), Int.toNat_natCast, at_n hi]
    rw [decide_eq_true (by omega), cond_t, ih _ (by rw [List.length_append]; omega), List.append_assoc]
theorem Concat_l6 (x0 : List (List Int)) (hl : x0.length < 1152921504606846976) (hf : x0.flatten.length < 68719476736) : ∀ i n, i ≤ x0.length → x0.length - i < n → ∀ s : Int, 0 ≤ s → s + (x0.drop i).flatten.length < 68719476736 → slices_Concat_int.l6 x0 n s (x0.length : Int) (i : Int) = some x0.flatten := by
  refine idx_ind ?_ ?_
  · intro n s h0 ha
    rw [slices_Concat_int.u6]
    rw [List.drop_length, List.flatten_nil] at ha
    simp only [slices_Concat_int.g6, lt_f (Nat.le_refl _), cond_f]
    rw [Grow_v s h0 (by simpa using ha), bind_s]
    have := Concat_l22 x0 hl 0 KK (Nat.zero_le _) (KK_gt (by omega)) [] (by simpa using hf)
    simpa using this
  · intro i n hi ih s h0 ha
    rw [List.drop_eq_getElem_cons hi, List.flatten_cons, List.length_append] at ha
    rw [slices_Concat_int.u6]
    simp only [slices_Concat_int.g6, lt_t hi, ge_t, cond_t, w64_succ (i := i) (by omega), Int.toNat_natCast, at_n hi]
    rw [w64 (n := s + (x0[i].length : Int)) (by omega) (by omega), decide_eq_false (by omega), cond_f, ih _ (by omega) (by omega)]
theorem Concat_v (x0 : List (List Int)) (hl : x0.length < 1152921504606846976) (hf : x0.flatten.length < 68719476736) : slices_Concat_int x0 = some x0.flatten := by
  have := Concat_l6 x0 hl hf 0 KK (Nat.zero_le _) (KK_gt (by omega)) 0 (Int.le_refl 0) (by rw [List.drop_zero, Int.zero_add]; omega)
  exact this
theorem Mod_eq (a b : Int) : spec_Mod a b = impl_Mod a b := by
  unfold spec_Mod impl_Mod
  rw [l1In_v, InRange_v]
def mod2 (a : Int) : Int := Int.tmod (IntKind.i64.wrap (Int.tmod a 2147483647 + 2147483647)) 2147483647
theorem Mod_v (a : Int) : impl_Mod a 2147483647 = some (mod2 a) := by
  unfold impl_Mod mod2
  rw [InRange_v, bind_s]
  rw [decide_eq_true (by omega), decide_eq_true (by omega), Bool.and_self, Bool.not_true, cond_f]
  rw [show ((2147483647 : Int) == 0) = false from by decide, cond_f, cond_f]
def hstep (h a : Int) : Int := Int.tmod (IntKind.i64.wrap ((IntKind.i64.wrap ((IntKind.i64.wrap (h * (1000003 : Int))) + mod2 a)) + (13 : Int))) (2147483647 : Int)
theorem sHash_l (x0 : List Int) (hx : x0.length ≤ 1152921504606846976) : ∀ i n, i ≤ x0.length → x0.length - i < n → ∀ h : Int, spec_Hash.l6 x0 n h (i : Int) = some ((x0.drop i).foldl hstep h) := by
  refine idx_ind ?_ ?_
  · intro n h
    rw [spec_Hash.u6]
    simp only [spec_Hash.g6, lt_f (Nat.le_refl _), cond_f, List.drop_length, List.foldl_nil]
  · intro i n hi ih h
    rw [List.drop_eq_getElem_cons hi, List.foldl_cons]
    rw [spec_Hash.u6]
    simp only [spec_Hash.g6, lt_t hi, ge_t, cond_t, bind_s, w64_succ (i := i) (by omega), Int.toNat_natCast, at_n hi, Mod_eq, Mod_v]
    rw [show ((2147483647 : Int) == 0) = false from by decide, cond_f, ih]
    rfl
theorem iHash_l (x0 : List Int) (hx : x0.length ≤ 1152921504606846976) : ∀ i n, i ≤ x0.length → x0.length - i < n → ∀ h : Int, impl_Hash.l6 x0 n h (x0.length : Int) (i : Int) = some ((x0.drop i).foldl hstep h) := by
  refine idx_ind ?_ ?_
  · intro n h
    rw [impl_Hash.u6]
    simp only [impl_Hash.g6, lt_f (Nat.le_refl _), cond_f, List.drop_length, List.foldl_nil]
  · intro i n hi ih h
    rw [List.drop_eq_getElem_cons hi, List.foldl_cons]
    rw [impl_Hash.u6]
    simp only [impl_Hash.g6, lt_t hi, ge_t, cond_t, bind_s, w64_succ (i := i) (by omega), Int.toNat_natCast, at_n hi, Mod_v]
    rw [show ((2147483647 : Int) == 0) = false from by decide, cond_f, ih]
    rfl
theorem sHash_v (x0 : List Int) (hx : x0.length ≤ 1152921504606846976) : spec_Hash x0 = some (x0.foldl hstep 11) := by
  have := sHash_l x0 hx 0 KK (Nat.zero_le _) (KK_gt (by omega)) 11
  rw [List.drop_zero] at this
  exact this
theorem iHash_v (x0 : List Int) (hx : x0.length ≤ 1152921504606846976) : impl_Hash x0 = some (x0.foldl hstep 11) := by
  have := iHash_l x0 hx 0 KK (Nat.zero_le _) (KK_gt (by omega)) 11
  rw [List.drop_zero] at this
  exact this
def keysInts (k : TKeys) : List Int := [k.2, (k.1.length : Int)] ++ k.1
theorem keysInts_len (k : TKeys) : (keysInts k).length = k.1.length + 2 := by unfold keysInts; simp
theorem sKeysInts_v (k : TKeys) (h : k.1.length ≤ 1048576) : spec_KeysInts k = some (keysInts k) := by
  unfold spec_KeysInts keysInts
  rw [decide_eq_true (by simp; omega), cond_t]
theorem iKeysInts_v (k : TKeys) (h : k.1.length ≤ 1048576) : impl_KeysInts k = some (keysInts k) := by
  unfold impl_KeysInts keysInts
  rw [decide_eq_true (by simp; omega), cond_t]
def hd8 (x0 : THead) : List Int := [(Head_Zone x0), (Head_Epoch x0), (Head_Kind x0), (Head_Time x0), (Head_Until x0), (Head_Count x0), (Head_Root x0), (Head_Prev x0)]
def hde (x0 : THead) : List Int := [(Head_Wait x0)]
def hdb (x0 : THead) : List Int := [bif (Head_Frozen x0) then (1 : Int) else 0]
def headInts (x0 : THead) : List Int := ((((hd8 x0 ++ keysInts (Head_Keys x0)) ++ keysInts (Head_Heirs x0)) ++ hde x0) ++ keysInts (Head_Judge x0)) ++ hdb x0
theorem headInts_len (x0 : THead) : (headInts x0).length = sizeHead x0 + 16 := by
  unfold headInts sizeHead sizeKeys
  simp only [List.length_append, keysInts_len]
  simp [hd8, hde, hdb]; omega
theorem app_le {α : Type} (a b : List α) : (a ++ b).length = a.length + b.length := List.length_append
theorem sHeadInts_v (x0 : THead) (h : sizeHead x0 ≤ 1048576) : spec_HeadInts x0 = some (headInts x0) := by
  have hs := h
  unfold sizeHead sizeKeys at hs
  have e1 := sKeysInts_v (Head_Keys x0) (by omega)
  have e2 := sKeysInts_v (Head_Heirs x0) (by omega)
  have e3 := sKeysInts_v (Head_Judge x0) (by omega)
  have l1 := keysInts_len (Head_Keys x0)
  have l2 := keysInts_len (Head_Heirs x0)
  have l3 := keysInts_len (Head_Judge x0)
  have l8 : (hd8 x0).length = 8 := rfl
  have le : (hde x0).length = 1 := rfl
  show ((spec_KeysInts (Head_Keys x0)).bind fun y1 => bif decide ((hd8 x0).length + y1.length < 68719476736) then (spec_KeysInts (Head_Heirs x0)).bind fun y2 => bif decide ((hd8 x0 ++ y1).length + y2.length < 68719476736) then bif decide (((hd8 x0 ++ y1) ++ y2).length + (hde x0).length < 68719476736) then (spec_KeysInts (Head_Judge x0)).bind fun y3 => bif decide ((((hd8 x0 ++ y1) ++ y2) ++ hde x0).length + y3.length < 68719476736) then bif (Head_Frozen x0) then bif decide (((((hd8 x0 ++ y1) ++ y2) ++ hde x0) ++ y3).length + [(1 : Int)].length < 68719476736) then some (((((hd8 x0 ++ y1) ++ y2) ++ hde x0) ++ y3) ++ [(1 : Int)]) else none else bif decide (((((hd8 x0 ++ y1) ++ y2) ++ hde x0) ++ y3).length + [(0 : Int)].length < 68719476736) then some (((((hd8 x0 ++ y1) ++ y2) ++ hde x0) ++ y3) ++ [(0 : Int)]) else none else none else none else none else none) = _
  simp only [e1, e2, e3, bind_s, app_le, l1, l2, l3, l8, le, List.length_singleton]
  rw [decide_eq_true (by omega), cond_t, decide_eq_true (by omega), cond_t, decide_eq_true (by omega), cond_t, decide_eq_true (by omega), cond_t, decide_eq_true (by omega), cond_t]
  unfold headInts hdb
  cases (Head_Frozen x0) <;> rfl
theorem iHeadInts_v (x0 : THead) (h : sizeHead x0 ≤ 1048576) : impl_HeadInts x0 = some (headInts x0) := by
  have hs := h
  unfold sizeHead sizeKeys at hs
  have e1 := iKeysInts_v (Head_Keys x0) (by omega)
  have e2 := iKeysInts_v (Head_Heirs x0) (by omega)
  have e3 := iKeysInts_v (Head_Judge x0) (by omega)
  have eb : impl_bit (Head_Frozen x0) = some (bif (Head_Frozen x0) then (1 : Int) else 0) := by
    unfold impl_bit
    cases (Head_Frozen x0) <;> rfl
  have ef : [hd8 x0, keysInts (Head_Keys x0), keysInts (Head_Heirs x0), hde x0, keysInts (Head_Judge x0), hdb x0].flatten = headInts x0 := by
    simp [headInts]
  have ec := Concat_v [hd8 x0, keysInts (Head_Keys x0), keysInts (Head_Heirs x0), hde x0, keysInts (Head_Judge x0), hdb x0] (by simp) (by rw [ef, headInts_len]; omega)
  rw [ef] at ec
  show ((impl_KeysInts (Head_Keys x0)).bind fun y1 => (impl_KeysInts (Head_Heirs x0)).bind fun y2 => (impl_KeysInts (Head_Judge x0)).bind fun y3 => (impl_bit (Head_Frozen x0)).bind fun y4 => (slices_Concat_int [hd8 x0, y1, y2, hde x0, y3, [y4]]).bind fun y5 => some y5) = _
  simp only [e1, e2, e3, eb, bind_s]
  rw [show [bif (Head_Frozen x0) then (1 : Int) else 0] = hdb x0 from rfl, ec, bind_s]
def headDigest (x0 : THead) : Int := ([(233 : Int)] ++ headInts x0).foldl hstep 11
theorem sHeadDigest_v (x0 : THead) (h : sizeHead x0 ≤ 1048576) : spec_HeadDigest x0 = some (headDigest x0) := by
  have hl := headInts_len x0
  unfold spec_HeadDigest headDigest
  rw [sHeadInts_v x0 h, bind_s, decide_eq_true (by simp [hl]; omega), cond_t, sHash_v _ (by simp [hl]; omega), bind_s]
theorem iHeadDigest_v (x0 : THead) (h : sizeHead x0 ≤ 1048576) : impl_HeadDigest x0 = some (headDigest x0) := by
  have hl := headInts_len x0
  unfold impl_HeadDigest headDigest
  rw [iHeadInts_v x0 h, bind_s, decide_eq_true (by simp [hl]; omega), cond_t, iHash_v _ (by simp [hl]; omega), bind_s]
theorem isKey_v (k : Int) : impl_isKey k = some (decide (1 ≤ k) && decide (k ≤ 99)) := by
  unfold impl_isKey
  rw [InRange_v, bind_s]
def gk (x0 : TKeys) (j : Nat) : Int := x0.1.getD j 0
theorem gk_def (x0 : TKeys) (j : Nat) : x0.1.getD j 0 = gk x0 j := rfl
def keysAsc (x0 : TKeys) (i : Nat) : Prop := ∀ j, j < x0.1.length → i ≤ j → 0 < j → gk x0 (j - 1) < gk x0 j
def keysIn (x0 : TKeys) (i : Nat) : Prop := ∀ j, j < x0.1.length → i ≤ j → (1 ≤ gk x0 j ∧ gk x0 j ≤ 99) ∧ (0 < j → gk x0 (j - 1) < gk x0 j)
def keysNeed (x0 : TKeys) : Prop := (1 ≤ (x0.1.length : Int) ∧ (x0.1.length : Int) ≤ 4) ∧ (1 ≤ x0.2 ∧ x0.2 ≤ (x0.1.length : Int))
theorem sIsKeys_l (x0 : TKeys) (hx : x0.1.length ≤ 1048576) : ∀ i n, i ≤ x0.1.length → x0.1.length - i < n → ∃ b, spec_IsKeys.l4 x0 n (i : Int) = some b ∧ (b = true ↔ keysIn x0 i ∧ keysNeed x0) := by
  refine idx_ind ?_ ?_
  · intro n
    rw [spec_IsKeys.u4]
    simp only [spec_IsKeys.g4, lt_f (Nat.le_refl _), cond_f, l1In_v, bind_s]
    refine ⟨(decide ((1 : Int) ≤ (x0.1.length : Int)) && decide ((x0.1.length : Int) ≤ 4)) && (decide (1 ≤ x0.2) && decide (x0.2 ≤ (x0.1.length : Int))), ?_, ?_⟩
    · cases (decide ((1 : Int) ≤ (x0.1.length : Int)) && decide ((x0.1.length : Int) ≤ 4)) <;> rfl
    · unfold keysIn keysNeed
      simp only [Bool.and_eq_true, decide_eq_true_eq]
      exact ⟨fun h => ⟨fun j h1 h2 => absurd h1 (by omega), h⟩, fun h => h.2⟩
  · intro i n hi ih
    obtain ⟨b, hb, hP⟩ := ih
    rw [spec_IsKeys.u4]
    simp only [spec_IsKeys.g4, lt_t hi, ge_t, cond_t, l1In_v, bind_s, w64_succ (i := i) (by omega), Int.toNat_natCast, hb, gk_def]
    by_cases hr : 1 ≤ gk x0 i ∧ gk x0 i ≤ 99
    · rw [decide_eq_true hr.1, decide_eq_true hr.2, Bool.and_self, Bool.not_true, cond_f]
      by_cases h0 : 0 < i
      · have ew : IntKind.i64.wrap ((i : Int) - 1) = ((i - 1 : Nat) : Int) := by rw [w64 (by omega) (by omega)]; omega
        simp only [decide_eq_true (show (i : Int) > 0 by omega), cond_t, ew, ge_t, lt_t (show i - 1 < x0.1.length by omega), Int.toNat_natCast, gk_def]
        by_cases ha : gk x0 (i - 1) < gk x0 i
        · rw [decide_eq_false (by omega), cond_f]
          refine ⟨b, rfl, hP.trans ⟨fun h => ⟨fun j h1 h2 => ?_, h.2⟩, fun h => ⟨fun j h1 h2 => h.1 j h1 (by omega), h.2⟩⟩⟩
          by_cases e : j = i
          · subst e; exact ⟨hr, fun _ => ha⟩
          · exact h.1 j h1 (by omega)
        · rw [decide_eq_true (by omega), cond_t]
          refine ⟨false, rfl, ⟨fun h => Bool.noConfusion h, fun h => absurd ((h.1 i hi (Nat.le_refl _)).2 h0) ha⟩⟩
      · rw [decide_eq_false (by omega), cond_f]
        refine ⟨b, rfl, hP.trans ⟨fun h => ⟨fun j h1 h2 => ?_, h.2⟩, fun h => ⟨fun j h1 h2 => h.1 j h1 (by omega), h.2⟩⟩⟩
        by_cases e : j = i
        · subst e; exact ⟨hr, fun h => absurd h h0⟩
        · exact h.1 j h1 (by omega)
    · have e : (decide (1 ≤ gk x0 i) && decide (gk x0 i ≤ 99)) = false := by
        cases hc : (decide (1 ≤ gk x0 i) && decide (gk x0 i ≤ 99))
        · rfl
        · simp only [Bool.and_eq_true, decide_eq_true_eq] at hc; exact absurd hc hr
      rw [e, Bool.not_false, cond_t]
      exact ⟨false, rfl, ⟨fun h => Bool.noConfusion h, fun h => absurd (h.1 i hi (Nat.le_refl _)).1 hr⟩⟩
theorem asc_l (x0 : TKeys) (hx : x0.1.length ≤ 1048576) : ∀ i n, i ≤ x0.1.length → x0.1.length - i < n → ∃ b, impl_ascending.l4 x0.1 n (x0.1.length : Int) (i : Int) = some b ∧ (b = true ↔ keysAsc x0 i) := by
  refine idx_ind ?_ ?_
  · intro n
    rw [impl_ascending.u4]
    simp only [impl_ascending.g4, lt_f (Nat.le_refl _), cond_f]
    exact ⟨true, rfl, ⟨fun _ j h1 h2 => absurd h1 (by omega), fun _ => rfl⟩⟩
  · intro i n hi ih
    obtain ⟨b, hb, hP⟩ := ih
    rw [impl_ascending.u4]
    simp only [impl_ascending.g4, lt_t hi, ge_t, cond_t, w64_succ (i := i) (by omega), Int.toNat_natCast, hb, gk_def]
    by_cases h0 : 0 < i
    · have ew : IntKind.i64.wrap ((i : Int) - 1) = ((i - 1 : Nat) : Int) := by rw [w64 (by omega) (by omega)]; omega
      simp only [decide_eq_true (show (i : Int) > 0 by omega), cond_t, ew, ge_t, lt_t (show i - 1 < x0.1.length by omega), Int.toNat_natCast, gk_def]
      by_cases ha : gk x0 (i - 1) < gk x0 i
      · rw [decide_eq_false (by omega), cond_f]
        refine ⟨b, rfl, hP.trans ⟨fun h j h1 h2 h3 => ?_, fun h j h1 h2 h3 => h j h1 (by omega) h3⟩⟩
        by_cases e : j = i
        · subst e; exact ha
        · exact h j h1 (by omega) h3
      · rw [decide_eq_true (by omega), cond_t]
        exact ⟨false, rfl, ⟨fun h => Bool.noConfusion h, fun h => absurd (h i hi (Nat.le_refl _) h0) ha⟩⟩
    · rw [decide_eq_false (by omega), cond_f]
      refine ⟨b, rfl, hP.trans ⟨fun h j h1 h2 h3 => h j h1 (by omega) h3, fun h j h1 h2 h3 => h j h1 (by omega) h3⟩⟩
theorem asc_le (x0 : TKeys) (h : keysAsc x0 0) (a : Nat) : ∀ b, a ≤ b → b < x0.1.length → gk x0 a ≤ gk x0 b := by
  intro b
  induction b with
  | zero => intro h1 _; have : a = 0 := by omega
            subst this; exact Int.le_refl _
  | succ b ih =>
    intro h1 h2
    by_cases e : a = b + 1
    · subst e; exact Int.le_refl _
    · have := ih (by omega) (by omega)
      have h3 := h (b + 1) h2 (by omega) (by omega)
      rw [show b + 1 - 1 = b from rfl] at h3
      omega
theorem keysIn_of (x0 : TKeys) (h : keysAsc x0 0) (h0 : 1 ≤ gk x0 0) (h1 : gk x0 (x0.1.length - 1) ≤ 99) : keysIn x0 0 := by
  intro j hj _
  have a := asc_le x0 h 0 j (by omega) hj
  have b := asc_le x0 h j (x0.1.length - 1) (by omega) (by omega)
  exact ⟨⟨by omega, by omega⟩, h j hj (by omega)⟩
theorem bool_eq {a b : Bool} (h : a = true ↔ b = true) : a = b := by cases a <;> cases b <;> simp_all
theorem IsKeys_v (x0 : TKeys) (hx : x0.1.length ≤ 1048576) : ∃ b, spec_IsKeys x0 = some b ∧ impl_IsKeys x0 = some b := by
  obtain ⟨s, hs, hS⟩ := sIsKeys_l x0 hx 0 KK (Nat.zero_le _) (KK_gt (by omega))
  obtain ⟨a, ha, hA⟩ := asc_l x0 hx 0 KK (Nat.zero_le _) (KK_gt (by omega))
  refine ⟨s, hs, ?_⟩
  have ea : impl_ascending x0.1 = some a := ha
  unfold impl_IsKeys
  rw [InRange_v, bind_s]
  by_cases hl : 1 ≤ (x0.1.length : Int) ∧ (x0.1.length : Int) ≤ 4
  · rw [decide_eq_true hl.1, decide_eq_true hl.2, Bool.and_self, cond_t, ea, bind_s]
    have ew : IntKind.i64.wrap ((x0.1.length : Int) - 1) = ((x0.1.length - 1 : Nat) : Int) := by rw [w64 (by omega) (by omega)]; omega
    cases a with
    | false =>
      rw [cond_f]
      have : s = false := by
        cases s with
        | false => rfl
        | true =>
          have h := (hS.mp rfl).1
          exact (hA.mpr (fun j h1 h2 h3 => (h j h1 h2).2 h3)).symm
      rw [this]
    | true =>
      have hasc := hA.mp rfl
      rw [cond_t, decide_eq_true (Int.le_refl 0), cond_t, decide_eq_true (by omega), cond_t, isKey_v, bind_s, ew, ge_t, cond_t, lt_t (by omega), cond_t, isKey_v, bind_s, InRange_v, bind_s, Int.toNat_natCast, show (0 : Int).toNat = 0 from rfl]
      rw [show x0.1.getD 0 0 = gk x0 0 from rfl, show x0.1.getD (x0.1.length - 1) 0 = gk x0 (x0.1.length - 1) from rfl]
      have e : s = ((decide (1 ≤ gk x0 0) && decide (gk x0 0 ≤ 99)) && ((decide (1 ≤ gk x0 (x0.1.length - 1)) && decide (gk x0 (x0.1.length - 1) ≤ 99)) && (decide (1 ≤ x0.2) && decide (x0.2 ≤ (x0.1.length : Int))))) := by
        refine bool_eq (hS.trans ?_)
        simp only [Bool.and_eq_true, decide_eq_true_eq]
        constructor
        · intro h
          exact ⟨(h.1 0 (by omega) (Nat.le_refl _)).1, (h.1 (x0.1.length - 1) (by omega) (by omega)).1, h.2.2⟩
        · intro h
          exact ⟨keysIn_of x0 hasc h.1.1 h.2.1.2, hl, h.2.2⟩
      rw [e]
      cases (decide (1 ≤ gk x0 0) && decide (gk x0 0 ≤ 99)) <;> cases (decide (1 ≤ gk x0 (x0.1.length - 1)) && decide (gk x0 (x0.1.length - 1) ≤ 99)) <;> rfl
  · have e : (decide (1 ≤ (x0.1.length : Int)) && decide ((x0.1.length : Int) ≤ 4)) = false := by
      cases hc : (decide (1 ≤ (x0.1.length : Int)) && decide ((x0.1.length : Int) ≤ 4))
      · rfl
      · simp only [Bool.and_eq_true, decide_eq_true_eq] at hc; exact absurd hc hl
    rw [e, cond_f]
    have : s = false := by
      cases s with
      | false => rfl
      | true => exact absurd (hS.mp rfl).2.1 hl
    rw [this]
theorem IsKeys_pos (x0 : TKeys) (hx : x0.1.length ≤ 1048576) (h : spec_IsKeys x0 = some true) : 1 ≤ x0.1.length := by
  obtain ⟨s, hs, hS⟩ := sIsKeys_l x0 hx 0 KK (Nat.zero_le _) (KK_gt (by omega))
  have e : spec_IsKeys x0 = some s := hs
  rw [h] at e
  injection e with e
  have := (hS.mp e.symm).2.1
  omega
noncomputable def keysB (k : TKeys) : Bool := (spec_IsKeys k).getD false
theorem sKeysB (k : TKeys) (hx : k.1.length ≤ 1048576) : spec_IsKeys k = some (keysB k) := by
  obtain ⟨b, h1, h2⟩ := IsKeys_v k hx
  unfold keysB
  rw [h1]; rfl
theorem iKeysB (k : TKeys) (hx : k.1.length ≤ 1048576) : impl_IsKeys k = some (keysB k) := by
  obtain ⟨b, h1, h2⟩ := IsKeys_v k hx
  unfold keysB
  rw [h1, h2]; rfl
def noK (k : TKeys) : Bool := k.2 == (0 : Int) && ((k.1.length : Int) == (0 : Int))
theorem sNoKeys_v (k : TKeys) : spec_NoKeys k = some (noK k) := by
  unfold spec_NoKeys noK
  cases (k.2 == (0 : Int)) <;> rfl
theorem iNoKeys_v (k : TKeys) : impl_NoKeys k = some (noK k) := by
  unfold impl_NoKeys noK
  cases (k.2 == (0 : Int)) <;> rfl
theorem keysB_no (k : TKeys) (hx : k.1.length ≤ 1048576) : (keysB k && noK k) = false := by
  cases h : keysB k with
  | false => rfl
  | true =>
    have := IsKeys_pos k hx (by rw [sKeysB k hx, h])
    unfold noK
    have e : ((k.1.length : Int) == (0 : Int)) = false := by rw [beq_eq_false_iff_ne]; omega
    rw [e, Bool.and_false]; rfl
def inR (a b c : Int) : Bool := decide (b ≤ a) && decide (a ≤ c)
theorem l1In_r (a b c : Int) : spec_l1In a b c = some (inR a b c) := l1In_v a b c
theorem InRange_r (a b c : Int) : impl_InRange a b c = some (inR a b c) := InRange_v a b c
theorem isDigest_r (a : Int) : impl_isDigest a = some (inR a 0 2147483646) := by
  unfold impl_isDigest
  rw [InRange_r, bind_s]
theorem bif_some {α : Type} (c : Bool) (a b : α) : (bif c then some a else some b) = some (bif c then a else b) := by cases c <;> rfl
theorem bif_ff (c a : Bool) : (bif c then a else false) = (c && a) := by cases c <;> rfl
theorem bif_fl (c a : Bool) : (bif c then false else a) = (!c && a) := by cases c <;> rfl
theorem bif_tl (c a : Bool) : (bif c then true else a) = (c || a) := by cases c <;> rfl
theorem bif_tr (c a : Bool) : (bif c then a else true) = (!c || a) := by cases c <;> rfl
def hr4 (x : THead) : Bool := inR (Head_Zone x) 0 2147483646 && (inR (Head_Root x) 0 2147483646 && (inR (Head_Prev x) 0 2147483646 && (inR (Head_Epoch x) 0 200 && inR (Head_Kind x) 1 3)))
def spanB (x : THead) : Bool := decide ((Head_Time x) ≥ 0) && (decide ((Head_Time x) ≤ (Head_Until x)) && (decide ((Head_Until x) ≤ 100000) && decide (IntKind.i64.wrap ((Head_Until x) - (Head_Time x)) ≤ 200)))
theorem span_eq (x : THead) (r : Bool) : (inR (Head_Time x) 0 100000 && (inR (Head_Until x) (Head_Time x) 100000 && (!decide (IntKind.i64.wrap ((Head_Until x) - (Head_Time x)) > 200) && r))) = (spanB x && r) := by
  have : (inR (Head_Time x) 0 100000 && (inR (Head_Until x) (Head_Time x) 100000 && !decide (IntKind.i64.wrap ((Head_Until x) - (Head_Time x)) > 200))) = spanB x := by
    unfold inR spanB
    generalize IntKind.i64.wrap ((Head_Until x) - (Head_Time x)) = w
    refine bool_eq ?_
    simp only [Bool.and_eq_true, decide_eq_true_eq, Bool.not_eq_true', decide_eq_false_iff_not]
    omega
  rw [← this]
  simp only [Bool.and_assoc]
noncomputable def keyPart (x : THead) : Bool := (bif noK (Head_Heirs x) then ((Head_Wait x) == (0 : Int)) else (keysB (Head_Heirs x) && inR (Head_Wait x) 1 500)) && (keysB (Head_Judge x) || (noK (Head_Judge x) && !(Head_Frozen x)))
noncomputable def isHeadB (x : THead) : Bool := hr4 x && (spanB x && (inR (Head_Count x) 0 12 && (keysB (Head_Keys x) && keyPart x)))
theorem sIsHead_v (x : THead) (hx : sizeHead x ≤ 1048576) : spec_IsHead x = some (isHeadB x) := by
  unfold sizeHead sizeKeys at hx
  have k1 := sKeysB (Head_Keys x) (by omega)
  have k2 := sKeysB (Head_Heirs x) (by omega)
  have k3 := sKeysB (Head_Judge x) (by omega)
  have n2 := sNoKeys_v (Head_Heirs x)
  have n3 := sNoKeys_v (Head_Judge x)
  have key : (bif noK (Head_Heirs x) then (!((Head_Wait x) != (0 : Int)) && (keysB (Head_Judge x) || (noK (Head_Judge x) && !(Head_Frozen x)))) else (keysB (Head_Heirs x) && (inR (Head_Wait x) 1 500 && (keysB (Head_Judge x) || (noK (Head_Judge x) && !(Head_Frozen x)))))) = keyPart x := by
    unfold keyPart
    cases noK (Head_Heirs x) with
    | true => simp [bne]
    | false => simp only [cond_f, Bool.and_assoc]
  unfold spec_IsHead
  simp only [spec_IsHead.b, spec_IsHead.l7, spec_IsHead.g7, spec_IsHead.l11, spec_IsHead.g11, spec_IsHead.l21, spec_IsHead.g21, l1In_r, k1, k2, k3, n2, n3, bind_s, bif_some, bif_ff, bif_fl, bif_tl, bif_tr, Bool.not_not]
  rw [key, span_eq]
  unfold isHeadB hr4 Head_Keys
  simp only [Bool.and_assoc]
theorem iIsHead_v (x : THead) (hx : sizeHead x ≤ 1048576) : impl_IsHead x = some (isHeadB x) := by
  unfold sizeHead sizeKeys at hx
  have k1 := iKeysB (Head_Keys x) (by omega)
  have k2 := iKeysB (Head_Heirs x) (by omega)
  have k3 := iKeysB (Head_Judge x) (by omega)
  have n2 := iNoKeys_v (Head_Heirs x)
  have n3 := iNoKeys_v (Head_Judge x)
  have q3 := keysB_no (Head_Judge x) (by omega)
  have key : ((noK (Head_Heirs x) || keysB (Head_Heirs x)) && ((noK (Head_Judge x) || keysB (Head_Judge x)) && ((bif noK (Head_Heirs x) then ((Head_Wait x) == (0 : Int)) else inR (Head_Wait x) 1 500) && (!(Head_Frozen x) || !noK (Head_Judge x))))) = keyPart x := by
    unfold keyPart
    revert q3
    generalize ((Head_Wait x) == (0 : Int)) = a
    generalize inR (Head_Wait x) 1 500 = b
    generalize (Head_Frozen x) = c
    cases noK (Head_Heirs x) <;> cases keysB (Head_Heirs x) <;> cases noK (Head_Judge x) <;> cases keysB (Head_Judge x) <;> cases a <;> cases b <;> cases c <;> decide
  unfold impl_IsHead
  simp only [impl_isMaybe, impl_isWait, impl_isSpan, isDigest_r, InRange_r, k1, k2, k3, n2, n3, bind_s, bif_some, bif_ff, bif_fl, bif_tl, bif_tr, Bool.not_not]
  rw [key]
  unfold isHeadB hr4 spanB Head_Keys
  simp only [Bool.and_assoc]
theorem isHeadB_span (x : THead) (h : isHeadB x = true) : 0 ≤ (Head_Time x) ∧ (Head_Time x) ≤ (Head_Until x) ∧ (Head_Until x) ≤ 100000 := by
  unfold isHeadB spanB at h
  simp only [Bool.and_eq_true, decide_eq_true_eq] at h
  omega
theorem l6Copy_v (x : TKeys) (hx : x.1.length ≤ 1048576) : spec_l6Copy x = some x := by
  unfold spec_l6Copy
  rw [decide_eq_true (by simp; omega), cond_t]; rfl
theorem Clone_int_v (x : List Int) (hx : x.length ≤ 1048576) : slices_Clone_int x = some x := by
  have e : (bif decide (([] : List Int).length + x.length < 68719476736) then some ([] ++ x) else none) = some x := by
    rw [decide_eq_true (by simp; omega), cond_t]; rfl
  unfold slices_Clone_int
  rw [e]
  cases x with
  | nil => exact both_eq _
  | cons a t => rfl
theorem copyKeys_v (x : TKeys) (hx : x.1.length ≤ 1048576) : impl_copyKeys x = some x := by
  unfold impl_copyKeys
  rw [Clone_int_v _ hx, bind_s]
theorem l13Copy_v (x0 : THead) (hx : sizeHead x0 ≤ 1048576) : spec_l13Copy x0 = some x0 := by
  unfold sizeHead sizeKeys at hx
  unfold spec_l13Copy
  exact bnd (l6Copy_v _ (by omega)) (bnd (l6Copy_v _ (by omega)) (bnd (l6Copy_v _ (by omega)) rfl))
theorem copyHead_v (x0 : THead) (hx : sizeHead x0 ≤ 1048576) : impl_copyHead x0 = some x0 := by
  unfold sizeHead sizeKeys at hx
  unfold impl_copyHead
  exact bnd (copyKeys_v _ (by omega)) (bnd (copyKeys_v _ (by omega)) (bnd (copyKeys_v _ (by omega)) rfl))
def nhD (y : THead) (e a b u d : Int) : THead := ((Head_Zone y), e, a, b, u, (Head_Count y), (Head_Root y), d, (Head_Keys y).1, (Head_Keys y).2, (Head_Heirs y).1, (Head_Heirs y).2, (Head_Wait y), (Head_Judge y).1, (Head_Judge y).2, (Head_Frozen y))
noncomputable def valM (h : THead) : TRHeadBool := bif isHeadB h then RHeadBool_mk h true else RHeadBool_mk dHead false
theorem l17_v (h : THead) (hx : sizeHead h ≤ 1048576) : spec_l17Valid h = some (valM h) := by
  unfold spec_l17Valid valM
  rw [sIsHead_v _ hx, bind_s]
  cases isHeadB h <;> rfl
noncomputable def nextG (x0 : THead) (x2 x3 : Int) : Bool := isHeadB x0 && (inR x2 (Head_Time x0) 100000 && inR x3 0 200)
noncomputable def nextH (x0 : THead) (x1 x2 x3 : Int) : THead := nhD x0 (IntKind.i64.wrap ((Head_Epoch x0) + (1 : Int))) x1 x2 (IntKind.i64.wrap (x2 + x3)) (headDigest x0)
noncomputable def nextM (x0 : THead) (x1 x2 x3 : Int) : TRHeadBool := bif nextG x0 x2 x3 then valM (nextH x0 x1 x2 x3) else RHeadBool_mk dHead false
theorem sNext_l5 (x0 : THead) (x1 x2 x3 : Int) (v : Bool) (hx : sizeHead x0 ≤ 1048576) : spec_NextHead.l5 x0 x1 x2 x3 v = some (bif v then RHeadBool_mk dHead false else valM (nextH x0 x1 x2 x3)) := by
  cases v with
  | true => rfl
  | false =>
    show ((spec_l13Copy x0).bind fun y2 => (spec_HeadDigest x0).bind fun y3 => (spec_l17Valid (nhD y2 (IntKind.i64.wrap ((Head_Epoch x0) + (1 : Int))) x1 x2 (IntKind.i64.wrap (x2 + x3)) y3)).bind fun y4 => some y4) = _
    have hn : sizeHead (nhD x0 (IntKind.i64.wrap ((Head_Epoch x0) + (1 : Int))) x1 x2 (IntKind.i64.wrap (x2 + x3)) (headDigest x0)) ≤ 1048576 := hx
    rw [l13Copy_v _ hx, bind_s, sHeadDigest_v _ hx, bind_s, l17_v _ hn, bind_s]; rfl
theorem sNext_v (x0 : THead) (x1 x2 x3 : Int) (hx : sizeHead x0 ≤ 1048576) : spec_NextHead x0 x1 x2 x3 = some (nextM x0 x1 x2 x3) := by
  unfold spec_NextHead
  simp only [spec_NextHead.b, sIsHead_v _ hx, l1In_r, bind_s, sNext_l5 _ _ _ _ _ hx]
  unfold nextM nextG
  cases isHeadB x0 <;> cases inR x2 (Head_Time x0) 100000 <;> cases inR x3 0 200 <;> rfl
def untilM (x2 x3 : Int) : Int := bif inR x2 0 100000 && inR x3 0 200 then IntKind.i64.wrap (x2 + x3) else 100001
theorem until_v (x2 x3 : Int) : impl_until x2 x3 = some (untilM x2 x3) := by
  unfold impl_until untilM
  simp only [impl_until.b, impl_until.l7, impl_until.g7, InRange_r, bind_s]
  cases inR x2 0 100000 <;> cases inR x3 0 200 <;> rfl
noncomputable def nextHu (x0 : THead) (x1 x2 x3 : Int) : THead := nhD x0 (IntKind.i64.wrap ((Head_Epoch x0) + (1 : Int))) x1 x2 (untilM x2 x3) (headDigest x0)
theorem nextHu_bad (x0 : THead) (x1 x2 x3 : Int) (h : inR x2 0 100000 = false) : isHeadB (nextHu x0 x1 x2 x3) = false := by
  cases hb : isHeadB (nextHu x0 x1 x2 x3) with
  | false => rfl
  | true =>
    have h1 := (isHeadB_span _ hb).2.2
    have h2 : untilM x2 x3 ≤ 100000 := h1
    unfold untilM at h2
    rw [h, Bool.false_and, cond_f] at h2
    omega
theorem nextHu_eq (x0 : THead) (x1 x2 x3 : Int) (h : inR x2 0 100000 = true) (h' : inR x3 0 200 = true) : nextHu x0 x1 x2 x3 = nextH x0 x1 x2 x3 := by
  unfold nextHu nextH untilM
  rw [h, h', Bool.and_self, cond_t]
theorem nwl5_NameHead_1 (x0 : THead) (x1 x2 x3 : Int) (i : TKeys) (w : Int) (j : TKeys) (c : THead) (v : Bool) (hx : sizeHead x0 ≤ 1048576) (hc : impl_NameHead_1 (nextHu x0 x1 x2 x3) i w j = some c) (hs : sizeHead c ≤ 1048576) : impl_nextWith__NameHead_1.l5 x0 x1 x2 x3 ((), (i, w, j)) v = some (bif v then dRHeadBool else bif isHeadB (nextHu x0 x1 x2 x3) && isHeadB c then RHeadBool_mk c true else dRHeadBool) := by
  cases v with
  | true => rfl
  | false =>
    have hu : sizeHead (nextHu x0 x1 x2 x3) ≤ 1048576 := hx
    refine bnd (copyHead_v x0 hx) (bnd (until_v x2 x3) (bnd (iHeadDigest_v x0 hx) (bnd (copyHead_v (nextHu x0 x1 x2 x3) hu) (bnd hc (bnd (iIsHead_v _ hu) ?_)))))
    cases isHeadB (nextHu x0 x1 x2 x3) with
    | false => rfl
    | true =>
      refine bnd (iIsHead_v c hs) ?_
      cases isHeadB c <;> rfl
theorem nw_NameHead_1 (x0 : THead) (x1 x2 x3 : Int) (i : TKeys) (w : Int) (j : TKeys) (chg : THead → THead) (hx : sizeHead x0 ≤ 1048576) (hc : impl_NameHead_1 (nextHu x0 x1 x2 x3) i w j = some (chg (nextHu x0 x1 x2 x3))) (hs : isHeadB x0 = true → sizeHead (chg (nextHu x0 x1 x2 x3)) ≤ 1048576) : impl_nextWith__NameHead_1 x0 x1 x2 x3 ((), (i, w, j)) = some (bif nextG x0 x2 x3 && (isHeadB (nextH x0 x1 x2 x3) && isHeadB (chg (nextH x0 x1 x2 x3))) then RHeadBool_mk (chg (nextH x0 x1 x2 x3)) true else dRHeadBool) := by
  unfold impl_nextWith__NameHead_1 nextG
  refine bnd (iIsHead_v x0 hx) ?_
  cases hb : isHeadB x0 with
  | false => rfl
  | true =>
    have sp := isHeadB_span x0 hb
    have h5 := fun v => nwl5_NameHead_1 x0 x1 x2 x3 i w j _ v hx hc (hs hb)
    refine bnd (InRange_r _ _ _) ?_
    rw [Bool.true_and]
    cases h3 : inR x3 0 200 with
    | false =>
      rw [Bool.and_false, Bool.false_and]
      exact (h5 true)
    | true =>
      rw [Bool.and_true]
      refine (h5 _).trans ?_
      by_cases hl : x2 < Head_Time x0
      · rw [decide_eq_true hl, show inR x2 (Head_Time x0) 100000 = false by unfold inR; rw [decide_eq_false (by omega), Bool.false_and]]; rfl
      · rw [decide_eq_false hl, cond_f]
        by_cases hu : x2 ≤ 100000
        · rw [show inR x2 (Head_Time x0) 100000 = true by unfold inR; rw [decide_eq_true (by omega), decide_eq_true hu, Bool.and_self], nextHu_eq _ _ _ _ (by unfold inR; rw [decide_eq_true (by omega), decide_eq_true hu, Bool.and_self]) h3, Bool.true_and]
        · rw [show inR x2 (Head_Time x0) 100000 = false by unfold inR; rw [decide_eq_false hu, Bool.and_false], nextHu_bad _ _ _ _ (by unfold inR; rw [decide_eq_false hu, Bool.and_false])]; rfl
theorem nextM_r1 (x0 : THead) (x1 x2 x3 : Int) : RHeadBool_r1 (nextM x0 x1 x2 x3) = (nextG x0 x2 x3 && isHeadB (nextH x0 x1 x2 x3)) := by
  unfold nextM valM
  cases nextG x0 x2 x3 <;> cases isHeadB (nextH x0 x1 x2 x3) <;> rfl
theorem nextM_r0 (x0 : THead) (x1 x2 x3 : Int) (h : (nextG x0 x2 x3 && isHeadB (nextH x0 x1 x2 x3)) = true) : RHeadBool_r0 (nextM x0 x1 x2 x3) = nextH x0 x1 x2 x3 := by
  rw [Bool.and_eq_true] at h
  unfold nextM valM
  rw [h.1, h.2, cond_t, cond_t]
  exact (RHeadBool_s _ _).1
theorem nextH_size (x0 : THead) (x1 x2 x3 : Int) : sizeHead (nextH x0 x1 x2 x3) = sizeHead x0 := by unfold nextH nhD; rfl
def setN (i : TKeys) (w : Int) (j : TKeys) (h : THead) : THead := Head_mk (Head_Zone h) (Head_Epoch h) (Head_Kind h) (Head_Time h) (Head_Until h) (Head_Count h) (Head_Root h) (Head_Prev h) (Head_Keys h) i w j (Head_Frozen h)
theorem setN_size (i : TKeys) (w : Int) (j : TKeys) (h : THead) : sizeHead (setN i w j h) = (Head_Keys h).1.length + (i.1.length + j.1.length) := rfl
theorem setN_ok (x0 : THead) (i : TKeys) (w : Int) (j : TKeys) (h : THead) (hh : sizeHead h = sizeHead x0) (hk : sizeHead x0 + (i.1.length + j.1.length) ≤ 1048576) : sizeHead (setN i w j h) ≤ 1048576 := by
  rw [setN_size]
  unfold sizeHead sizeKeys at hh hk
  omega
noncomputable def nameM (x0 : THead) (i : TKeys) (w : Int) (j : TKeys) (x2 x3 : Int) : TRHeadBool := bif nextG x0 x2 x3 && (isHeadB (nextH x0 1 x2 x3) && isHeadB (setN i w j (nextH x0 1 x2 x3))) then RHeadBool_mk (setN i w j (nextH x0 1 x2 x3)) true else dRHeadBool
theorem sNameHead_v (x0 : THead) (i : TKeys) (w : Int) (j : TKeys) (x2 x3 : Int) (hx : sizeHead x0 ≤ 1048576) (hi : i.1.length ≤ 1048576) (hj : j.1.length ≤ 1048576) (hk' : sizeHead x0 + (i.1.length + j.1.length) ≤ 1048576) : spec_NameHead x0 i w j x2 x3 = some (nameM x0 i w j x2 x3) := by
  unfold spec_NameHead nameM
  refine bnd (sNext_v x0 1 x2 x3 hx) ?_
  rw [nextM_r1]
  cases hg : (nextG x0 x2 x3 && isHeadB (nextH x0 1 x2 x3)) with
  | false =>
    have e : (nextG x0 x2 x3 && (isHeadB (nextH x0 1 x2 x3) && isHeadB (setN i w j (nextH x0 1 x2 x3)))) = false := by
      rw [← Bool.and_assoc, hg, Bool.false_and]
    rw [e]; rfl
  | true =>
    have e : (nextG x0 x2 x3 && (isHeadB (nextH x0 1 x2 x3) && isHeadB (setN i w j (nextH x0 1 x2 x3)))) = isHeadB (setN i w j (nextH x0 1 x2 x3)) := by
      rw [← Bool.and_assoc, hg, Bool.true_and]
    rw [e, nextM_r0 _ _ _ _ hg]
    have hs : sizeHead (setN i w j (nextH x0 1 x2 x3)) ≤ 1048576 := setN_ok x0 i w j _ rfl hk'
    refine cF rfl (bnd (l6Copy_v i hi) (bnd (l6Copy_v j hj) (bnd (l17_v (setN i w j (nextH x0 1 x2 x3)) hs) ?_)))
    unfold valM; rfl
theorem iNameHead_v (x0 : THead) (i : TKeys) (w : Int) (j : TKeys) (x2 x3 : Int) (hx : sizeHead x0 ≤ 1048576) (hi : i.1.length ≤ 1048576) (hj : j.1.length ≤ 1048576) (hk' : sizeHead x0 + (i.1.length + j.1.length) ≤ 1048576) : impl_NameHead x0 i w j x2 x3 = some (nameM x0 i w j x2 x3) := by
  unfold impl_NameHead nameM
  refine bnd (nw_NameHead_1 x0 1 x2 x3 i w j (fun h => setN i w j h) hx (bnd (copyKeys_v i hi) (bnd (copyKeys_v j hj) ?_)) (fun hb => ?_)) rfl
  · rw [both_eq, both_eq]; rfl
  · exact setN_ok x0 i w j _ rfl hk'
theorem nameM_size (x0 : THead) (i : TKeys) (w : Int) (j : TKeys) (x2 x3 : Int) (hk : sizeHead x0 + (i.1.length + j.1.length) ≤ 1048576) : sizeHead (RHeadBool_r0 (nameM x0 i w j x2 x3)) ≤ 1048576 := by
  unfold nameM
  cases (nextG x0 x2 x3 && (isHeadB (nextH x0 1 x2 x3) && isHeadB (setN i w j (nextH x0 1 x2 x3)))) with
  | false => exact Nat.zero_le _
  | true => rw [cond_t, (RHeadBool_s _ _).1]; exact setN_ok x0 i w j (nextH x0 1 x2 x3) (nextH_size ..) hk
theorem pure_FnExactNameHead (x0 : THead) (x1 : TKeys) (x2 : Int) (x3 : TKeys) (x4 : Int) (x5 : Int) (h0 : HeadMax x0) (h1 : KeysMax x1) (h3 : KeysMax x3) : laws_FnExactNameHead x0 x1 x2 x3 x4 x5 = some true := by
  unfold laws_FnExactNameHead
  refine sz_law (by omega) (szHead_v _ _ h0 (by omega) (by omega)) (fun g0 => ?_)
  refine sz_law (by omega) (szKeys_v _ _ h1 (by omega) (by omega)) (fun g1 => ?_)
  refine sz_law (by omega) (szKeys_v _ _ h3 (by omega) (by omega)) (fun g3 => ?_)
  have b0 : sizeHead x0 ≤ 1048576 := by omega
  have b1 : sizeKeys x1 ≤ 1048576 := by omega
  have b3 : sizeKeys x3 ≤ 1048576 := by omega
  obtain ⟨r, hs, hi, hr⟩ : ∃ r, spec_NameHead x0 x1 x2 x3 x4 x5 = some r ∧ impl_NameHead x0 x1 x2 x3 x4 x5 = some r ∧ sizeHead (RHeadBool_r0 r) ≤ 1048576 := ⟨nameM x0 x1 x2 x3 x4 x5, sNameHead_v x0 x1 x2 x3 x4 x5 b0 (by unfold sizeKeys at b1; omega) (by unfold sizeKeys at b3; omega) (by unfold sizeKeys at g3; omega), iNameHead_v x0 x1 x2 x3 x4 x5 b0 (by unfold sizeKeys at b1; omega) (by unfold sizeKeys at b3; omega) (by unfold sizeKeys at g3; omega), nameM_size x0 x1 x2 x3 x4 x5 (by unfold sizeKeys at g3; omega)⟩
  refine bnd (toHead_v x0 b0) ?_
  refine bnd (toKeys_v x1 b1) ?_
  refine bnd (toKeys_v x3 b3) ?_
  refine bnd hs ?_
  refine bnd (toHead_v x0 b0) ?_
  refine bnd (toKeys_v x1 b1) ?_
  refine bnd (toKeys_v x3 b3) ?_
  refine bnd hi ?_
  refine bnd (eqHead_v (RHeadBool_r0 r) (by omega)) ?_
  refine cF rfl ?_
  refine cF (nbeq _) ?_
  refine bnd (toHead_v x0 b0) ?_
  refine bnd (eqHead_v x0 (by omega)) ?_
  refine cF rfl ?_
  refine bnd (toKeys_v x1 b1) ?_
  refine bnd (eqKeys_v x1 (by omega)) ?_
  refine cF rfl ?_
  refine bnd (toKeys_v x3 b3) ?_
  refine bnd (eqKeys_v x3 (by omega)) ?_
  refine cF rfl ?_
  have k0 := endHead_b x0 1
  refine bnd (markHead_v x0 1 (by omega) (by omega)) ?_
  have k1 := endKeys_b x1 (endHead x0 1)
  refine bnd (markKeys_v x1 (endHead x0 1) (by omega) (by omega)) ?_
  have k3 := endKeys_b x3 (endKeys x1 (endHead x0 1))
  refine bnd (markKeys_v x3 (endKeys x1 (endHead x0 1)) (by omega) (by omega)) ?_
  refine cF (decide_eq_false (by (try dsimp only); omega)) ?_
  refine bnd (eqHead_v (RHeadBool_r0 r) (by omega)) ?_
  refine cF rfl ?_
  refine cF (nbeq _) ?_
  have m0 := endHead_b (RHeadBool_r0 r) 1
  refine bnd (markHead_v (RHeadBool_r0 r) 1 (by omega) (by omega)) ?_
  refine bnd (heldHead_v (RHeadBool_r0 r) 1 (by omega) (by omega)) ?_
  refine cF (decide_eq_false (by (try dsimp only); omega)) ?_
  refine cF (bne_self _) ?_
  refine bnd (toHead_v x0 b0) ?_
  refine bnd (toKeys_v x1 b1) ?_
  refine bnd (toKeys_v x3 b3) ?_
  refine bnd hi ?_
  refine bnd (eqHead_v (RHeadBool_r0 r) (by omega)) ?_
  refine cF rfl ?_
  refine cF (nbeq _) ?_
  refine bnd (heldHead_v (RHeadBool_r0 r) 1 (by omega) (by omega)) ?_
  refine cF (decide_eq_false (by (try dsimp only); omega)) ?_
  refine cF (bne_self _) ?_
  rfl

end Go.Proofs.Ytbdifkeoiodalaa
