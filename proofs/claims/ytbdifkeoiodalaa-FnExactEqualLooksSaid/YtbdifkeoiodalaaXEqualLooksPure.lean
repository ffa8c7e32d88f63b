/- The plain law of FnExactEqualLooks: what the printed functions compute is true, for all data in range. -/
import Derived.Test.YtbdifkeoiodalaaXEqualLooksPure0
namespace Go.Proofs.Ytbdifkeoiodalaa
open V
set_option linter.unusedVariables false
set_option linter.unusedSimpArgs false
theorem bnd {α β : Type} {e : Option α} {a : α} {f : α → Option β} {r : Option β} (h : e = some a) (hf : f a = r) : e.bind f = r := by rw [h, bind_s]; exact hf
theorem cF {α : Type} {c : Bool} {a b r : α} (h : c = false) (hb : b = r) : (bif c then a else b) = r := by rw [h, cond_f]; exact hb
theorem nbeq {α : Type} [BEq α] [ReflBEq α] (a : α) : (!(a == a)) = false := by rw [beq_self_eq_true]; rfl
def szR (s : Nat) (L : Int) : Int := if (s : Int) ≤ L then L - s else -1
theorem szR_b {s1 s2 : Nat} {L : Int} (h0 : 0 ≤ L) (h1 : L ≤ 1048576) {e : Option Int} (he : e = some (szR s1 L)) {f : Int → Option Int} (hf : ∀ M, 0 ≤ M → M ≤ 1048576 → f M = some (szR s2 M)) : (e.bind fun y => bif decide (y < (0 : Int)) then some (-1 : Int) else f y) = some (szR (s1 + s2) L) := by
  rw [he, bind_s]
  unfold szR
  by_cases g : (s1 : Int) ≤ L
  · rw [if_pos g, decide_eq_false (by omega), cond_f, hf _ (by omega) (by omega)]
    unfold szR
    by_cases k : (s2 : Int) ≤ L - s1
    · rw [if_pos k, if_pos (by omega)]; congr 1; omega
    · rw [if_neg k, if_neg (by omega)]
  · rw [if_neg g, decide_eq_true (by omega), cond_t, if_neg (by omega)]
theorem szR_l {s : Nat} {L : Int} (h0 : 0 ≤ L) {e : Option Int} (he : e = some (szR s L)) : (e.bind fun y => bif decide (y < (0 : Int)) then some (-1 : Int) else some y) = some (szR s L) := by
  rw [he, bind_s]
  unfold szR
  by_cases g : (s : Int) ≤ L
  · rw [if_pos g, decide_eq_false (by omega), cond_f]
  · rw [if_neg g, decide_eq_true (by omega), cond_t]
theorem szR_s {s1 s2 : Nat} {L : Int} (h0 : 0 ≤ L) (h1 : L ≤ 1048576) (hm : s1 ≤ 9223372036854775807) {f : Int → Option Int} (hf : ∀ M, 0 ≤ M → M ≤ 1048576 → f M = some (szR s2 M)) : (bif decide (IntKind.i64.wrap (L - (s1 : Int)) < (0 : Int)) then some (-1 : Int) else f (IntKind.i64.wrap (L - (s1 : Int)))) = some (szR (s1 + s2) L) := by
  rw [w64 (by omega) (by omega)]
  unfold szR
  by_cases g : (s1 : Int) ≤ L
  · rw [decide_eq_false (by omega), cond_f, hf _ (by omega) (by omega)]
    unfold szR
    by_cases k : (s2 : Int) ≤ L - s1
    · rw [if_pos k, if_pos (by omega)]; congr 1; omega
    · rw [if_neg k, if_neg (by omega)]
  · rw [decide_eq_true (by omega), cond_t, if_neg (by omega)]
theorem sz_law {s : Nat} {L : Int} (h0 : 0 ≤ L) {e : Option Int} (he : e = some (szR s L)) {f : Int → Option Bool} (hf : (s : Int) ≤ L → f (L - s) = some true) : (e.bind fun y => bif decide (y < (0 : Int)) then some true else f y) = some true := by
  rw [he, bind_s]
  unfold szR
  by_cases g : (s : Int) ≤ L
  · rw [if_pos g, decide_eq_false (by omega), cond_f]; exact hf g
  · rw [if_neg g, decide_eq_true (by omega), cond_t]
def all2 {α β : Type} (g : α → β → Bool) : List α → List β → Bool
  | x :: xs, y :: ys => g x y && all2 g xs ys
  | _, _ => true
theorem all2_step {α β : Type} (g : α → β → Bool) {xs : List α} {ys : List β} {i : Nat} (h : i < xs.length) (h' : i < ys.length) : all2 g (xs.drop i) (ys.drop i) = (g xs[i] ys[i] && all2 g (xs.drop (i + 1)) (ys.drop (i + 1))) := by
  rw [List.drop_eq_getElem_cons h, List.drop_eq_getElem_cons h']; rfl
theorem all2_last {α β : Type} (g : α → β → Bool) (xs : List α) (ys : List β) : all2 g (xs.drop xs.length) ys = true := by
  rw [List.drop_length]; rfl
def eqS {α : Type} (g : α → α → Bool) (xs ys : List α) : Bool := decide (xs.length = ys.length) && all2 g xs ys
theorem eq2_v {α : Type} (xs ys : List α) (d : α) (f : α → α → Option Bool) (g : α → α → Bool) (hl : xs.length ≤ 1048576) (hf : ∀ i (h : i < xs.length) (h' : i < ys.length), f xs[i] ys[i] = some (g xs[i] ys[i])) (l : Nat → Int → Option Bool) (u : ∀ n a, l (n + 1) a = (bif decide (a < (xs.length : Int)) then bif decide (0 ≤ a) then bif decide (a < (xs.length : Int)) then bif decide (0 ≤ a) then bif decide (a < (ys.length : Int)) then (f (xs.getD a.toNat d) (ys.getD a.toNat d)).bind fun y1 => bif !y1 then some false else l n (IntKind.i64.wrap (a + (1 : Int))) else none else none else none else none else some true)) : (bif (xs.length : Int) != (ys.length : Int) then some false else l KK (0 : Int)) = some (eqS g xs ys) := by
  unfold eqS
  by_cases hq : xs.length = ys.length
  · have hh : ∀ i n, i ≤ xs.length → xs.length - i < n → l n (i : Int) = some (all2 g (xs.drop i) (ys.drop i)) := by
      refine idx_ind ?_ ?_
      · intro n
        rw [u]
        simp only [lt_f (Nat.le_refl _), cond_f, all2_last]
      · intro i n hi ih
        have hi' : i < ys.length := by omega
        rw [u]
        simp only [lt_t hi, lt_t hi', ge_t, cond_t, Int.toNat_natCast, at_n hi, at_n hi', hf i hi hi', bind_s, w64_succ (i := i) (by omega), ih, all2_step g hi hi']
        cases g xs[i] ys[i] <;> rfl
    rw [len_eq hq, cond_f, decide_eq_true hq, Bool.true_and]
    have := hh 0 KK (Nat.zero_le _) (KK_gt (by omega))
    rw [List.drop_zero, List.drop_zero] at this
    exact this
  · rw [len_ne hq, cond_t, decide_eq_false hq, Bool.false_and]
def sizeS {α : Type} (size : α → Nat) (xs : List α) : Nat := xs.length + (xs.map size).sum
structure MaxS {α : Type} (M : α → Prop) (xs : List α) : Prop where
  len : xs.length ≤ 9223372036854775807
  each : ∀ i (h : i < xs.length), M xs[i]
theorem sum_step {α : Type} (size : α → Nat) {xs : List α} {i : Nat} (h : i < xs.length) : ((xs.drop i).map size).sum = size xs[i] + ((xs.drop (i + 1)).map size).sum := by
  rw [List.drop_eq_getElem_cons h, List.map_cons, List.sum_cons]
theorem sum_last {α : Type} (size : α → Nat) (xs : List α) : ((xs.drop xs.length).map size).sum = 0 := by
  rw [List.drop_length]; rfl
theorem size_at {α : Type} (size : α → Nat) {xs : List α} {i : Nat} (h : i < xs.length) : size xs[i] ≤ (xs.map size).sum := by
  induction xs generalizing i with
  | nil => simp at h
  | cons x t ih =>
    rw [List.map_cons, List.sum_cons]
    cases i with
    | zero => show size x ≤ _; omega
    | succ i =>
      have hi : i < t.length := by simpa using h
      have := ih hi
      show size t[i] ≤ _
      omega
theorem szList_l {α : Type} (xs : List α) (d : α) (size : α → Nat) (f : α → Int → Option Int) (hl : xs.length ≤ 1048576) (hf : ∀ i (h : i < xs.length) (L : Int), 0 ≤ L → L ≤ 1048576 → f xs[i] L = some (if (size xs[i] : Int) ≤ L then L - size xs[i] else -1)) (l : Nat → Int → Int → Option Int) (u : ∀ n a b, l (n + 1) a b = (bif decide (b < (xs.length : Int)) then bif decide (0 ≤ b) then bif decide (b < (xs.length : Int)) then (f (xs.getD b.toNat d) a).bind fun y1 => bif decide (y1 < (0 : Int)) then some (-1 : Int) else l n y1 (IntKind.i64.wrap (b + (1 : Int))) else none else none else some a)) : ∀ i n, i ≤ xs.length → xs.length - i < n → ∀ L : Int, 0 ≤ L → L ≤ 1048576 → l n L (i : Int) = some (if (((xs.drop i).map size).sum : Int) ≤ L then L - ((xs.drop i).map size).sum else -1) := by
  refine idx_ind ?_ ?_
  · intro n L h0 h1
    rw [u]
    simp only [lt_f (Nat.le_refl _), cond_f, sum_last]
    rw [if_pos (by omega)]
    congr 1; omega
  · intro i n hi ih L h0 h1
    rw [u]
    simp only [lt_t hi, ge_t, cond_t, Int.toNat_natCast, at_n hi, hf i hi L h0 h1, bind_s, w64_succ (i := i) (by omega)]
    rw [sum_step _ hi]
    by_cases g : (size xs[i] : Int) ≤ L
    · rw [if_pos g, decide_eq_false (by omega), cond_f, ih _ (by omega) (by omega)]
      by_cases k : ((((xs.drop (i + 1)).map size).sum : Nat) : Int) ≤ L - size xs[i]
      · rw [if_pos k, if_pos (by omega)]; congr 1; omega
      · rw [if_neg k, if_neg (by omega)]
    · rw [if_neg g, decide_eq_true (by omega), cond_t, if_neg (by omega)]
theorem szList_v {α : Type} (xs : List α) (d : α) (size : α → Nat) (f : α → Int → Option Int) (L : Int) (hm : xs.length ≤ 9223372036854775807) (h0 : 0 ≤ L) (h1 : L ≤ 1048576) (hf : ∀ i (h : i < xs.length) (L : Int), 0 ≤ L → L ≤ 1048576 → f xs[i] L = some (if (size xs[i] : Int) ≤ L then L - size xs[i] else -1)) (l : Nat → Int → Int → Option Int) (u : ∀ n a b, l (n + 1) a b = (bif decide (b < (xs.length : Int)) then bif decide (0 ≤ b) then bif decide (b < (xs.length : Int)) then (f (xs.getD b.toNat d) a).bind fun y1 => bif decide (y1 < (0 : Int)) then some (-1 : Int) else l n y1 (IntKind.i64.wrap (b + (1 : Int))) else none else none else some a)) : (bif decide ((IntKind.i64.wrap (L - (xs.length : Int))) < (0 : Int)) then some (-1 : Int) else l KK (IntKind.i64.wrap (L - (xs.length : Int))) (0 : Int)) = some (if (sizeS size xs : Int) ≤ L then L - sizeS size xs else -1) := by
  unfold sizeS
  rw [w64 (by omega) (by omega)]
  by_cases g : (xs.length : Int) ≤ L
  · have hh := szList_l xs d size f (by omega) hf l u 0 KK (Nat.zero_le _) (KK_gt (by omega)) (L - xs.length) (by omega) (by omega)
    rw [List.drop_zero] at hh
    rw [decide_eq_false (by omega), cond_f]
    refine Eq.trans hh ?_
    by_cases k : (((xs.map size).sum : Nat) : Int) ≤ L - xs.length
    · rw [if_pos k, if_pos (by omega)]; congr 1; omega
    · rw [if_neg k, if_neg (by omega)]
  · rw [decide_eq_true (by omega), cond_t, if_neg (by omega)]
theorem toList_v {α : Type} (xs : List α) (d : α) (f : α → Option α) (hl : xs.length ≤ 1048576) (hf : ∀ i (h : i < xs.length), f xs[i] = some xs[i]) (l : Nat → Int → List α → Option (List α)) (u : ∀ n a ys, l (n + 1) a ys = (bif decide (a < (xs.length : Int)) then bif decide (0 ≤ a) then bif decide (a < (xs.length : Int)) then (f (xs.getD a.toNat d)).bind fun y1 => bif decide (0 ≤ a) then bif decide (a < (ys.length : Int)) then l n (IntKind.i64.wrap (a + (1 : Int))) (ys.set a.toNat y1) else none else none else none else none else some ys)) : (bif ((xs.length : Int) == (xs.length : Int)) then bif decide (0 ≤ (xs.length : Int)) then bif decide ((xs.length : Int) < (68719476736 : Int)) then l KK (0 : Int) (List.replicate ((xs.length : Int).toNat) d) else none else none else none) = some xs := by
  have hh : ∀ i n, i ≤ xs.length → xs.length - i < n → ∀ ys, ys = xs.take i ++ List.replicate (xs.length - i) d → l n (i : Int) ys = some xs := by
    refine idx_ind ?_ ?_
    · intro n ys hy
      subst hy
      rw [u]
      simp only [lt_f (Nat.le_refl _), cond_f]
      simp
    · intro i n hi ih ys hy
      have hyl : i < ys.length := by subst hy; simp; omega
      rw [u]
      simp only [lt_t hi, lt_t hyl, ge_t, cond_t, Int.toNat_natCast, at_n hi, hf i hi, bind_s, w64_succ (i := i) (by omega)]
      exact ih _ (fill_set hy hi)
  rw [beq_self_eq_true, cond_t, ge_t, cond_t, decide_eq_true (by omega), cond_t, Int.toNat_natCast]
  have := hh 0 KK (Nat.zero_le _) (KK_gt (by omega)) _ rfl
  simpa using this
theorem eqList_v {α : Type} (xs : List α) (d : α) (f : α → α → Option Bool) (hl : xs.length ≤ 1152921504606846976) (hf : ∀ i (h : i < xs.length), f xs[i] xs[i] = some true) (l : Nat → Int → Option Bool) (u : ∀ n a, l (n + 1) a = (bif decide (a < (xs.length : Int)) then bif decide (0 ≤ a) then bif decide (a < (xs.length : Int)) then bif decide (0 ≤ a) then bif decide (a < (xs.length : Int)) then (f (xs.getD a.toNat d) (xs.getD a.toNat d)).bind fun y1 => bif !y1 then some false else l n (IntKind.i64.wrap (a + (1 : Int))) else none else none else none else none else some true)) : (bif (xs.length : Int) != (xs.length : Int) then some false else l KK (0 : Int)) = some true := by
  have hh : ∀ i n, i ≤ xs.length → xs.length - i < n → l n (i : Int) = some true := by
    refine idx_ind ?_ ?_
    · intro n
      rw [u]
      simp only [lt_f (Nat.le_refl _), cond_f]
    · intro i n hi ih
      rw [u]
      simp only [lt_t hi, ge_t, cond_t, Int.toNat_natCast, at_n hi, hf i hi, bind_s, w64_succ (i := i) (by omega), Bool.not_true, cond_f]
      exact ih
  rw [bne_self, cond_f]
  exact hh 0 KK (Nat.zero_le _) (KK_gt (by omega))
theorem szR_fl {s : Nat} {L : Int} (h0 : 0 ≤ L) (h1 : L ≤ 1048576) (hm : s ≤ 9223372036854775807) : (bif decide (IntKind.i64.wrap (L - (s : Int)) < (0 : Int)) then some (-1 : Int) else some (IntKind.i64.wrap (L - (s : Int)))) = some (szR s L) := by
  rw [w64 (by omega) (by omega)]
  unfold szR
  by_cases g : (s : Int) ≤ L
  · rw [decide_eq_false (by omega), cond_f, if_pos g]
  · rw [decide_eq_true (by omega), cond_t, if_neg g]
theorem szIntS_v (x0 : List Int) (L : Int) (hx : x0.length ≤ 9223372036854775807) (h0 : 0 ≤ L) (h1 : L ≤ 1048576) : laws_szIntS x0 L = some (szR x0.length L) := by
  unfold laws_szIntS
  exact szR_fl h0 h1 hx
theorem toIntS_v (x0 : List Int) (hx : x0.length ≤ 1048576) : laws_toIntS x0 = some x0 :=
  toList_v x0 (0 : Int) (fun s => some s) hx (fun i h => rfl) (laws_toIntS.l6 x0) (fun n a b => laws_toIntS.u6 x0 n a b)
theorem eqIntS_v (x0 : List Int) (hx : x0.length ≤ 1152921504606846976) : laws_eqIntS x0 x0 = some true :=
  eqList_v x0 (0 : Int) (fun s t => some (s == t)) hx (fun i h => by rw [beq_self_eq_true]) (laws_eqIntS.l8 x0 x0) (fun n a => laws_eqIntS.u8 x0 x0 n a)
def sizeStr (x : ByteArray) : Nat := x.size
def StrMax (x : ByteArray) : Prop := x.size ≤ 9223372036854775807
def sizeStringS (xs : List ByteArray) : Nat := sizeS sizeStr xs
def StringSMax (xs : List ByteArray) : Prop := MaxS StrMax xs
theorem szStr_v (x : ByteArray) (L : Int) (hx : StrMax x) (h0 : 0 ≤ L) (h1 : L ≤ 1048576) : (bif decide ((IntKind.i64.wrap (L - (x.size : Int))) < (0 : Int)) then some (-1 : Int) else some (IntKind.i64.wrap (L - (x.size : Int)))) = some (szR (sizeStr x) L) := szR_fl h0 h1 hx
theorem str_bif (c : Bool) (a b : Int) (g : Int → Option Int) (hc : c = decide (b < 0)) : (bif c then some (-1 : Int) else g b) = ((bif c then some (-1 : Int) else some b) : Option Int).bind fun y1 => bif decide (y1 < (0 : Int)) then some (-1 : Int) else g y1 := by
  subst hc
  by_cases h : b < 0
  · rw [decide_eq_true h, cond_t, cond_t, bind_s]; rfl
  · rw [decide_eq_false h, cond_f, cond_f, bind_s, decide_eq_false h, cond_f]
theorem szStringS_v (x0 : List ByteArray) (L : Int) (hx : StringSMax x0) (h0 : 0 ≤ L) (h1 : L ≤ 1048576) : laws_szStringS x0 L = some (szR (sizeStringS x0) L) := by
  refine szList_v x0 (⟨#[]⟩ : ByteArray) sizeStr (fun s L => bif decide ((IntKind.i64.wrap (L - (s.size : Int))) < (0 : Int)) then some (-1 : Int) else some (IntKind.i64.wrap (L - (s.size : Int)))) L hx.len h0 h1 (fun i h L h0 h1 => szStr_v _ _ (hx.each i h) h0 h1) (laws_szStringS.l10 x0) (fun n a b => ?_)
  rw [laws_szStringS.u10]
  simp only [laws_szStringS.g10]
  rw [str_bif _ a _ (fun y => laws_szStringS.l10 x0 n y (IntKind.i64.wrap (b + (1 : Int)))) rfl]
theorem toStringS_v (x0 : List ByteArray) (hx : sizeStringS x0 ≤ 1048576) : laws_toStringS x0 = some x0 :=
  toList_v x0 (⟨#[]⟩ : ByteArray) (fun s => some s) (by unfold sizeStringS sizeS at hx; omega) (fun i h => rfl) (laws_toStringS.l6 x0) (fun n a b => laws_toStringS.u6 x0 n a b)
theorem eqStringS_v (x0 : List ByteArray) (hx : sizeStringS x0 ≤ 1152921504606846976) : laws_eqStringS x0 x0 = some true := by
  refine eqList_v x0 (⟨#[]⟩ : ByteArray) (fun s t => some (s.toList == t.toList)) (by unfold sizeStringS sizeS at hx; omega) (fun i h => by rw [beq_self_eq_true]) (laws_eqStringS.l8 x0 x0) (fun n a => ?_)
  rw [laws_eqStringS.u8]
  simp only [laws_eqStringS.g8, bind_s]

def sizeKeys (x : TKeys) : Nat := x.1.length
def KeysMax (x : TKeys) : Prop := x.1.length ≤ 9223372036854775807
theorem szKeys_v (x0 : TKeys) (L : Int) (hx : KeysMax x0) (h0 : 0 ≤ L) (h1 : L ≤ 1048576) : laws_szKeys x0 L = some (szR (sizeKeys x0) L) := by
  unfold laws_szKeys sizeKeys
  exact szR_l h0 (szIntS_v _ _ hx h0 h1)
theorem toKeys_v (x0 : TKeys) (hx : sizeKeys x0 ≤ 1048576) : laws_toKeys x0 = some x0 := by
  unfold sizeKeys at hx
  unfold laws_toKeys
  exact bnd (toIntS_v _ (by omega)) (rfl)
theorem eqKeys_v (a : TKeys) (hx : sizeKeys a ≤ 1152921504606846976) : laws_eqKeys a a = some true := by
  unfold sizeKeys at hx
  unfold laws_eqKeys
  exact bnd (eqIntS_v _ (by omega)) (cF rfl (cF (bne_self _) (rfl)))
def sizeHead (x : THead) : Nat := sizeKeys (Head_Keys x) + (sizeKeys (Head_Heirs x) + (sizeKeys (Head_Judge x)))
structure HeadMax (x : THead) : Prop where
  m0 : KeysMax (Head_Keys x)
  m1 : KeysMax (Head_Heirs x)
  m2 : KeysMax (Head_Judge x)
theorem szHead_v (x0 : THead) (L : Int) (hx : HeadMax x0) (h0 : 0 ≤ L) (h1 : L ≤ 1048576) : laws_szHead x0 L = some (szR (sizeHead x0) L) := by
  unfold laws_szHead sizeHead
  exact szR_b h0 h1 (szKeys_v _ _ hx.m0 h0 h1) (fun M h0 h1 => szR_b h0 h1 (szKeys_v _ _ hx.m1 h0 h1) (fun M h0 h1 => szR_l h0 (szKeys_v _ _ hx.m2 h0 h1)))
theorem toHead_v (x0 : THead) (hx : sizeHead x0 ≤ 1048576) : laws_toHead x0 = some x0 := by
  unfold sizeHead at hx
  unfold laws_toHead
  exact bnd (toKeys_v _ (by omega)) (bnd (toKeys_v _ (by omega)) (bnd (toKeys_v _ (by omega)) (rfl)))
theorem eqHead_v (a : THead) (hx : sizeHead a ≤ 1152921504606846976) : laws_eqHead a a = some true := by
  unfold sizeHead at hx
  unfold laws_eqHead
  exact cF (bne_self _) (cF (bne_self _) (cF (bne_self _) (cF (bne_self _) (cF (bne_self _) (cF (bne_self _) (cF (bne_self _) (cF (bne_self _) (bnd (eqKeys_v _ (by omega)) (cF rfl (bnd (eqKeys_v _ (by omega)) (cF rfl (cF (bne_self _) (bnd (eqKeys_v _ (by omega)) (cF rfl (cF (nbeq _) (rfl))))))))))))))))
theorem toSig_v (x0 : TSig) : laws_toSig x0 = some x0 := rfl
theorem eqSig_v (a : TSig) : laws_eqSig a a = some true := by
  unfold laws_eqSig
  simp only [bne_self, cond_f]
theorem szSigS_v (x0 : List TSig) (L : Int) (hx : x0.length ≤ 9223372036854775807) (h0 : 0 ≤ L) (h1 : L ≤ 1048576) : laws_szSigS x0 L = some (szR x0.length L) := by
  unfold laws_szSigS
  exact szR_fl h0 h1 hx
theorem toSigS_v (x0 : List TSig) (hx : x0.length ≤ 1048576) : laws_toSigS x0 = some x0 :=
  toList_v x0 dSig laws_toSig hx (fun i h => toSig_v _) (laws_toSigS.l6 x0) (fun n a b => laws_toSigS.u6 x0 n a b)
theorem eqSigS_v (x0 : List TSig) (hx : x0.length ≤ 1152921504606846976) : laws_eqSigS x0 x0 = some true :=
  eqList_v x0 dSig laws_eqSig hx (fun i h => eqSig_v _) (laws_eqSigS.l8 x0 x0) (fun n a => laws_eqSigS.u8 x0 x0 n a)
def sizeSigned (x : TSigned) : Nat := sizeHead (Signed_Head x) + ((Signed_Sigs x).length)
structure SignedMax (x : TSigned) : Prop where
  m0 : HeadMax (Signed_Head x)
  m1 : (Signed_Sigs x).length ≤ 9223372036854775807
theorem szSigned_v (x0 : TSigned) (L : Int) (hx : SignedMax x0) (h0 : 0 ≤ L) (h1 : L ≤ 1048576) : laws_szSigned x0 L = some (szR (sizeSigned x0) L) := by
  unfold laws_szSigned sizeSigned
  exact szR_b h0 h1 (szHead_v _ _ hx.m0 h0 h1) (fun M h0 h1 => szR_l h0 (szSigS_v _ _ hx.m1 h0 h1))
theorem toSigned_v (x0 : TSigned) (hx : sizeSigned x0 ≤ 1048576) : laws_toSigned x0 = some x0 := by
  unfold sizeSigned at hx
  unfold laws_toSigned
  exact bnd (toHead_v _ (by omega)) (bnd (toSigS_v _ (by omega)) (rfl))
theorem eqSigned_v (a : TSigned) (hx : sizeSigned a ≤ 1152921504606846976) : laws_eqSigned a a = some true := by
  unfold sizeSigned at hx
  unfold laws_eqSigned
  exact bnd (eqHead_v _ (by omega)) (cF rfl (bnd (eqSigS_v _ (by omega)) (cF rfl (rfl))))
def sizeSignedS (xs : List TSigned) : Nat := sizeS sizeSigned xs
def SignedSMax (xs : List TSigned) : Prop := MaxS SignedMax xs
theorem szSignedS_v (x0 : List TSigned) (L : Int) (hx : SignedSMax x0) (h0 : 0 ≤ L) (h1 : L ≤ 1048576) : laws_szSignedS x0 L = some (szR (sizeSignedS x0) L) :=
  szList_v x0 dSigned sizeSigned laws_szSigned L hx.len h0 h1 (fun i h L h0 h1 => szSigned_v _ _ (hx.each i h) h0 h1) (laws_szSignedS.l10 x0) (fun n a b => laws_szSignedS.u10 x0 n a b)
theorem toSignedS_v (x0 : List TSigned) (hx : sizeSignedS x0 ≤ 1048576) : laws_toSignedS x0 = some x0 :=
  toList_v x0 dSigned laws_toSigned (by unfold sizeSignedS sizeS at hx; omega) (fun i h => toSigned_v _ (by have := size_at sizeSigned h; unfold sizeSignedS sizeS at hx; omega)) (laws_toSignedS.l6 x0) (fun n a b => laws_toSignedS.u6 x0 n a b)
theorem eqSignedS_v (x0 : List TSigned) (hx : sizeSignedS x0 ≤ 1152921504606846976) : laws_eqSignedS x0 x0 = some true :=
  eqList_v x0 dSigned laws_eqSigned (by unfold sizeSignedS sizeS at hx; omega) (fun i h => eqSigned_v _ (by have := size_at sizeSigned h; unfold sizeSignedS sizeS at hx; omega)) (laws_eqSignedS.l8 x0 x0) (fun n a => laws_eqSignedS.u8 x0 x0 n a)
def sizeSignedSS (xs : List (List TSigned)) : Nat := sizeS sizeSignedS xs
def SignedSSMax (xs : List (List TSigned)) : Prop := MaxS SignedSMax xs
theorem szSignedSS_v (x0 : List (List TSigned)) (L : Int) (hx : SignedSSMax x0) (h0 : 0 ≤ L) (h1 : L ≤ 1048576) : laws_szSignedSS x0 L = some (szR (sizeSignedSS x0) L) :=
  szList_v x0 ([] : List TSigned) sizeSignedS laws_szSignedS L hx.len h0 h1 (fun i h L h0 h1 => szSignedS_v _ _ (hx.each i h) h0 h1) (laws_szSignedSS.l10 x0) (fun n a b => laws_szSignedSS.u10 x0 n a b)
theorem toSignedSS_v (x0 : List (List TSigned)) (hx : sizeSignedSS x0 ≤ 1048576) : laws_toSignedSS x0 = some x0 :=
  toList_v x0 ([] : List TSigned) laws_toSignedS (by unfold sizeSignedSS sizeS at hx; omega) (fun i h => toSignedS_v _ (by have := size_at sizeSignedS h; unfold sizeSignedSS sizeS at hx; omega)) (laws_toSignedSS.l6 x0) (fun n a b => laws_toSignedSS.u6 x0 n a b)
theorem eqSignedSS_v (x0 : List (List TSigned)) (hx : sizeSignedSS x0 ≤ 1152921504606846976) : laws_eqSignedSS x0 x0 = some true :=
  eqList_v x0 ([] : List TSigned) laws_eqSignedS (by unfold sizeSignedSS sizeS at hx; omega) (fun i h => eqSignedS_v _ (by have := size_at sizeSignedS h; unfold sizeSignedSS sizeS at hx; omega)) (laws_eqSignedSS.l8 x0 x0) (fun n a => laws_eqSignedSS.u8 x0 x0 n a)
def sizeFork (x : TFork) : Nat := sizeSigned (Fork_Before x) + (sizeSigned (Fork_A x) + (sizeSigned (Fork_B x)))
structure ForkMax (x : TFork) : Prop where
  m0 : SignedMax (Fork_Before x)
  m1 : SignedMax (Fork_A x)
  m2 : SignedMax (Fork_B x)
theorem szFork_v (x0 : TFork) (L : Int) (hx : ForkMax x0) (h0 : 0 ≤ L) (h1 : L ≤ 1048576) : laws_szFork x0 L = some (szR (sizeFork x0) L) := by
  unfold laws_szFork sizeFork
  exact szR_b h0 h1 (szSigned_v _ _ hx.m0 h0 h1) (fun M h0 h1 => szR_b h0 h1 (szSigned_v _ _ hx.m1 h0 h1) (fun M h0 h1 => szR_l h0 (szSigned_v _ _ hx.m2 h0 h1)))
theorem toFork_v (x0 : TFork) (hx : sizeFork x0 ≤ 1048576) : laws_toFork x0 = some x0 := by
  unfold sizeFork at hx
  unfold laws_toFork
  exact bnd (toSigned_v _ (by omega)) (bnd (toSigned_v _ (by omega)) (bnd (toSigned_v _ (by omega)) (rfl)))
theorem eqFork_v (a : TFork) (hx : sizeFork a ≤ 1152921504606846976) : laws_eqFork a a = some true := by
  unfold sizeFork at hx
  unfold laws_eqFork
  exact bnd (eqSigned_v _ (by omega)) (cF rfl (bnd (eqSigned_v _ (by omega)) (cF rfl (bnd (eqSigned_v _ (by omega)) (cF rfl (rfl))))))
def sizeForkS (xs : List TFork) : Nat := sizeS sizeFork xs
def ForkSMax (xs : List TFork) : Prop := MaxS ForkMax xs
theorem szForkS_v (x0 : List TFork) (L : Int) (hx : ForkSMax x0) (h0 : 0 ≤ L) (h1 : L ≤ 1048576) : laws_szForkS x0 L = some (szR (sizeForkS x0) L) :=
  szList_v x0 dFork sizeFork laws_szFork L hx.len h0 h1 (fun i h L h0 h1 => szFork_v _ _ (hx.each i h) h0 h1) (laws_szForkS.l10 x0) (fun n a b => laws_szForkS.u10 x0 n a b)
theorem toForkS_v (x0 : List TFork) (hx : sizeForkS x0 ≤ 1048576) : laws_toForkS x0 = some x0 :=
  toList_v x0 dFork laws_toFork (by unfold sizeForkS sizeS at hx; omega) (fun i h => toFork_v _ (by have := size_at sizeFork h; unfold sizeForkS sizeS at hx; omega)) (laws_toForkS.l6 x0) (fun n a b => laws_toForkS.u6 x0 n a b)
theorem eqForkS_v (x0 : List TFork) (hx : sizeForkS x0 ≤ 1152921504606846976) : laws_eqForkS x0 x0 = some true :=
  eqList_v x0 dFork laws_eqFork (by unfold sizeForkS sizeS at hx; omega) (fun i h => eqFork_v _ (by have := size_at sizeFork h; unfold sizeForkS sizeS at hx; omega)) (laws_eqForkS.l8 x0 x0) (fun n a => laws_eqForkS.u8 x0 x0 n a)
def sizeEntry (x : TEntry) : Nat := sizeStr x.1 + (sizeStringS x.2.2.2)
structure EntryMax (x : TEntry) : Prop where
  m0 : StrMax x.1
  m1 : StringSMax x.2.2.2
theorem szEntry_v (x0 : TEntry) (L : Int) (hx : EntryMax x0) (h0 : 0 ≤ L) (h1 : L ≤ 1048576) : laws_szEntry x0 L = some (szR (sizeEntry x0) L) := by
  unfold laws_szEntry sizeEntry
  exact szR_s h0 h1 hx.m0 (fun M h0 h1 => szR_l h0 (szStringS_v _ _ hx.m1 h0 h1))
theorem toEntry_v (x0 : TEntry) (hx : sizeEntry x0 ≤ 1048576) : laws_toEntry x0 = some x0 := by
  unfold sizeEntry at hx
  unfold laws_toEntry
  exact bnd (toStringS_v _ (by omega)) (rfl)
theorem eqEntry_v (a : TEntry) (hx : sizeEntry a ≤ 1152921504606846976) : laws_eqEntry a a = some true := by
  unfold sizeEntry at hx
  unfold laws_eqEntry
  exact cF (nbeq _) (cF (bne_self _) (cF (bne_self _) (bnd (eqStringS_v _ (by omega)) (cF rfl (rfl)))))
def sizeEntryS (xs : List TEntry) : Nat := sizeS sizeEntry xs
def sizeZone (x : TZone) : Nat := sizeSignedS x.1 + (sizeEntryS x.2)
def sizeKnown (x : TKnown) : Nat := sizeSignedSS x.1 + (sizeForkS x.2)
structure KnownMax (x : TKnown) : Prop where
  m0 : SignedSSMax x.1
  m1 : ForkSMax x.2
theorem szKnown_v (x0 : TKnown) (L : Int) (hx : KnownMax x0) (h0 : 0 ≤ L) (h1 : L ≤ 1048576) : laws_szKnown x0 L = some (szR (sizeKnown x0) L) := by
  unfold laws_szKnown sizeKnown
  exact szR_b h0 h1 (szSignedSS_v _ _ hx.m0 h0 h1) (fun M h0 h1 => szR_l h0 (szForkS_v _ _ hx.m1 h0 h1))
theorem toKnown_v (x0 : TKnown) (hx : sizeKnown x0 ≤ 1048576) : laws_toKnown x0 = some x0 := by
  unfold sizeKnown at hx
  unfold laws_toKnown
  exact bnd (toSignedSS_v _ (by omega)) (bnd (toForkS_v _ (by omega)) (rfl))
theorem eqKnown_v (a : TKnown) (hx : sizeKnown a ≤ 1152921504606846976) : laws_eqKnown a a = some true := by
  unfold sizeKnown at hx
  unfold laws_eqKnown
  exact bnd (eqSignedSS_v _ (by omega)) (cF rfl (bnd (eqForkS_v _ (by omega)) (cF rfl (rfl))))
def sizeLook (x : TLook) : Nat := sizeKnown (Look_Known x) + (sizeEntry (Look_Entry x) + ((Look_Codes x).length))
structure LookMax (x : TLook) : Prop where
  m0 : KnownMax (Look_Known x)
  m1 : EntryMax (Look_Entry x)
  m2 : (Look_Codes x).length ≤ 9223372036854775807
theorem szLook_v (x0 : TLook) (L : Int) (hx : LookMax x0) (h0 : 0 ≤ L) (h1 : L ≤ 1048576) : laws_szLook x0 L = some (szR (sizeLook x0) L) := by
  unfold laws_szLook sizeLook
  exact szR_b h0 h1 (szKnown_v _ _ hx.m0 h0 h1) (fun M h0 h1 => szR_b h0 h1 (szEntry_v _ _ hx.m1 h0 h1) (fun M h0 h1 => szR_l h0 (szIntS_v _ _ hx.m2 h0 h1)))
theorem toLook_v (x0 : TLook) (hx : sizeLook x0 ≤ 1048576) : laws_toLook x0 = some x0 := by
  unfold sizeLook at hx
  unfold laws_toLook
  exact bnd (toKnown_v _ (by omega)) (bnd (toEntry_v _ (by omega)) (bnd (toIntS_v _ (by omega)) (rfl)))
theorem eqLook_v (a : TLook) (hx : sizeLook a ≤ 1152921504606846976) : laws_eqLook a a = some true := by
  unfold sizeLook at hx
  unfold laws_eqLook
  exact bnd (eqKnown_v _ (by omega)) (cF rfl (cF (nbeq _) (bnd (eqEntry_v _ (by omega)) (cF rfl (cF (nbeq _) (bnd (eqIntS_v _ (by omega)) (cF rfl (rfl))))))))
theorem Grow_v (n : Int) (h0 : 0 ≤ n) (h1 : n < 68719476736) : slices_Grow_int [] n = some [] := by
  have e0 : IntKind.i64.wrap ((0 : Int) - ((0 : Nat) : Int)) = 0 := w64 (by omega) (by omega)
  have e1 : IntKind.i64.wrap (n - 0) = n := by rw [w64 (by omega) (by omega)]; omega
  unfold slices_Grow_int
  simp only [slices_Grow_int.b, slices_Grow_int.l7, slices_Grow_int.g7, e0, e1]
  rw [decide_eq_false (by omega), cond_f]
  by_cases h : n > 0
  · rw [decide_eq_true h, cond_t, decide_eq_true (by omega), cond_t, decide_eq_true h1, cond_t, decide_eq_true (by omega), cond_t, decide_eq_true (by omega), cond_t, decide_eq_true (by omega), cond_t]
    simp
  · rw [decide_eq_false h, cond_f]
theorem Concat_l22 (x0 : List (List Int)) (hl : x0.length < 1152921504606846976) : ∀ i n, i ≤ x0.length → x0.length - i < n → ∀ acc : List Int, acc.length + (x0.drop i).flatten.length < 68719476736 → slices_Concat_int.l22 x0 n (x0.length : Int) (i : Int) acc = some (acc ++ (x0.drop i).flatten) := by
  refine idx_ind ?_ ?_
  · intro n acc ha
    rw [slices_Concat_int.u22]
    simp only [slices_Concat_int.g22, lt_f (Nat.le_refl _), cond_f, List.drop_length, List.flatten_nil, List.append_nil]
  · intro i n hi ih acc ha
    rw [List.drop_eq_getElem_cons hi, List.flatten_cons] at ha ⊢
    rw [List.length_append] at ha
    rw [slices_Concat_int.u22]
    simp only [slices_Concat_int.g22, lt_t hi, ge_t, cond_t, w64_succ (i := i) (by omega), Int.toNat_natCast, at_n hi]
    rw [decide_eq_true (by omega), cond_t, ih _ (by rw [List.length_append]; omega), List.append_assoc]
theorem Concat_l6 (x0 : List (List Int)) (hl : x0.length < 1152921504606846976) (hf : x0.flatten.length < 68719476736) : ∀ i n, i ≤ x0.length → x0.length - i < n → ∀ s : Int, 0 ≤ s → s + (x0.drop i).flatten.length < 68719476736 → slices_Concat_int.l6 x0 n s (x0.length : Int) (i : Int) = some x0.flatten := by
  refine idx_ind ?_ ?_
  · intro n s h0 ha
    rw [slices_Concat_int.u6]
    rw [List.drop_length, List.flatten_nil] at ha
    simp only [slices_Concat_int.g6, lt_f (Nat.le_refl _), cond_f]
    rw [Grow_v s h0 (by simpa using ha), bind_s]
    have := Concat_l22 x0 hl 0 KK (Nat.zero_le _) (KK_gt (by omega)) [] (by simpa using hf)
    simpa using this
  · intro i n hi ih s h0 ha
    rw [List.drop_eq_getElem_cons hi, List.flatten_cons, List.length_append] at ha
    rw [slices_Concat_int.u6]
    simp only [slices_Concat_int.g6, lt_t hi, ge_t, cond_t, w64_succ (i := i) (by omega), Int.toNat_natCast, at_n hi]
    rw [w64 (n := s + (x0[i].length : Int)) (by omega) (by omega), decide_eq_false (by omega), cond_f, ih _ (by omega) (by omega)]
theorem Concat_v (x0 : List (List Int)) (hl : x0.length < 1152921504606846976) (hf : x0.flatten.length < 68719476736) : slices_Concat_int x0 = some x0.flatten := by
  have := Concat_l6 x0 hl hf 0 KK (Nat.zero_le _) (KK_gt (by omega)) 0 (Int.le_refl 0) (by rw [List.drop_zero, Int.zero_add]; omega)
  exact this
def keysInts (k : TKeys) : List Int := [k.2, (k.1.length : Int)] ++ k.1
theorem keysInts_len (k : TKeys) : (keysInts k).length = k.1.length + 2 := by unfold keysInts; simp
theorem sKeysInts_v (k : TKeys) (h : k.1.length ≤ 1048576) : spec_KeysInts k = some (keysInts k) := by
  unfold spec_KeysInts keysInts
  rw [decide_eq_true (by simp; omega), cond_t]
theorem iKeysInts_v (k : TKeys) (h : k.1.length ≤ 1048576) : impl_KeysInts k = some (keysInts k) := by
  unfold impl_KeysInts keysInts
  rw [decide_eq_true (by simp; omega), cond_t]
def hd8 (x0 : THead) : List Int := [(Head_Zone x0), (Head_Epoch x0), (Head_Kind x0), (Head_Time x0), (Head_Until x0), (Head_Count x0), (Head_Root x0), (Head_Prev x0)]
def hde (x0 : THead) : List Int := [(Head_Wait x0)]
def hdb (x0 : THead) : List Int := [bif (Head_Frozen x0) then (1 : Int) else 0]
def headInts (x0 : THead) : List Int := ((((hd8 x0 ++ keysInts (Head_Keys x0)) ++ keysInts (Head_Heirs x0)) ++ hde x0) ++ keysInts (Head_Judge x0)) ++ hdb x0
theorem headInts_len (x0 : THead) : (headInts x0).length = sizeHead x0 + 16 := by
  unfold headInts sizeHead sizeKeys
  simp only [List.length_append, keysInts_len]
  simp [hd8, hde, hdb]; omega
theorem app_le {α : Type} (a b : List α) : (a ++ b).length = a.length + b.length := List.length_append
theorem sHeadInts_v (x0 : THead) (h : sizeHead x0 ≤ 1048576) : spec_HeadInts x0 = some (headInts x0) := by
  have hs := h
  unfold sizeHead sizeKeys at hs
  have e1 := sKeysInts_v (Head_Keys x0) (by omega)
  have e2 := sKeysInts_v (Head_Heirs x0) (by omega)
  have e3 := sKeysInts_v (Head_Judge x0) (by omega)
  have l1 := keysInts_len (Head_Keys x0)
  have l2 := keysInts_len (Head_Heirs x0)
  have l3 := keysInts_len (Head_Judge x0)
  have l8 : (hd8 x0).length = 8 := rfl
  have le : (hde x0).length = 1 := rfl
  show ((spec_KeysInts (Head_Keys x0)).bind fun y1 => bif decide ((hd8 x0).length + y1.length < 68719476736) then (spec_KeysInts (Head_Heirs x0)).bind fun y2 => bif decide ((hd8 x0 ++ y1).length + y2.length < 68719476736) then bif decide (((hd8 x0 ++ y1) ++ y2).length + (hde x0).length < 68719476736) then (spec_KeysInts (Head_Judge x0)).bind fun y3 => bif decide ((((hd8 x0 ++ y1) ++ y2) ++ hde x0).length + y3.length < 68719476736) then bif (Head_Frozen x0) then bif decide (((((hd8 x0 ++ y1) ++ y2) ++ hde x0) ++ y3).length + [(1 : Int)].length < 68719476736) then some (((((hd8 x0 ++ y1) ++ y2) ++ hde x0) ++ y3) ++ [(1 : Int)]) else none else bif decide (((((hd8 x0 ++ y1) ++ y2) ++ hde x0) ++ y3).length + [(0 : Int)].length < 68719476736) then some (((((hd8 x0 ++ y1) ++ y2) ++ hde x0) ++ y3) ++ [(0 : Int)]) else none else none else none else none else none) = _
  simp only [e1, e2, e3, bind_s, app_le, l1, l2, l3, l8, le, List.length_singleton]
  rw [decide_eq_true (by omega), cond_t, decide_eq_true (by omega), cond_t, decide_eq_true (by omega), cond_t, decide_eq_true (by omega), cond_t, decide_eq_true (by omega), cond_t]
  unfold headInts hdb
  cases (Head_Frozen x0) <;> rfl
theorem iHeadInts_v (x0 : THead) (h : sizeHead x0 ≤ 1048576) : impl_HeadInts x0 = some (headInts x0) := by
  have hs := h
  unfold sizeHead sizeKeys at hs
  have e1 := iKeysInts_v (Head_Keys x0) (by omega)
  have e2 := iKeysInts_v (Head_Heirs x0) (by omega)
  have e3 := iKeysInts_v (Head_Judge x0) (by omega)
  have eb : impl_bit (Head_Frozen x0) = some (bif (Head_Frozen x0) then (1 : Int) else 0) := by
    unfold impl_bit
    cases (Head_Frozen x0) <;> rfl
  have ef : [hd8 x0, keysInts (Head_Keys x0), keysInts (Head_Heirs x0), hde x0, keysInts (Head_Judge x0), hdb x0].flatten = headInts x0 := by
    simp [headInts]
  have ec := Concat_v [hd8 x0, keysInts (Head_Keys x0), keysInts (Head_Heirs x0), hde x0, keysInts (Head_Judge x0), hdb x0] (by simp) (by rw [ef, headInts_len]; omega)
  rw [ef] at ec
  show ((impl_KeysInts (Head_Keys x0)).bind fun y1 => (impl_KeysInts (Head_Heirs x0)).bind fun y2 => (impl_KeysInts (Head_Judge x0)).bind fun y3 => (impl_bit (Head_Frozen x0)).bind fun y4 => (slices_Concat_int [hd8 x0, y1, y2, hde x0, y3, [y4]]).bind fun y5 => some y5) = _
  simp only [e1, e2, e3, eb, bind_s]
  rw [show [bif (Head_Frozen x0) then (1 : Int) else 0] = hdb x0 from rfl, ec, bind_s]
theorem EqualInts_l (x0 x1 : List Int) (hl : x0.length = x1.length) (hx : x0.length ≤ 1152921504606846976) : ∀ i n, i ≤ x0.length → x0.length - i < n → spec_EqualInts.l8 x0 x1 n (i : Int) = some (decide (x0.drop i = x1.drop i)) := by
  refine idx_ind ?_ ?_
  · intro n
    rw [spec_EqualInts.u8]
    simp only [spec_EqualInts.g8, lt_f (Nat.le_refl _), cond_f]
    rw [List.drop_length, hl, List.drop_length]; simp
  · intro i n hi ih
    have hi' : i < x1.length := by omega
    rw [spec_EqualInts.u8]
    simp only [spec_EqualInts.g8, lt_t hi, lt_t hi', ge_t, cond_t, w64_succ (i := i) (by omega), Int.toNat_natCast, at_n hi, at_n hi']
    rw [dec_step (drop_eq hi hi')]
    by_cases he : x0[i] = x1[i]
    · rw [show (x0[i] != x1[i]) = false by simp [he], cond_f, ih, decide_eq_true he, Bool.true_and]
    · rw [show (x0[i] != x1[i]) = true by simp [he], cond_t, decide_eq_false he, Bool.false_and]
theorem EqualInts_v (x0 x1 : List Int) (hx : x0.length ≤ 1152921504606846976) : spec_EqualInts x0 x1 = some (decide (x0 = x1)) := by
  unfold spec_EqualInts
  by_cases hl : x0.length = x1.length
  · simp only [spec_EqualInts.b, len_eq hl, cond_f]
    have := EqualInts_l x0 x1 hl hx 0 KK (Nat.zero_le _) (KK_gt (by omega))
    simpa using this
  · simp only [spec_EqualInts.b, len_ne hl, cond_t]
    rw [decide_eq_false (fun h => hl (by rw [h]))]
theorem slicesEq_int_l (x0 x1 : List Int) (hl : x0.length = x1.length) (hx : x0.length ≤ 1152921504606846976) : ∀ i n, i ≤ x0.length → x0.length - i < n → slices_Equal_int.l8 x0 x1 n (x0.length : Int) (i : Int) = some (decide (x0.drop i = x1.drop i)) := by
  refine idx_ind ?_ ?_
  · intro n
    rw [slices_Equal_int.u8]
    simp only [slices_Equal_int.g8, lt_f (Nat.le_refl _), cond_f]
    rw [List.drop_length, hl, List.drop_length]; simp
  · intro i n hi ih
    have hi' : i < x1.length := by omega
    rw [slices_Equal_int.u8]
    simp only [slices_Equal_int.g8, lt_t hi, lt_t hi', ge_t, cond_t, w64_succ (i := i) (by omega), Int.toNat_natCast, at_n hi, at_n hi']
    rw [dec_step (drop_eq hi hi')]
    by_cases he : x0[i] = x1[i]
    · rw [show (x0[i] != x1[i]) = false by simp [he], cond_f, ih, decide_eq_true he, Bool.true_and]
    · rw [show (x0[i] != x1[i]) = true by simp [he], cond_t, decide_eq_false he, Bool.false_and]
theorem slicesEq_int_v (x0 x1 : List Int) (hx : x0.length ≤ 1152921504606846976) : slices_Equal_int x0 x1 = some (decide (x0 = x1)) := by
  unfold slices_Equal_int
  by_cases hl : x0.length = x1.length
  · simp only [slices_Equal_int.b, len_eq hl, cond_f]
    have := slicesEq_int_l x0 x1 hl hx 0 KK (Nat.zero_le _) (KK_gt (by omega))
    simpa using this
  · simp only [slices_Equal_int.b, len_ne hl, cond_t]
    rw [decide_eq_false (fun h => hl (by rw [h]))]
theorem sigEq (a b : TSig) : ((a.1 == b.1) && ((a.2 == b.2) && true)) = decide (a = b) := by
  obtain ⟨a1, a2⟩ := a
  obtain ⟨b1, b2⟩ := b
  by_cases h1 : a1 = b1 <;> by_cases h2 : a2 = b2 <;> simp [h1, h2]
theorem slicesEq_Sig_l (x0 x1 : List TSig) (hl : x0.length = x1.length) (hx : x0.length ≤ 1152921504606846976) : ∀ i n, i ≤ x0.length → x0.length - i < n → slices_Equal_impl_Sig.l8 x0 x1 n (x0.length : Int) (i : Int) = some (decide (x0.drop i = x1.drop i)) := by
  refine idx_ind ?_ ?_
  · intro n
    rw [slices_Equal_impl_Sig.u8]
    simp only [slices_Equal_impl_Sig.g8, lt_f (Nat.le_refl _), cond_f]
    rw [List.drop_length, hl, List.drop_length]; simp
  · intro i n hi ih
    have hi' : i < x1.length := by omega
    rw [slices_Equal_impl_Sig.u8]
    simp only [slices_Equal_impl_Sig.g8, lt_t hi, lt_t hi', ge_t, cond_t, w64_succ (i := i) (by omega), Int.toNat_natCast, at_n hi, at_n hi', sigEq]
    rw [dec_step (drop_eq hi hi')]
    by_cases he : x0[i] = x1[i]
    · simp only [he, decide_true, Bool.not_true, cond_f, Bool.true_and]
      exact ih
    · simp only [he, decide_false, Bool.not_false, cond_t, Bool.false_and]
theorem slicesEq_Sig_v (x0 x1 : List TSig) (hx : x0.length ≤ 1152921504606846976) : slices_Equal_impl_Sig x0 x1 = some (decide (x0 = x1)) := by
  unfold slices_Equal_impl_Sig
  by_cases hl : x0.length = x1.length
  · simp only [slices_Equal_impl_Sig.b, len_eq hl, cond_f]
    have := slicesEq_Sig_l x0 x1 hl hx 0 KK (Nat.zero_le _) (KK_gt (by omega))
    simpa using this
  · simp only [slices_Equal_impl_Sig.b, len_ne hl, cond_t]
    rw [decide_eq_false (fun h => hl (by rw [h]))]
theorem EqualKeys_v (a b : TKeys) (hx : a.1.length ≤ 1048576) : impl_EqualKeys a b = some (decide (a = b)) := by
  unfold impl_EqualKeys
  rw [slicesEq_int_v _ _ (by omega), bind_s]
  obtain ⟨a1, a2⟩ := a
  obtain ⟨b1, b2⟩ := b
  by_cases h1 : a1 = b1 <;> by_cases h2 : a2 = b2 <;> simp [h1, h2]
theorem keysInts_inj {k k' : TKeys} {r r' : List Int} (h : keysInts k ++ r = keysInts k' ++ r') : k = k' ∧ r = r' := by
  unfold keysInts at h
  simp only [List.cons_append, List.nil_append, List.append_assoc, List.cons.injEq] at h
  obtain ⟨h1, h2, h3⟩ := h
  have hl : k.1.length = k'.1.length := by omega
  obtain ⟨h4, h5⟩ := List.append_inj h3 hl
  exact ⟨Prod.ext h4 h1, h5⟩
theorem headInts_inj {a b : THead} (h : headInts a = headInts b) : Head_Keys a = Head_Keys b ∧ Head_Heirs a = Head_Heirs b ∧ Head_Judge a = Head_Judge b ∧ hdb a = hdb b := by
  unfold headInts at h
  simp only [List.append_assoc] at h
  obtain ⟨_, h⟩ := List.append_inj h rfl
  obtain ⟨h1, h⟩ := keysInts_inj h
  obtain ⟨h2, h⟩ := keysInts_inj h
  obtain ⟨_, h⟩ := List.append_inj h rfl
  obtain ⟨h3, h⟩ := keysInts_inj h
  exact ⟨h1, h2, h3, h⟩
theorem hdb_inj {a b : THead} (h : hdb a = hdb b) : ((Head_Frozen a) == (Head_Frozen b)) = true := by
  unfold hdb at h
  generalize (Head_Frozen a) = p at h ⊢
  generalize (Head_Frozen b) = q at h ⊢
  revert h
  cases p <;> cases q <;> decide
def eqHeads (a b : THead) : Bool := decide (headInts a = headInts b)
theorem sEqualHeads_v (a b : THead) (ha : sizeHead a ≤ 1048576) (hb : sizeHead b ≤ 1048576) : spec_EqualHeads a b = some (eqHeads a b) := by
  unfold spec_EqualHeads eqHeads
  rw [sHeadInts_v a ha, bind_s, sHeadInts_v b hb, bind_s, EqualInts_v _ _ (by rw [headInts_len]; omega), bind_s]
  by_cases h : headInts a = headInts b
  · rw [decide_eq_true h, cond_t, hdb_inj (headInts_inj h).2.2.2]
  · rw [decide_eq_false h, cond_f]
theorem iEqualHeads_v (a b : THead) (ha : sizeHead a ≤ 1048576) (hb : sizeHead b ≤ 1048576) : impl_EqualHeads a b = some (eqHeads a b) := by
  have hs := ha
  unfold sizeHead sizeKeys at hs
  show ((impl_EqualKeys (Head_Keys a) (Head_Keys b)).bind fun y1 => bif y1 then (impl_EqualKeys (Head_Heirs a) (Head_Heirs b)).bind fun y2 => bif y2 then (impl_EqualKeys (Head_Judge a) (Head_Judge b)).bind fun y3 => bif y3 then (impl_HeadInts a).bind fun y4 => (impl_HeadInts b).bind fun y5 => (slices_Equal_int y4 y5).bind fun y6 => some y6 else some false else some false else some false) = _
  rw [EqualKeys_v _ _ (by omega), bind_s, EqualKeys_v _ _ (by omega), bind_s, EqualKeys_v _ _ (by omega), bind_s, iHeadInts_v a ha, bind_s, iHeadInts_v b hb, bind_s, slicesEq_int_v _ _ (by rw [headInts_len]; omega), bind_s]
  unfold eqHeads
  by_cases h : headInts a = headInts b
  · obtain ⟨h1, h2, h3, _⟩ := headInts_inj h
    rw [decide_eq_true h1, decide_eq_true h2, decide_eq_true h3, cond_t, cond_t, cond_t]
  · rw [decide_eq_false h]
    cases decide (Head_Keys a = Head_Keys b) <;> cases decide (Head_Heirs a = Head_Heirs b) <;> cases decide (Head_Judge a = Head_Judge b) <;> rfl
def eqSigneds (a b : TSigned) : Bool := eqHeads (Signed_Head a) (Signed_Head b) && decide (Signed_Sigs a = Signed_Sigs b)
theorem sEqualSigned_l (x0 x1 : TSigned) (hl : (Signed_Sigs x0).length = (Signed_Sigs x1).length) (hx : (Signed_Sigs x0).length ≤ 1152921504606846976) : ∀ i n, i ≤ (Signed_Sigs x0).length → (Signed_Sigs x0).length - i < n → spec_EqualSigned.l8 x0 x1 n (i : Int) = some (decide ((Signed_Sigs x0).drop i = (Signed_Sigs x1).drop i)) := by
  refine idx_ind ?_ ?_
  · intro n
    rw [spec_EqualSigned.u8]
    simp only [spec_EqualSigned.g8, lt_f (Nat.le_refl _), cond_f]
    rw [List.drop_length, hl, List.drop_length]; simp
  · intro i n hi ih
    have hi' : i < (Signed_Sigs x1).length := by omega
    rw [spec_EqualSigned.u8]
    simp only [spec_EqualSigned.g8, lt_t hi, lt_t hi', ge_t, cond_t, w64_succ (i := i) (by omega), Int.toNat_natCast, at_n hi, at_n hi', sigEq]
    rw [dec_step (drop_eq hi hi')]
    generalize (Signed_Sigs x0)[i] = p
    generalize (Signed_Sigs x1)[i] = q
    by_cases he : p = q
    · simp only [he, decide_true, Bool.not_true, cond_f, Bool.true_and]
      exact ih
    · simp only [he, decide_false, Bool.not_false, cond_t, Bool.false_and]
theorem sEqualSigned_v (a b : TSigned) (ha : sizeSigned a ≤ 1048576) (hb : sizeSigned b ≤ 1048576) : spec_EqualSigned a b = some (eqSigneds a b) := by
  unfold sizeSigned at ha hb
  show ((spec_EqualHeads (Signed_Head a) (Signed_Head b)).bind fun y1 => bif !y1 then some false else bif ((Signed_Sigs a).length : Int) != ((Signed_Sigs b).length : Int) then some false else spec_EqualSigned.l8 a b KK 0) = _
  rw [sEqualHeads_v _ _ (by omega) (by omega), bind_s]
  unfold eqSigneds
  cases eqHeads (Signed_Head a) (Signed_Head b) with
  | false => rw [Bool.not_false, cond_t, Bool.false_and]
  | true =>
    rw [Bool.not_true, cond_f, Bool.true_and]
    by_cases hl : (Signed_Sigs a).length = (Signed_Sigs b).length
    · rw [len_eq hl, cond_f]
      have := sEqualSigned_l a b hl (by omega) 0 KK (Nat.zero_le _) (KK_gt (by omega))
      simpa using this
    · rw [len_ne hl, cond_t, decide_eq_false (fun h => hl (by rw [h]))]
theorem iEqualSigned_v (a b : TSigned) (ha : sizeSigned a ≤ 1048576) (hb : sizeSigned b ≤ 1048576) : impl_EqualSigned a b = some (eqSigneds a b) := by
  unfold sizeSigned at ha hb
  show ((impl_EqualHeads (Signed_Head a) (Signed_Head b)).bind fun y1 => bif y1 then (slices_Equal_impl_Sig (Signed_Sigs a) (Signed_Sigs b)).bind fun y2 => some y2 else some false) = _
  rw [iEqualHeads_v _ _ (by omega) (by omega), bind_s, slicesEq_Sig_v _ _ (by omega), bind_s]
  unfold eqSigneds
  cases eqHeads (Signed_Head a) (Signed_Head b) <;> rfl
def eqForks (a b : TFork) : Bool := eqSigneds (Fork_Before a) (Fork_Before b) && (eqSigneds (Fork_A a) (Fork_A b) && eqSigneds (Fork_B a) (Fork_B b))
theorem sEqualForks_v (a b : TFork) (ha : sizeFork a ≤ 1048576) (hb : sizeFork b ≤ 1048576) : spec_EqualForks a b = some (eqForks a b) := by
  unfold sizeFork at ha hb
  show ((spec_EqualSigned (Fork_Before a) (Fork_Before b)).bind fun y1 => bif y1 then (spec_EqualSigned (Fork_A a) (Fork_A b)).bind fun y2 => bif y2 then (spec_EqualSigned (Fork_B a) (Fork_B b)).bind fun y3 => some y3 else some false else some false) = _
  rw [sEqualSigned_v _ _ (by omega) (by omega), bind_s, sEqualSigned_v _ _ (by omega) (by omega), bind_s, sEqualSigned_v _ _ (by omega) (by omega), bind_s]
  unfold eqForks
  cases eqSigneds (Fork_Before a) (Fork_Before b) <;> cases eqSigneds (Fork_A a) (Fork_A b) <;> rfl
theorem iEqualForks_v (a b : TFork) (ha : sizeFork a ≤ 1048576) (hb : sizeFork b ≤ 1048576) : impl_EqualForks a b = some (eqForks a b) := by
  unfold sizeFork at ha hb
  show ((impl_EqualSigned (Fork_Before a) (Fork_Before b)).bind fun y1 => bif y1 then (impl_EqualSigned (Fork_A a) (Fork_A b)).bind fun y2 => bif y2 then (impl_EqualSigned (Fork_B a) (Fork_B b)).bind fun y3 => some y3 else some false else some false) = _
  rw [iEqualSigned_v _ _ (by omega) (by omega), bind_s, iEqualSigned_v _ _ (by omega) (by omega), bind_s, iEqualSigned_v _ _ (by omega) (by omega), bind_s]
  unfold eqForks
  cases eqSigneds (Fork_Before a) (Fork_Before b) <;> cases eqSigneds (Fork_A a) (Fork_A b) <;> rfl
def eqStr (a b : ByteArray) : Bool := a.toList == b.toList
theorem SamePath_v (x0 x1 : List ByteArray) (hx : x0.length ≤ 1048576) : spec_SamePath x0 x1 = some (eqS eqStr x0 x1) :=
  eq2_v x0 x1 (⟨#[]⟩ : ByteArray) (fun a b => some (eqStr a b)) eqStr hx (fun i h h' => rfl) (spec_SamePath.l8 x0 x1) (fun n a => spec_SamePath.u8 x0 x1 n a)
theorem slicesEq_string_v (x0 x1 : List ByteArray) (hx : x0.length ≤ 1048576) : slices_Equal_string x0 x1 = some (eqS eqStr x0 x1) :=
  eq2_v x0 x1 (⟨#[]⟩ : ByteArray) (fun a b => some (eqStr a b)) eqStr hx (fun i h h' => rfl) (fun n a => slices_Equal_string.l8 x0 x1 n (x0.length : Int) a) (fun n a => slices_Equal_string.u8 x0 x1 n (x0.length : Int) a)
def eqEntries (a b : TEntry) : Bool := eqStr a.1 b.1 && ((a.2.1 == b.2.1) && ((a.2.2.1 == b.2.2.1) && eqS eqStr a.2.2.2 b.2.2.2))
theorem sEqualEntries_v (a b : TEntry) (hx : sizeEntry a ≤ 1048576) : spec_EqualEntries a b = some (eqEntries a b) := by
  unfold spec_EqualEntries eqEntries
  rw [SamePath_v _ _ (by unfold sizeEntry sizeStringS sizeS at hx; omega), bind_s]
  show (bif eqStr a.1 b.1 then _ else _) = _
  cases eqStr a.1 b.1 <;> cases (a.2.1 == b.2.1) <;> cases (a.2.2.1 == b.2.2.1) <;> rfl
theorem iEqualEntries_v (a b : TEntry) (hx : sizeEntry a ≤ 1048576) : impl_EqualEntries a b = some (eqEntries a b) := by
  unfold impl_EqualEntries eqEntries
  rw [slicesEq_string_v _ _ (by unfold sizeEntry sizeStringS sizeS at hx; omega), bind_s]
  show (bif eqStr a.1 b.1 then _ else _) = _
  cases eqStr a.1 b.1 <;> cases (a.2.1 == b.2.1) <;> cases (a.2.2.1 == b.2.2.1) <;> rfl
theorem sSameEntries_v (x0 x1 : List TEntry) (hx : sizeEntryS x0 ≤ 1048576) : spec_SameEntries x0 x1 = some (eqS eqEntries x0 x1) :=
  eq2_v x0 x1 dEntry spec_EqualEntries eqEntries (by unfold sizeEntryS sizeS at hx; omega) (fun i h h' => sEqualEntries_v _ _ (by have := size_at sizeEntry h; unfold sizeEntryS sizeS at hx; omega)) (spec_SameEntries.l8 x0 x1) (fun n a => spec_SameEntries.u8 x0 x1 n a)
theorem sameChain_v (x0 x1 : List TSigned) (hx : sizeSignedS x0 ≤ 1048576) (hx' : sizeSignedS x1 ≤ 1048576) : impl_sameChain x0 x1 = some (eqS eqSigneds x0 x1) := by
  have e : slices_EqualFunc_impl_Signed x0 x1 ((), ()) = some (eqS eqSigneds x0 x1) :=
    eq2_v x0 x1 dSigned impl_EqualSigned eqSigneds (by unfold sizeSignedS sizeS at hx; omega) (fun i h h' => iEqualSigned_v _ _ (by have := size_at sizeSigned h; unfold sizeSignedS sizeS at hx; omega) (by have := size_at sizeSigned h'; unfold sizeSignedS sizeS at hx'; omega)) (fun n a => slices_EqualFunc_impl_Signed.l8 x0 x1 n (x0.length : Int) a) (fun n a => slices_EqualFunc_impl_Signed.u8 x0 x1 n (x0.length : Int) a)
  unfold impl_sameChain
  rw [e, bind_s]
def eqZones (a b : TZone) : Bool := eqS eqSigneds a.1 b.1 && eqS eqEntries a.2 b.2
theorem sEqualZones_v (a b : TZone) (ha : sizeZone a ≤ 1048576) (hb : sizeZone b ≤ 1048576) : spec_EqualZones a b = some (eqZones a b) := by
  unfold sizeZone at ha hb
  have e := eq2_v a.1 b.1 dSigned spec_EqualSigned eqSigneds (by unfold sizeSignedS sizeS at ha; omega) (fun i h h' => sEqualSigned_v _ _ (by have := size_at sizeSigned h; unfold sizeSignedS sizeS at ha; omega) (by have := size_at sizeSigned h'; unfold sizeSignedS sizeS at hb; omega)) (spec_EqualZones.l8 a b) (fun n c => spec_EqualZones.u8 a b n c)
  show (bif (a.1.length : Int) != (b.1.length : Int) then some false else (spec_SameEntries a.2 b.2).bind fun y1 => bif !y1 then some false else spec_EqualZones.l8 a b KK (0 : Int)) = _
  rw [sSameEntries_v _ _ (by omega), bind_s]
  unfold eqZones
  revert e
  generalize spec_EqualZones.l8 a b KK (0 : Int) = z
  generalize ((a.1.length : Int) != (b.1.length : Int)) = c
  cases c with
  | true => rw [cond_t, cond_t]; intro e; injection e with e; rw [← e]; rfl
  | false =>
    rw [cond_f, cond_f]; intro e; rw [e]
    cases eqS eqEntries a.2 b.2 with
    | true => rw [Bool.not_true, cond_f, Bool.and_true]
    | false => rw [Bool.not_false, cond_t, Bool.and_false]
theorem aB {e f : Option Bool} {b c : Bool} (h : e = some b) (hf : f = some c) : (e.bind fun y => bif y then f else some false) = some (b && c) := by
  rw [h, bind_s, hf]; cases b <;> rfl
theorem aC {f : Option Bool} {c d : Bool} (hf : f = some d) : (bif c then f else some false) = some (c && d) := by
  rw [hf]; cases c <;> rfl
theorem aL {α : Type} {e : Option α} {b : α} (h : e = some b) : (e.bind fun y => some y) = some b := by rw [h, bind_s]
theorem all2_loop {α : Type} (xs ys : List α) (d : α) (f : α → α → Option Bool) (g : α → α → Bool) (z : Option Bool) (zb : Bool) (hz : z = some zb) (hq : xs.length = ys.length) (hl : xs.length ≤ 1048576) (hf : ∀ i (h : i < xs.length) (h' : i < ys.length), f xs[i] ys[i] = some (g xs[i] ys[i])) (l : Nat → Int → Option Bool) (u : ∀ n a, l (n + 1) a = (bif decide (a < (xs.length : Int)) then bif decide (0 ≤ a) then bif decide (a < (xs.length : Int)) then bif decide (0 ≤ a) then bif decide (a < (ys.length : Int)) then (f (xs.getD a.toNat d) (ys.getD a.toNat d)).bind fun y1 => bif !y1 then some false else l n (IntKind.i64.wrap (a + (1 : Int))) else none else none else none else none else z)) : l KK (0 : Int) = some (all2 g xs ys && zb) := by
  have hh : ∀ i n, i ≤ xs.length → xs.length - i < n → l n (i : Int) = some (all2 g (xs.drop i) (ys.drop i) && zb) := by
    refine idx_ind ?_ ?_
    · intro n
      rw [u]
      simp only [lt_f (Nat.le_refl _), cond_f, all2_last, hz, Bool.true_and]
    · intro i n hi ih
      have hi' : i < ys.length := by omega
      rw [u]
      simp only [lt_t hi, lt_t hi', ge_t, cond_t, Int.toNat_natCast, at_n hi, at_n hi', hf i hi hi', bind_s, w64_succ (i := i) (by omega), ih, all2_step g hi hi']
      cases g xs[i] ys[i] <;> rfl
  have := hh 0 KK (Nat.zero_le _) (KK_gt (by omega))
  rw [List.drop_zero, List.drop_zero] at this
  exact this
theorem zoneOnly_v (x y : List TSigned) (hx : sizeSignedS x ≤ 1048576) (hy : sizeSignedS y ≤ 1048576) : spec_EqualZones (x, []) (y, []) = some (eqS eqSigneds x y) := by
  have h := sEqualZones_v (x, []) (y, []) (by show sizeSignedS x + 0 ≤ _; omega) (by show sizeSignedS y + 0 ≤ _; omega)
  rw [h]
  show some (eqS eqSigneds x y && true) = _
  rw [Bool.and_true]
def eqKnown (a b : TKnown) : Bool := eqS (eqS eqSigneds) a.1 b.1 && eqS eqForks a.2 b.2
theorem chain_at {xs : List (List TSigned)} {i : Nat} (h : i < xs.length) {n : Nat} (hx : sizeSignedSS xs ≤ n) : sizeSignedS xs[i] ≤ n := by
  have := size_at sizeSignedS h
  unfold sizeSignedSS sizeS at hx
  omega
theorem fork_at {xs : List TFork} {i : Nat} (h : i < xs.length) {n : Nat} (hx : sizeForkS xs ≤ n) : sizeFork xs[i] ≤ n := by
  have := size_at sizeFork h
  unfold sizeForkS sizeS at hx
  omega
theorem sEqualKnown_v (a b : TKnown) (ha : sizeKnown a ≤ 1048576) (hb : sizeKnown b ≤ 1048576) : spec_EqualKnown a b = some (eqKnown a b) := by
  unfold sizeKnown at ha hb
  show (bif (a.1.length : Int) != (b.1.length : Int) then some false else bif (a.2.length : Int) != (b.2.length : Int) then some false else spec_EqualKnown.l8 a b KK (0 : Int)) = _
  unfold eqKnown eqS
  by_cases h1 : a.1.length = b.1.length
  · rw [len_eq h1, cond_f, decide_eq_true h1, Bool.true_and]
    by_cases h2 : a.2.length = b.2.length
    · rw [len_eq h2, cond_f, decide_eq_true h2, Bool.true_and]
      have e2 := all2_loop a.2 b.2 dFork spec_EqualForks eqForks (some true) true rfl h2 (by unfold sizeForkS sizeS at ha; omega) (fun i h h' => sEqualForks_v _ _ (fork_at h (by omega)) (fork_at h' (by omega))) (spec_EqualKnown.l22 a b) (fun n c => spec_EqualKnown.u22 a b n c)
      have e1 := all2_loop a.1 b.1 ([] : List TSigned) (fun x y => spec_EqualZones (x, []) (y, [])) (eqS eqSigneds) (spec_EqualKnown.l22 a b KK (0 : Int)) _ e2 h1 (by unfold sizeSignedSS sizeS at ha; omega) (fun i h h' => zoneOnly_v _ _ (chain_at h (by omega)) (chain_at h' (by omega))) (spec_EqualKnown.l8 a b) (fun n c => spec_EqualKnown.u8 a b n c)
      rw [e1, Bool.and_true]; rfl
    · rw [len_ne h2, cond_t, decide_eq_false h2, Bool.false_and, Bool.and_false]
  · rw [len_ne h1, cond_t, decide_eq_false h1, Bool.false_and, Bool.false_and]
theorem iEqualKnown_v (a b : TKnown) (ha : sizeKnown a ≤ 1048576) (hb : sizeKnown b ≤ 1048576) : impl_EqualKnown a b = some (eqKnown a b) := by
  unfold sizeKnown at ha hb
  have e1 : slices_EqualFunc__impl_Signed a.1 b.1 ((), ()) = some (eqS (eqS eqSigneds) a.1 b.1) :=
    eq2_v a.1 b.1 ([] : List TSigned) impl_sameChain (eqS eqSigneds) (by unfold sizeSignedSS sizeS at ha; omega) (fun i h h' => sameChain_v _ _ (chain_at h (by omega)) (chain_at h' (by omega))) (fun n c => slices_EqualFunc__impl_Signed.l8 a.1 b.1 n (a.1.length : Int) c) (fun n c => slices_EqualFunc__impl_Signed.u8 a.1 b.1 n (a.1.length : Int) c)
  have e2 : slices_EqualFunc_impl_Fork a.2 b.2 ((), ()) = some (eqS eqForks a.2 b.2) :=
    eq2_v a.2 b.2 dFork impl_EqualForks eqForks (by unfold sizeForkS sizeS at ha; omega) (fun i h h' => iEqualForks_v _ _ (fork_at h (by omega)) (fork_at h' (by omega))) (fun n c => slices_EqualFunc_impl_Fork.l8 a.2 b.2 n (a.2.length : Int) c) (fun n c => slices_EqualFunc_impl_Fork.u8 a.2 b.2 n (a.2.length : Int) c)
  unfold impl_EqualKnown eqKnown
  exact aB e1 (aL e2)
def eqLooks (a b : TLook) : Bool := eqKnown (Look_Known a) (Look_Known b) && (Look_Found a == Look_Found b && (eqEntries (Look_Entry a) (Look_Entry b) && (Look_Done a == Look_Done b && decide (Look_Codes a = Look_Codes b))))
theorem sEqualLooks_v (a b : TLook) (ha : sizeLook a ≤ 1048576) (hb : sizeLook b ≤ 1048576) : spec_EqualLooks a b = some (eqLooks a b) := by
  unfold sizeLook at ha hb
  unfold spec_EqualLooks eqLooks
  exact aB (sEqualKnown_v _ _ (by omega) (by omega)) (aC (aB (sEqualEntries_v _ _ (by omega)) (aC (aL (EqualInts_v _ _ (by omega))))))
theorem iEqualLooks_v (a b : TLook) (ha : sizeLook a ≤ 1048576) (hb : sizeLook b ≤ 1048576) : impl_EqualLooks a b = some (eqLooks a b) := by
  unfold sizeLook at ha hb
  unfold impl_EqualLooks eqLooks
  exact aB (iEqualKnown_v _ _ (by omega) (by omega)) (aC (aB (iEqualEntries_v _ _ (by omega)) (aC (aL (slicesEq_int_v _ _ (by omega))))))
theorem pure_FnExactEqualLooks (x0 : TLook) (x1 : TLook) (h0 : LookMax x0) (h1 : LookMax x1) : laws_FnExactEqualLooks x0 x1 = some true := by
  unfold laws_FnExactEqualLooks
  refine sz_law (by omega) (szLook_v _ _ h0 (by omega) (by omega)) (fun g0 => ?_)
  refine sz_law (by omega) (szLook_v _ _ h1 (by omega) (by omega)) (fun g1 => ?_)
  have b0 : sizeLook x0 ≤ 1048576 := by omega
  have b1 : sizeLook x1 ≤ 1048576 := by omega
  obtain ⟨r, hs, hi, hr⟩ : ∃ r, spec_EqualLooks x0 x1 = some r ∧ impl_EqualLooks x0 x1 = some r ∧ True := ⟨eqLooks x0 x1, sEqualLooks_v x0 x1 b0 b1, iEqualLooks_v x0 x1 b0 b1, trivial⟩
  refine bnd (toLook_v x0 b0) ?_
  refine bnd (toLook_v x1 b1) ?_
  refine bnd hs ?_
  refine bnd (toLook_v x0 b0) ?_
  refine bnd (toLook_v x1 b1) ?_
  refine bnd hi ?_
  refine cF (nbeq _) ?_
  refine bnd (toLook_v x0 b0) ?_
  refine bnd (eqLook_v x0 (by omega)) ?_
  refine cF rfl ?_
  refine bnd (toLook_v x1 b1) ?_
  refine bnd (eqLook_v x1 (by omega)) ?_
  refine cF rfl ?_
  rfl

end Go.Proofs.Ytbdifkeoiodalaa
