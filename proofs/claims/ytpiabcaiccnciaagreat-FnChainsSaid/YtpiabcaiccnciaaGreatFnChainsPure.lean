/- The plain law of FnChains: what the printed functions compute is true, for all data in range. -/
import Derived.Test.YtpiabcaiccnciaaGreatFnChainsPure0
namespace Go.Proofs.YtpiabcaiccnciaaGreat
open V
set_option linter.unusedVariables false
set_option linter.unusedSimpArgs false
set_option maxHeartbeats 1000000
theorem bnd {α β : Type} {e : Option α} {a : α} {f : α → Option β} {r : Option β} (h : e = some a) (hf : f a = r) : e.bind f = r := by rw [h, bind_s]; exact hf
theorem cF {α : Type} {c : Bool} {a b r : α} (h : c = false) (hb : b = r) : (bif c then a else b) = r := by rw [h, cond_f]; exact hb
theorem cT {α : Type} {c : Bool} {a b r : α} (h : c = true) (ha : a = r) : (bif c then a else b) = r := by rw [h, cond_t]; exact ha
theorem nbeq {α : Type} [BEq α] [ReflBEq α] (a : α) : (!(a == a)) = false := by rw [beq_self_eq_true]; rfl
def fnd {α : Type} (p : α → Bool) : List α → Int → Int
  | [], _ => -1
  | x :: xs, k => bif p x then k else fnd p xs (k + 1)
theorem fnd_cons {α : Type} (p : α → Bool) (x : α) (xs : List α) (k : Int) : fnd p (x :: xs) k = bif p x then k else fnd p xs (k + 1) := rfl
theorem fnd_step {α : Type} (p : α → Bool) {xs : List α} {i : Nat} (h : i < xs.length) : fnd p (xs.drop i) (i : Int) = bif p xs[i] then (i : Int) else fnd p (xs.drop (i + 1)) ((i + 1 : Nat) : Int) := by
  rw [List.drop_eq_getElem_cons h, fnd_cons]; rfl
theorem fnd_last {α : Type} (p : α → Bool) (xs : List α) (k : Int) : fnd p (xs.drop xs.length) k = -1 := by
  rw [List.drop_length]; rfl
theorem fnd_ge {α : Type} (p : α → Bool) (xs : List α) : ∀ k : Int, 0 ≤ k → decide (fnd p xs k ≥ 0) = xs.any p := by
  induction xs with
  | nil => intro k hk; rfl
  | cons x t ih =>
    intro k hk
    rw [fnd_cons, List.any_cons]
    cases p x with
    | true => rw [cond_t, Bool.true_or]; exact decide_eq_true hk
    | false => rw [cond_f, Bool.false_or]; exact ih _ (by omega)
def all2 {α β : Type} (g : α → β → Bool) : List α → List β → Bool
  | x :: xs, y :: ys => g x y && all2 g xs ys
  | _, _ => true
theorem all2_step {α β : Type} (g : α → β → Bool) {xs : List α} {ys : List β} {i : Nat} (h : i < xs.length) (h' : i < ys.length) : all2 g (xs.drop i) (ys.drop i) = (g xs[i] ys[i] && all2 g (xs.drop (i + 1)) (ys.drop (i + 1))) := by
  rw [List.drop_eq_getElem_cons h, List.drop_eq_getElem_cons h']; rfl
theorem l1In_v (a b c : Int) : spec_l1In a b c = some (decide (b ≤ a) && decide (a ≤ c)) := by
  show (bif decide (b ≤ a) then some (decide (a ≤ c)) else some false) = _
  cases decide (b ≤ a) <;> rfl
theorem InRange_v (a b c : Int) : impl_InRange a b c = some (decide (b ≤ a) && decide (a ≤ c)) := by
  show (bif decide (b ≤ a) then some (decide (a ≤ c)) else some false) = _
  cases decide (b ≤ a) <;> rfl
def sizeS {α : Type} (size : α → Nat) (xs : List α) : Nat := xs.length + (xs.map size).sum
theorem size_at {α : Type} (size : α → Nat) {xs : List α} {i : Nat} (h : i < xs.length) : size xs[i] ≤ (xs.map size).sum := by
  induction xs generalizing i with
  | nil => simp at h
  | cons x t ih =>
    rw [List.map_cons, List.sum_cons]
    cases i with
    | zero => show size x ≤ _; omega
    | succ i =>
      have hi : i < t.length := by simpa using h
      have := ih hi
      show size t[i] ≤ _
      omega
theorem wd {n : Int} (h : 0 ≤ n ∧ n ≤ 4611686018427387904) : IntKind.i64.wrap n = n := w64 (by omega) (by omega)
def sizeStr (x : ByteArray) : Nat := x.size
def sizeStringS (xs : List ByteArray) : Nat := sizeS sizeStr xs
def sizeKeys (x : TKeys) : Nat := x.1.length
def sizeHead (x : THead) : Nat := sizeKeys (Head_Keys x) + (sizeKeys (Head_Heirs x) + (sizeKeys (Head_Judge x)))
def sizeSigned (x : TSigned) : Nat := sizeHead (Signed_Head x) + ((Signed_Sigs x).length)
def sizeSignedS (xs : List TSigned) : Nat := sizeS sizeSigned xs
def sizeEntry (x : TEntry) : Nat := sizeStr x.1 + (sizeStringS x.2.2.2)
def sizeEntryS (xs : List TEntry) : Nat := sizeS sizeEntry xs
theorem Grow_v (n : Int) (h0 : 0 ≤ n) (h1 : n < 68719476736) : slices_Grow_int [] n = some [] := by
  have e0 : IntKind.i64.wrap ((0 : Int) - ((0 : Nat) : Int)) = 0 := w64 (by omega) (by omega)
  have e1 : IntKind.i64.wrap (n - 0) = n := by rw [w64 (by omega) (by omega)]; omega
  unfold slices_Grow_int
  simp only [slices_Grow_int.b, slices_Grow_int.l7, slices_Grow_int.g7, e0, e1]
  rw [decide_eq_false (by omega), cond_f]
  by_cases h : n > 0
  · rw [decide_eq_true h, cond_t, decide_eq_true (by omega), cond_t, decide_eq_true h1, cond_t, decide_eq_true (by omega), cond_t, decide_eq_true (by omega), cond_t, decide_eq_true (by omega), cond_t]
    simp
  · rw [decide_eq_false h, cond_f]
theorem Concat_l22 (x0 : List (List Int)) (hl : x0.length < 1152921504606846976) : ∀ i n, i ≤ x0.length → x0.length - i < n → ∀ acc : List Int, acc.length + (x0.drop i).flatten.length < 68719476736 → slices_Concat_int.l22 x0 n (x0.length : Int) (i : Int) acc = some (acc ++ (x0.drop i).flatten) := by
  refine idx_ind ?_ ?_
  · intro n acc ha
    rw [slices_Concat_int.u22]
    simp only [slices_Concat_int.g22, lt_f (Nat.le_refl _), cond_f, List.drop_length, List.flatten_nil, List.append_nil]
  · intro i n hi ih acc ha
    rw [List.drop_eq_getElem_cons hi, List.flatten_cons] at ha ⊢
    rw [List.length_append] at ha
    rw [slices_Concat_int.u22]
    simp only [slices_Concat_int.g22, lt_t hi, ge_t, cond_t, w64_succ (i := i) (by omega), Int.toNat_natCast, at_n hi]
    rw [decide_eq_true (by omega), cond_t, ih _ (by rw [List.length_append]; omega), List.append_assoc]
theorem Concat_l6 (x0 : List (List Int)) (hl : x0.length < 1152921504606846976) (hf : x0.flatten.length < 68719476736) : ∀ i n, i ≤ x0.length → x0.length - i < n → ∀ s : Int, 0 ≤ s → s + (x0.drop i).flatten.length < 68719476736 → slices_Concat_int.l6 x0 n s (x0.length : Int) (i : Int) = some x0.flatten := by
  refine idx_ind ?_ ?_
  · intro n s h0 ha
    rw [slices_Concat_int.u6]
    rw [List.drop_length, List.flatten_nil] at ha
    simp only [slices_Concat_int.g6, lt_f (Nat.le_refl _), cond_f]
    rw [Grow_v s h0 (by simpa using ha), bind_s]
    have := Concat_l22 x0 hl 0 KK (Nat.zero_le _) (KK_gt (by omega)) [] (by simpa using hf)
    simpa using this
  · intro i n hi ih s h0 ha
    rw [List.drop_eq_getElem_cons hi, List.flatten_cons, List.length_append] at ha
    rw [slices_Concat_int.u6]
    simp only [slices_Concat_int.g6, lt_t hi, ge_t, cond_t, w64_succ (i := i) (by omega), Int.toNat_natCast, at_n hi]
    rw [w64 (n := s + (x0[i].length : Int)) (by omega) (by omega), decide_eq_false (by omega), cond_f, ih _ (by omega) (by omega)]
theorem Concat_v (x0 : List (List Int)) (hl : x0.length < 1152921504606846976) (hf : x0.flatten.length < 68719476736) : slices_Concat_int x0 = some x0.flatten := by
  have := Concat_l6 x0 hl hf 0 KK (Nat.zero_le _) (KK_gt (by omega)) 0 (Int.le_refl 0) (by rw [List.drop_zero, Int.zero_add]; omega)
  exact this
theorem Mod_eq (a b : Int) : spec_Mod a b = impl_Mod a b := by
  unfold spec_Mod impl_Mod
  rw [l1In_v, InRange_v]
def mod2 (a : Int) : Int := Int.tmod (IntKind.i64.wrap (Int.tmod a 2147483647 + 2147483647)) 2147483647
theorem Mod_v (a : Int) : impl_Mod a 2147483647 = some (mod2 a) := by
  unfold impl_Mod mod2
  rw [InRange_v, bind_s]
  rw [decide_eq_true (by omega), decide_eq_true (by omega), Bool.and_self, Bool.not_true, cond_f]
  rw [show ((2147483647 : Int) == 0) = false from by decide, cond_f, cond_f]
def hstep (h a : Int) : Int := Int.tmod (IntKind.i64.wrap ((IntKind.i64.wrap ((IntKind.i64.wrap (h * (1000003 : Int))) + mod2 a)) + (13 : Int))) (2147483647 : Int)
theorem sHash_l (x0 : List Int) (hx : x0.length ≤ 1152921504606846976) : ∀ i n, i ≤ x0.length → x0.length - i < n → ∀ h : Int, spec_Hash.l6 x0 n h (i : Int) = some ((x0.drop i).foldl hstep h) := by
  refine idx_ind ?_ ?_
  · intro n h
    rw [spec_Hash.u6]
    simp only [spec_Hash.g6, lt_f (Nat.le_refl _), cond_f, List.drop_length, List.foldl_nil]
  · intro i n hi ih h
    rw [List.drop_eq_getElem_cons hi, List.foldl_cons]
    rw [spec_Hash.u6]
    simp only [spec_Hash.g6, lt_t hi, ge_t, cond_t, bind_s, w64_succ (i := i) (by omega), Int.toNat_natCast, at_n hi, Mod_eq, Mod_v]
    rw [show ((2147483647 : Int) == 0) = false from by decide, cond_f, ih]
    rfl
theorem iHash_l (x0 : List Int) (hx : x0.length ≤ 1152921504606846976) : ∀ i n, i ≤ x0.length → x0.length - i < n → ∀ h : Int, impl_Hash.l6 x0 n h (x0.length : Int) (i : Int) = some ((x0.drop i).foldl hstep h) := by
  refine idx_ind ?_ ?_
  · intro n h
    rw [impl_Hash.u6]
    simp only [impl_Hash.g6, lt_f (Nat.le_refl _), cond_f, List.drop_length, List.foldl_nil]
  · intro i n hi ih h
    rw [List.drop_eq_getElem_cons hi, List.foldl_cons]
    rw [impl_Hash.u6]
    simp only [impl_Hash.g6, lt_t hi, ge_t, cond_t, bind_s, w64_succ (i := i) (by omega), Int.toNat_natCast, at_n hi, Mod_v]
    rw [show ((2147483647 : Int) == 0) = false from by decide, cond_f, ih]
    rfl
theorem sHash_v (x0 : List Int) (hx : x0.length ≤ 1152921504606846976) : spec_Hash x0 = some (x0.foldl hstep 11) := by
  have := sHash_l x0 hx 0 KK (Nat.zero_le _) (KK_gt (by omega)) 11
  rw [List.drop_zero] at this
  exact this
theorem iHash_v (x0 : List Int) (hx : x0.length ≤ 1152921504606846976) : impl_Hash x0 = some (x0.foldl hstep 11) := by
  have := iHash_l x0 hx 0 KK (Nat.zero_le _) (KK_gt (by omega)) 11
  rw [List.drop_zero] at this
  exact this
def keysInts (k : TKeys) : List Int := [k.2, (k.1.length : Int)] ++ k.1
theorem keysInts_len (k : TKeys) : (keysInts k).length = k.1.length + 2 := by unfold keysInts; simp
theorem sKeysInts_v (k : TKeys) (h : k.1.length ≤ 1050000) : spec_KeysInts k = some (keysInts k) := by
  unfold spec_KeysInts keysInts
  rw [decide_eq_true (by simp; omega), cond_t]
theorem iKeysInts_v (k : TKeys) (h : k.1.length ≤ 1050000) : impl_KeysInts k = some (keysInts k) := by
  unfold impl_KeysInts keysInts
  rw [decide_eq_true (by simp; omega), cond_t]
def hd8 (x0 : THead) : List Int := [(Head_Zone x0), (Head_Epoch x0), (Head_Kind x0), (Head_Time x0), (Head_Until x0), (Head_Count x0), (Head_Root x0), (Head_Prev x0)]
def hde (x0 : THead) : List Int := [(Head_Wait x0)]
def hdb (x0 : THead) : List Int := [bif (Head_Frozen x0) then (1 : Int) else 0]
def headInts (x0 : THead) : List Int := ((((hd8 x0 ++ keysInts (Head_Keys x0)) ++ keysInts (Head_Heirs x0)) ++ hde x0) ++ keysInts (Head_Judge x0)) ++ hdb x0
theorem headInts_len (x0 : THead) : (headInts x0).length = sizeHead x0 + 16 := by
  unfold headInts sizeHead sizeKeys
  simp only [List.length_append, keysInts_len]
  simp [hd8, hde, hdb]; omega
theorem app_le {α : Type} (a b : List α) : (a ++ b).length = a.length + b.length := List.length_append
theorem sHeadInts_v (x0 : THead) (h : sizeHead x0 ≤ 1050000) : spec_HeadInts x0 = some (headInts x0) := by
  have hs := h
  unfold sizeHead sizeKeys at hs
  have e1 := sKeysInts_v (Head_Keys x0) (by omega)
  have e2 := sKeysInts_v (Head_Heirs x0) (by omega)
  have e3 := sKeysInts_v (Head_Judge x0) (by omega)
  have l1 := keysInts_len (Head_Keys x0)
  have l2 := keysInts_len (Head_Heirs x0)
  have l3 := keysInts_len (Head_Judge x0)
  have l8 : (hd8 x0).length = 8 := rfl
  have le : (hde x0).length = 1 := rfl
  show ((spec_KeysInts (Head_Keys x0)).bind fun y1 => bif decide ((hd8 x0).length + y1.length < 68719476736) then (spec_KeysInts (Head_Heirs x0)).bind fun y2 => bif decide ((hd8 x0 ++ y1).length + y2.length < 68719476736) then bif decide (((hd8 x0 ++ y1) ++ y2).length + (hde x0).length < 68719476736) then (spec_KeysInts (Head_Judge x0)).bind fun y3 => bif decide ((((hd8 x0 ++ y1) ++ y2) ++ hde x0).length + y3.length < 68719476736) then bif (Head_Frozen x0) then bif decide (((((hd8 x0 ++ y1) ++ y2) ++ hde x0) ++ y3).length + [(1 : Int)].length < 68719476736) then some (((((hd8 x0 ++ y1) ++ y2) ++ hde x0) ++ y3) ++ [(1 : Int)]) else none else bif decide (((((hd8 x0 ++ y1) ++ y2) ++ hde x0) ++ y3).length + [(0 : Int)].length < 68719476736) then some (((((hd8 x0 ++ y1) ++ y2) ++ hde x0) ++ y3) ++ [(0 : Int)]) else none else none else none else none else none) = _
  simp only [e1, e2, e3, bind_s, app_le, l1, l2, l3, l8, le, List.length_singleton]
  rw [decide_eq_true (by omega), cond_t, decide_eq_true (by omega), cond_t, decide_eq_true (by omega), cond_t, decide_eq_true (by omega), cond_t, decide_eq_true (by omega), cond_t]
  unfold headInts hdb
  cases (Head_Frozen x0) <;> rfl
theorem iHeadInts_v (x0 : THead) (h : sizeHead x0 ≤ 1050000) : impl_HeadInts x0 = some (headInts x0) := by
  have hs := h
  unfold sizeHead sizeKeys at hs
  have e1 := iKeysInts_v (Head_Keys x0) (by omega)
  have e2 := iKeysInts_v (Head_Heirs x0) (by omega)
  have e3 := iKeysInts_v (Head_Judge x0) (by omega)
  have eb : impl_bit (Head_Frozen x0) = some (bif (Head_Frozen x0) then (1 : Int) else 0) := by
    unfold impl_bit
    cases (Head_Frozen x0) <;> rfl
  have ef : [hd8 x0, keysInts (Head_Keys x0), keysInts (Head_Heirs x0), hde x0, keysInts (Head_Judge x0), hdb x0].flatten = headInts x0 := by
    simp [headInts]
  have ec := Concat_v [hd8 x0, keysInts (Head_Keys x0), keysInts (Head_Heirs x0), hde x0, keysInts (Head_Judge x0), hdb x0] (by simp) (by rw [ef, headInts_len]; omega)
  rw [ef] at ec
  show ((impl_KeysInts (Head_Keys x0)).bind fun y1 => (impl_KeysInts (Head_Heirs x0)).bind fun y2 => (impl_KeysInts (Head_Judge x0)).bind fun y3 => (impl_bit (Head_Frozen x0)).bind fun y4 => (slices_Concat_int [hd8 x0, y1, y2, hde x0, y3, [y4]]).bind fun y5 => some y5) = _
  simp only [e1, e2, e3, eb, bind_s]
  rw [show [bif (Head_Frozen x0) then (1 : Int) else 0] = hdb x0 from rfl, ec, bind_s]
def headDigest (x0 : THead) : Int := ([(233 : Int)] ++ headInts x0).foldl hstep 11
theorem sHeadDigest_v (x0 : THead) (h : sizeHead x0 ≤ 1050000) : spec_HeadDigest x0 = some (headDigest x0) := by
  have hl := headInts_len x0
  unfold spec_HeadDigest headDigest
  rw [sHeadInts_v x0 h, bind_s, decide_eq_true (by simp [hl]; omega), cond_t, sHash_v _ (by simp [hl]; omega), bind_s]
theorem iHeadDigest_v (x0 : THead) (h : sizeHead x0 ≤ 1050000) : impl_HeadDigest x0 = some (headDigest x0) := by
  have hl := headInts_len x0
  unfold impl_HeadDigest headDigest
  rw [iHeadInts_v x0 h, bind_s, decide_eq_true (by simp [hl]; omega), cond_t, iHash_v _ (by simp [hl]; omega), bind_s]
def keyedHash (k : Int) (xs : List Int) : Int := (([k] ++ xs) ++ [k]).foldl hstep 11
theorem sKeyedHash_v (k : Int) (xs : List Int) (h : xs.length ≤ 16777216) : spec_KeyedHash k xs = some (keyedHash k xs) := by
  unfold spec_KeyedHash keyedHash
  rw [decide_eq_true (by simp; omega), cond_t, decide_eq_true (by simp; omega), cond_t, sHash_v _ (by simp; omega), bind_s]
theorem iKeyedHash_v (k : Int) (xs : List Int) (h : xs.length ≤ 16777216) : impl_KeyedHash k xs = some (keyedHash k xs) := by
  have ef : [[k], xs, [k]].flatten = ([k] ++ xs) ++ [k] := by simp
  have ec := Concat_v [[k], xs, [k]] (by simp) (by rw [ef]; simp; omega)
  rw [ef] at ec
  unfold impl_KeyedHash keyedHash
  rw [ec, bind_s, iHash_v _ (by simp; omega), bind_s]
def tagOf (k : Int) (xs : List Int) : Int := keyedHash k ([(223 : Int)] ++ xs)
theorem sTagOf_v (k : Int) (xs : List Int) (h : xs.length ≤ 8388608) : spec_TagOf k xs = some (tagOf k xs) := by
  unfold spec_TagOf tagOf
  rw [decide_eq_true (by simp; omega), cond_t, sKeyedHash_v _ _ (by simp; omega), bind_s]
theorem iTagOf_v (k : Int) (xs : List Int) (h : xs.length ≤ 8388608) : impl_TagOf k xs = some (tagOf k xs) := by
  unfold impl_TagOf tagOf
  rw [decide_eq_true (by simp; omega), cond_t, iKeyedHash_v _ _ (by simp; omega), bind_s]
theorem isKey_v (k : Int) : impl_isKey k = some (decide (1 ≤ k) && decide (k ≤ 99)) := by
  unfold impl_isKey
  rw [InRange_v, bind_s]
def isSigBy (s : TSig) (xs : List Int) : Bool := (decide (1 ≤ s.1) && decide (s.1 ≤ 99)) && (s.2 == tagOf s.1 xs)
theorem sIsSigBy_v (s : TSig) (xs : List Int) (h : xs.length ≤ 8388608) : spec_IsSigBy s xs = some (isSigBy s xs) := by
  unfold spec_IsSigBy isSigBy
  rw [l1In_v, bind_s, sTagOf_v _ _ h, bind_s]
  cases (decide (1 ≤ s.1) && decide (s.1 ≤ 99)) <;> rfl
theorem iIsSigBy_v (s : TSig) (xs : List Int) (h : xs.length ≤ 8388608) : impl_IsSigBy s xs = some (isSigBy s xs) := by
  unfold impl_IsSigBy isSigBy
  rw [isKey_v, bind_s, iTagOf_v _ _ h, bind_s]
  cases (decide (1 ≤ s.1) && decide (s.1 ≤ 99)) <;> rfl
def sgBy (k : Int) (xs : List Int) (s : TSig) : Bool := s.1 == k && isSigBy s xs
theorem IndexFunc_Sig_l (x0 : List TSig) (x1 : Unit × (Int × List Int)) (hx : x0.length ≤ 1050000) (hm : x1.2.2.length ≤ 8388608) : ∀ i n, i ≤ x0.length → x0.length - i < n → slices_IndexFunc_impl_Sig__CountSigs_1.l4 x0 x1 n (x0.length : Int) (i : Int) = some (fnd (sgBy x1.2.1 x1.2.2) (x0.drop i) (i : Int)) := by
  refine idx_ind ?_ ?_
  · intro n
    rw [slices_IndexFunc_impl_Sig__CountSigs_1.u4]
    simp only [slices_IndexFunc_impl_Sig__CountSigs_1.g4, lt_f (Nat.le_refl _), cond_f, fnd_last]
  · intro i n hi ih
    rw [slices_IndexFunc_impl_Sig__CountSigs_1.u4]
    simp only [slices_IndexFunc_impl_Sig__CountSigs_1.g4, impl_CountSigs_1, iIsSigBy_v _ _ hm, lt_t hi, ge_t, cond_t, bind_s, w64_succ (i := i) (by omega), Int.toNat_natCast, at_n hi, fnd_step _ hi, ih]
    unfold sgBy
    cases (x0[i].1 == x1.2.1) <;> cases (isSigBy x0[i] x1.2.2) <;> rfl
theorem ContainsFunc_Sig_v (x0 : List TSig) (k : Int) (xs : List Int) (hx : x0.length ≤ 1050000) (hm : xs.length ≤ 8388608) : slices_ContainsFunc_impl_Sig__CountSigs_1 x0 ((), (k, xs)) = some (x0.any (sgBy k xs)) := by
  have h := IndexFunc_Sig_l x0 ((), (k, xs)) hx hm 0 KK (Nat.zero_le _) (KK_gt (by omega))
  have e : slices_IndexFunc_impl_Sig__CountSigs_1 x0 ((), (k, xs)) = some (fnd (sgBy k xs) x0 0) := by
    unfold slices_IndexFunc_impl_Sig__CountSigs_1
    simpa [slices_IndexFunc_impl_Sig__CountSigs_1.b] using h
  unfold slices_ContainsFunc_impl_Sig__CountSigs_1
  rw [e, bind_s, fnd_ge _ _ _ (Int.le_refl 0)]
def cnt (p : Int → Bool) : List Int → Int → Int
  | [], c => c
  | k :: ks, c => cnt p ks (bif p k then c + 1 else c)
theorem cnt_step (p : Int → Bool) {ks : List Int} {i : Nat} (h : i < ks.length) (c : Int) : cnt p (ks.drop i) c = cnt p (ks.drop (i + 1)) (bif p ks[i] then c + 1 else c) := by
  rw [List.drop_eq_getElem_cons h]; rfl
theorem cnt_last (p : Int → Bool) (ks : List Int) (c : Int) : cnt p (ks.drop ks.length) c = c := by
  rw [List.drop_length]; rfl
def hasSig (sg : List TSig) (xs : List Int) (k : Int) : Bool := sg.any (sgBy k xs)
theorem iCountSigs_l (x0 : TKeys) (xs : List Int) (sg : List TSig) (hk : x0.1.length ≤ 1050000) (hs : sg.length ≤ 1050000) (hm : xs.length ≤ 8388608) : ∀ i n, i ≤ x0.1.length → x0.1.length - i < n → ∀ c : Int, 0 ≤ c → c ≤ i → impl_CountSigs.l6 x0 xs sg n c (x0.1.length : Int) (i : Int) = some (cnt (hasSig sg xs) (x0.1.drop i) c) := by
  refine idx_ind ?_ ?_
  · intro n c h0 h1
    rw [impl_CountSigs.u6]
    simp only [impl_CountSigs.g6, lt_f (Nat.le_refl _), cond_f, cnt_last]
  · intro i n hi ih c h0 h1
    rw [impl_CountSigs.u6]
    simp only [impl_CountSigs.g6, lt_t hi, ge_t, cond_t, bind_s, w64_succ (i := i) (by omega), Int.toNat_natCast, at_n hi, ContainsFunc_Sig_v _ _ _ hs hm, cnt_step _ hi, w64 (n := c + 1) (by omega) (by omega)]
    rw [show sg.any (sgBy x0.1[i] xs) = hasSig sg xs x0.1[i] from rfl]
    cases hasSig sg xs x0.1[i] with
    | true => rw [cond_t, cond_t]; exact ih _ (by omega) (by omega)
    | false => rw [cond_f, cond_f]; exact ih _ (by omega) (by omega)
theorem iCountSigs_v (x0 : TKeys) (xs : List Int) (sg : List TSig) (hk : x0.1.length ≤ 1050000) (hs : sg.length ≤ 1050000) (hm : xs.length ≤ 8388608) : impl_CountSigs x0 xs sg = some (cnt (hasSig sg xs) x0.1 0) := by
  have := iCountSigs_l x0 xs sg hk hs hm 0 KK (Nat.zero_le _) (KK_gt (by omega)) 0 (Int.le_refl 0) (by omega)
  rw [List.drop_zero] at this
  exact this
theorem sCountSigs_l12 (x0 : TKeys) (xs : List Int) (sg : List TSig) (hs : sg.length ≤ 1050000) (hm : xs.length ≤ 8388608) (c : Int) (j : Nat) (hj : j < x0.1.length) (r : Int → Int → Option Int) : ∀ i n, i ≤ sg.length → sg.length - i < n → spec_CountSigs.l12 x0 xs sg c (j : Int) r n (i : Int) = bif (sg.drop i).any (sgBy x0.1[j] xs) then r (IntKind.i64.wrap (c + 1)) (IntKind.i64.wrap ((j : Int) + 1)) else r c (IntKind.i64.wrap ((j : Int) + 1)) := by
  refine idx_ind ?_ ?_
  · intro n
    rw [spec_CountSigs.u12]
    simp only [spec_CountSigs.g12, lt_f (Nat.le_refl _), cond_f, List.drop_length, List.any_nil]
  · intro i n hi ih
    rw [spec_CountSigs.u12]
    simp only [spec_CountSigs.g12, spec_CountSigs.l19, spec_CountSigs.g19, lt_t hi, lt_t hj, ge_t, cond_t, cond_f, bind_s, w64_succ (i := i) (by omega), Int.toNat_natCast, at_n hi, at_n hj, sIsSigBy_v _ _ hm, ih]
    rw [List.drop_eq_getElem_cons hi, List.any_cons]
    rw [show sgBy x0.1[j] xs sg[i] = (sg[i].1 == x0.1[j] && isSigBy sg[i] xs) from rfl]
    cases (sg[i].1 == x0.1[j]) <;> cases (isSigBy sg[i] xs) <;> rfl
theorem sCountSigs_l (x0 : TKeys) (xs : List Int) (sg : List TSig) (hk : x0.1.length ≤ 1050000) (hs : sg.length ≤ 1050000) (hm : xs.length ≤ 8388608) : ∀ i n, i ≤ x0.1.length → x0.1.length - i < n → ∀ c : Int, 0 ≤ c → c ≤ i → spec_CountSigs.l6 x0 xs sg n c (i : Int) = some (cnt (hasSig sg xs) (x0.1.drop i) c) := by
  refine idx_ind ?_ ?_
  · intro n c h0 h1
    rw [spec_CountSigs.u6]
    simp only [spec_CountSigs.g6, lt_f (Nat.le_refl _), cond_f, cnt_last]
  · intro i n hi ih c h0 h1
    have hl := sCountSigs_l12 x0 xs sg hs hm c i hi (spec_CountSigs.l6 x0 xs sg n) 0 KK (Nat.zero_le _) (KK_gt (by omega))
    rw [List.drop_zero] at hl
    rw [spec_CountSigs.u6]
    simp only [spec_CountSigs.g6, lt_t hi, cond_t]
    refine Eq.trans hl ?_
    rw [w64_succ (i := i) (by omega), w64 (n := c + 1) (by omega) (by omega), cnt_step _ hi]
    rw [show sg.any (sgBy x0.1[i] xs) = hasSig sg xs x0.1[i] from rfl]
    cases hasSig sg xs x0.1[i] with
    | true => rw [cond_t, cond_t]; exact ih _ (by omega) (by omega)
    | false => rw [cond_f, cond_f]; exact ih _ (by omega) (by omega)
theorem sCountSigs_v (x0 : TKeys) (xs : List Int) (sg : List TSig) (hk : x0.1.length ≤ 1050000) (hs : sg.length ≤ 1050000) (hm : xs.length ≤ 8388608) : spec_CountSigs x0 xs sg = some (cnt (hasSig sg xs) x0.1 0) := by
  have := sCountSigs_l x0 xs sg hk hs hm 0 KK (Nat.zero_le _) (KK_gt (by omega)) 0 (Int.le_refl 0) (by omega)
  rw [List.drop_zero] at this
  exact this
def gk (x0 : TKeys) (j : Nat) : Int := x0.1.getD j 0
theorem gk_def (x0 : TKeys) (j : Nat) : x0.1.getD j 0 = gk x0 j := rfl
def keysAsc (x0 : TKeys) (i : Nat) : Prop := ∀ j, j < x0.1.length → i ≤ j → 0 < j → gk x0 (j - 1) < gk x0 j
def keysIn (x0 : TKeys) (i : Nat) : Prop := ∀ j, j < x0.1.length → i ≤ j → (1 ≤ gk x0 j ∧ gk x0 j ≤ 99) ∧ (0 < j → gk x0 (j - 1) < gk x0 j)
def keysNeed (x0 : TKeys) : Prop := (1 ≤ (x0.1.length : Int) ∧ (x0.1.length : Int) ≤ 4) ∧ (1 ≤ x0.2 ∧ x0.2 ≤ (x0.1.length : Int))
theorem sIsKeys_l (x0 : TKeys) (hx : x0.1.length ≤ 1050000) : ∀ i n, i ≤ x0.1.length → x0.1.length - i < n → ∃ b, spec_IsKeys.l4 x0 n (i : Int) = some b ∧ (b = true ↔ keysIn x0 i ∧ keysNeed x0) := by
  refine idx_ind ?_ ?_
  · intro n
    rw [spec_IsKeys.u4]
    simp only [spec_IsKeys.g4, lt_f (Nat.le_refl _), cond_f, l1In_v, bind_s]
    refine ⟨(decide ((1 : Int) ≤ (x0.1.length : Int)) && decide ((x0.1.length : Int) ≤ 4)) && (decide (1 ≤ x0.2) && decide (x0.2 ≤ (x0.1.length : Int))), ?_, ?_⟩
    · cases (decide ((1 : Int) ≤ (x0.1.length : Int)) && decide ((x0.1.length : Int) ≤ 4)) <;> rfl
    · unfold keysIn keysNeed
      simp only [Bool.and_eq_true, decide_eq_true_eq]
      exact ⟨fun h => ⟨fun j h1 h2 => absurd h1 (by omega), h⟩, fun h => h.2⟩
  · intro i n hi ih
    obtain ⟨b, hb, hP⟩ := ih
    rw [spec_IsKeys.u4]
    simp only [spec_IsKeys.g4, lt_t hi, ge_t, cond_t, l1In_v, bind_s, w64_succ (i := i) (by omega), Int.toNat_natCast, hb, gk_def]
    by_cases hr : 1 ≤ gk x0 i ∧ gk x0 i ≤ 99
    · rw [decide_eq_true hr.1, decide_eq_true hr.2, Bool.and_self, Bool.not_true, cond_f]
      by_cases h0 : 0 < i
      · have ew : IntKind.i64.wrap ((i : Int) - 1) = ((i - 1 : Nat) : Int) := by rw [w64 (by omega) (by omega)]; omega
        simp only [decide_eq_true (show (i : Int) > 0 by omega), cond_t, ew, ge_t, lt_t (show i - 1 < x0.1.length by omega), Int.toNat_natCast, gk_def]
        by_cases ha : gk x0 (i - 1) < gk x0 i
        · rw [decide_eq_false (by omega), cond_f]
          refine ⟨b, rfl, hP.trans ⟨fun h => ⟨fun j h1 h2 => ?_, h.2⟩, fun h => ⟨fun j h1 h2 => h.1 j h1 (by omega), h.2⟩⟩⟩
          by_cases e : j = i
          · subst e; exact ⟨hr, fun _ => ha⟩
          · exact h.1 j h1 (by omega)
        · rw [decide_eq_true (by omega), cond_t]
          refine ⟨false, rfl, ⟨fun h => Bool.noConfusion h, fun h => absurd ((h.1 i hi (Nat.le_refl _)).2 h0) ha⟩⟩
      · rw [decide_eq_false (by omega), cond_f]
        refine ⟨b, rfl, hP.trans ⟨fun h => ⟨fun j h1 h2 => ?_, h.2⟩, fun h => ⟨fun j h1 h2 => h.1 j h1 (by omega), h.2⟩⟩⟩
        by_cases e : j = i
        · subst e; exact ⟨hr, fun h => absurd h h0⟩
        · exact h.1 j h1 (by omega)
    · have e : (decide (1 ≤ gk x0 i) && decide (gk x0 i ≤ 99)) = false := by
        cases hc : (decide (1 ≤ gk x0 i) && decide (gk x0 i ≤ 99))
        · rfl
        · simp only [Bool.and_eq_true, decide_eq_true_eq] at hc; exact absurd hc hr
      rw [e, Bool.not_false, cond_t]
      exact ⟨false, rfl, ⟨fun h => Bool.noConfusion h, fun h => absurd (h.1 i hi (Nat.le_refl _)).1 hr⟩⟩
theorem asc_l (x0 : TKeys) (hx : x0.1.length ≤ 1050000) : ∀ i n, i ≤ x0.1.length → x0.1.length - i < n → ∃ b, impl_ascending.l4 x0.1 n (x0.1.length : Int) (i : Int) = some b ∧ (b = true ↔ keysAsc x0 i) := by
  refine idx_ind ?_ ?_
  · intro n
    rw [impl_ascending.u4]
    simp only [impl_ascending.g4, lt_f (Nat.le_refl _), cond_f]
    exact ⟨true, rfl, ⟨fun _ j h1 h2 => absurd h1 (by omega), fun _ => rfl⟩⟩
  · intro i n hi ih
    obtain ⟨b, hb, hP⟩ := ih
    rw [impl_ascending.u4]
    simp only [impl_ascending.g4, lt_t hi, ge_t, cond_t, w64_succ (i := i) (by omega), Int.toNat_natCast, hb, gk_def]
    by_cases h0 : 0 < i
    · have ew : IntKind.i64.wrap ((i : Int) - 1) = ((i - 1 : Nat) : Int) := by rw [w64 (by omega) (by omega)]; omega
      simp only [decide_eq_true (show (i : Int) > 0 by omega), cond_t, ew, ge_t, lt_t (show i - 1 < x0.1.length by omega), Int.toNat_natCast, gk_def]
      by_cases ha : gk x0 (i - 1) < gk x0 i
      · rw [decide_eq_false (by omega), cond_f]
        refine ⟨b, rfl, hP.trans ⟨fun h j h1 h2 h3 => ?_, fun h j h1 h2 h3 => h j h1 (by omega) h3⟩⟩
        by_cases e : j = i
        · subst e; exact ha
        · exact h j h1 (by omega) h3
      · rw [decide_eq_true (by omega), cond_t]
        exact ⟨false, rfl, ⟨fun h => Bool.noConfusion h, fun h => absurd (h i hi (Nat.le_refl _) h0) ha⟩⟩
    · rw [decide_eq_false (by omega), cond_f]
      refine ⟨b, rfl, hP.trans ⟨fun h j h1 h2 h3 => h j h1 (by omega) h3, fun h j h1 h2 h3 => h j h1 (by omega) h3⟩⟩
theorem asc_le (x0 : TKeys) (h : keysAsc x0 0) (a : Nat) : ∀ b, a ≤ b → b < x0.1.length → gk x0 a ≤ gk x0 b := by
  intro b
  induction b with
  | zero => intro h1 _; have : a = 0 := by omega
            subst this; exact Int.le_refl _
  | succ b ih =>
    intro h1 h2
    by_cases e : a = b + 1
    · subst e; exact Int.le_refl _
    · have := ih (by omega) (by omega)
      have h3 := h (b + 1) h2 (by omega) (by omega)
      rw [show b + 1 - 1 = b from rfl] at h3
      omega
theorem keysIn_of (x0 : TKeys) (h : keysAsc x0 0) (h0 : 1 ≤ gk x0 0) (h1 : gk x0 (x0.1.length - 1) ≤ 99) : keysIn x0 0 := by
  intro j hj _
  have a := asc_le x0 h 0 j (by omega) hj
  have b := asc_le x0 h j (x0.1.length - 1) (by omega) (by omega)
  exact ⟨⟨by omega, by omega⟩, h j hj (by omega)⟩
theorem bool_eq {a b : Bool} (h : a = true ↔ b = true) : a = b := by cases a <;> cases b <;> simp_all
theorem IsKeys_v (x0 : TKeys) (hx : x0.1.length ≤ 1050000) : ∃ b, spec_IsKeys x0 = some b ∧ impl_IsKeys x0 = some b := by
  obtain ⟨s, hs, hS⟩ := sIsKeys_l x0 hx 0 KK (Nat.zero_le _) (KK_gt (by omega))
  obtain ⟨a, ha, hA⟩ := asc_l x0 hx 0 KK (Nat.zero_le _) (KK_gt (by omega))
  refine ⟨s, hs, ?_⟩
  have ea : impl_ascending x0.1 = some a := ha
  unfold impl_IsKeys
  rw [InRange_v, bind_s]
  by_cases hl : 1 ≤ (x0.1.length : Int) ∧ (x0.1.length : Int) ≤ 4
  · rw [decide_eq_true hl.1, decide_eq_true hl.2, Bool.and_self, cond_t, ea, bind_s]
    have ew : IntKind.i64.wrap ((x0.1.length : Int) - 1) = ((x0.1.length - 1 : Nat) : Int) := by rw [w64 (by omega) (by omega)]; omega
    cases a with
    | false =>
      rw [cond_f]
      have : s = false := by
        cases s with
        | false => rfl
        | true =>
          have h := (hS.mp rfl).1
          exact (hA.mpr (fun j h1 h2 h3 => (h j h1 h2).2 h3)).symm
      rw [this]
    | true =>
      have hasc := hA.mp rfl
      rw [cond_t, decide_eq_true (Int.le_refl 0), cond_t, decide_eq_true (by omega), cond_t, isKey_v, bind_s, ew, ge_t, cond_t, lt_t (by omega), cond_t, isKey_v, bind_s, InRange_v, bind_s, Int.toNat_natCast, show (0 : Int).toNat = 0 from rfl]
      rw [show x0.1.getD 0 0 = gk x0 0 from rfl, show x0.1.getD (x0.1.length - 1) 0 = gk x0 (x0.1.length - 1) from rfl]
      have e : s = ((decide (1 ≤ gk x0 0) && decide (gk x0 0 ≤ 99)) && ((decide (1 ≤ gk x0 (x0.1.length - 1)) && decide (gk x0 (x0.1.length - 1) ≤ 99)) && (decide (1 ≤ x0.2) && decide (x0.2 ≤ (x0.1.length : Int))))) := by
        refine bool_eq (hS.trans ?_)
        simp only [Bool.and_eq_true, decide_eq_true_eq]
        constructor
        · intro h
          exact ⟨(h.1 0 (by omega) (Nat.le_refl _)).1, (h.1 (x0.1.length - 1) (by omega) (by omega)).1, h.2.2⟩
        · intro h
          exact ⟨keysIn_of x0 hasc h.1.1 h.2.1.2, hl, h.2.2⟩
      rw [e]
      cases (decide (1 ≤ gk x0 0) && decide (gk x0 0 ≤ 99)) <;> cases (decide (1 ≤ gk x0 (x0.1.length - 1)) && decide (gk x0 (x0.1.length - 1) ≤ 99)) <;> rfl
  · have e : (decide (1 ≤ (x0.1.length : Int)) && decide ((x0.1.length : Int) ≤ 4)) = false := by
      cases hc : (decide (1 ≤ (x0.1.length : Int)) && decide ((x0.1.length : Int) ≤ 4))
      · rfl
      · simp only [Bool.and_eq_true, decide_eq_true_eq] at hc; exact absurd hc hl
    rw [e, cond_f]
    have : s = false := by
      cases s with
      | false => rfl
      | true => exact absurd (hS.mp rfl).2.1 hl
    rw [this]
theorem IsKeys_pos (x0 : TKeys) (hx : x0.1.length ≤ 1050000) (h : spec_IsKeys x0 = some true) : 1 ≤ x0.1.length := by
  obtain ⟨s, hs, hS⟩ := sIsKeys_l x0 hx 0 KK (Nat.zero_le _) (KK_gt (by omega))
  have e : spec_IsKeys x0 = some s := hs
  rw [h] at e
  injection e with e
  have := (hS.mp e.symm).2.1
  omega
noncomputable def keysB (k : TKeys) : Bool := (spec_IsKeys k).getD false
theorem sKeysB (k : TKeys) (hx : k.1.length ≤ 1050000) : spec_IsKeys k = some (keysB k) := by
  obtain ⟨b, h1, h2⟩ := IsKeys_v k hx
  unfold keysB
  rw [h1]; rfl
theorem iKeysB (k : TKeys) (hx : k.1.length ≤ 1050000) : impl_IsKeys k = some (keysB k) := by
  obtain ⟨b, h1, h2⟩ := IsKeys_v k hx
  unfold keysB
  rw [h1, h2]; rfl
def noK (k : TKeys) : Bool := k.2 == (0 : Int) && ((k.1.length : Int) == (0 : Int))
theorem sNoKeys_v (k : TKeys) : spec_NoKeys k = some (noK k) := by
  unfold spec_NoKeys noK
  cases (k.2 == (0 : Int)) <;> rfl
theorem iNoKeys_v (k : TKeys) : impl_NoKeys k = some (noK k) := by
  unfold impl_NoKeys noK
  cases (k.2 == (0 : Int)) <;> rfl
theorem keysB_no (k : TKeys) (hx : k.1.length ≤ 1050000) : (keysB k && noK k) = false := by
  cases h : keysB k with
  | false => rfl
  | true =>
    have := IsKeys_pos k hx (by rw [sKeysB k hx, h])
    unfold noK
    have e : ((k.1.length : Int) == (0 : Int)) = false := by rw [beq_eq_false_iff_ne]; omega
    rw [e, Bool.and_false]; rfl
def inR (a b c : Int) : Bool := decide (b ≤ a) && decide (a ≤ c)
theorem l1In_r (a b c : Int) : spec_l1In a b c = some (inR a b c) := l1In_v a b c
theorem InRange_r (a b c : Int) : impl_InRange a b c = some (inR a b c) := InRange_v a b c
theorem isDigest_r (a : Int) : impl_isDigest a = some (inR a 0 2147483646) := by
  unfold impl_isDigest
  rw [InRange_r, bind_s]
theorem bif_some {α : Type} (c : Bool) (a b : α) : (bif c then some a else some b) = some (bif c then a else b) := by cases c <;> rfl
theorem bif_ff (c a : Bool) : (bif c then a else false) = (c && a) := by cases c <;> rfl
theorem bif_fl (c a : Bool) : (bif c then false else a) = (!c && a) := by cases c <;> rfl
theorem bif_tl (c a : Bool) : (bif c then true else a) = (c || a) := by cases c <;> rfl
theorem bif_tr (c a : Bool) : (bif c then a else true) = (!c || a) := by cases c <;> rfl
def hr4 (x : THead) : Bool := inR (Head_Zone x) 0 2147483646 && (inR (Head_Root x) 0 2147483646 && (inR (Head_Prev x) 0 2147483646 && (inR (Head_Epoch x) 0 200 && inR (Head_Kind x) 1 3)))
def spanB (x : THead) : Bool := decide ((Head_Time x) ≥ 0) && (decide ((Head_Time x) ≤ (Head_Until x)) && (decide ((Head_Until x) ≤ 100000) && decide (IntKind.i64.wrap ((Head_Until x) - (Head_Time x)) ≤ 200)))
theorem span_eq (x : THead) (r : Bool) : (inR (Head_Time x) 0 100000 && (inR (Head_Until x) (Head_Time x) 100000 && (!decide (IntKind.i64.wrap ((Head_Until x) - (Head_Time x)) > 200) && r))) = (spanB x && r) := by
  have : (inR (Head_Time x) 0 100000 && (inR (Head_Until x) (Head_Time x) 100000 && !decide (IntKind.i64.wrap ((Head_Until x) - (Head_Time x)) > 200))) = spanB x := by
    unfold inR spanB
    generalize IntKind.i64.wrap ((Head_Until x) - (Head_Time x)) = w
    refine bool_eq ?_
    simp only [Bool.and_eq_true, decide_eq_true_eq, Bool.not_eq_true', decide_eq_false_iff_not]
    omega
  rw [← this]
  simp only [Bool.and_assoc]
noncomputable def keyPart (x : THead) : Bool := (bif noK (Head_Heirs x) then ((Head_Wait x) == (0 : Int)) else (keysB (Head_Heirs x) && inR (Head_Wait x) 1 500)) && (keysB (Head_Judge x) || (noK (Head_Judge x) && !(Head_Frozen x)))
noncomputable def isHeadB (x : THead) : Bool := hr4 x && (spanB x && (inR (Head_Count x) 0 12 && (keysB (Head_Keys x) && keyPart x)))
theorem sIsHead_v (x : THead) (hx : sizeHead x ≤ 1050000) : spec_IsHead x = some (isHeadB x) := by
  unfold sizeHead sizeKeys at hx
  have k1 := sKeysB (Head_Keys x) (by omega)
  have k2 := sKeysB (Head_Heirs x) (by omega)
  have k3 := sKeysB (Head_Judge x) (by omega)
  have n2 := sNoKeys_v (Head_Heirs x)
  have n3 := sNoKeys_v (Head_Judge x)
  have key : (bif noK (Head_Heirs x) then (!((Head_Wait x) != (0 : Int)) && (keysB (Head_Judge x) || (noK (Head_Judge x) && !(Head_Frozen x)))) else (keysB (Head_Heirs x) && (inR (Head_Wait x) 1 500 && (keysB (Head_Judge x) || (noK (Head_Judge x) && !(Head_Frozen x)))))) = keyPart x := by
    unfold keyPart
    cases noK (Head_Heirs x) with
    | true => simp [bne]
    | false => simp only [cond_f, Bool.and_assoc]
  unfold spec_IsHead
  simp only [spec_IsHead.b, spec_IsHead.l7, spec_IsHead.g7, spec_IsHead.l11, spec_IsHead.g11, spec_IsHead.l21, spec_IsHead.g21, l1In_r, k1, k2, k3, n2, n3, bind_s, bif_some, bif_ff, bif_fl, bif_tl, bif_tr, Bool.not_not]
  rw [key, span_eq]
  unfold isHeadB hr4 Head_Keys
  simp only [Bool.and_assoc]
theorem iIsHead_v (x : THead) (hx : sizeHead x ≤ 1050000) : impl_IsHead x = some (isHeadB x) := by
  unfold sizeHead sizeKeys at hx
  have k1 := iKeysB (Head_Keys x) (by omega)
  have k2 := iKeysB (Head_Heirs x) (by omega)
  have k3 := iKeysB (Head_Judge x) (by omega)
  have n2 := iNoKeys_v (Head_Heirs x)
  have n3 := iNoKeys_v (Head_Judge x)
  have q3 := keysB_no (Head_Judge x) (by omega)
  have key : ((noK (Head_Heirs x) || keysB (Head_Heirs x)) && ((noK (Head_Judge x) || keysB (Head_Judge x)) && ((bif noK (Head_Heirs x) then ((Head_Wait x) == (0 : Int)) else inR (Head_Wait x) 1 500) && (!(Head_Frozen x) || !noK (Head_Judge x))))) = keyPart x := by
    unfold keyPart
    revert q3
    generalize ((Head_Wait x) == (0 : Int)) = a
    generalize inR (Head_Wait x) 1 500 = b
    generalize (Head_Frozen x) = c
    cases noK (Head_Heirs x) <;> cases keysB (Head_Heirs x) <;> cases noK (Head_Judge x) <;> cases keysB (Head_Judge x) <;> cases a <;> cases b <;> cases c <;> decide
  unfold impl_IsHead
  simp only [impl_isMaybe, impl_isWait, impl_isSpan, isDigest_r, InRange_r, k1, k2, k3, n2, n3, bind_s, bif_some, bif_ff, bif_fl, bif_tl, bif_tr, Bool.not_not]
  rw [key]
  unfold isHeadB hr4 spanB Head_Keys
  simp only [Bool.and_assoc]
theorem EqualInts_l (x0 x1 : List Int) (hl : x0.length = x1.length) (hx : x0.length ≤ 1152921504606846976) : ∀ i n, i ≤ x0.length → x0.length - i < n → spec_EqualInts.l8 x0 x1 n (i : Int) = some (decide (x0.drop i = x1.drop i)) := by
  refine idx_ind ?_ ?_
  · intro n
    rw [spec_EqualInts.u8]
    simp only [spec_EqualInts.g8, lt_f (Nat.le_refl _), cond_f]
    rw [List.drop_length, hl, List.drop_length]; simp
  · intro i n hi ih
    have hi' : i < x1.length := by omega
    rw [spec_EqualInts.u8]
    simp only [spec_EqualInts.g8, lt_t hi, lt_t hi', ge_t, cond_t, w64_succ (i := i) (by omega), Int.toNat_natCast, at_n hi, at_n hi']
    rw [dec_step (drop_eq hi hi')]
    by_cases he : x0[i] = x1[i]
    · rw [show (x0[i] != x1[i]) = false by simp [he], cond_f, ih, decide_eq_true he, Bool.true_and]
    · rw [show (x0[i] != x1[i]) = true by simp [he], cond_t, decide_eq_false he, Bool.false_and]
theorem EqualInts_v (x0 x1 : List Int) (hx : x0.length ≤ 1152921504606846976) : spec_EqualInts x0 x1 = some (decide (x0 = x1)) := by
  unfold spec_EqualInts
  by_cases hl : x0.length = x1.length
  · simp only [spec_EqualInts.b, len_eq hl, cond_f]
    have := EqualInts_l x0 x1 hl hx 0 KK (Nat.zero_le _) (KK_gt (by omega))
    simpa using this
  · simp only [spec_EqualInts.b, len_ne hl, cond_t]
    rw [decide_eq_false (fun h => hl (by rw [h]))]
theorem slicesEq_int_l (x0 x1 : List Int) (hl : x0.length = x1.length) (hx : x0.length ≤ 1152921504606846976) : ∀ i n, i ≤ x0.length → x0.length - i < n → slices_Equal_int.l8 x0 x1 n (x0.length : Int) (i : Int) = some (decide (x0.drop i = x1.drop i)) := by
  refine idx_ind ?_ ?_
  · intro n
    rw [slices_Equal_int.u8]
    simp only [slices_Equal_int.g8, lt_f (Nat.le_refl _), cond_f]
    rw [List.drop_length, hl, List.drop_length]; simp
  · intro i n hi ih
    have hi' : i < x1.length := by omega
    rw [slices_Equal_int.u8]
    simp only [slices_Equal_int.g8, lt_t hi, lt_t hi', ge_t, cond_t, w64_succ (i := i) (by omega), Int.toNat_natCast, at_n hi, at_n hi']
    rw [dec_step (drop_eq hi hi')]
    by_cases he : x0[i] = x1[i]
    · rw [show (x0[i] != x1[i]) = false by simp [he], cond_f, ih, decide_eq_true he, Bool.true_and]
    · rw [show (x0[i] != x1[i]) = true by simp [he], cond_t, decide_eq_false he, Bool.false_and]
theorem slicesEq_int_v (x0 x1 : List Int) (hx : x0.length ≤ 1152921504606846976) : slices_Equal_int x0 x1 = some (decide (x0 = x1)) := by
  unfold slices_Equal_int
  by_cases hl : x0.length = x1.length
  · simp only [slices_Equal_int.b, len_eq hl, cond_f]
    have := slicesEq_int_l x0 x1 hl hx 0 KK (Nat.zero_le _) (KK_gt (by omega))
    simpa using this
  · simp only [slices_Equal_int.b, len_ne hl, cond_t]
    rw [decide_eq_false (fun h => hl (by rw [h]))]
theorem EqualKeys_v (a b : TKeys) (hx : a.1.length ≤ 1050000) : impl_EqualKeys a b = some (decide (a = b)) := by
  unfold impl_EqualKeys
  rw [slicesEq_int_v _ _ (by omega), bind_s]
  obtain ⟨a1, a2⟩ := a
  obtain ⟨b1, b2⟩ := b
  by_cases h1 : a1 = b1 <;> by_cases h2 : a2 = b2 <;> simp [h1, h2]
theorem keysInts_inj {k k' : TKeys} {r r' : List Int} (h : keysInts k ++ r = keysInts k' ++ r') : k = k' ∧ r = r' := by
  unfold keysInts at h
  simp only [List.cons_append, List.nil_append, List.append_assoc, List.cons.injEq] at h
  obtain ⟨h1, h2, h3⟩ := h
  have hl : k.1.length = k'.1.length := by omega
  obtain ⟨h4, h5⟩ := List.append_inj h3 hl
  exact ⟨Prod.ext h4 h1, h5⟩
theorem headInts_inj {a b : THead} (h : headInts a = headInts b) : Head_Keys a = Head_Keys b ∧ Head_Heirs a = Head_Heirs b ∧ Head_Judge a = Head_Judge b ∧ hdb a = hdb b := by
  unfold headInts at h
  simp only [List.append_assoc] at h
  obtain ⟨_, h⟩ := List.append_inj h rfl
  obtain ⟨h1, h⟩ := keysInts_inj h
  obtain ⟨h2, h⟩ := keysInts_inj h
  obtain ⟨_, h⟩ := List.append_inj h rfl
  obtain ⟨h3, h⟩ := keysInts_inj h
  exact ⟨h1, h2, h3, h⟩
def eqHeads (a b : THead) : Bool := decide (headInts a = headInts b)
theorem iEqualHeads_v (a b : THead) (ha : sizeHead a ≤ 1050000) (hb : sizeHead b ≤ 1050000) : impl_EqualHeads a b = some (eqHeads a b) := by
  have hs := ha
  unfold sizeHead sizeKeys at hs
  show ((impl_EqualKeys (Head_Keys a) (Head_Keys b)).bind fun y1 => bif y1 then (impl_EqualKeys (Head_Heirs a) (Head_Heirs b)).bind fun y2 => bif y2 then (impl_EqualKeys (Head_Judge a) (Head_Judge b)).bind fun y3 => bif y3 then (impl_HeadInts a).bind fun y4 => (impl_HeadInts b).bind fun y5 => (slices_Equal_int y4 y5).bind fun y6 => some y6 else some false else some false else some false) = _
  rw [EqualKeys_v _ _ (by omega), bind_s, EqualKeys_v _ _ (by omega), bind_s, EqualKeys_v _ _ (by omega), bind_s, iHeadInts_v a ha, bind_s, iHeadInts_v b hb, bind_s, slicesEq_int_v _ _ (by rw [headInts_len]; omega), bind_s]
  unfold eqHeads
  by_cases h : headInts a = headInts b
  · obtain ⟨h1, h2, h3, _⟩ := headInts_inj h
    rw [decide_eq_true h1, decide_eq_true h2, decide_eq_true h3, cond_t, cond_t, cond_t]
  · rw [decide_eq_false h]
    cases decide (Head_Keys a = Head_Keys b) <;> cases decide (Head_Heirs a = Head_Heirs b) <;> cases decide (Head_Judge a = Head_Judge b) <;> rfl
theorem l6Copy_v (x : TKeys) (hx : x.1.length ≤ 1050000) : spec_l6Copy x = some x := by
  unfold spec_l6Copy
  rw [decide_eq_true (by simp; omega), cond_t]; rfl
theorem Clone_int_v (x : List Int) (hx : x.length ≤ 1050000) : slices_Clone_int x = some x := by
  have e : (bif decide (([] : List Int).length + x.length < 68719476736) then some ([] ++ x) else none) = some x := by
    rw [decide_eq_true (by simp; omega), cond_t]; rfl
  unfold slices_Clone_int
  rw [e]
  cases x with
  | nil => exact both_eq _
  | cons a t => rfl
theorem copyKeys_v (x : TKeys) (hx : x.1.length ≤ 1050000) : impl_copyKeys x = some x := by
  unfold impl_copyKeys
  rw [Clone_int_v _ hx, bind_s]
theorem l13Copy_v (x0 : THead) (hx : sizeHead x0 ≤ 1050000) : spec_l13Copy x0 = some x0 := by
  unfold sizeHead sizeKeys at hx
  unfold spec_l13Copy
  exact bnd (l6Copy_v _ (by omega)) (bnd (l6Copy_v _ (by omega)) (bnd (l6Copy_v _ (by omega)) rfl))
theorem copyHead_v (x0 : THead) (hx : sizeHead x0 ≤ 1050000) : impl_copyHead x0 = some x0 := by
  unfold sizeHead sizeKeys at hx
  unfold impl_copyHead
  exact bnd (copyKeys_v _ (by omega)) (bnd (copyKeys_v _ (by omega)) (bnd (copyKeys_v _ (by omega)) rfl))
theorem Clone_Sig_v (x : List TSig) (hx : x.length ≤ 1050000) : slices_Clone_impl_Sig x = some x := by
  have e : (bif decide (([] : List TSig).length + x.length < 68719476736) then some ([] ++ x) else none) = some x := by
    rw [decide_eq_true (by simp; omega), cond_t]; rfl
  unfold slices_Clone_impl_Sig
  rw [e]
  cases x with
  | nil => exact both_eq _
  | cons a t => rfl
theorem l14Copy_v (x0 : TSigned) (hx : sizeSigned x0 ≤ 1050000) : spec_l14Copy x0 = some x0 := by
  unfold sizeSigned at hx
  unfold spec_l14Copy
  exact bnd (l13Copy_v _ (by omega)) (cT (decide_eq_true (by simp; omega)) rfl)
theorem copySigned_v (x0 : TSigned) (hx : sizeSigned x0 ≤ 1050000) : impl_copySigned x0 = some x0 := by
  unfold sizeSigned at hx
  unfold impl_copySigned
  exact bnd (copyHead_v _ (by omega)) (bnd (Clone_Sig_v _ (by omega)) rfl)
def hasK (xs : List Int) (k : Int) : Bool := xs.any (fun a => a == k)
theorem l6Has_l (x0 : List Int) (k : Int) (hx : x0.length ≤ 1152921504606846976) : ∀ i n, i ≤ x0.length → x0.length - i < n → spec_l6Has.l4 x0 k n (i : Int) = some (hasK (x0.drop i) k) := by
  refine idx_ind ?_ ?_
  · intro n
    rw [spec_l6Has.u4]
    simp only [spec_l6Has.g4, lt_f (Nat.le_refl _), cond_f, List.drop_length]; rfl
  · intro i n hi ih
    rw [spec_l6Has.u4]
    simp only [spec_l6Has.g4, lt_t hi, ge_t, cond_t, w64_succ (i := i) (by omega), Int.toNat_natCast, at_n hi, ih]
    rw [List.drop_eq_getElem_cons hi]
    show _ = some ((x0[i] == k) || hasK (x0.drop (i + 1)) k)
    cases (x0[i] == k) <;> rfl
theorem l6Has_v (x0 : List Int) (k : Int) (hx : x0.length ≤ 1152921504606846976) : spec_l6Has x0 k = some (hasK x0 k) := by
  have := l6Has_l x0 k hx 0 KK (Nat.zero_le _) (KK_gt (by omega))
  rw [List.drop_zero] at this
  exact this
def signs (sk : List Int) (m : List Int) : List Int → List TSig → List TSig
  | [], acc => acc
  | k :: ks, acc => signs sk m ks (bif hasK sk k then acc ++ [(k, tagOf k m)] else acc)
theorem signs_step (sk m : List Int) {ks : List Int} {i : Nat} (h : i < ks.length) (acc : List TSig) : signs sk m (ks.drop i) acc = signs sk m (ks.drop (i + 1)) (bif hasK sk ks[i] then acc ++ [(ks[i], tagOf ks[i] m)] else acc) := by
  rw [List.drop_eq_getElem_cons h]; rfl
theorem signs_last (sk m ks : List Int) (acc : List TSig) : signs sk m (ks.drop ks.length) acc = acc := by
  rw [List.drop_length]; rfl
theorem signs_len (sk m ks : List Int) : ∀ acc : List TSig, (signs sk m ks acc).length ≤ acc.length + ks.length := by
  induction ks with
  | nil => intro acc; exact Nat.le_refl _
  | cons k ks ih =>
    intro acc
    show (signs sk m ks (bif hasK sk k then acc ++ [(k, tagOf k m)] else acc)).length ≤ _
    refine Nat.le_trans (ih _) ?_
    cases hasK sk k with
    | true => rw [cond_t, List.length_append, List.length_cons]; simp; omega
    | false => rw [cond_f, List.length_cons]; omega
theorem sSignBy_l (sk : List Int) (x1 : TKeys) (m : List Int) (hs : sk.length ≤ 1050000) (hk : x1.1.length ≤ 1050000) (hm : m.length ≤ 8388608) : ∀ i n, i ≤ x1.1.length → x1.1.length - i < n → ∀ acc : List TSig, acc.length ≤ i → spec_SignBy.l6 sk x1 m n (i : Int) acc = some (signs sk m (x1.1.drop i) acc) := by
  refine idx_ind ?_ ?_
  · intro n acc ha
    rw [spec_SignBy.u6]
    simp only [spec_SignBy.g6, lt_f (Nat.le_refl _), cond_f, signs_last]
  · intro i n hi ih acc ha
    rw [spec_SignBy.u6]
    simp only [spec_SignBy.g6, lt_t hi, ge_t, cond_t, bind_s, w64_succ (i := i) (by omega), Int.toNat_natCast, at_n hi, l6Has_v _ _ (show sk.length ≤ 1152921504606846976 by omega), sTagOf_v _ _ hm, signs_step _ _ hi]
    cases hasK sk x1.1[i] with
    | true =>
      rw [cond_t, cond_t, decide_eq_true (by simp; omega), cond_t]
      exact ih _ (by rw [List.length_append]; simp; omega)
    | false => rw [cond_f, cond_f]; exact ih _ (by omega)
theorem sSignBy_v (sk : List Int) (x1 : TKeys) (m : List Int) (hs : sk.length ≤ 1050000) (hk : x1.1.length ≤ 1050000) (hm : m.length ≤ 8388608) : spec_SignBy sk x1 m = some (signs sk m x1.1 []) := by
  have := sSignBy_l sk x1 m hs hk hm 0 KK (Nat.zero_le _) (KK_gt (by omega)) [] (Nat.le_refl _)
  rw [List.drop_zero] at this
  exact this
def signHead (sk : List Int) (k : TKeys) (h : THead) : TSigned := Signed_mk h (signs sk (headInts h) k.1 [])
theorem sSignHead_v (sk : List Int) (k : TKeys) (h : THead) (hs : sk.length ≤ 1050000) (hk : k.1.length ≤ 1050000) (hh : sizeHead h ≤ 1050000) : spec_SignHead sk k h = some (signHead sk k h) := by
  unfold spec_SignHead
  rw [l13Copy_v _ hh, bind_s, sHeadInts_v _ hh, bind_s, sSignBy_v _ _ _ hs hk (by rw [headInts_len]; omega), bind_s]; rfl
theorem aB {e f : Option Bool} {b c : Bool} (h : e = some b) (hf : f = some c) : (e.bind fun y => bif y then f else some false) = some (b && c) := by
  rw [h, bind_s, hf]; cases b <;> rfl
theorem aC {f : Option Bool} {c d : Bool} (hf : f = some d) : (bif c then f else some false) = some (c && d) := by
  rw [hf]; cases c <;> rfl
theorem aL {α : Type} {e : Option α} {b : α} (h : e = some b) : (e.bind fun y => some y) = some b := by rw [h, bind_s]
theorem signed_at {xs : List TSigned} {i : Nat} (h : i < xs.length) {n : Nat} (hx : sizeSignedS xs ≤ n) : sizeSigned xs[i] ≤ n := by
  have := size_at sizeSigned h
  unfold sizeSignedS sizeS at hx
  omega
theorem entry_at {xs : List TEntry} {i : Nat} (h : i < xs.length) {n : Nat} (hx : sizeEntryS xs ≤ n) : sizeEntry xs[i] ≤ n := by
  have := size_at sizeEntry h
  unfold sizeEntryS sizeS at hx
  omega
def zoneOf (k : TKeys) (s : Int) : Int := ([(239 : Int), s] ++ keysInts k).foldl hstep 11
theorem sZoneOf_v (k : TKeys) (s : Int) (hk : k.1.length ≤ 1050000) : spec_ZoneOf k s = some (zoneOf k s) := by
  have hl := keysInts_len k
  unfold spec_ZoneOf zoneOf
  rw [sKeysInts_v k hk, bind_s, decide_eq_true (by simp [hl]; omega), cond_t, sHash_v _ (by simp [hl]; omega), bind_s]
theorem iZoneOf_v (k : TKeys) (s : Int) (hk : k.1.length ≤ 1050000) : impl_ZoneOf k s = some (zoneOf k s) := by
  have hl := keysInts_len k
  unfold impl_ZoneOf zoneOf
  rw [iKeysInts_v k hk, bind_s, decide_eq_true (by simp [hl]; omega), cond_t, iHash_v _ (by simp [hl]; omega), bind_s]
noncomputable def isSigned (k : TKeys) (m : List Int) (sg : List TSig) : Bool := keysB k && decide (cnt (hasSig sg m) k.1 0 ≥ k.2)
theorem sIsSigned_v (k : TKeys) (m : List Int) (sg : List TSig) (hk : k.1.length ≤ 1050000) (hs : sg.length ≤ 1050000) (hm : m.length ≤ 8388608) : spec_IsSigned k m sg = some (isSigned k m sg) := by
  unfold spec_IsSigned isSigned
  exact aB (sKeysB k hk) (bnd (sCountSigs_v k m sg hk hs hm) rfl)
theorem iIsSigned_v (k : TKeys) (m : List Int) (sg : List TSig) (hk : k.1.length ≤ 1050000) (hs : sg.length ≤ 1050000) (hm : m.length ≤ 8388608) : impl_IsSigned k m sg = some (isSigned k m sg) := by
  unfold impl_IsSigned isSigned
  exact aB (iKeysB k hk) (bnd (iCountSigs_v k m sg hk hs hm) rfl)
noncomputable def signedBy (s : TSigned) (k : TKeys) : Bool := isSigned k (headInts (Signed_Head s)) (Signed_Sigs s)
theorem hi_len (x : THead) (hx : sizeHead x ≤ 1050000) : (headInts x).length ≤ 8388608 := by rw [headInts_len]; omega
theorem isSignedBy_v (s : TSigned) (k : TKeys) (hs : sizeSigned s ≤ 1050000) (hk : k.1.length ≤ 1050000) : impl_Signed_isSignedBy s k = some (signedBy s k) := by
  unfold sizeSigned at hs
  unfold impl_Signed_isSignedBy signedBy
  exact bnd (iHeadInts_v _ (by omega)) (aL (iIsSigned_v _ _ _ hk (by omega) (hi_len _ (by omega))))
noncomputable def isFirst (s : TSigned) : Bool := isHeadB (Signed_Head s) && (Head_Epoch (Signed_Head s) == (0 : Int) && (Head_Kind (Signed_Head s) == (1 : Int) && (!(Head_Frozen (Signed_Head s)) && (Head_Zone (Signed_Head s) == zoneOf (Head_Keys (Signed_Head s)) (Head_Prev (Signed_Head s)) && signedBy s (Head_Keys (Signed_Head s))))))
theorem sIsFirst_v (s : TSigned) (hs : sizeSigned s ≤ 1050000) : spec_IsFirst s = some (isFirst s) := by
  unfold sizeSigned at hs
  have hk : (Head_Keys (Signed_Head s)).1.length ≤ 1050000 := by unfold sizeHead sizeKeys at hs; omega
  unfold spec_IsFirst isFirst
  exact aB (sIsHead_v _ (by omega)) (aC (aC (aC (bnd (sZoneOf_v _ _ hk) (aC (bnd (sHeadInts_v _ (by omega)) (aL (sIsSigned_v _ _ _ hk (by omega) (hi_len _ (by omega))))))))))
theorem iIsFirst_v (s : TSigned) (hs : sizeSigned s ≤ 1050000) : impl_IsFirst s = some (isFirst s) := by
  have hs' := hs
  unfold sizeSigned at hs'
  have hk : (Head_Keys (Signed_Head s)).1.length ≤ 1050000 := by unfold sizeHead sizeKeys at hs'; omega
  unfold impl_IsFirst isFirst
  exact aB (iIsHead_v _ (by omega)) (aC (aC (aC (bnd (iZoneOf_v _ _ hk) (aC (aL (isSignedBy_v _ _ hs hk)))))))
theorem sEqualKeys_v (a b : TKeys) (hx : a.1.length ≤ 1050000) : spec_EqualKeys a b = some (decide (a = b)) := by
  unfold spec_EqualKeys
  refine (aC (aL (EqualInts_v _ _ (by omega)))).trans ?_
  obtain ⟨a1, a2⟩ := a
  obtain ⟨b1, b2⟩ := b
  by_cases h1 : a1 = b1 <;> by_cases h2 : a2 = b2 <;> simp [h1, h2]
def sameC (a b : THead) : Bool := Head_Count a == Head_Count b && Head_Root a == Head_Root b
theorem sSame_v (a b : THead) : spec_SameContents a b = some (sameC a b) := aC rfl
theorem iSame_v (a b : THead) : impl_SameContents a b = some (sameC a b) := aC rfl
def ownC (p h : THead) : Int := bif Head_Frozen p then 4 else bif Head_Frozen h then 6 else 1
def lateB (p h : THead) : Bool := noK (Head_Heirs p) || decide ((Head_Time h) < (IntKind.i64.wrap ((Head_Until p) + (Head_Wait p))))
def heirC (p h : THead) : Int := bif Head_Frozen p then 4 else bif lateB p h then 5 else bif Head_Frozen h || (!decide (Head_Keys h = Head_Heirs p) || !sameC h p) then 6 else 1
def judgeC (p h : THead) : Int := bif noK (Head_Judge p) then 5 else bif (Head_Frozen h == Head_Frozen p) || !(sameC h p && (decide (Head_Judge h = Head_Judge p) && (decide (Head_Heirs h = Head_Heirs p) && (Head_Wait h == Head_Wait p)))) then 6 else bif Head_Frozen h && !decide (Head_Keys h = Head_Keys p) then 6 else 1
theorem sOwn_v (p h : THead) : spec_l15Owner p h = some (ownC p h) := by
  unfold spec_l15Owner ownC
  cases Head_Frozen p <;> cases Head_Frozen h <;> rfl
theorem heads_len (h : THead) (hx : sizeHead h ≤ 1050000) : (Head_Keys h).1.length ≤ 1050000 ∧ (Head_Heirs h).1.length ≤ 1050000 ∧ (Head_Judge h).1.length ≤ 1050000 := by
  unfold sizeHead sizeKeys at hx; omega
theorem sHeir_v (p h : THead) (hh : sizeHead h ≤ 1050000) : spec_l15Heir p h = some (heirC p h) := by
  have hk := (heads_len h hh).1
  unfold spec_l15Heir heirC lateB
  simp only [spec_l15Heir.b, spec_l15Heir.l9, spec_l15Heir.g9, sNoKeys_v, sEqualKeys_v _ _ hk, sSame_v, bind_s]
  generalize decide ((Head_Time h) < (IntKind.i64.wrap ((Head_Until p) + (Head_Wait p)))) = a
  generalize decide (Head_Keys h = Head_Heirs p) = b
  cases Head_Frozen p <;> cases noK (Head_Heirs p) <;> cases a <;> cases Head_Frozen h <;> cases b <;> cases sameC h p <;> rfl
theorem sJudge_v (p h : THead) (hh : sizeHead h ≤ 1050000) : spec_l15Judge p h = some (judgeC p h) := by
  have hk := heads_len h hh
  unfold spec_l15Judge judgeC
  simp only [spec_l15Judge.b, spec_l15Judge.l9, spec_l15Judge.g9, sNoKeys_v, sEqualKeys_v _ _ hk.1, sEqualKeys_v _ _ hk.2.1, sEqualKeys_v _ _ hk.2.2, sSame_v, bind_s, bne]
  generalize (Head_Wait h == Head_Wait p) = w
  generalize (Head_Frozen h == Head_Frozen p) = q
  generalize decide (Head_Judge h = Head_Judge p) = a
  generalize decide (Head_Heirs h = Head_Heirs p) = b
  generalize decide (Head_Keys h = Head_Keys p) = d
  cases noK (Head_Judge p) <;> cases q <;> cases sameC h p <;> cases a <;> cases b <;> cases w <;> cases Head_Frozen h <;> cases d <;> rfl
def finC (code : Int) (b : Bool) : Int := bif code == (1 : Int) then (bif b then code else 7) else code
noncomputable def isNext (p h : THead) : Bool := Head_Zone h == Head_Zone p && (Head_Epoch h == IntKind.i64.wrap ((Head_Epoch p) + (1 : Int)) && (Head_Prev h == headDigest p && decide (Head_Time h ≥ Head_Time p)))
theorem isNext_v (p h : THead) (hp : sizeHead p ≤ 1050000) : impl_isNext p h = some (isNext p h) := by
  unfold impl_isNext isNext
  exact aC (aC (bnd (iHeadDigest_v p hp) (aC rfl)))
noncomputable def kindC (p : THead) (s : TSigned) : Int :=
  bif Head_Kind (Signed_Head s) == (2 : Int) then finC (heirC p (Signed_Head s)) (signedBy s (Head_Heirs p)) else bif Head_Kind (Signed_Head s) == (3 : Int) then finC (judgeC p (Signed_Head s)) (signedBy s (Head_Judge p)) else finC (ownC p (Signed_Head s)) (signedBy s (Head_Keys p))
noncomputable def nextCode (p : THead) (s : TSigned) : Int :=
  bif !(isHeadB p && isHeadB (Signed_Head s)) then 2 else bif !isNext p (Signed_Head s) then 3 else kindC p s
theorem finC_v (c : Int) (b : Bool) : (bif c == (1 : Int) then (bif !b then some (7 : Int) else some c) else some c) = some (finC c b) := by
  unfold finC
  cases (c == (1 : Int)) <;> cases b <;> rfl
theorem sNext31_v (s : TSigned) (c : Int) (k : TKeys) (hs : sizeSigned s ≤ 1050000) (hk : k.1.length ≤ 1050000) : spec_NextCode.l31 s c k.1 k.2 = some (finC c (signedBy s k)) := by
  unfold sizeSigned at hs
  unfold spec_NextCode.l31
  simp only [spec_NextCode.g31, sHeadInts_v _ (show sizeHead (Signed_Head s) ≤ 1050000 by omega), sIsSigned_v k _ _ hk (show (Signed_Sigs s).length ≤ 1050000 by omega) (hi_len (Signed_Head s) (by omega)), bind_s]
  exact finC_v c _
theorem sNextCode_v (p : THead) (s : TSigned) (hp : sizeHead p ≤ 1050000) (hs : sizeSigned s ≤ 1050000) : spec_NextCode p s = some (nextCode p s) := by
  have hs' := hs
  unfold sizeSigned at hs'
  have hk := heads_len p hp
  unfold spec_NextCode nextCode isNext
  simp only [spec_NextCode.b, spec_NextCode.l9, spec_NextCode.g9, spec_NextCode.l13, spec_NextCode.g13, sIsHead_v p hp, sIsHead_v (Signed_Head s) (show _ ≤ 1050000 by omega), sHeadDigest_v p hp, sOwn_v, sHeir_v p (Signed_Head s) (by omega), sJudge_v p (Signed_Head s) (by omega), sNext31_v s _ _ hs hk.1, sNext31_v s _ _ hs hk.2.1, sNext31_v s _ _ hs hk.2.2, bind_s, bif_some, bne]
  show some _ = some _
  unfold kindC
  congr 1
  generalize (Head_Zone (Signed_Head s) == Head_Zone p) = a
  generalize (Head_Epoch (Signed_Head s) == IntKind.i64.wrap ((Head_Epoch p) + (1 : Int))) = b
  generalize (Head_Prev (Signed_Head s) == headDigest p) = c
  have e : decide ((Head_Time (Signed_Head s)) < (Head_Time p)) = !decide (Head_Time (Signed_Head s) ≥ Head_Time p) := by
    by_cases h : Head_Time (Signed_Head s) < Head_Time p
    · rw [decide_eq_true h, decide_eq_false (by omega)]; rfl
    · rw [decide_eq_false h, decide_eq_true (by omega)]; rfl
  rw [e]
  generalize decide (Head_Time (Signed_Head s) ≥ Head_Time p) = d
  cases isHeadB p <;> cases isHeadB (Signed_Head s) <;> cases a <;> cases b <;> cases c <;> cases d <;> rfl
theorem iOwn_v (p : THead) (s : TSigned) (hp : sizeHead p ≤ 1050000) (hs : sizeSigned s ≤ 1050000) : impl_ownerCode p s = some (finC (ownC p (Signed_Head s)) (signedBy s (Head_Keys p))) := by
  have hk := heads_len p hp
  unfold impl_ownerCode ownC
  rw [isSignedBy_v s _ hs hk.1, bind_s]
  cases Head_Frozen p <;> cases Head_Frozen (Signed_Head s) <;> cases signedBy s (Head_Keys p) <;> rfl
theorem iHeir_v (p : THead) (s : TSigned) (hp : sizeHead p ≤ 1050000) (hs : sizeSigned s ≤ 1050000) : impl_heirCode p s = some (finC (heirC p (Signed_Head s)) (signedBy s (Head_Heirs p))) := by
  have hk := heads_len p hp
  have hs' := hs
  unfold sizeSigned at hs'
  have hq := heads_len (Signed_Head s) (by omega)
  unfold impl_heirCode heirC lateB
  simp only [impl_heirCode.b, impl_heirCode.l11, impl_heirCode.g11, impl_heirCode.l15, impl_heirCode.g15, iNoKeys_v, EqualKeys_v _ _ hq.1, iSame_v, isSignedBy_v s _ hs hk.2.1, bind_s]
  generalize decide ((Head_Time (Signed_Head s)) < (IntKind.i64.wrap ((Head_Until p) + (Head_Wait p)))) = a
  generalize decide (Head_Keys (Signed_Head s) = Head_Heirs p) = b
  generalize signedBy s (Head_Heirs p) = c
  cases Head_Frozen p <;> cases noK (Head_Heirs p) <;> cases a <;> cases Head_Frozen (Signed_Head s) <;> cases b <;> cases sameC (Signed_Head s) p <;> cases c <;> rfl
theorem iJudge_v (p : THead) (s : TSigned) (hp : sizeHead p ≤ 1050000) (hs : sizeSigned s ≤ 1050000) : impl_judgeCode p s = some (finC (judgeC p (Signed_Head s)) (signedBy s (Head_Judge p))) := by
  have hk := heads_len p hp
  have hs' := hs
  unfold sizeSigned at hs'
  have hq := heads_len (Signed_Head s) (by omega)
  unfold impl_judgeCode judgeC
  simp only [impl_judgeCode.b, impl_judgeCode.l7, impl_judgeCode.g7, impl_judgeCode.l13, impl_judgeCode.g13, iNoKeys_v, EqualKeys_v _ _ hq.1, EqualKeys_v _ _ hq.2.1, EqualKeys_v _ _ hq.2.2, iSame_v, isSignedBy_v s _ hs hk.2.2, bind_s]
  generalize (Head_Wait (Signed_Head s) == Head_Wait p) = w
  generalize (Head_Frozen (Signed_Head s) == Head_Frozen p) = q
  generalize decide (Head_Judge (Signed_Head s) = Head_Judge p) = a
  generalize decide (Head_Heirs (Signed_Head s) = Head_Heirs p) = b
  generalize decide (Head_Keys (Signed_Head s) = Head_Keys p) = d
  generalize signedBy s (Head_Judge p) = c
  cases noK (Head_Judge p) <;> cases q <;> cases sameC (Signed_Head s) p <;> cases a <;> cases b <;> cases w <;> cases Head_Frozen (Signed_Head s) <;> cases d <;> cases c <;> rfl
theorem isHeadB_kind (x : THead) (h : isHeadB x = true) : Head_Kind x = 1 ∨ Head_Kind x = 2 ∨ Head_Kind x = 3 := by
  unfold isHeadB hr4 at h
  simp only [Bool.and_eq_true] at h
  have h1 := h.1.2.2.2.2
  unfold inR at h1
  simp only [Bool.and_eq_true, decide_eq_true_eq] at h1
  omega
theorem iNextCode_v (p : THead) (s : TSigned) (hp : sizeHead p ≤ 1050000) (hs : sizeSigned s ≤ 1050000) : impl_NextCode p s = some (nextCode p s) := by
  have hs' := hs
  unfold sizeSigned at hs'
  unfold impl_NextCode nextCode
  simp only [impl_NextCode.b, impl_NextCode.l5, impl_NextCode.g5, iIsHead_v p hp, iIsHead_v (Signed_Head s) (show _ ≤ 1050000 by omega), isNext_v p _ hp, iOwn_v p s hp hs, iHeir_v p s hp hs, iJudge_v p s hp hs, bind_s]
  cases h1 : isHeadB p with
  | false => rfl
  | true =>
    cases h2 : isHeadB (Signed_Head s) with
    | false => rfl
    | true =>
      cases isNext p (Signed_Head s) with
      | false => rfl
      | true =>
        show _ = some (kindC p s)
        unfold kindC
        rcases isHeadB_kind _ h2 with h | h | h <;> rw [h] <;> rfl
noncomputable def mayFollow (p : THead) (s : TSigned) : Bool := nextCode p s == (1 : Int)
theorem sMay_v (p : THead) (s : TSigned) (hp : sizeHead p ≤ 1050000) (hs : sizeSigned s ≤ 1050000) : spec_MayFollow p s = some (mayFollow p s) := bnd (sNextCode_v p s hp hs) rfl
theorem iMay_v (p : THead) (s : TSigned) (hp : sizeHead p ≤ 1050000) (hs : sizeSigned s ≤ 1050000) : impl_MayFollow p s = some (mayFollow p s) := bnd (iNextCode_v p s hp hs) rfl
noncomputable def fw : Option THead → List TSigned → Int → Int
  | _, [], _ => -1
  | none, s :: t, k => bif !isFirst s then k else fw (some (Signed_Head s)) t (k + 1)
  | some p, s :: t, k => bif !mayFollow p s then k else fw (some (Signed_Head s)) t (k + 1)
def prevAt (xs : List TSigned) : Nat → Option THead
  | 0 => none
  | j + 1 => some (Signed_Head (xs.getD j dSigned))
theorem fw_last (o : Option THead) (xs : List TSigned) (k : Int) : fw o (xs.drop xs.length) k = -1 := by
  rw [List.drop_length]
  cases o <;> rfl
theorem fw_zero {xs : List TSigned} (h : 0 < xs.length) : fw none (xs.drop 0) 0 = bif !isFirst xs[0] then 0 else fw (prevAt xs 1) (xs.drop 1) 1 := by
  rw [List.drop_eq_getElem_cons h]
  show _ = bif !isFirst xs[0] then 0 else fw (some (Signed_Head (xs.getD 0 dSigned))) (xs.drop 1) 1
  rw [at_n h]; rfl
theorem fw_succ {xs : List TSigned} {j : Nat} (h : j + 1 < xs.length) : fw (prevAt xs (j + 1)) (xs.drop (j + 1)) ((j + 1 : Nat) : Int) = bif !mayFollow (Signed_Head xs[j]) xs[j + 1] then ((j + 1 : Nat) : Int) else fw (prevAt xs (j + 2)) (xs.drop (j + 2)) ((j + 2 : Nat) : Int) := by
  rw [List.drop_eq_getElem_cons h]
  show fw (some (Signed_Head (xs.getD j dSigned))) _ _ = bif !mayFollow (Signed_Head xs[j]) xs[j + 1] then ((j + 1 : Nat) : Int) else fw (some (Signed_Head (xs.getD (j + 1) dSigned))) (xs.drop (j + 2)) ((j + 2 : Nat) : Int)
  rw [at_n h, at_n (show j < xs.length by omega)]; rfl
theorem head_at {xs : List TSigned} {i : Nat} (h : i < xs.length) {n : Nat} (hx : sizeSignedS xs ≤ n) : sizeHead (Signed_Head xs[i]) ≤ n := by
  have := signed_at h hx
  unfold sizeSigned at this
  omega
theorem sFirstWrong_l (x0 : List TSigned) (hx : sizeSignedS x0 ≤ 1050000) : ∀ i n, i ≤ x0.length → x0.length - i < n → spec_FirstWrong.l4 x0 n (i : Int) = some (fw (prevAt x0 i) (x0.drop i) (i : Int)) := by
  have hl : x0.length ≤ 1050000 := by unfold sizeSignedS sizeS at hx; omega
  refine idx_ind ?_ ?_
  · intro n
    rw [spec_FirstWrong.u4]
    simp only [spec_FirstWrong.g4, lt_f (Nat.le_refl _), cond_f, fw_last]
  · intro i n hi ih
    rw [spec_FirstWrong.u4]
    match i, hi, ih with
    | 0, hi, ih =>
      have e := fw_zero hi
      have hg : x0.getD ((0 : Int).toNat) dSigned = x0[0] := at_n hi _
      simp only [spec_FirstWrong.g4, lt_t hi, cond_t, Int.natCast_zero, beq_self_eq_true, decide_eq_true (Int.le_refl 0), hg, sIsFirst_v _ (signed_at hi hx), bind_s]
      rw [decide_eq_true (show (0 : Int) < (x0.length : Int) by omega), cond_t, cond_t, wd (n := (0 : Int) + 1) (by omega), decide_eq_false (by omega), cond_f, show (0 : Int) + 1 = ((0 + 1 : Nat) : Int) from rfl, ih]
      rw [show prevAt x0 0 = none from rfl, e, bif_some]; rfl
    | j + 1, hi, ih =>
      have e := fw_succ hi
      have hj : j < x0.length := by omega
      have ew : IntKind.i64.wrap (((j + 1 : Nat) : Int) - 1) = (j : Int) := by rw [wd (by omega)]; omega
      simp only [spec_FirstWrong.g4, lt_t hi, cond_t, ew, ge_t, lt_t hj, Int.toNat_natCast, at_n hi, at_n hj, sMay_v _ _ (head_at hj hx) (signed_at hi hx), bind_s]
      rw [show (((j + 1 : Nat) : Int) == (0 : Int)) = false by rw [beq_eq_false_iff_ne]; omega, cond_f, decide_eq_true (by omega), cond_t, w64_succ (by omega), ih, e, bif_some]
theorem iFirstWrong_l (x0 : List TSigned) (hx : sizeSignedS x0 ≤ 1050000) : ∀ i n, i ≤ x0.length → x0.length - i < n → impl_FirstWrong.l4 x0 n (x0.length : Int) (i : Int) = some (fw (prevAt x0 i) (x0.drop i) (i : Int)) := by
  have hl : x0.length ≤ 1050000 := by unfold sizeSignedS sizeS at hx; omega
  refine idx_ind ?_ ?_
  · intro n
    rw [impl_FirstWrong.u4]
    simp only [impl_FirstWrong.g4, lt_f (Nat.le_refl _), cond_f, fw_last]
  · intro i n hi ih
    rw [impl_FirstWrong.u4]
    match i, hi, ih with
    | 0, hi, ih =>
      have e := fw_zero hi
      have hg : x0.getD ((0 : Int).toNat) dSigned = x0[0] := at_n hi _
      simp only [impl_FirstWrong.g4, lt_t hi, cond_t, Int.natCast_zero, beq_self_eq_true, decide_eq_true (Int.le_refl 0), hg, iIsFirst_v _ (signed_at hi hx), bind_s]
      rw [decide_eq_true (show (0 : Int) < (x0.length : Int) by omega), cond_t, cond_t, wd (n := (0 : Int) + 1) (by omega), decide_eq_false (by omega), cond_f, show (0 : Int) + 1 = ((0 + 1 : Nat) : Int) from rfl, ih]
      rw [show prevAt x0 0 = none from rfl, e, bif_some]; rfl
    | j + 1, hi, ih =>
      have e := fw_succ hi
      have hj : j < x0.length := by omega
      have ew : IntKind.i64.wrap (((j + 1 : Nat) : Int) - 1) = (j : Int) := by rw [wd (by omega)]; omega
      simp only [impl_FirstWrong.g4, lt_t hi, cond_t, ew, ge_t, lt_t hj, Int.toNat_natCast, at_n hi, at_n hj, iMay_v _ _ (head_at hj hx) (signed_at hi hx), bind_s]
      rw [show (((j + 1 : Nat) : Int) == (0 : Int)) = false by rw [beq_eq_false_iff_ne]; omega, cond_f, decide_eq_true (by omega), cond_t, w64_succ (by omega), ih, e, bif_some]
noncomputable def isChain (xs : List TSigned) : Bool := inR (xs.length : Int) 1 12 && decide (fw none xs 0 < 0)
theorem sFirstWrong_v (x0 : List TSigned) (hx : sizeSignedS x0 ≤ 1050000) : spec_FirstWrong x0 = some (fw none x0 0) :=
  sFirstWrong_l x0 hx 0 KK (Nat.zero_le _) (KK_gt (by unfold sizeSignedS sizeS at hx; omega))
theorem iFirstWrong_v (x0 : List TSigned) (hx : sizeSignedS x0 ≤ 1050000) : impl_FirstWrong x0 = some (fw none x0 0) :=
  iFirstWrong_l x0 hx 0 KK (Nat.zero_le _) (KK_gt (by unfold sizeSignedS sizeS at hx; omega))
theorem sIsChain_v (x0 : List TSigned) (hx : sizeSignedS x0 ≤ 1050000) : spec_IsChain x0 = some (isChain x0) := by
  unfold spec_IsChain isChain
  exact aB (l1In_r _ _ _) (bnd (sFirstWrong_v x0 hx) rfl)
theorem iIsChain_v (x0 : List TSigned) (hx : sizeSignedS x0 ≤ 1050000) : impl_IsChain x0 = some (isChain x0) := by
  unfold impl_IsChain isChain
  exact aB (InRange_r _ _ _) (bnd (iFirstWrong_v x0 hx) rfl)
theorem isChain_len (xs : List TSigned) (h : isChain xs = true) : 1 ≤ xs.length ∧ xs.length ≤ 12 := by
  unfold isChain inR at h
  simp only [Bool.and_eq_true, decide_eq_true_eq] at h
  omega
noncomputable def ownersAt (xs : List TSigned) (e : Int) : TRKeysBool := bif isChain xs && inR e 0 (IntKind.i64.wrap ((xs.length : Int) - (1 : Int))) then RKeysBool_mk (Head_Keys (Signed_Head (xs.getD e.toNat dSigned))) true else dRKeysBool
theorem keys_getD (xs : List TSigned) (i : Nat) (n : Nat) (hx : sizeSignedS xs ≤ n) : sizeHead (Signed_Head (xs.getD i dSigned)) ≤ n := by
  by_cases h : i < xs.length
  · rw [at_n h]; exact head_at h hx
  · have e : xs.getD i dSigned = dSigned := by simp [List.getD, show xs.length ≤ i by omega]
    rw [e]; exact Nat.zero_le _
theorem iOwnersAt_v (xs : List TSigned) (e : Int) (hx : sizeSignedS xs ≤ 1050000) : impl_OwnersAt xs e = some (ownersAt xs e) := by
  have hg := heads_len _ (keys_getD xs e.toNat _ hx)
  unfold impl_OwnersAt ownersAt
  refine bnd (iIsChain_v xs hx) ?_
  cases hc : isChain xs with
  | false => rfl
  | true =>
    have hl := isChain_len xs hc
    refine bnd (InRange_r _ _ _) ?_
    cases hr : inR e 0 (IntKind.i64.wrap ((xs.length : Int) - (1 : Int))) with
    | false => rfl
    | true =>
      unfold inR at hr
      rw [wd (by omega)] at hr
      simp only [Bool.and_eq_true, decide_eq_true_eq] at hr
      exact cT (decide_eq_true hr.1) (cT (decide_eq_true (by omega)) (bnd (copyKeys_v _ hg.1) rfl))
theorem l5Copy_v (x : List ByteArray) (hx : x.length ≤ 1050000) : spec_l5Copy x = some x := by
  unfold spec_l5Copy
  rw [decide_eq_true (by simp; omega), cond_t]; rfl
theorem entry_path (e : TEntry) (hx : sizeEntry e ≤ 1050000) : e.2.2.2.length ≤ 1050000 := by
  unfold sizeEntry sizeStringS sizeS at hx; omega
theorem l8Copy_v (e : TEntry) (hx : sizeEntry e ≤ 1050000) : spec_l8Copy e = some e := by
  unfold spec_l8Copy
  exact bnd (l5Copy_v _ (entry_path e hx)) rfl
theorem R_alt (c : Bool) (h : THead) : RHeadBool_r1 (bif c then RHeadBool_mk h true else dRHeadBool) = c ∧ (c = true → RHeadBool_r0 (bif c then RHeadBool_mk h true else dRHeadBool) = h) := by
  cases c
  · exact ⟨rfl, fun h => Bool.noConfusion h⟩
  · exact ⟨rfl, fun _ => rfl⟩
theorem copyL {α : Type} (xs : List α) (d : α) (f : α → Option α) (hl : xs.length ≤ 1050000) (hf : ∀ i (h : i < xs.length), f xs[i] = some xs[i]) (l : Nat → List α → Int → Option (List α)) (u : ∀ n ys a, l (n + 1) ys a = (bif decide (a < (xs.length : Int)) then bif decide (0 ≤ a) then bif decide (a < (xs.length : Int)) then (f (xs.getD a.toNat d)).bind fun y1 => bif decide (ys.length + [y1].length < 68719476736) then l n (ys ++ [y1]) (IntKind.i64.wrap (a + (1 : Int))) else none else none else none else some ys)) : l KK [] (0 : Int) = some xs := by
  have hh : ∀ i n, i ≤ xs.length → xs.length - i < n → l n (xs.take i) (i : Int) = some xs := by
    refine idx_ind ?_ ?_
    · intro n
      rw [u]
      simp only [lt_f (Nat.le_refl _), cond_f, List.take_length]
    · intro i n hi ih
      rw [u]
      have hg : (xs.take i).length + [xs[i]].length < 68719476736 := by rw [List.length_take]; show _ + 1 < _; omega
      simp only [lt_t hi, ge_t, cond_t, Int.toNat_natCast, at_n hi, hf i hi, bind_s, w64_succ (i := i) (by omega), List.take_append_getElem hi]
      rw [decide_eq_true hg, cond_t]
      exact ih
  have := hh 0 KK (Nat.zero_le _) (KK_gt (by omega))
  rw [List.take_zero] at this
  exact this
def lastS (xs : List TSigned) : TSigned := xs.getD (IntKind.i64.wrap ((xs.length : Int) - (1 : Int))).toNat dSigned
noncomputable def lastHead (xs : List TSigned) : TRHeadBool := bif isChain xs then RHeadBool_mk (Signed_Head (lastS xs)) true else dRHeadBool
theorem wl {n : Nat} (h : 1 ≤ n ∧ n ≤ 12) : IntKind.i64.wrap ((n : Int) - (1 : Int)) = (n : Int) - 1 := wd (by omega)
theorem lastS_size (xs : List TSigned) (hx : sizeSignedS xs ≤ 1050000) : sizeHead (Signed_Head (lastS xs)) ≤ 1050000 := keys_getD xs _ _ hx
theorem sLastHead_v (xs : List TSigned) (hx : sizeSignedS xs ≤ 1050000) : spec_LastHead xs = some (lastHead xs) := by
  unfold spec_LastHead lastHead
  refine bnd (sIsChain_v xs hx) ?_
  cases hc : isChain xs with
  | false => rfl
  | true =>
    have hl := isChain_len xs hc
    exact cF rfl (cT (decide_eq_true (by rw [wl hl]; omega)) (cT (decide_eq_true (by rw [wl hl]; omega)) (bnd (l13Copy_v _ (lastS_size xs hx)) rfl)))
theorem last_v (xs : List TSigned) (hc : isChain xs = true) : impl_last xs = some (Signed_Head (lastS xs)) := by
  have hl := isChain_len xs hc
  unfold impl_last
  exact cT (decide_eq_true (by rw [wl hl]; omega)) (cT (decide_eq_true (by rw [wl hl]; omega)) rfl)
theorem iLastHead_v (xs : List TSigned) (hx : sizeSignedS xs ≤ 1050000) : impl_LastHead xs = some (lastHead xs) := by
  unfold impl_LastHead lastHead
  refine bnd (iIsChain_v xs hx) ?_
  cases hc : isChain xs with
  | false => rfl
  | true => exact bnd (last_v xs hc) (bnd (copyHead_v _ (lastS_size xs hx)) rfl)
noncomputable def hAt (xs : List TSigned) (now : Int) : Nat → TRHeadBool
  | 0 => dRHeadBool
  | n + 1 => bif decide (Head_Time (Signed_Head (xs.getD n dSigned)) ≤ now) then RHeadBool_mk (Signed_Head (xs.getD n dSigned)) true else hAt xs now n
noncomputable def headAt (xs : List TSigned) (now : Int) : TRHeadBool := bif isChain xs then hAt xs now xs.length else dRHeadBool
theorem hAt_l (xs : List TSigned) (now : Int) (hx : sizeSignedS xs ≤ 1050000) (cp : THead → Option THead) (hcp : ∀ h, sizeHead h ≤ 1050000 → cp h = some h) (l : Nat → Int → Option TRHeadBool) (u : ∀ n a, l (n + 1) a = (bif decide (a ≥ (0 : Int)) then bif decide (0 ≤ a) then bif decide (a < (xs.length : Int)) then bif decide ((Head_Time (Signed_Head (xs.getD a.toNat dSigned))) ≤ now) then bif decide (0 ≤ a) then bif decide (a < (xs.length : Int)) then (cp (Signed_Head (xs.getD a.toNat dSigned))).bind fun y2 => some (RHeadBool_mk y2 true) else none else none else l n (IntKind.i64.wrap (a - (1 : Int))) else none else none else some dRHeadBool)) : ∀ k n, k ≤ xs.length → k < n → l n ((k : Int) - 1) = some (hAt xs now k) := by
  have hl : xs.length ≤ 1050000 := by unfold sizeSignedS sizeS at hx; omega
  intro k
  induction k with
  | zero =>
    intro n _ hn
    cases n with
    | zero => omega
    | succ n => rw [u, decide_eq_false (by omega), cond_f]; rfl
  | succ k ih =>
    intro n hk hn
    cases n with
    | zero => omega
    | succ n =>
      have e : ((k + 1 : Nat) : Int) - 1 = (k : Int) := by omega
      have hk' : k < xs.length := by omega
      have e2 : IntKind.i64.wrap ((k : Int) - (1 : Int)) = (k : Int) - 1 := w64 (by omega) (by omega)
      rw [u, e, e2, ih n (by omega) (by omega)]
      simp only [ge_iff_le, ge_t, lt_t hk', cond_t, Int.toNat_natCast, hcp _ (keys_getD xs k _ hx), bind_s]
      show _ = some (bif decide (Head_Time (Signed_Head (xs.getD k dSigned)) ≤ now) then RHeadBool_mk (Signed_Head (xs.getD k dSigned)) true else hAt xs now k)
      cases decide (Head_Time (Signed_Head (xs.getD k dSigned)) ≤ now) <;> rfl
theorem sHeadAt_v (xs : List TSigned) (now : Int) (hx : sizeSignedS xs ≤ 1050000) : spec_HeadAt xs now = some (headAt xs now) := by
  unfold headAt
  refine bnd (sIsChain_v xs hx) ?_
  cases hc : isChain xs with
  | false => rfl
  | true =>
    have hl := isChain_len xs hc
    have h := hAt_l xs now hx spec_l13Copy l13Copy_v (spec_HeadAt.l8 xs now) (fun n a => spec_HeadAt.u8 xs now n a) xs.length KK (Nat.le_refl _) (KK_gt (by omega))
    show spec_HeadAt.l8 xs now KK (IntKind.i64.wrap ((xs.length : Int) - (1 : Int))) = _
    rw [wl hl]
    exact h
theorem iHeadAt_v (xs : List TSigned) (now : Int) (hx : sizeSignedS xs ≤ 1050000) : impl_HeadAt xs now = some (headAt xs now) := by
  unfold headAt
  refine bnd (iIsChain_v xs hx) ?_
  cases hc : isChain xs with
  | false => rfl
  | true =>
    have hl := isChain_len xs hc
    have h := hAt_l xs now hx impl_copyHead copyHead_v (impl_HeadAt.l8 xs now) (fun n a => impl_HeadAt.u8 xs now n a) xs.length KK (Nat.le_refl _) (KK_gt (by omega))
    show impl_HeadAt.l8 xs now KK (IntKind.i64.wrap ((xs.length : Int) - (1 : Int))) = _
    rw [wl hl]
    exact h
theorem hAt_size (xs : List TSigned) (now : Int) (hx : sizeSignedS xs ≤ 1050000) : ∀ k, sizeHead (RHeadBool_r0 (hAt xs now k)) ≤ 1050000
  | 0 => Nat.zero_le _
  | k + 1 => by
    show sizeHead (RHeadBool_r0 (bif decide (Head_Time (Signed_Head (xs.getD k dSigned)) ≤ now) then RHeadBool_mk (Signed_Head (xs.getD k dSigned)) true else hAt xs now k)) ≤ _
    cases decide (Head_Time (Signed_Head (xs.getD k dSigned)) ≤ now) with
    | false => exact hAt_size xs now hx k
    | true => rw [cond_t, (RHeadBool_s _ _).1]; exact keys_getD xs k _ hx
theorem headAt_size (xs : List TSigned) (now : Int) (hx : sizeSignedS xs ≤ 1050000) : sizeHead (RHeadBool_r0 (headAt xs now)) ≤ 1050000 := by
  unfold headAt
  cases isChain xs with
  | false => exact Nat.zero_le _
  | true => exact hAt_size xs now hx _
theorem l16Copy_v (xs : List TSigned) (hx : sizeSignedS xs ≤ 1050000) : spec_l16Copy xs = some xs :=
  copyL xs dSigned spec_l14Copy (by unfold sizeSignedS sizeS at hx; omega) (fun i h => l14Copy_v _ (signed_at h hx)) (fun n ys a => spec_l16Copy.l6 xs n a ys) (fun n ys a => spec_l16Copy.u6 xs n a ys)
theorem copyChain_v (xs : List TSigned) (hx : sizeSignedS xs ≤ 1050000) : impl_copyChain xs = some xs :=
  copyL xs dSigned impl_copySigned (by unfold sizeSignedS sizeS at hx; omega) (fun i h => copySigned_v _ (signed_at h hx)) (fun n ys a => impl_copyChain.l6 xs n (xs.length : Int) a ys) (fun n ys a => impl_copyChain.u6 xs n (xs.length : Int) a ys)
noncomputable def ext2 (xs : List TSigned) (s : TSigned) (v : Bool) : List TSigned × Int := bif v then (xs, 2) else bif nextCode (Signed_Head (lastS xs)) s != (1 : Int) then (xs, nextCode (Signed_Head (lastS xs)) s) else (xs ++ [s], 1)
noncomputable def ext (xs : List TSigned) (s : TSigned) : List TSigned × Int := ext2 xs s (!isChain xs || decide ((xs.length : Int) ≥ (12 : Int)))
theorem lastHead_r (xs : List TSigned) : RHeadBool_r1 (lastHead xs) = isChain xs ∧ (isChain xs = true → RHeadBool_r0 (lastHead xs) = Signed_Head (lastS xs)) := R_alt (isChain xs) (Signed_Head (lastS xs))
theorem app_ok (xs : List TSigned) (s : TSigned) (hx : sizeSignedS xs ≤ 1050000) : decide (xs.length + [s].length < 68719476736) = true := by
  refine decide_eq_true ?_
  show xs.length + 1 < _
  unfold sizeSignedS sizeS at hx
  omega
theorem sExt7_v (xs : List TSigned) (s : TSigned) (hx : sizeSignedS xs ≤ 1050000) (hs : sizeSigned s ≤ 1050000) (hc : isChain xs = true) (v : Bool) : spec_Extend.l7 xs s (lastHead xs) v = some (ext2 xs s v) := by
  unfold ext2
  cases v with
  | true => exact bnd (l16Copy_v xs hx) rfl
  | false =>
    show ((spec_NextCode (RHeadBool_r0 (lastHead xs)) s).bind _) = _
    rw [(lastHead_r xs).2 hc]
    refine bnd (sNextCode_v _ s (lastS_size xs hx) hs) ?_
    cases nextCode (Signed_Head (lastS xs)) s != (1 : Int) with
    | true => exact bnd (l16Copy_v xs hx) rfl
    | false => exact bnd (l16Copy_v xs hx) (bnd (l14Copy_v s hs) (cT (app_ok xs s hx) rfl))
theorem sExtend_v (xs : List TSigned) (s : TSigned) (hx : sizeSignedS xs ≤ 1050000) (hs : sizeSigned s ≤ 1050000) : spec_Extend xs s = some (ext xs s) := by
  unfold ext
  refine bnd (sLastHead_v xs hx) ?_
  rw [(lastHead_r xs).1]
  cases hc : isChain xs with
  | false => exact bnd (l16Copy_v xs hx) rfl
  | true => exact sExt7_v xs s hx hs hc _
theorem iExt7_v (xs : List TSigned) (s : TSigned) (hx : sizeSignedS xs ≤ 1050000) (hs : sizeSigned s ≤ 1050000) (hc : isChain xs = true) (v : Bool) : impl_Extend.l7 xs s xs v = some (ext2 xs s v) := by
  unfold ext2
  cases v with
  | true => rfl
  | false =>
    refine bnd (last_v xs hc) (bnd (iNextCode_v _ s (lastS_size xs hx) hs) ?_)
    cases nextCode (Signed_Head (lastS xs)) s != (1 : Int) with
    | true => rfl
    | false => exact bnd (copySigned_v s hs) (cT (app_ok xs s hx) rfl)
theorem iExtend_v (xs : List TSigned) (s : TSigned) (hx : sizeSignedS xs ≤ 1050000) (hs : sizeSigned s ≤ 1050000) : impl_Extend xs s = some (ext xs s) := by
  unfold ext
  refine bnd (copyChain_v xs hx) (bnd (iIsChain_v xs hx) ?_)
  cases hc : isChain xs with
  | false => rfl
  | true => exact iExt7_v xs s hx hs hc _
def hq (s t : TSigned) : Bool := eqHeads (Signed_Head s) (Signed_Head t)
def preB (a b : List TSigned) : Bool := decide (a.length ≤ b.length) && all2 hq a b
theorem preL (a b : List TSigned) (h : a.length ≤ b.length) (hl : a.length ≤ 1050000) (f : THead → THead → Option Bool) (hf : ∀ i (ha : i < a.length) (hb : i < b.length), f (Signed_Head a[i]) (Signed_Head b[i]) = some (hq a[i] b[i])) (l : Nat → Int → Option Bool) (u : ∀ n v, l (n + 1) v = (bif decide (v < (a.length : Int)) then bif decide (0 ≤ v) then bif decide (v < (a.length : Int)) then bif decide (0 ≤ v) then bif decide (v < (b.length : Int)) then (f (Signed_Head (a.getD v.toNat dSigned)) (Signed_Head (b.getD v.toNat dSigned))).bind fun y1 => bif !y1 then some false else l n (IntKind.i64.wrap (v + (1 : Int))) else none else none else none else none else some true)) : l KK (0 : Int) = some (all2 hq a b) := by
  have hh : ∀ i n, i ≤ a.length → a.length - i < n → l n (i : Int) = some (all2 hq (a.drop i) (b.drop i)) := by
    refine idx_ind ?_ ?_
    · intro n
      rw [u]
      simp only [lt_f (Nat.le_refl _), cond_f, List.drop_length]
      cases b.drop a.length <;> rfl
    · intro i n hi ih
      have hi' : i < b.length := by omega
      rw [u]
      simp only [lt_t hi, lt_t hi', ge_t, cond_t, Int.toNat_natCast, at_n hi, at_n hi', hf i hi hi', bind_s, w64_succ (i := i) (by omega), ih, all2_step hq hi hi']
      cases hq a[i] b[i] <;> rfl
  have := hh 0 KK (Nat.zero_le _) (KK_gt (by omega))
  rw [List.drop_zero, List.drop_zero] at this
  exact this
theorem iIsPrefix_v (a b : List TSigned) (hx : sizeSignedS a ≤ 1050000) (hy : sizeSignedS b ≤ 1050000) : impl_IsPrefix a b = some (preB a b) := by
  unfold impl_IsPrefix preB
  by_cases h : a.length ≤ b.length
  · rw [decide_eq_true h, Bool.true_and]
    exact cF (decide_eq_false (by omega)) (preL a b h (by unfold sizeSignedS sizeS at hx; omega) impl_EqualHeads (fun i ha hb => iEqualHeads_v _ _ (head_at ha hx) (head_at hb hy)) (fun n v => impl_IsPrefix.l8 a b n (a.length : Int) v) (fun n v => impl_IsPrefix.u8 a b n (a.length : Int) v))
  · rw [decide_eq_false h, Bool.false_and]
    exact cT (decide_eq_true (by omega)) rfl
theorem cmp_less : ∀ a b : List UInt8, Lib.compareBytes a b = bif Op.bytesLess a b then (-1 : Int) else bif a == b then 0 else 1
  | [], [] => rfl
  | [], _ :: _ => rfl
  | _ :: _, [] => rfl
  | a :: x, b :: y => by
    have ih := cmp_less x y
    unfold Lib.compareBytes Op.bytesLess
    by_cases h : a < b
    · rw [if_pos h, decide_eq_true h, Bool.true_or]; rfl
    · rw [if_neg h, decide_eq_false h, Bool.false_or]
      by_cases g : b < a
      · rw [if_pos g]
        have ne : (a == b) = false := by rw [beq_eq_false_iff_ne]; rintro rfl; exact h g
        have ne2 : (a :: x == b :: y) = false := by rw [List.cons_beq_cons, ne, Bool.false_and]
        rw [ne, ne2, Bool.false_and]; rfl
      · have e : a = b := UInt8.le_antisymm (UInt8.not_lt.1 g) (UInt8.not_lt.1 h)
        subst e
        rw [if_neg g, ih, beq_self_eq_true, Bool.true_and, List.cons_beq_cons, beq_self_eq_true, Bool.true_and]
def cmpS (a b : ByteArray) : Int := Lib.compareBytes a.data.toList b.data.toList
def allN (p : Nat → Bool) (n : Nat) : Bool := decide (∀ i, i < n → p i = true)
theorem allN_iff (p : Nat → Bool) (n : Nat) : allN p n = true ↔ ∀ i, i < n → p i = true := by unfold allN; exact decide_eq_true_iff
theorem allL {len : Nat} (hl : len ≤ 1152921504606846976) (p : Nat → Bool) (z : Bool) (l : Nat → Int → Option Bool) (u0 : ∀ n, l (n + 1) (len : Int) = some z) (u : ∀ n i, i < len → l (n + 1) (i : Int) = bif p i then l n ((i + 1 : Nat) : Int) else some false) : l KK (0 : Int) = some (allN p len && z) := by
  have hh : ∀ i n, i ≤ len → len - i < n → l n (i : Int) = some (decide (∀ j, j < len → i ≤ j → p j = true) && z) := by
    refine idx_ind ?_ ?_
    · intro n
      have e : decide (∀ j, j < len → len ≤ j → p j = true) = true := decide_eq_true (fun j h1 h2 => absurd h1 (by omega))
      rw [u0, e, Bool.true_and]
    · intro i n hi ih
      rw [u n i hi, ih]
      cases hp : p i with
      | false =>
        have e : decide (∀ j, j < len → i ≤ j → p j = true) = false := decide_eq_false (fun h => by have := h i hi (Nat.le_refl _); rw [hp] at this; cases this)
        rw [cond_f, e, Bool.false_and]
      | true =>
        rw [cond_t]
        have e : decide (∀ j, j < len → i ≤ j → p j = true) = decide (∀ j, j < len → i + 1 ≤ j → p j = true) := by
          refine decide_eq_decide.2 ⟨fun h j h1 h2 => h j h1 (by omega), fun h j h1 h2 => ?_⟩
          by_cases e : j = i
          · subst e; exact hp
          · exact h j h1 (by omega)
        rw [e]
  have := hh 0 KK (Nat.zero_le _) (KK_gt (by omega))
  have e : decide (∀ j, j < len → 0 ≤ j → p j = true) = allN p len := decide_eq_decide.2 ⟨fun h j h1 => h j h1 (Nat.zero_le _), fun h j h1 _ => h j h1⟩
  rw [e] at this
  exact this
def lcS (c : Int) : Bool := (!(decide (c < 97) || decide (c > 122))) || (!(decide (c < 48) || decide (c > 57)))
def btN (s : ByteArray) (i : Nat) : Int := V.bt s (i : Int)
theorem sIsLabel_l (s : ByteArray) (hs : s.size ≤ 1050000) : spec_IsLabel.l7 s = some (allN (fun i => lcS (btN s i) || !(btN s i != (45 : Int))) s.size && true) := by
  refine allL (by omega) _ _ (spec_IsLabel.l8 s) (fun n => ?_) (fun n i hi => ?_)
  · rw [spec_IsLabel.u8]
    simp only [spec_IsLabel.g8, lt_f (Nat.le_refl _), cond_f]
  · rw [spec_IsLabel.u8]
    simp only [spec_IsLabel.g8, lt_t hi, ge_t, cond_t, w64_succ (i := i) (by omega)]
    rw [show V.bt s (i : Int) = btN s i from rfl]
    generalize btN s i = c
    unfold lcS
    cases decide (c < 97) <;> cases decide (c > 122) <;> cases decide (c < 48) <;> cases decide (c > 57) <;> cases (c != (45 : Int)) <;> rfl
def isLabel (s : ByteArray) : Bool := (decide (1 ≤ s.size) && decide (s.size ≤ 8)) && (allN (fun i => lcS (btN s i) || ((btN s i == (45 : Int)) && (decide (0 < i) && decide (i + 1 < s.size)))) s.size)
theorem lc45 : lcS 45 = false := by decide
theorem sIsLabel_v (s : ByteArray) (hs : s.size ≤ 1050000) : spec_IsLabel s = some (isLabel s) := by
  unfold spec_IsLabel
  rw [sIsLabel_l s hs]
  refine bnd (l1In_v _ _ _) ?_
  by_cases hl : 1 ≤ s.size ∧ s.size ≤ 8
  · have hw : IntKind.i64.wrap ((s.size : Int) - (1 : Int)) = ((s.size - 1 : Nat) : Int) := by rw [wd (by omega)]; omega
    refine cF (by rw [decide_eq_true (by omega), decide_eq_true (by omega)]; rfl) (cT rfl (cT (decide_eq_true (by omega)) ?_))
    rw [hw]
    rw [show V.bt s (0 : Int) = btN s 0 from rfl, show V.bt s ((s.size - 1 : Nat) : Int) = btN s (s.size - 1) from rfl]
    have key : (bif btN s 0 == (45 : Int) then false else bif btN s (s.size - 1) == (45 : Int) then false else (allN (fun i => lcS (btN s i) || !(btN s i != (45 : Int))) s.size && true)) = isLabel s := by
      unfold isLabel
      rw [decide_eq_true hl.1, decide_eq_true hl.2, Bool.and_self, Bool.true_and, Bool.and_true]
      refine bool_eq ?_
      rw [allN_iff]
      constructor
      · intro h i hi
        cases h0 : (btN s 0 == (45 : Int)) with
        | true => rw [h0] at h; cases h
        | false =>
          rw [h0, cond_f] at h
          cases h1 : (btN s (s.size - 1) == (45 : Int)) with
          | true => rw [h1] at h; cases h
          | false =>
            rw [h1, cond_f, allN_iff] at h
            have := h i hi
            simp only [Bool.or_eq_true, Bool.and_eq_true, decide_eq_true_eq, Bool.not_eq_true', bne_eq_false_iff_eq] at this ⊢
            refine this.imp_right fun g => ⟨by rw [g]; rfl, ?_, ?_⟩
            · refine Nat.pos_of_ne_zero fun e => ?_
              subst e
              rw [g] at h0; cases h0
            · refine Nat.lt_of_not_le fun e => ?_
              have e2 : i = s.size - 1 := by omega
              subst e2
              rw [g] at h1; cases h1
      · intro h
        have h0 : (btN s 0 == (45 : Int)) = false := by
          cases hc : (btN s 0 == (45 : Int)) with
          | false => rfl
          | true =>
            have e : btN s 0 = 45 := eq_of_beq hc
            have := h 0 (by omega)
            rw [e, lc45] at this
            simp at this
        have h1 : (btN s (s.size - 1) == (45 : Int)) = false := by
          cases hc : (btN s (s.size - 1) == (45 : Int)) with
          | false => rfl
          | true =>
            have e : btN s (s.size - 1) = 45 := eq_of_beq hc
            have := h (s.size - 1) (by omega)
            rw [e, lc45] at this
            simp only [Bool.false_or, Bool.and_eq_true, decide_eq_true_eq] at this
            omega
        rw [h0, h1, cond_f, cond_f, allN_iff]
        intro i hi
        have := h i hi
        simp only [Bool.or_eq_true, Bool.and_eq_true] at this
        rw [Bool.or_eq_true]
        refine this.imp_right fun g => ?_
        have e : btN s i = 45 := eq_of_beq g.1
        rw [e]; rfl
    rw [← key]
    cases (btN s 0 == (45 : Int)) with
    | true => rfl
    | false =>
      refine cF rfl (cT ge_t (cT (lt_t (by omega)) ?_))
      cases (btN s (s.size - 1) == (45 : Int)) <;> rfl
  · have e : isLabel s = false := by
      unfold isLabel
      have : (decide (1 ≤ s.size) && decide (s.size ≤ 8)) = false := by
        rw [← Bool.decide_and]
        exact decide_eq_false hl
      rw [this, Bool.false_and]
    rw [e]
    refine cT ?_ rfl
    by_cases h1 : 1 ≤ s.size
    · rw [decide_eq_true (show (1 : Int) ≤ (s.size : Int) by omega), decide_eq_false (show ¬ (s.size : Int) ≤ 8 by omega)]; rfl
    · rw [decide_eq_false (show ¬ (1 : Int) ≤ (s.size : Int) by omega)]; rfl
theorem entry_label (e : TEntry) {n : Nat} (hx : sizeEntry e ≤ n) : e.1.size ≤ n := by
  unfold sizeEntry sizeStr at hx; omega
theorem entry_paths (e : TEntry) {n : Nat} (hx : sizeEntry e ≤ n) : sizeStringS e.2.2.2 ≤ n := by
  unfold sizeEntry at hx; omega
theorem str_at {xs : List ByteArray} {i : Nat} (h : i < xs.length) {n : Nat} (hx : sizeStringS xs ≤ n) : xs[i].size ≤ n := by
  have := size_at sizeStr h
  unfold sizeStringS sizeS at hx
  unfold sizeStr at this hx
  omega
def isPath (p : List ByteArray) : Bool := (decide ((1 : Int) ≤ (p.length : Int)) && decide ((p.length : Int) ≤ 4)) && p.all isLabel
theorem allGet {α : Type} (xs : List α) (p : α → Bool) (q : Nat → Bool) (h : ∀ i (hi : i < xs.length), q i = p xs[i]) : allN q xs.length = xs.all p := by
  refine bool_eq ?_
  rw [allN_iff, List.all_eq_true]
  constructor
  · intro g x hx
    obtain ⟨i, hi, rfl⟩ := List.getElem_of_mem hx
    rw [← h i hi]
    exact g i hi
  · intro g i hi
    rw [h i hi]
    exact g _ (List.getElem_mem _)
theorem sIsPath_v (p : List ByteArray) (hp : sizeStringS p ≤ 1050000) : spec_IsPath p = some (isPath p) := by
  have hl : p.length ≤ 1050000 := by unfold sizeStringS sizeS at hp; omega
  refine (allL (len := p.length) (by omega) (fun i => isLabel (p.getD i (⟨#[]⟩ : ByteArray))) (decide ((1 : Int) ≤ (p.length : Int)) && decide ((p.length : Int) ≤ 4)) (spec_IsPath.l4 p) (fun n => ?_) (fun n i hi => ?_)).trans ?_
  · rw [spec_IsPath.u4]
    simp only [spec_IsPath.g4, lt_f (Nat.le_refl _), cond_f]
    exact bnd (l1In_v _ _ _) rfl
  · rw [spec_IsPath.u4]
    simp only [spec_IsPath.g4, lt_t hi, ge_t, cond_t, w64_succ (i := i) (by omega), Int.toNat_natCast, at_n hi]
    rw [sIsLabel_v _ (str_at hi hp), bind_s]
    cases isLabel p[i] <;> rfl
  · unfold isPath
    rw [allGet p isLabel _ (fun i hi => by rw [at_n hi]), Bool.and_comm]
def inR2 (a b c : Int) : Bool := decide (b ≤ a) && decide (a ≤ c)
def isEntry (e : TEntry) : Bool := isLabel e.1 && (bif e.2.1 == (1 : Int) then inR2 e.2.2.1 0 999999 && ((e.2.2.2.length : Int) == (0 : Int)) else bif e.2.1 == (2 : Int) then inR2 e.2.2.1 0 2147483646 && ((e.2.2.2.length : Int) == (0 : Int)) else bif e.2.1 == (3 : Int) then inR2 e.2.2.1 0 2147483646 && isPath e.2.2.2 else false)
theorem sIsEntry_v (e : TEntry) (hx : sizeEntry e ≤ 1050000) : spec_IsEntry e = some (isEntry e) := by
  have h1 := sIsLabel_v e.1 (entry_label e hx)
  have h2 := sIsPath_v e.2.2.2 (entry_paths e hx)
  unfold spec_IsEntry isEntry
  cases e.2.1 == (1 : Int) with
  | true =>
    refine cT rfl (bnd h1 ?_)
    cases isLabel e.1 with
    | false => rfl
    | true =>
      refine cT rfl (bnd (l1In_v _ _ _) ?_)
      show _ = some (true && (inR2 e.2.2.1 0 999999 && _))
      unfold inR2
      cases (decide (0 ≤ e.2.2.1) && decide (e.2.2.1 ≤ 999999)) <;> rfl
  | false =>
    refine cF rfl ?_
    cases e.2.1 == (2 : Int) with
    | true =>
      refine cT rfl (bnd h1 ?_)
      cases isLabel e.1 with
      | false => rfl
      | true =>
        refine cT rfl (bnd (l1In_v _ _ _) ?_)
        show _ = some (true && (inR2 e.2.2.1 0 2147483646 && _))
        unfold inR2
        cases (decide (0 ≤ e.2.2.1) && decide (e.2.2.1 ≤ 2147483646)) <;> rfl
    | false =>
      refine cF rfl ?_
      cases e.2.1 == (3 : Int) with
      | true =>
        refine cT rfl (bnd h1 ?_)
        cases isLabel e.1 with
        | false => rfl
        | true =>
          refine cT rfl (bnd (l1In_v _ _ _) ?_)
          show _ = some (true && (inR2 e.2.2.1 0 2147483646 && _))
          unfold inR2
          cases (decide (0 ≤ e.2.2.1) && decide (e.2.2.1 ≤ 2147483646)) with
          | false => rfl
          | true => exact cT rfl (bnd h2 (by rw [Bool.true_and, Bool.true_and]))
      | false => exact cF rfl (by rw [cond_f, cond_f, cond_f, Bool.and_false])
theorem sCompare_v (a b : ByteArray) : spec_CompareLabels a b = some (cmpS a b) := by
  unfold spec_CompareLabels cmpS
  rw [cmp_less, ByteArray.toList_eq, ByteArray.toList_eq]
  cases Op.bytesLess a.data.toList b.data.toList with
  | true => rfl
  | false => cases a.data.toList == b.data.toList <;> rfl
def areEntries (xs : List TEntry) : Bool := allN (fun i => isEntry (xs.getD i dEntry) && (decide (i = 0) || cmpS (xs.getD (i - 1) dEntry).1 (xs.getD i dEntry).1 == -1)) xs.length && decide ((xs.length : Int) ≤ (12 : Int))
theorem sAreEntries_v (xs : List TEntry) (hx : sizeEntryS xs ≤ 1050000) : spec_AreEntries xs = some (areEntries xs) := by
  have hl : xs.length ≤ 1050000 := by unfold sizeEntryS sizeS at hx; omega
  refine allL (len := xs.length) (by omega) _ _ (spec_AreEntries.l4 xs) (fun n => ?_) (fun n i hi => ?_)
  · rw [spec_AreEntries.u4]
    simp only [spec_AreEntries.g4, lt_f (Nat.le_refl _), cond_f]
  · rw [spec_AreEntries.u4]
    simp only [spec_AreEntries.g4, lt_t hi, ge_t, cond_t, w64_succ (i := i) (by omega), Int.toNat_natCast, at_n hi]
    rw [sIsEntry_v _ (entry_at hi hx), bind_s]
    cases isEntry xs[i] with
    | false => rfl
    | true =>
      by_cases h0 : i = 0
      · subst h0; rfl
      · have ew : IntKind.i64.wrap ((i : Int) - 1) = ((i - 1 : Nat) : Int) := by rw [w64 (by omega) (by omega)]; omega
        rw [decide_eq_true (show (i : Int) > 0 by omega), decide_eq_false h0, ew]
        refine cF rfl (cT rfl (cT ge_t (cT (lt_t (by omega)) (bnd (sCompare_v _ _) ?_))))
        rw [Int.toNat_natCast, Bool.true_and, Bool.false_or]
        show _ = bif (cmpS (xs.getD (i - 1) dEntry).1 xs[i].1 == -1) then _ else _
        show (bif !(cmpS (xs.getD (i - 1) dEntry).1 xs[i].1 == -1) then _ else _) = _
        cases (cmpS (xs.getD (i - 1) dEntry).1 xs[i].1 == -1) <;> rfl
theorem mapL {α β : Type} (xs : List α) (d : α) (f : α → Option β) (g : α → β) (pre : List β) (hl : xs.length ≤ 1050000) (hp : pre.length ≤ 1050000) (hf : ∀ i (h : i < xs.length), f xs[i] = some (g xs[i])) (l : Nat → List β → Int → Option (List β)) (u : ∀ n ys a, l (n + 1) ys a = (bif decide (a < (xs.length : Int)) then bif decide (0 ≤ a) then bif decide (a < (xs.length : Int)) then (f (xs.getD a.toNat d)).bind fun y1 => bif decide (ys.length + [y1].length < 68719476736) then l n (ys ++ [y1]) (IntKind.i64.wrap (a + (1 : Int))) else none else none else none else some ys)) : l KK pre (0 : Int) = some (pre ++ xs.map g) := by
  have hh : ∀ i n, i ≤ xs.length → xs.length - i < n → l n (pre ++ (xs.take i).map g) (i : Int) = some (pre ++ xs.map g) := by
    refine idx_ind ?_ ?_
    · intro n
      rw [u]
      simp only [lt_f (Nat.le_refl _), cond_f, List.take_length]
    · intro i n hi ih
      rw [u]
      have hg : (pre ++ (xs.take i).map g).length + [g xs[i]].length < 68719476736 := by rw [List.length_append, List.length_map, List.length_take]; show _ + 1 < _; omega
      simp only [lt_t hi, ge_t, cond_t, Int.toNat_natCast, at_n hi, hf i hi, bind_s, w64_succ (i := i) (by omega)]
      rw [decide_eq_true hg, cond_t]
      have e : pre ++ (xs.take i).map g ++ [g xs[i]] = pre ++ (xs.take (i + 1)).map g := by
        rw [List.append_assoc, ← List.take_append_getElem hi, List.map_append]; rfl
      rw [e]
      exact ih
  have := hh 0 KK (Nat.zero_le _) (KK_gt (by omega))
  rw [List.take_zero, List.map_nil, List.append_nil] at this
  exact this
theorem catL {α β : Type} (xs : List α) (d : α) (f : α → Option (List β)) (g : α → List β) (pre : List β) (B : Nat) (hB : pre.length + (xs.flatMap g).length ≤ B) (hB2 : B ≤ 1073741824) (hl : xs.length ≤ 1050000) (hf : ∀ i (h : i < xs.length), f xs[i] = some (g xs[i])) (l : Nat → List β → Int → Option (List β)) (u : ∀ n ys a, l (n + 1) ys a = (bif decide (a < (xs.length : Int)) then bif decide (0 ≤ a) then bif decide (a < (xs.length : Int)) then (f (xs.getD a.toNat d)).bind fun y1 => bif decide (ys.length + y1.length < 68719476736) then l n (ys ++ y1) (IntKind.i64.wrap (a + (1 : Int))) else none else none else none else some ys)) : l KK pre (0 : Int) = some (pre ++ xs.flatMap g) := by
  have hh : ∀ i n, i ≤ xs.length → xs.length - i < n → l n (pre ++ (xs.take i).flatMap g) (i : Int) = some (pre ++ xs.flatMap g) := by
    refine idx_ind ?_ ?_
    · intro n
      rw [u]
      simp only [lt_f (Nat.le_refl _), cond_f, List.take_length]
    · intro i n hi ih
      rw [u]
      have e : pre ++ (xs.take i).flatMap g ++ g xs[i] = pre ++ (xs.take (i + 1)).flatMap g := by
        rw [List.append_assoc, ← List.take_append_getElem hi, List.flatMap_append, List.flatMap_singleton]
      have hle : (pre ++ (xs.take (i + 1)).flatMap g).length ≤ B := by
        have : (xs.flatMap g).length = ((xs.take (i + 1)).flatMap g).length + ((xs.drop (i + 1)).flatMap g).length := by
          rw [← List.length_append, ← List.flatMap_append, List.take_append_drop]
        rw [List.length_append]; omega
      have hg : (pre ++ (xs.take i).flatMap g).length + (g xs[i]).length < 68719476736 := by
        rw [← List.length_append, e]; omega
      simp only [lt_t hi, ge_t, cond_t, Int.toNat_natCast, at_n hi, hf i hi, bind_s, w64_succ (i := i) (by omega)]
      rw [decide_eq_true hg, cond_t, e]
      exact ih
  have := hh 0 KK (Nat.zero_le _) (KK_gt (by omega))
  rw [List.take_zero, List.flatMap_nil, List.append_nil] at this
  exact this
theorem bytesOf_ln (s : ByteArray) : (V.bytesOf s).length = s.size := by
  unfold V.bytesOf
  rw [List.length_map, Array.length_toList]; rfl
noncomputable def bti (xs : List Int) : List Int := (xs.length : Int) :: xs.map IntKind.i64.wrap
theorem bti_len (xs : List Int) : (bti xs).length = xs.length + 1 := by unfold bti; rw [List.length_cons, List.length_map]
theorem sBti_v (xs : List Int) (hx : xs.length ≤ 1050000) : spec_BytesToInts xs = some (bti xs) :=
  mapL xs 0 (fun a => some (IntKind.i64.wrap a)) IntKind.i64.wrap [(xs.length : Int)] hx (by simp) (fun i h => rfl) (fun n ys a => spec_BytesToInts.l6 xs n a ys) (fun n ys a => spec_BytesToInts.u6 xs n a ys)
theorem smallS_t {s : ByteArray} (hs : s.size ≤ 1050000) : V.smallS s = true := by
  rw [V.smallS_eq]
  exact decide_eq_true (by show (s.size : Int) < 68719476736; omega)
noncomputable def lints (s : ByteArray) : List Int := bti (V.bytesOf s)
theorem lints_len (s : ByteArray) : (lints s).length = s.size + 1 := by unfold lints; rw [bti_len, bytesOf_ln]
theorem sLints_v (s : ByteArray) (hs : s.size ≤ 1050000) : spec_LabelInts s = some (lints s) := by
  unfold spec_LabelInts
  exact cT (smallS_t hs) (bnd (sBti_v _ (by rw [bytesOf_ln]; exact hs)) rfl)
noncomputable def eints (e : TEntry) : List Int := (lints e.1 ++ [e.2.1, e.2.2.1, (e.2.2.2.length : Int)]) ++ e.2.2.2.flatMap lints
theorem flat_len (p : List ByteArray) : (p.flatMap lints).length = sizeStringS p := by
  unfold sizeStringS sizeS
  induction p with
  | nil => rfl
  | cons x t ih =>
    rw [List.flatMap_cons, List.length_append, ih, lints_len, List.length_cons, List.map_cons, List.sum_cons]
    unfold sizeStr
    omega
theorem eints_len (e : TEntry) : (eints e).length = sizeEntry e + 4 := by
  unfold eints sizeEntry sizeStr
  rw [List.length_append, List.length_append, lints_len, flat_len]
  show e.1.size + 1 + 3 + _ = _
  omega
theorem eL (e : TEntry) (hx : sizeEntry e ≤ 1050000) (f : ByteArray → Option (List Int)) (hf : ∀ s, s.size ≤ 1050000 → f s = some (lints s)) (l : Nat → List Int → Int → Option (List Int)) (u : ∀ n ys a, l (n + 1) ys a = (bif decide (a < (e.2.2.2.length : Int)) then bif decide (0 ≤ a) then bif decide (a < (e.2.2.2.length : Int)) then (f (e.2.2.2.getD a.toNat (⟨#[]⟩ : ByteArray))).bind fun y1 => bif decide (ys.length + y1.length < 68719476736) then l n (ys ++ y1) (IntKind.i64.wrap (a + (1 : Int))) else none else none else none else some ys)) : ((f e.1).bind fun y1 => bif decide (y1.length + [e.2.1, e.2.2.1, (e.2.2.2.length : Int)].length < 68719476736) then l KK (y1 ++ [e.2.1, e.2.2.1, (e.2.2.2.length : Int)]) (0 : Int) else none) = some (eints e) := by
  have h1 := entry_label e hx
  have h2 := entry_paths e hx
  refine bnd (hf _ h1) (cT (decide_eq_true (by rw [lints_len]; show _ + 3 < _; omega)) ?_)
  exact catL e.2.2.2 (⟨#[]⟩ : ByteArray) f lints _ 2200000 (by rw [List.length_append, lints_len, flat_len]; show _ + 3 + _ ≤ _; omega) (by omega) (by unfold sizeStringS sizeS at h2; omega) (fun i h => hf _ (str_at h h2)) l u
theorem sEints_v (e : TEntry) (hx : sizeEntry e ≤ 1050000) : spec_EntryInts e = some (eints e) :=
  eL e hx spec_LabelInts sLints_v (fun n ys a => spec_EntryInts.l6 e n a ys) (fun n ys a => spec_EntryInts.u6 e n a ys)
def hs (xs : List Int) : Int := xs.foldl hstep 11
noncomputable def leafOf (e : TEntry) : Int := hs (227 :: eints e)
theorem sLeaf_v (e : TEntry) (hx : sizeEntry e ≤ 1050000) : spec_LeafOf e = some (leafOf e) := by
  unfold spec_LeafOf
  have hl := eints_len e
  exact bnd (sEints_v e hx) (cT (decide_eq_true (by show 1 + _ < _; omega)) (bnd (sHash_v _ (show ([(227 : Int)] ++ eints e).length ≤ _ by rw [List.length_append]; show 1 + _ ≤ _; omega)) rfl))
noncomputable def leaves (xs : List TEntry) : List Int := xs.map leafOf
theorem leaves_len (xs : List TEntry) : (leaves xs).length = xs.length := List.length_map ..
theorem sLeaves_v (xs : List TEntry) (hx : sizeEntryS xs ≤ 1050000) : spec_LeavesOf xs = some (leaves xs) :=
  mapL xs dEntry spec_LeafOf leafOf [] (by unfold sizeEntryS sizeS at hx; omega) (by simp) (fun i h => sLeaf_v _ (entry_at h hx)) (fun n ys a => spec_LeavesOf.l6 xs n a ys) (fun n ys a => spec_LeavesOf.u6 xs n a ys)
def node (a b : Int) : Int := hs [229, a, b]
theorem sNode_v (a b : Int) : spec_NodeOf a b = some (node a b) := bnd (sHash_v _ (by show 3 ≤ _; omega)) rfl
def up : List Int → List Int
  | a :: b :: t => node a b :: up t
  | [a] => [a]
  | [] => []
theorem up_len : ∀ xs : List Int, (up xs).length = (xs.length + 1) / 2
  | [] => by rw [up]; rfl
  | [a] => by simp [up]
  | a :: b :: t => by
    show (up t).length + 1 = (t.length + 1 + 1 + 1) / 2
    rw [up_len t]; omega
theorem upL (f : Int → Int → Option Int) (hf : ∀ a b, f a b = some (node a b)) (xs : List Int) (hx : xs.length ≤ 1050000) (l : Nat → Int → List Int → Option (List Int)) (u : ∀ n a ys, l (n + 1) a ys = (bif decide (a < (xs.length : Int)) then bif decide ((IntKind.i64.wrap (a + (1 : Int))) < (xs.length : Int)) then bif decide (0 ≤ a) then bif decide (a < (xs.length : Int)) then bif decide (0 ≤ (IntKind.i64.wrap (a + (1 : Int)))) then bif decide ((IntKind.i64.wrap (a + (1 : Int))) < (xs.length : Int)) then (f (xs.getD a.toNat (0 : Int)) (xs.getD ((IntKind.i64.wrap (a + (1 : Int))).toNat) (0 : Int))).bind fun y1 => bif decide (ys.length + [y1].length < 68719476736) then l n (IntKind.i64.wrap (a + (2 : Int))) (ys ++ [y1]) else none else none else none else none else none else bif decide (0 ≤ a) then bif decide (a < (xs.length : Int)) then bif decide (ys.length + [xs.getD a.toNat (0 : Int)].length < 68719476736) then l n (IntKind.i64.wrap (a + (2 : Int))) (ys ++ [xs.getD a.toNat (0 : Int)]) else none else none else none else some ys)) : l KK (0 : Int) [] = some (up xs) := by
  have hh : ∀ (suf : List Int) (i n : Nat) (ys : List Int), suf = xs.drop i → suf.length < n → ys.length ≤ i → i ≤ xs.length + 1 → l n (i : Int) ys = some (ys ++ up suf) := by
    intro suf
    induction suf using up.induct with
    | case1 a b t ih =>
      intro i n ys hs hn hy hi0
      have hlen : (xs.drop i).length = t.length + 2 := by rw [← hs]; rfl
      rw [List.length_drop] at hlen
      have hi : i < xs.length := by omega
      have hi' : i + 1 < xs.length := by omega
      have e1 := List.drop_eq_getElem_cons hi
      have e2 := List.drop_eq_getElem_cons hi'
      rw [e1, e2] at hs
      injection hs with ha hs
      injection hs with hb ht
      cases n with
      | zero => simp at hn
      | succ n =>
        have ew : IntKind.i64.wrap ((i : Int) + 2) = ((i + 2 : Nat) : Int) := by rw [w64 (by omega) (by omega)]; omega
        have hg : ys.length + [node xs[i] xs[i + 1]].length < 68719476736 := by show _ + 1 < _; omega
        rw [u]
        simp only [w64_succ (i := i) (by omega), lt_t hi, lt_t hi', ge_t, cond_t, Int.toNat_natCast, at_n hi, at_n hi', hf, bind_s, ew]
        rw [decide_eq_true hg, cond_t]
        rw [ih (i + 2) n _ ht (by simp at hn; omega) (by rw [List.length_append]; show _ + 1 ≤ _; omega) (by omega)]
        rw [List.append_assoc, ha, hb]; rfl
    | case2 a =>
      intro i n ys hs hn hy hi0
      have hlen : (xs.drop i).length = 1 := by rw [← hs]; rfl
      rw [List.length_drop] at hlen
      have hi : i < xs.length := by omega
      have e1 := List.drop_eq_getElem_cons hi
      rw [e1] at hs
      injection hs with ha hs
      match n, hn with
      | n + 2, _ =>
        have ew : IntKind.i64.wrap ((i : Int) + 2) = ((i + 2 : Nat) : Int) := by rw [w64 (by omega) (by omega)]; omega
        have hg : ys.length + [xs[i]].length < 68719476736 := by show _ + 1 < _; omega
        rw [u]
        simp only [w64_succ (i := i) (by omega), lt_t hi, lt_f (show xs.length ≤ i + 1 by omega), ge_t, cond_t, cond_f, Int.toNat_natCast, at_n hi, ew]
        rw [decide_eq_true hg, cond_t, u]
        simp only [lt_f (show xs.length ≤ i + 2 by omega), cond_f]
        rw [ha]; rfl
    | case3 =>
      intro i n ys hs hn hy hi0
      have hlen : (xs.drop i).length = 0 := by rw [← hs]; rfl
      rw [List.length_drop] at hlen
      cases n with
      | zero => simp at hn
      | succ n =>
        rw [u]
        simp only [lt_f (show xs.length ≤ i by omega), cond_f]
        rw [up, List.append_nil]
  have := hh xs 0 KK [] (by rw [List.drop_zero]) (KK_gt (by omega)) (Nat.le_refl _) (Nat.zero_le _)
  exact this
theorem sUp_v (xs : List Int) (hx : xs.length ≤ 1050000) : spec_l10Up xs = some (up xs) := upL spec_NodeOf sNode_v xs hx (spec_l10Up.l6 xs) (fun n a ys => spec_l10Up.u6 xs n a ys)
def topF : Nat → List Int → Int
  | 0, _ => 0
  | n + 1, xs => bif decide ((xs.length : Int) > (1 : Int)) then topF n (up xs) else xs.getD 0 0
noncomputable def topOf (xs : List Int) : Int := bif (xs.length : Int) == (0 : Int) then hs [229] else topF KK xs
theorem topL (f : List Int → Option (List Int)) (hf : ∀ xs : List Int, xs.length ≤ 1050000 → f xs = some (up xs)) (l : Nat → List Int → Option Int) (u : ∀ n xs, l (n + 1) xs = (bif decide ((xs.length : Int) > (1 : Int)) then (f xs).bind fun y2 => l n y2 else bif decide (0 ≤ (0 : Int)) then bif decide ((0 : Int) < (xs.length : Int)) then some (xs.getD ((0 : Int).toNat) (0 : Int)) else none else none)) : ∀ (n : Nat) (xs : List Int), 0 < xs.length → xs.length < n → xs.length ≤ 1050000 → l n xs = some (topF n xs) := by
  intro n
  induction n with
  | zero => intro xs h0 h1; omega
  | succ n ih =>
    intro xs h0 h1 h2
    rw [u]
    show _ = some (bif decide ((xs.length : Int) > (1 : Int)) then topF n (up xs) else xs.getD 0 0)
    by_cases h : 1 < xs.length
    · rw [decide_eq_true (show (xs.length : Int) > 1 by omega), cond_t, cond_t, hf xs h2, bind_s]
      have := up_len xs
      exact ih _ (by omega) (by omega) (by omega)
    · rw [decide_eq_false (show ¬ (xs.length : Int) > 1 by omega), cond_f, cond_f]
      exact cT rfl (cT (decide_eq_true (by omega)) rfl)
theorem sTop_v (xs : List Int) (hx : xs.length ≤ 1050000) : spec_TopOf xs = some (topOf xs) := by
  unfold spec_TopOf topOf
  cases h : ((xs.length : Int) == (0 : Int)) with
  | true => exact cT h (bnd (sHash_v _ (by show 1 ≤ _; omega)) rfl)
  | false =>
    have h0 : (xs.length : Int) ≠ 0 := by simpa using h
    exact cF h (topL spec_l10Up sUp_v spec_TopOf.l8 (fun n xs => spec_TopOf.u8 n xs) KK xs (by omega) (KK_gt (by omega)) hx)
noncomputable def rootF (n t : Int) : Int := hs [231, n, t]
noncomputable def rootOf (xs : List TEntry) : Int := rootF (xs.length : Int) (topOf (leaves xs))
theorem sRootF_v (n t : Int) : spec_l10Root n t = some (rootF n t) := bnd (sHash_v _ (by show 3 ≤ _; omega)) rfl
theorem sRoot_v (xs : List TEntry) (hx : sizeEntryS xs ≤ 1050000) : spec_RootOf xs = some (rootOf xs) := by
  unfold spec_RootOf
  have hl : xs.length ≤ 1050000 := by unfold sizeEntryS sizeS at hx; omega
  exact bnd (sLeaves_v xs hx) (bnd (sTop_v _ (by rw [leaves_len]; exact hl)) (bnd (sRootF_v _ _) rfl))
theorem l9Copy_v (xs : List TEntry) (hx : sizeEntryS xs ≤ 1050000) : spec_l9Copy xs = some xs :=
  copyL xs dEntry spec_l8Copy (by unfold sizeEntryS sizeS at hx; omega) (fun i h => l8Copy_v _ (entry_at h hx)) (fun n ys a => spec_l9Copy.l6 xs n a ys) (fun n ys a => spec_l9Copy.u6 xs n a ys)
noncomputable def fhead (k : TKeys) (s : Int) (xs : List TEntry) (now u : Int) : THead := Head_mk (zoneOf k s) 0 1 now u (xs.length : Int) (rootOf xs) s k dKeys 0 dKeys false
theorem fhead_size (k : TKeys) (s : Int) (xs : List TEntry) (now u : Int) : sizeHead (fhead k s xs now u) = k.1.length := by
  show k.1.length + (([] : List Int).length + ([] : List Int).length) = _
  rfl
noncomputable def firstG (k : TKeys) (s : Int) (xs : List TEntry) (now term : Int) : Bool := areEntries xs && ((inR now 0 100000 && inR term 0 200) && isHeadB (fhead k s xs now (IntKind.i64.wrap (now + term))))
noncomputable def firstHead (k : TKeys) (s : Int) (xs : List TEntry) (now term : Int) : TRHeadBool := bif firstG k s xs now term then RHeadBool_mk (fhead k s xs now (IntKind.i64.wrap (now + term))) true else dRHeadBool
theorem sFirst5_v (k : TKeys) (s : Int) (xs : List TEntry) (now term : Int) (v : Bool) (hk : k.1.length ≤ 1050000) (hx : sizeEntryS xs ≤ 1050000) : spec_FirstHead.l5 k s xs now term v = some (bif !v && isHeadB (fhead k s xs now (IntKind.i64.wrap (now + term))) then RHeadBool_mk (fhead k s xs now (IntKind.i64.wrap (now + term))) true else dRHeadBool) := by
  cases v with
  | true => rfl
  | false =>
    refine bnd (sZoneOf_v k s hk) (bnd (sRoot_v xs hx) (bnd (l6Copy_v k hk) (bnd (sIsHead_v (fhead k s xs now (IntKind.i64.wrap (now + term))) (by rw [fhead_size]; exact hk)) ?_)))
    cases isHeadB (fhead k s xs now (IntKind.i64.wrap (now + term))) <;> rfl
theorem sFirstHead_v (k : TKeys) (s : Int) (xs : List TEntry) (now term : Int) (hk : k.1.length ≤ 1050000) (hx : sizeEntryS xs ≤ 1050000) : spec_FirstHead k s xs now term = some (firstHead k s xs now term) := by
  unfold spec_FirstHead firstHead firstG
  refine bnd (sAreEntries_v xs hx) ?_
  cases areEntries xs with
  | false => exact sFirst5_v k s xs now term true hk hx
  | true =>
    refine cF rfl (bnd (l1In_r _ _ _) ?_)
    cases inR now 0 100000 with
    | false => exact sFirst5_v k s xs now term true hk hx
    | true =>
      refine cF rfl (bnd (l1In_r _ _ _) ?_)
      rw [sFirst5_v k s xs now term _ hk hx]
      cases inR term 0 200 <;> rfl
def Ok {α : Type} (o : Option α) (Q : α → Prop) : Prop := ∃ a, o = some a ∧ Q a
theorem Ok.bind {α β : Type} {e : Option α} {P : α → Prop} {f : α → Option β} {Q : β → Prop} (h : Ok e P) (hf : ∀ a, P a → Ok (f a) Q) : Ok (e.bind f) Q := by
  obtain ⟨a, rfl, ha⟩ := h
  rw [bind_s]
  exact hf a ha
theorem Ok.ret {α : Type} {a : α} {Q : α → Prop} (h : Q a) : Ok (some a) Q := ⟨a, rfl, h⟩
theorem Ok.of {α : Type} {e : Option α} {a : α} {Q : α → Prop} (h : e = some a) (hq : Q a) : Ok e Q := ⟨a, h, hq⟩
theorem Ok.mono {α : Type} {e : Option α} {P Q : α → Prop} (h : Ok e P) (hq : ∀ a, P a → Q a) : Ok e Q := by
  obtain ⟨a, h1, h2⟩ := h
  exact ⟨a, h1, hq a h2⟩
theorem Ok.ite {α : Type} {c : Bool} {a b : Option α} {Q : α → Prop} (h1 : c = true → Ok a Q) (h2 : c = false → Ok b Q) : Ok (bif c then a else b) Q := by
  cases c with
  | true => rw [cond_t]; exact h1 rfl
  | false => rw [cond_f]; exact h2 rfl
theorem Ok.chk {α : Type} {c : Bool} {a b : Option α} {Q : α → Prop} (h : c = true) (h1 : Ok a Q) : Ok (bif c then a else b) Q := by
  subst h
  rw [cond_t]
  exact h1
theorem Ok.both {α : Type} {x : Option α} {Q : α → Prop} (h : Ok x Q) : Ok (V.both x x) Q := by
  rw [both_eq]
  exact h
def Cu (code : List Int) (c : Tl1Cur) : Prop := c.1 = code ∧ 0 ≤ c.2.1 ∧ c.2.1 ≤ (code.length : Int) ∧ code.length ≤ 1050000
theorem Cu.re {code : List Int} {c d : Tl1Cur} (h : Cu code c) (h' : Cu code d) : Cu code (c.1, d.2.1, d.2.2) := ⟨h.1, h'.2⟩
theorem and255 (a : Int) : 0 ≤ IntKind.i64.wrap ((BitVec.ofInt IntKind.i64.bits a &&& BitVec.ofInt IntKind.i64.bits (255 : Int)).toNat : Int) ∧ IntKind.i64.wrap ((BitVec.ofInt IntKind.i64.bits a &&& BitVec.ofInt IntKind.i64.bits (255 : Int)).toNat : Int) ≤ 255 := by
  have h : (BitVec.ofInt IntKind.i64.bits a &&& BitVec.ofInt IntKind.i64.bits (255 : Int)).toNat ≤ 255 := by
    rw [BitVec.toNat_and]
    exact Nat.le_trans Nat.and_le_right (by decide)
  rw [w64 (by omega) (by omega)]
  omega
theorem byte_ok {code : List Int} {c : Tl1Cur} (hc : Cu code c) : Ok (spec_l1Byte c) (fun r => Cu code r.1 ∧ 0 ≤ r.2 ∧ r.2 ≤ 255) := by
  obtain ⟨h1, h2, h3, h4⟩ := hc
  unfold spec_l1Byte
  refine Ok.chk (by decide) (Ok.chk (by decide) (Ok.ite (fun h => ?_) (fun _ => Ok.ret ⟨⟨h1, h2, h3, h4⟩, and255 _⟩)))
  have h := of_decide_eq_true h
  rw [h1] at h
  refine Ok.chk (decide_eq_true h2) (Ok.chk (decide_eq_true (by rw [h1]; exact h)) (Ok.ret ⟨⟨h1, ?_, ?_, h4⟩, and255 _⟩))
  · show 0 ≤ IntKind.i64.wrap (c.2.1 + 1)
    rw [w64 (by omega) (by omega)]
    omega
  · show IntKind.i64.wrap (c.2.1 + 1) ≤ _
    rw [w64 (by omega) (by omega)]
    omega
theorem below_ok {code : List Int} {c : Tl1Cur} (hc : Cu code c) (n : Int) : Ok (spec_l1Below c n) (fun r => Cu code r.1 ∧ 0 ≤ r.2 ∧ (0 < n → r.2 < n) ∧ (n ≤ 0 → r.2 = 0)) := by
  unfold spec_l1Below
  refine Ok.ite (fun h => ?_) (fun h => ?_)
  · have h := of_decide_eq_true h
    exact Ok.ret ⟨hc, Int.le_refl 0, fun h' => by omega, fun _ => rfl⟩
  · have h := of_decide_eq_false h
    have hn : (n == (0 : Int)) = false := by rw [beq_eq_false_iff_ne]; omega
    refine Ok.ite (fun _ => (byte_ok hc).bind fun y hy => ?_) (fun _ => (byte_ok hc).bind fun y hy => (byte_ok (hc.re hy.1)).bind fun z hz => (byte_ok (hc.re hz.1)).bind fun u hu => ?_)
    · rw [hn, cond_f]
      exact Ok.ret ⟨hc.re hy.1, Int.tmod_nonneg n hy.2.1, fun h' => Int.tmod_lt_of_pos _ h', fun h' => by omega⟩
    · rw [hn, cond_f]
      obtain ⟨_, y1, y2⟩ := hy
      obtain ⟨_, z1, z2⟩ := hz
      obtain ⟨_, u1, u2⟩ := hu
      have e1 : IntKind.i64.wrap (y.2 * 65536) = y.2 * 65536 := w64 (by omega) (by omega)
      have e2 : IntKind.i64.wrap (z.2 * 256) = z.2 * 256 := w64 (by omega) (by omega)
      have e3 : IntKind.i64.wrap (y.2 * 65536 + z.2 * 256) = y.2 * 65536 + z.2 * 256 := w64 (by omega) (by omega)
      have e4 : IntKind.i64.wrap (y.2 * 65536 + z.2 * 256 + u.2) = y.2 * 65536 + z.2 * 256 + u.2 := w64 (by omega) (by omega)
      rw [e1, e2, e3, e4]
      exact Ok.ret ⟨hc.re ‹_›, Int.tmod_nonneg n (by omega), fun h' => Int.tmod_lt_of_pos _ h', fun h' => by omega⟩
theorem once_ok {code : List Int} {c : Tl1Cur} (hc : Cu code c) (n : Int) : Ok (spec_l1Once c n) (fun r => Cu code r.1) := by
  unfold spec_l1Once
  exact (below_ok hc n).bind fun y hy => Ok.ret (hc.re hy.1)
theorem int_ok {code : List Int} {c : Tl1Cur} (hc : Cu code c) {xs : List Int} (hx : 0 < xs.length) : Ok (spec_l1Int c xs) (fun r => Cu code r.1 ∧ r.2 ∈ xs) := by
  unfold spec_l1Int
  refine (below_ok hc _).bind fun y hy => ?_
  obtain ⟨h1, h2, h3, _⟩ := hy
  have h3 := h3 (by omega)
  refine Ok.chk (decide_eq_true h2) (Ok.chk (decide_eq_true h3) (Ok.ret ⟨hc.re h1, ?_⟩))
  show xs.getD y.2.toNat 0 ∈ xs
  rw [List.getD_eq_getElem?_getD, List.getElem?_eq_getElem (show y.2.toNat < xs.length by omega)]
  exact List.getElem_mem _
theorem str_ok {code : List Int} {c : Tl1Cur} (hc : Cu code c) {xs : List ByteArray} (hx : 0 < xs.length) : Ok (spec_l1Str c xs) (fun r => Cu code r.1 ∧ r.2 ∈ xs) := by
  unfold spec_l1Str
  refine (below_ok hc _).bind fun y hy => ?_
  obtain ⟨h1, h2, h3, _⟩ := hy
  have h3 := h3 (by omega)
  refine Ok.chk (decide_eq_true h2) (Ok.chk (decide_eq_true h3) (Ok.ret ⟨hc.re h1, ?_⟩))
  show xs.getD y.2.toNat _ ∈ xs
  rw [List.getD_eq_getElem?_getD, List.getElem?_eq_getElem (show y.2.toNat < xs.length by omega)]
  exact List.getElem_mem _
theorem ge0 {v : Int} (h : decide (v > (0 : Int)) = true) : 0 < v := of_decide_eq_true h
theorem pred_w {v : Int} (h0 : 0 < v) (h1 : v ≤ 1000) : IntKind.i64.wrap (v - (1 : Int)) = v - 1 := w64 (by omega) (by omega)
theorem app1 {α : Type} {xs : List α} {x : α} (h : xs.length ≤ 1050000) : decide (xs.length + [x].length < 68719476736) = true := decide_eq_true (by show xs.length + 1 < _; omega)
theorem len1 {α : Type} (xs : List α) (x : α) : (xs ++ [x]).length = xs.length + 1 := by simp
theorem szApp {α : Type} (f : α → Nat) (xs : List α) (x : α) : sizeS f (xs ++ [x]) = sizeS f xs + 1 + f x := by
  unfold sizeS
  simp only [List.length_append, List.map_append, List.sum_append, List.map_cons, List.map_nil, List.sum_cons, List.sum_nil, List.length_cons, List.length_nil]
  omega
theorem strM {code : List Int} {c : Tl1Cur} (hc : Cu code c) {xs : List ByteArray} {n : Nat} (hx : 0 < xs.length) (hs : (xs.all fun s => decide (s.size ≤ n)) = true) : Ok (spec_l1Str c xs) (fun r => Cu code r.1 ∧ r.2.size ≤ n) :=
  (str_ok hc hx).mono fun r h => ⟨h.1, of_decide_eq_true (List.all_eq_true.1 hs r.2 h.2)⟩
theorem l4Label_ok {code : List Int} {c : Tl1Cur} (hc : Cu code c) : Ok (spec_l4Label c) (fun r => Cu code r.1 ∧ r.2.size ≤ 9) := by
  unfold spec_l4Label
  exact (strM (n := 9) hc (by decide) (by decide)).bind fun y hy => Ok.ret ⟨hc.re hy.1, hy.2⟩
theorem l5Path_l {code : List Int} {x0 : Tl1Cur} : ∀ (n : Nat) (v a b : Int) (acc : List ByteArray), v < (n : Int) → 0 ≤ v → v ≤ 1000 → acc.length + v.toNat ≤ 1000 → Cu code (x0.1, a, b) → Ok (spec_l5Path.l6 x0 n v a b acc) (fun r => Cu code r.1 ∧ sizeStringS r.2 ≤ sizeStringS acc + 10 * v.toNat) := by
  intro n
  induction n with
  | zero => intro v a b acc h0 h1; omega
  | succ n ih =>
    intro v a b acc h0 h1 h2 ha hc
    rw [spec_l5Path.u6]
    refine Ok.ite (fun h => ?_) (fun h => Ok.ret ⟨hc, by show sizeStringS acc ≤ _; omega⟩)
    have h := ge0 h
    refine (l4Label_ok hc).bind fun y hy => Ok.chk (app1 (by omega)) ?_
    rw [pred_w h h2]
    refine (ih (v - 1) _ _ (acc ++ [y.2]) (by omega) (by omega) (by omega) (by rw [len1]; omega) (hc.re hy.1)).mono fun r hr => ⟨hr.1, ?_⟩
    have e : sizeStringS (acc ++ [y.2]) = sizeStringS acc + 1 + sizeStr y.2 := szApp _ _ _
    have e2 : sizeStr y.2 ≤ 9 := hy.2
    have := hr.2
    omega
theorem l5Path_ok {code : List Int} {c : Tl1Cur} (hc : Cu code c) : Ok (spec_l5Path c) (fun r => Cu code r.1 ∧ sizeStringS r.2 ≤ 30) := by
  unfold spec_l5Path
  refine (below_ok hc 3).bind fun y hy => ?_
  obtain ⟨h1, h2, h3, _⟩ := hy
  have h3 := h3 (by omega)
  have e : IntKind.i64.wrap ((1 : Int) + y.2) = 1 + y.2 := w64 (by omega) (by omega)
  rw [e]
  have hk := KK_gt (n := 1000) (by omega)
  refine (l5Path_l KK (1 + y.2) _ _ [] (by omega) (by omega) (by omega) (by show 0 + _ ≤ _; omega) (hc.re h1)).mono fun r hr => ⟨hr.1, ?_⟩
  have e0 : sizeStringS [] = 0 := rfl
  have := hr.2
  omega
theorem l8Entry_ok {code : List Int} {c : Tl1Cur} (hc : Cu code c) : Ok (spec_l8Entry c) (fun r => Cu code r.1 ∧ sizeEntry r.2 ≤ 39) := by
  unfold spec_l8Entry
  refine (l4Label_ok hc).bind fun y1 h1 => (below_ok (hc.re h1.1) 5).bind fun y2 h2 => Ok.ite (fun _ => ?_) fun _ => Ok.ite (fun _ => ?_) fun _ => ?_
  · refine (below_ok (hc.re h2.1) 5000).bind fun y3 h3 => Ok.bind (P := fun e => sizeEntry e ≤ 39) ?_ fun e he => Ok.ret ⟨hc.re h3.1, he⟩
    exact Ok.ret (by show sizeStr y1.2 + 0 ≤ 39; have : sizeStr y1.2 ≤ 9 := h1.2; omega)
  · refine (below_ok (hc.re h2.1) 5000).bind fun y3 h3 => (l5Path_ok (hc.re h3.1)).bind fun y6 h6 => Ok.bind (P := fun e => sizeEntry e ≤ 39) ?_ fun e he => Ok.ret ⟨hc.re h6.1, he⟩
    have hl : y6.2.length ≤ 1050000 := by have := h6.2; unfold sizeStringS sizeS at this; omega
    exact Ok.of (bnd (l5Copy_v y6.2 hl) rfl) (by show sizeStr y1.2 + sizeStringS y6.2 ≤ 39; have : sizeStr y1.2 ≤ 9 := h1.2; have := h6.2; omega)
  · refine (below_ok (hc.re h2.1) 50).bind fun y3 h3 => Ok.bind (P := fun e => sizeEntry e ≤ 39) ?_ fun e he => Ok.ret ⟨hc.re h3.1, he⟩
    exact Ok.ret (by show sizeStr y1.2 + 0 ≤ 39; have : sizeStr y1.2 ≤ 9 := h1.2; omega)
theorem szDrop {α : Type} (f : α → Nat) {xs : List α} {i : Nat} (h : i < xs.length) : sizeS f (xs.drop i) = 1 + f xs[i] + sizeS f (xs.drop (i + 1)) := by
  rw [List.drop_eq_getElem_cons h]
  unfold sizeS
  simp only [List.map_cons, List.sum_cons, List.length_cons]
  omega
theorem szLen {α : Type} (f : α → Nat) (xs : List α) : xs.length ≤ sizeS f xs := by unfold sizeS; omega
theorem put_l (xs : List TEntry) (e : TEntry) (hx : sizeEntryS xs + sizeEntry e ≤ 100000) : ∀ (n i : Nat) (done : Bool) (out : List TEntry), xs.length - i < n → i ≤ xs.length → sizeEntryS out + (bif done then 0 else sizeEntry e + 1) + sizeEntryS (xs.drop i) ≤ sizeEntryS xs + sizeEntry e + 1 →
    Ok (spec_PutEntry.l8 xs e n done (i : Int) out) (fun r => sizeEntryS r.1 ≤ sizeEntryS xs + sizeEntry e + 1) := by
  have hlx := szLen sizeEntry xs
  have hl : xs.length ≤ 100000 := by unfold sizeEntryS at hx; omega
  have fin : ∀ out : List TEntry, sizeEntryS out ≤ sizeEntryS xs + sizeEntry e + 1 → Ok (spec_PutEntry.l29 xs out) (fun r => sizeEntryS r.1 ≤ sizeEntryS xs + sizeEntry e + 1) := by
    intro out ho
    have tail : ∀ v : Bool, Ok (spec_PutEntry.l31 xs out v) (fun r => sizeEntryS r.1 ≤ sizeEntryS xs + sizeEntry e + 1) := by
      intro v
      refine Ok.ite (fun _ => ?_) fun _ => Ok.ret ho
      exact Ok.of (bnd (l9Copy_v xs (by omega)) rfl) (by show sizeEntryS xs ≤ _; omega)
    refine Ok.bind (P := fun _ => True) (Ok.of (sAreEntries_v xs (by omega)) trivial) fun y _ => Ok.ite (fun _ => tail _) fun _ => ?_
    exact Ok.bind (P := fun _ => True) (Ok.of (sAreEntries_v out (by omega)) trivial) fun y _ => tail _
  intro n
  induction n with
  | zero => intro i done out h0; omega
  | succ n ih =>
    intro i done out h0 h1 hi
    have hlo := szLen sizeEntry out
    have hou : sizeEntryS out ≤ 100001 := by omega
    have hlo : out.length ≤ 100001 := by unfold sizeEntryS at hou; omega
    rw [spec_PutEntry.u8]
    refine Ok.ite (fun h => ?_) (fun h => ?_)
    · have hlt : i < xs.length := by have := of_decide_eq_true h; omega
      have hd := szDrop sizeEntry hlt
      have hd : sizeEntryS (xs.drop i) = 1 + sizeEntry xs[i] + sizeEntryS (xs.drop (i + 1)) := hd
      refine Ok.chk (decide_eq_true (by omega)) (Ok.chk h ?_)
      rw [Int.toNat_natCast, at_n hlt]
      refine Ok.bind (P := fun _ => True) (Ok.of (sCompare_v _ _) trivial) fun k _ => ?_
      have hei : sizeEntry xs[i] ≤ 1050000 := by omega
      have nx : ∀ (d : Bool) (o : List TEntry), sizeEntryS o + (bif d then 0 else sizeEntry e + 1) + sizeEntryS (xs.drop i) ≤ sizeEntryS xs + sizeEntry e + 1 → Ok (spec_PutEntry.l21 xs e (i : Int) k (spec_PutEntry.l8 xs e n) d o) (fun r => sizeEntryS r.1 ≤ sizeEntryS xs + sizeEntry e + 1) := by
        intro d o ho
        have hlo : o.length ≤ sizeEntryS o := szLen sizeEntry o
        have hlo : o.length ≤ 1050000 := by omega
        refine Ok.ite (fun _ => ?_) fun _ => ?_
        · refine Ok.chk (decide_eq_true (by omega)) (Ok.chk h ?_)
          rw [Int.toNat_natCast, at_n hlt, w64_succ (by omega)]
          refine Ok.bind (P := fun y => y = xs[i]) (Ok.of (l8Copy_v _ hei) rfl) fun y hy => Ok.chk (app1 hlo) ?_
          subst hy
          refine ih (i + 1) d _ (by omega) (by omega) ?_
          have e2 : sizeEntryS (o ++ [xs[i]]) = sizeEntryS o + 1 + sizeEntry xs[i] := szApp _ _ _
          omega
        · rw [w64_succ (by omega)]
          exact ih (i + 1) d o (by omega) (by omega) (by omega)
      have cs : ∀ v : Bool, (v = true → done = false) → Ok (spec_PutEntry.l17 xs e done (i : Int) out k (spec_PutEntry.l8 xs e n) v) (fun r => sizeEntryS r.1 ≤ sizeEntryS xs + sizeEntry e + 1) := by
        intro v hv
        refine Ok.ite (fun h => ?_) fun _ => nx _ _ hi
        have hd := hv h
        subst hd
        rw [cond_f] at hi
        refine Ok.bind (P := fun y => y = e) (Ok.of (l8Copy_v _ (by omega)) rfl) fun y hy => Ok.chk (app1 (by omega)) (nx _ _ ?_)
        subst hy
        have e2 : sizeEntryS (out ++ [y]) = sizeEntryS out + 1 + sizeEntry y := szApp _ _ _
        rw [cond_t]
        omega
      exact Ok.ite (fun _ => cs _ (fun h => by cases done <;> simp_all)) (fun _ => cs _ (fun h => by cases h))
    · have e0 : i = xs.length := by have := of_decide_eq_false h; omega
      subst e0
      rw [List.drop_length] at hi
      have e0 : sizeEntryS [] = 0 := rfl
      refine Ok.ite (fun h => ?_) (fun h => fin _ (by omega))
      have hd : done = false := by cases done <;> simp_all
      subst hd
      rw [cond_f] at hi
      refine Ok.bind (P := fun y => y = e) (Ok.of (l8Copy_v _ (by omega)) rfl) fun y hy => Ok.chk (app1 (by omega)) (fin _ ?_)
      subst hy
      have e2 : sizeEntryS (out ++ [y]) = sizeEntryS out + 1 + sizeEntry y := szApp _ _ _
      omega
theorem put_ok (xs : List TEntry) (e : TEntry) (hx : sizeEntryS xs + sizeEntry e ≤ 100000) : Ok (spec_PutEntry xs e) (fun r => sizeEntryS r.1 ≤ sizeEntryS xs + sizeEntry e + 1) := by
  have hlx := szLen sizeEntry xs
  have hlx : xs.length ≤ 100000 := by unfold sizeEntryS at hx; omega
  refine put_l xs e hx KK 0 false [] (KK_gt (by omega)) (Nat.zero_le _) ?_
  have e0 : sizeEntryS [] = 0 := rfl
  rw [cond_f, List.drop_zero]
  omega
theorem l9List_l {code : List Int} {x0 : Tl1Cur} : ∀ (n : Nat) (v a b : Int) (acc : List TEntry), v < (n : Int) → 0 ≤ v → v ≤ 1000 → sizeEntryS acc + 40 * v.toNat ≤ 50000 → Cu code (x0.1, a, b) → Ok (spec_l9List.l6 x0 n v a b acc) (fun r => Cu code r.1 ∧ sizeEntryS r.2 ≤ sizeEntryS acc + 40 * v.toNat) := by
  intro n
  induction n with
  | zero => intro v a b acc h0 h1; omega
  | succ n ih =>
    intro v a b acc h0 h1 h2 ha hc
    rw [spec_l9List.u6]
    refine Ok.ite (fun h => ?_) (fun h => Ok.ret ⟨hc, by show sizeEntryS acc ≤ _; omega⟩)
    have h := ge0 h
    refine (l8Entry_ok hc).bind fun y hy => ?_
    have hy2 := hy.2
    refine (put_ok acc y.2 (by omega)).bind fun z hz => ?_
    rw [pred_w h h2]
    refine (ih (v - 1) _ _ z.1 (by omega) (by omega) (by omega) (by omega) (hc.re hy.1)).mono fun r hr => ⟨hr.1, ?_⟩
    have := hr.2
    omega
theorem l9List_ok {code : List Int} {c : Tl1Cur} (hc : Cu code c) : Ok (spec_l9List c) (fun r => Cu code r.1 ∧ sizeEntryS r.2 ≤ 240) := by
  unfold spec_l9List
  refine (below_ok hc 7).bind fun y hy => ?_
  obtain ⟨h1, h2, h3, _⟩ := hy
  have h3 := h3 (by omega)
  have hk := KK_gt (n := 1000) (by omega)
  have e0 : sizeEntryS [] = 0 := rfl
  refine (l9List_l KK y.2 _ _ [] (by omega) (by omega) (by omega) (by omega) (hc.re h1)).mono fun r hr => ⟨hr.1, ?_⟩
  have := hr.2
  omega
theorem l6Keys_l {code : List Int} {x0 : Tl1Cur} {m : Int} (hm : m ≤ 1000) : ∀ (n : Nat) (t i a b : Int) (acc : List Int), m - i < (n : Int) → 0 ≤ i → i ≤ m → (acc.length : Int) = i → Cu code (x0.1, a, b) → Ok (spec_l6Keys.l10 x0 n m t i a b acc) (fun r => Cu code r.1 ∧ (r.2.1.length : Int) = m) := by
  intro n
  induction n with
  | zero => intro t i a b acc h0 h1 h2; omega
  | succ n ih =>
    intro t i a b acc h0 h1 h2 ha hc
    rw [spec_l6Keys.u10]
    refine Ok.ite (fun h => ?_) (fun h => ?_)
    · have h := of_decide_eq_true h
      refine (below_ok hc 3).bind fun y hy => Ok.chk (app1 (by omega)) ?_
      have e : IntKind.i64.wrap (i + (1 : Int)) = i + 1 := w64 (by omega) (by omega)
      rw [e]
      exact ih _ (i + 1) _ _ _ (by omega) (by omega) (by omega) (by rw [len1]; omega) (hc.re hy.1)
    · have h := of_decide_eq_false h
      exact (below_ok hc m).bind fun y hy => Ok.ret ⟨hc.re hy.1, by show (acc.length : Int) = m; omega⟩
theorem l6Keys_ok {code : List Int} {c : Tl1Cur} (hc : Cu code c) : Ok (spec_l6Keys c) (fun r => Cu code r.1 ∧ r.2.1.length ≤ 3) := by
  unfold spec_l6Keys
  refine (below_ok hc 3).bind fun y hy => (below_ok (hc.re hy.1) 4).bind fun z hz => ?_
  obtain ⟨h1, h2, h3, _⟩ := hy
  have h3 := h3 (by omega)
  have e : IntKind.i64.wrap ((1 : Int) + y.2) = 1 + y.2 := w64 (by omega) (by omega)
  rw [e]
  have hk := KK_gt (n := 2000) (by omega)
  refine (l6Keys_l (m := 1 + y.2) (by omega) KK z.2 0 _ _ [] (by omega) (by omega) (by omega) rfl (hc.re hz.1)).mono fun r hr => ⟨hr.1, ?_⟩
  have := hr.2
  omega
theorem l6Any_ok {code : List Int} {c : Tl1Cur} (hc : Cu code c) : Ok (spec_l6Any c) (fun r => Cu code r.1 ∧ r.2.1.length ≤ 4) := by
  unfold spec_l6Any
  refine (l6Keys_ok hc).bind fun y1 h1 => (below_ok (hc.re h1.1) 10).bind fun y2 h2 => Ok.ite (fun _ => ?_) fun _ => Ok.ite (fun _ => ?_) fun _ => Ok.ite (fun _ => ?_) fun _ => ?_
  · exact (int_ok (hc.re h2.1) (by decide)).bind fun y3 h3 => Ok.ret ⟨hc.re h3.1, Nat.le_succ_of_le h1.2⟩
  · have one : Ok ((spec_l1Int (c.1, y2.1.2.1, y2.1.2.2) [(1 : Int), (99 : Int), (100 : Int)]).bind fun y4 => bif decide (y1.2.1.length + [y4.2].length < 68719476736) then some ((c.1, y4.1.2.1, y4.1.2.2), y1.2.1 ++ [y4.2], y1.2.2) else none) (fun r => Cu code r.1 ∧ r.2.1.length ≤ 4) :=
      (int_ok (hc.re h2.1) (by decide)).bind fun y3 h3 => Ok.chk (app1 (Nat.le_trans h1.2 (by decide))) (Ok.ret ⟨hc.re h3.1, by show (y1.2.1 ++ [y3.2]).length ≤ 4; rw [len1]; have := h1.2; omega⟩)
    simp only [both_eq]
    exact one
  · exact Ok.ret ⟨hc.re h2.1, by show ([] : List Int).length ≤ 4; decide⟩
  · exact Ok.ret ⟨hc.re h2.1, Nat.le_succ_of_le h1.2⟩
theorem l1New_l {code : List Int} (hl : code.length ≤ 1050000) : ∀ (n i : Nat) (v : Int), code.length - i < n → i ≤ code.length → Ok (spec_l1New.l6 code n v (i : Int)) (Cu code) := by
  intro n
  induction n with
  | zero => intro i v h0; omega
  | succ n ih =>
    intro i v h0 h1
    rw [spec_l1New.u6]
    have ret : ∀ v : Int, Ok (some ((code, (0 : Int), v) : Tl1Cur)) (Cu code) := fun v => Ok.ret ⟨rfl, Int.le_refl 0, by show (0 : Int) ≤ _; omega, hl⟩
    refine Ok.ite (fun h => Ok.ite (fun _ => ?_) fun _ => ret v) fun _ => ret v
    have hlt : i < code.length := by have := of_decide_eq_true h; omega
    unfold spec_l1New.l11
    refine Ok.chk (decide_eq_true (by omega)) (Ok.chk h ?_)
    rw [w64_succ (by omega)]
    exact ih (i + 1) _ (by omega) (by omega)
theorem l1New_ok {code : List Int} (hl : code.length ≤ 1050000) : Ok (spec_l1New code) (Cu code) :=
  l1New_l hl KK 0 _ (KK_gt (by omega)) (Nat.zero_le _)
def kB (h : THead) : Prop := (Head_Keys h).1.length ≤ 4 ∧ (Head_Heirs h).1.length ≤ 4 ∧ (Head_Judge h).1.length ≤ 4
theorem kB_size {h : THead} (hk : kB h) : sizeHead h ≤ 12 := by
  obtain ⟨h1, h2, h3⟩ := hk
  unfold sizeHead sizeKeys
  omega
def sB (s : TSigned) : Prop := kB (Signed_Head s) ∧ (Signed_Sigs s).length ≤ 8
theorem sB_size {s : TSigned} (hs : sB s) : sizeSigned s ≤ 20 := by
  have h1 := kB_size hs.1
  have h2 := hs.2
  unfold sizeSigned
  omega
theorem signHead_sB {sk : List Int} {k : TKeys} {h : THead} (hh : kB h) (hk : k.1.length ≤ 4) : sB (signHead sk k h) := by
  have := signs_len sk (headInts h) k.1 []
  rw [List.length_nil, Nat.zero_add] at this
  exact ⟨hh, by show (signs sk (headInts h) k.1 []).length ≤ 8; omega⟩
theorem sign_ok {sk : List Int} {k : TKeys} {h : THead} (hh : kB h) (hk : k.1.length ≤ 4) (hs : sk.length ≤ 4) : Ok (spec_SignHead sk k h) sB :=
  Ok.of (sSignHead_v sk k h (by omega) (by omega) (Nat.le_trans (kB_size hh) (by decide))) (signHead_sB hh hk)
theorem l13Head_l {code : List Int} {x0 : Tl1Cur} {a b v1 v2 v25 v26 : Int} {y1 y2 y4 y5 y6 y7 : Tl1Cur × Int} {y8 : Tl1Cur × List Int × Int} {l : List Int} (hc : Cu code (x0.1, v1, v2)) (h8 : y8.2.1.length ≤ 3) (hl : l.length ≤ 3) : Ok (spec_l13Head.l13 x0 a b y1 y2 y4 y5 y6 y7 y8 v1 v2 v25 v26 l) (fun r => Cu code r.1 ∧ kB r.2) := by
  refine (once_ok hc 2).bind fun y h => Ok.ite (fun _ => ?_) fun _ => Ok.ret ⟨hc.re h, Nat.le_succ_of_le h8, Nat.le_succ_of_le hl, Nat.zero_le _⟩
  exact (l6Keys_ok (hc.re h)).bind fun z hz => (once_ok (hc.re hz.1) 3).bind fun u hu => Ok.ret ⟨hc.re hu, Nat.le_succ_of_le h8, Nat.le_succ_of_le hl, Nat.le_succ_of_le hz.2⟩
theorem l13Head_ok {code : List Int} {c : Tl1Cur} (hc : Cu code c) : Ok (spec_l13Head c) (fun r => Cu code r.1 ∧ kB r.2) := by
  unfold spec_l13Head spec_l13Head.b
  simp only [both_eq]
  refine (below_ok hc 50).bind fun y1 h1 => (below_ok (hc.re h1.1) 4).bind fun y2 h2 => (below_ok (hc.re h2.1) 3).bind fun y3 h3 => (below_ok (hc.re h3.1) 40).bind fun y4 h4 => (below_ok (hc.re h4.1) 90).bind fun y5 h5 => (below_ok (hc.re h5.1) 9).bind fun y6 h6 => (below_ok (hc.re h6.1) 5).bind fun y7 h7 => (l6Keys_ok (hc.re h7.1)).bind fun y8 h8 => (below_ok (hc.re h8.1) 60).bind fun y9 h9 => ?_
  refine (once_ok (hc.re h9.1) 2).bind fun y h => Ok.ite (fun _ => ?_) fun _ => l13Head_l (hc.re h) h8.2 (Nat.zero_le _)
  exact (l6Keys_ok (hc.re h)).bind fun z hz => (below_ok (hc.re hz.1) 30).bind fun u hu => l13Head_l (hc.re hu.1) h8.2 hz.2
theorem l13Any_ok {code : List Int} {c : Tl1Cur} (hc : Cu code c) : Ok (spec_l13Any c) (fun r => Cu code r.1 ∧ kB r.2) := by
  unfold spec_l13Any
  refine (l13Head_ok hc).bind fun y1 h1 => (below_ok (hc.re h1.1) 14).bind fun y2 h2 => Ok.ite (fun _ => ?_) fun _ => Ok.ite (fun _ => ?_) fun _ => Ok.ite (fun _ => ?_) fun _ => Ok.ite (fun _ => ?_) fun _ => Ok.ite (fun _ => ?_) fun _ => Ok.ite (fun _ => ?_) fun _ => Ok.ite (fun _ => ?_) fun _ => ?_
  · exact (int_ok (hc.re h2.1) (by decide)).bind fun y h => Ok.ret ⟨hc.re h.1, h1.2⟩
  · exact (int_ok (hc.re h2.1) (by decide)).bind fun y h => Ok.ret ⟨hc.re h.1, h1.2⟩
  · exact (int_ok (hc.re h2.1) (by decide)).bind fun y h => Ok.ret ⟨hc.re h.1, h1.2⟩
  · exact (l6Any_ok (hc.re h2.1)).bind fun y h => Ok.ret ⟨hc.re h.1, h.2, h1.2.2.1, h1.2.2.2⟩
  · exact (int_ok (hc.re h2.1) (by decide)).bind fun y h => Ok.ret ⟨hc.re h.1, h1.2⟩
  · exact Ok.ret ⟨hc.re h2.1, h1.2⟩
  · exact (l6Any_ok (hc.re h2.1)).bind fun y h => Ok.ret ⟨hc.re h.1, h1.2.1, h1.2.2.1, h.2⟩
  · exact Ok.ret ⟨hc.re h2.1, h1.2⟩
theorem l6Held_l {code : List Int} {x0 : Tl1Cur} : ∀ (n : Nat) (v a b : Int) (acc : List Int), v < (n : Int) → 0 ≤ v → v ≤ 1000 → acc.length + v.toNat ≤ 1000 → Cu code (x0.1, a, b) → Ok (spec_l6Held.l6 x0 n v a b acc) (fun r => Cu code r.1 ∧ r.2.length ≤ acc.length + v.toNat) := by
  intro n
  induction n with
  | zero => intro v a b acc h0 h1; omega
  | succ n ih =>
    intro v a b acc h0 h1 h2 ha hc
    rw [spec_l6Held.u6]
    refine Ok.ite (fun h => ?_) (fun h => Ok.ret ⟨hc, by show acc.length ≤ _; omega⟩)
    have h := ge0 h
    refine (below_ok hc 9).bind fun y hy => Ok.chk (app1 (by omega)) ?_
    rw [pred_w h h2]
    refine (ih (v - 1) _ _ _ (by omega) (by omega) (by omega) (by rw [len1]; omega) (hc.re hy.1)).mono fun r hr => ⟨hr.1, ?_⟩
    have := hr.2
    rw [len1] at this
    omega
theorem l6Held_ok {code : List Int} {c : Tl1Cur} (hc : Cu code c) : Ok (spec_l6Held c) (fun r => Cu code r.1 ∧ r.2.length ≤ 6) := by
  unfold spec_l6Held
  refine (below_ok hc 6).bind fun y hy => ?_
  obtain ⟨h1, h2, h3, _⟩ := hy
  have h3 := h3 (by omega)
  have hk := KK_gt (n := 1000) (by omega)
  refine (l6Held_l KK y.2 _ _ [] (by omega) (by omega) (by omega) (by show 0 + _ ≤ _; omega) (hc.re h1)).mono fun r hr => ⟨hr.1, ?_⟩
  have : r.2.length ≤ 0 + y.2.toNat := hr.2
  omega
theorem upd_len {α : Type} (xs : List α) (i : Nat) (f : α → α) : (V.upd xs i f).length = xs.length := by
  induction xs generalizing i with
  | nil => rfl
  | cons x xs ih =>
    cases i with
    | zero => rfl
    | succ i => show (V.upd xs i f).length + 1 = xs.length + 1; rw [ih]
theorem l7Sigs_l {code : List Int} {x0 : Tl1Cur} {v1 v2 : Int} {s : List TSig} (hc : Cu code (x0.1, v1, v2)) (hs : s.length ≤ 4) : Ok (spec_l7Sigs.l5 x0 v1 v2 s) (fun r => Cu code r.1 ∧ r.2.length ≤ 8) := by
  refine (below_ok hc 6).bind fun y3 h3 => Ok.ite (fun _ => ?_) fun _ => Ok.ite (fun _ => ?_) fun _ => Ok.ite (fun _ => ?_) fun _ => ?_
  · exact (int_ok (hc.re h3.1) (by decide)).bind fun y4 h4 => (below_ok (hc.re h4.1) 9).bind fun y5 h5 => Ok.chk (app1 (by omega)) (Ok.ret ⟨hc.re h5.1, by show (s ++ [_]).length ≤ 8; rw [len1]; omega⟩)
  · exact Ok.chk (decide_eq_true (by omega)) (Ok.ret ⟨hc.re h3.1, by show (s ++ s).length ≤ 8; rw [List.length_append]; omega⟩)
  · refine Ok.ite (fun h => ?_) fun _ => Ok.ret ⟨hc.re h3.1, by show s.length ≤ 8; omega⟩
    exact Ok.chk (by decide) (Ok.chk h (Ok.chk (by decide) (Ok.chk h (Ok.ret ⟨hc.re h3.1, by show (V.upd s _ _).length ≤ 8; rw [upd_len]; omega⟩))))
  · exact Ok.ret ⟨hc.re h3.1, by show s.length ≤ 8; omega⟩
theorem l7Sigs_ok {code : List Int} {c : Tl1Cur} (hc : Cu code c) {k : TKeys} {m : List Int} (hk : k.1.length ≤ 4) (hm : m.length ≤ 8388608) : Ok (spec_l7Sigs c k m) (fun r => Cu code r.1 ∧ r.2.length ≤ 8) := by
  unfold spec_l7Sigs spec_l7Sigs.b
  simp only [both_eq]
  refine (l6Held_ok hc).bind fun y hy => Ok.bind (P := fun s => s.length ≤ 4) ?_ fun s hs => l7Sigs_l (hc.re hy.1) hs
  have hl := hy.2
  refine Ok.of (sSignBy_v y.2 k m (by omega) (by omega) hm) ?_
  have := signs_len y.2 m k.1 []
  rw [List.length_nil, Nat.zero_add] at this
  omega
theorem l14First_l {code : List Int} {x0 : Tl1Cur} {v18 v19 v20 v21 v22 v23 v24 v25 v26 v1 v2 v27 v28 v29 : Int} {b : Bool} {l1 l2 l3 : List Int} {y1 : Tl1Cur × List Int × Int} (hc : Cu code (x0.1, v1, v2)) (h1 : y1.2.1.length ≤ 3) (hl1 : l1.length ≤ 4) (hl2 : l2.length ≤ 4) (hl3 : l3.length ≤ 4) : Ok (spec_l14First.l25 x0 v18 v19 v20 v21 v22 v23 v24 v25 v26 b l1 y1 v1 v2 v27 v28 v29 l2 l3) (fun r => Cu code r.1 ∧ sB r.2) := by
  refine (sign_ok ?_ ?_ ?_).bind fun y hy => Ok.ret ⟨hc, hy⟩
  · exact ⟨hl1, hl2, hl3⟩
  · exact Nat.le_succ_of_le h1
  · exact Nat.le_succ_of_le h1
theorem firstHead_kB {k : TKeys} {s : Int} {xs : List TEntry} {now term : Int} (hk : k.1.length ≤ 3) : kB (RHeadBool_r0 (firstHead k s xs now term)) := by
  unfold firstHead
  cases firstG k s xs now term with
  | true => exact ⟨Nat.le_succ_of_le hk, Nat.zero_le _, Nat.zero_le _⟩
  | false => exact ⟨Nat.zero_le _, Nat.zero_le _, Nat.zero_le _⟩
theorem l14First_ok {code : List Int} {c : Tl1Cur} (hc : Cu code c) : Ok (spec_l14First c) (fun r => Cu code r.1 ∧ sB r.2) := by
  unfold spec_l14First spec_l14First.b
  simp only [both_eq]
  refine (l6Keys_ok hc).bind fun y1 h1 => (below_ok (hc.re h1.1) 9).bind fun y2 h2 => (l9List_ok (hc.re h2.1)).bind fun y3 h3 => (below_ok (hc.re h3.1) 40).bind fun y4 h4 => (below_ok (hc.re h4.1) 60).bind fun y5 h5 => Ok.bind (P := fun y => kB (RHeadBool_r0 y)) ?_ fun y6 h6 => ?_
  · have hx := h3.2
    have hk := h1.2
    exact Ok.of (sFirstHead_v y1.2 y2.2 y3.2 y4.2 y5.2 (by show y1.2.1.length ≤ _; omega) (by omega)) (firstHead_kB h1.2)
  · refine (below_ok (hc.re h5.1) 4).bind fun y7 h7 => Ok.ite (fun _ => ?_) fun _ => Ok.ite (fun _ => ?_) fun _ => l14First_l (hc.re h7.1) h1.2 h6.1 h6.2.1 h6.2.2
    · exact (l6Keys_ok (hc.re h7.1)).bind fun y8 h8 => (below_ok (hc.re h8.1) 30).bind fun y9 h9 => l14First_l (hc.re h9.1) h1.2 h6.1 (Nat.le_succ_of_le h8.2) h6.2.2
    · exact (l6Keys_ok (hc.re h7.1)).bind fun y8 h8 => l14First_l (hc.re h8.1) h1.2 h6.1 h6.2.1 (Nat.le_succ_of_le h8.2)
theorem l14Any_ok {code : List Int} {c : Tl1Cur} (hc : Cu code c) : Ok (spec_l14Any c) (fun r => Cu code r.1 ∧ sB r.2) := by
  unfold spec_l14Any
  refine (l14First_ok hc).bind fun y1 h1 => (below_ok (hc.re h1.1) 8).bind fun y2 h2 => Ok.ite (fun _ => ?_) fun _ => Ok.ite (fun _ => ?_) fun _ => Ok.ite (fun _ => ?_) fun _ => ?_
  · exact (l13Any_ok (hc.re h2.1)).bind fun y3 h3 => Ok.ret ⟨hc.re h3.1, h3.2, h1.2.2⟩
  · refine Ok.bind (P := fun m => m.length ≤ 8388608) ?_ fun m hm => (l7Sigs_ok (hc.re h2.1) (show _ ≤ 4 from h1.2.1.1) hm).bind fun y5 h5 => Ok.ret ⟨hc.re h5.1, h1.2.1, h5.2⟩
    have hz := kB_size h1.2.1
    have hm : (headInts (Signed_Head y1.2)).length ≤ 8388608 := by rw [headInts_len]; omega
    exact Ok.of (sHeadInts_v _ (Nat.le_trans hz (by decide))) hm
  · refine (sign_ok ?_ ?_ ?_).bind fun y6 h6 => Ok.ret ⟨hc.re h2.1, h6⟩
    · exact h1.2.1
    · exact h1.2.1.1
    · exact h1.2.1.1
  · exact Ok.ret ⟨hc.re h2.1, h1.2⟩
theorem next63 {code : List Int} {x0 : Tl1Cur} {a b v1 v2 v18 v19 v20 v21 v22 v24 v25 v26 v27 v33 : Int} {h : THead} {f : Bool} {l1 l2 l3 l4 : List Int} (hc : Cu code (x0.1, v1, v2)) (h1 : l1.length ≤ 4) (h2 : l2.length ≤ 4) (h3 : l3.length ≤ 4) (h4 : l4.length ≤ 4) : Ok (spec_l15Next.l63 x0 a h b v1 v2 v18 v19 v20 v21 v22 v24 v25 v26 v27 f l1 l2 l3 l4 v33) (fun r => Cu code r.1 ∧ sB r.2) := by
  refine (sign_ok ?_ ?_ ?_).bind fun y hy => Ok.ret ⟨hc, hy⟩
  · exact ⟨h1, h2, h3⟩
  · exact h4
  · exact h4
theorem next27 {code : List Int} {x0 : Tl1Cur} {x1 y1 : THead} {a b v1 v2 v35 v36 : Int} (hc : Cu code (x0.1, v1, v2)) (hx : kB x1) (hy : kB y1) : Ok (spec_l15Next.l27 x0 x1 a v35 y1 b v1 v2 v36) (fun r => Cu code r.1 ∧ sB r.2) := by
  refine Ok.bind (P := fun k => k = Head_Heirs x1) (Ok.of (l6Copy_v _ (by have := hx.2.1; omega)) rfl) fun k hk => ?_
  subst hk
  exact next63 hc hx.2.1 hy.2.1 hy.2.2 hx.2.1
theorem next25 {code : List Int} {x0 : Tl1Cur} {x1 y1 : THead} {a b v1 v2 v35 v36 : Int} (hc : Cu code (x0.1, v1, v2)) (hx : kB x1) (hy : kB y1) : Ok (spec_l15Next.l25 x0 x1 a v36 y1 b v1 v2 v35) (fun r => Cu code r.1 ∧ sB r.2) := by
  unfold spec_l15Next.l25 spec_l15Next.g25
  simp only [both_eq]
  exact (below_ok hc 60).bind fun y h => next27 (hc.re h.1) hx hy
theorem next41 {code : List Int} {x0 : Tl1Cur} {x1 y1 : THead} {a b v1 v2 v35 v36 : Int} {f g : Bool} (hc : Cu code (x0.1, v1, v2)) (hx : kB x1) (hy : kB y1) : Ok (spec_l15Next.l41 x0 x1 a v35 v36 y1 b f v1 v2 g) (fun r => Cu code r.1 ∧ sB r.2) :=
  Ok.ite (fun _ => (l6Keys_ok hc).bind fun y h => next63 (hc.re h.1) (Nat.le_succ_of_le h.2) hy.2.1 hy.2.2 hx.2.2) fun _ => next63 hc hy.1 hy.2.1 hy.2.2 hx.2.2
theorem next13 {code : List Int} {x0 : Tl1Cur} {x1 y1 : THead} {a b v1 v2 v35 v36 : Int} (hc : Cu code (x0.1, v1, v2)) (hx : kB x1) (hy : kB y1) : Ok (spec_l15Next.l13 x0 x1 a v35 y1 b v1 v2 v36) (fun r => Cu code r.1 ∧ sB r.2) := by
  unfold spec_l15Next.l13 spec_l15Next.g13
  simp only [both_eq]
  refine (below_ok hc 6).bind fun y5 h5 => Ok.ite (fun _ => ?_) fun _ => Ok.ite (fun _ => Ok.ite (fun _ => ?_) fun _ => ?_) fun _ => Ok.ite (fun _ => ?_) fun _ => Ok.ite (fun _ => ?_) fun _ => Ok.ite (fun _ => ?_) fun _ => ?_
  · exact (below_ok (hc.re h5.1) 3).bind fun y h => next25 (hc.re h.1) hx hy
  · exact (once_ok (hc.re h5.1) 2).bind fun y h => next41 (hc.re h) hx hy
  · exact next41 (hc.re h5.1) hx hy
  · exact (l6Keys_ok (hc.re h5.1)).bind fun y h => next63 (hc.re h.1) (Nat.le_succ_of_le h.2) hy.2.1 hy.2.2 hx.1
  · refine (l9List_ok (hc.re h5.1)).bind fun y h => Ok.bind (P := fun _ => True) (Ok.of (sRoot_v _ (by have := h.2; omega)) trivial) fun z _ => next63 (hc.re h.1) hy.1 hy.2.1 hy.2.2 hx.1
  · exact (l6Keys_ok (hc.re h5.1)).bind fun y h => (below_ok (hc.re h.1) 20).bind fun z hz => (l6Keys_ok (hc.re hz.1)).bind fun u hu => next63 (hc.re hu.1) hy.1 (Nat.le_succ_of_le h.2) (Nat.le_succ_of_le hu.2) hx.1
  · exact next63 (hc.re h5.1) hy.1 hy.2.1 hy.2.2 hx.1
theorem next_ok {code : List Int} {c : Tl1Cur} (hc : Cu code c) {p : THead} (hp : kB p) : Ok (spec_l15Next c p) (fun r => Cu code r.1 ∧ sB r.2) := by
  have hz := kB_size hp
  unfold spec_l15Next spec_l15Next.b
  simp only [both_eq]
  refine Ok.bind (P := fun h => h = p) (Ok.of (l13Copy_v p (by omega)) rfl) fun h hh => ?_
  subst hh
  refine Ok.bind (P := fun _ => True) (Ok.of (sHeadDigest_v h (by omega)) trivial) fun d _ => (below_ok hc 40).bind fun y3 h3 => ?_
  unfold spec_l15Next.l11 spec_l15Next.g11
  simp only [both_eq]
  exact (below_ok (hc.re h3.1) 60).bind fun y4 h4 => next13 (hc.re h4.1) hp hp
def lB (xs : List TSigned) : Prop := ∀ s ∈ xs, sB s
theorem lB_size : ∀ {xs : List TSigned}, lB xs → sizeSignedS xs ≤ 21 * xs.length
  | [], _ => Nat.le_refl _
  | s :: xs, h => by
    have ih := lB_size (xs := xs) fun t ht => h t (List.mem_cons_of_mem _ ht)
    have hs := sB_size (h s (List.mem_cons_self ..))
    unfold sizeSignedS sizeS at ih ⊢
    simp only [List.map_cons, List.sum_cons, List.length_cons]
    omega
theorem lB_app {xs : List TSigned} {s : TSigned} (h : lB xs) (hs : sB s) : lB (xs ++ [s]) := by
  intro t ht
  rcases List.mem_append.1 ht with ht | ht
  · exact h t ht
  · rw [List.mem_singleton.1 ht]; exact hs
theorem ext_or (xs : List TSigned) (s : TSigned) : (ext xs s).1 = xs ∨ (ext xs s).1 = xs ++ [s] := by
  unfold ext ext2
  cases (!isChain xs || decide ((xs.length : Int) ≥ (12 : Int))) with
  | true => exact .inl rfl
  | false =>
    cases nextCode (Signed_Head (lastS xs)) s != (1 : Int) with
    | true => exact .inl rfl
    | false => exact .inr rfl
theorem ext_lB {xs : List TSigned} {s : TSigned} (h : lB xs) (hs : sB s) : lB (ext xs s).1 ∧ xs.length ≤ (ext xs s).1.length ∧ (ext xs s).1.length ≤ xs.length + 1 := by
  rcases ext_or xs s with e | e <;> rw [e]
  · exact ⟨h, Nat.le_refl _, Nat.le_succ _⟩
  · exact ⟨lB_app h hs, by rw [len1]; omega, by rw [len1]; omega⟩
theorem dSigned_sB : sB dSigned := ⟨⟨Nat.zero_le _, Nat.zero_le _, Nat.zero_le _⟩, Nat.zero_le _⟩
theorem lB_getD {xs : List TSigned} (h : lB xs) (i : Nat) : sB (xs.getD i dSigned) := by
  by_cases hi : i < xs.length
  · rw [at_n hi]; exact h _ (List.getElem_mem _)
  · have e : xs.getD i dSigned = dSigned := by simp [List.getD, show xs.length ≤ i by omega]
    rw [e]; exact dSigned_sB
theorem l16Chain_l {code : List Int} {x0 : Tl1Cur} : ∀ (n : Nat) (v a b : Int) (xs : List TSigned), v < (n : Int) → 0 ≤ v → v ≤ 1000 → 1 ≤ xs.length → xs.length + v.toNat ≤ 1000 → lB xs → Cu code (x0.1, a, b) → Ok (spec_l16Chain.l6 x0 n v a b xs) (fun r => Cu code r.1 ∧ lB r.2 ∧ 1 ≤ r.2.length ∧ r.2.length ≤ xs.length + v.toNat) := by
  intro n
  induction n with
  | zero => intro v a b xs h0 h1; omega
  | succ n ih =>
    intro v a b xs h0 h1 h2 hx ha hl hc
    rw [spec_l16Chain.u6]
    refine Ok.ite (fun h => ?_) (fun h => Ok.ret ⟨hc, hl, hx, by show xs.length ≤ _; omega⟩)
    have h := ge0 h
    have e : IntKind.i64.wrap ((xs.length : Int) - (1 : Int)) = (xs.length : Int) - 1 := w64 (by omega) (by omega)
    rw [e]
    refine Ok.chk (decide_eq_true (by omega)) (Ok.chk (decide_eq_true (by omega)) ?_)
    refine (next_ok hc (lB_getD hl _).1).bind fun y hy => Ok.bind (P := fun z => z = ext xs y.2) (Ok.of (sExtend_v xs y.2 ?_ ?_) rfl) fun z hz => ?_
    · have := lB_size hl; omega
    · have := sB_size hy.2; omega
    · subst hz
      rw [pred_w h h2]
      obtain ⟨k1, k2, k3⟩ := ext_lB hl hy.2
      refine (ih (v - 1) _ _ (ext xs y.2).1 (by omega) (by omega) (by omega) (by omega) (by omega) k1 (hc.re hy.1)).mono fun r hr => ⟨hr.1, hr.2.1, hr.2.2.1, ?_⟩
      have := hr.2.2.2
      omega
theorem l16Chain_ok {code : List Int} {c : Tl1Cur} (hc : Cu code c) : Ok (spec_l16Chain c) (fun r => Cu code r.1 ∧ lB r.2 ∧ 1 ≤ r.2.length ∧ r.2.length ≤ 5) := by
  unfold spec_l16Chain
  refine (l14First_ok hc).bind fun y1 h1 => (below_ok (hc.re h1.1) 5).bind fun y hy => ?_
  obtain ⟨k1, k2, k3, _⟩ := hy
  have k3 := k3 (by omega)
  have hk := KK_gt (n := 1000) (by omega)
  refine (l16Chain_l KK y.2 _ _ [y1.2] (by omega) (by omega) (by omega) (Nat.le_refl 1) (by show 1 + _ ≤ _; omega) (fun s hs => by rw [List.mem_singleton.1 hs]; exact h1.2) (hc.re k1)).mono fun r hr => ⟨hr.1, hr.2.1, hr.2.2.1, ?_⟩
  have : r.2.length ≤ 1 + y.2.toNat := hr.2.2.2
  omega
theorem lB_upd {xs : List TSigned} (h : lB xs) (f : TSigned → TSigned) (hf : ∀ s, sB s → sB (f s)) (i : Nat) : lB (V.upd xs i f) := by
  induction xs generalizing i with
  | nil => exact h
  | cons x xs ih =>
    cases i with
    | zero =>
      intro s hs
      rcases List.mem_cons.1 (show s ∈ f x :: xs from hs) with rfl | hs
      · exact hf x (h x (List.mem_cons_self ..))
      · exact h s (List.mem_cons_of_mem _ hs)
    | succ i =>
      intro s hs
      rcases List.mem_cons.1 (show s ∈ x :: V.upd xs i f from hs) with rfl | hs
      · exact h s (List.mem_cons_self ..)
      · exact ih (fun t ht => h t (List.mem_cons_of_mem _ ht)) i s hs
theorem l16Any_ok {code : List Int} {c : Tl1Cur} (hc : Cu code c) : Ok (spec_l16Any c) (fun r => Cu code r.1 ∧ lB r.2 ∧ r.2.length ≤ 6) := by
  unfold spec_l16Any
  refine (l16Chain_ok hc).bind fun y1 h1 => (below_ok (hc.re h1.1) 10).bind fun y2 h2 => ?_
  obtain ⟨_, hl, k1, k2⟩ := h1
  have e : IntKind.i64.wrap ((y1.2.length : Int) - (1 : Int)) = (y1.2.length : Int) - 1 := w64 (by omega) (by omega)
  refine Ok.ite (fun _ => ?_) fun _ => Ok.ite (fun _ => ?_) fun _ => Ok.ite (fun _ => ?_) fun _ => Ok.ite (fun _ => ?_) fun _ => ?_
  · rw [e]
    exact Ok.chk (by decide) (Ok.chk (decide_eq_true (by omega)) (Ok.chk (decide_eq_true (by omega)) (Ok.ret ⟨hc.re h2.1, fun s hs => hl s (List.mem_of_mem_take hs), by show (y1.2.take _).length ≤ 6; rw [List.length_take]; omega⟩)))
  · exact (l14Any_ok (hc.re h2.1)).bind fun y3 h3 => Ok.chk (app1 (by omega)) (Ok.ret ⟨hc.re h3.1, lB_app hl h3.2, by show (y1.2 ++ [y3.2]).length ≤ 6; rw [len1]; omega⟩)
  · have hp : decide ((0 : Int) < (y1.2.length : Int)) = true := decide_eq_true (by omega)
    exact Ok.chk (by decide) (Ok.chk hp (Ok.chk (by decide) (Ok.chk hp (Ok.ret ⟨hc.re h2.1, by refine lB_upd hl _ ?_ _; intro s hs; exact hs, by show (V.upd y1.2 _ _).length ≤ 6; rw [upd_len]; omega⟩))))
  · exact Ok.chk (by decide) (Ok.chk (decide_eq_true (by omega)) (Ok.chk (decide_eq_true (by omega)) (Ok.ret ⟨hc.re h2.1, fun s hs => hl s (List.mem_of_mem_drop hs), by show (y1.2.drop _).length ≤ 6; rw [List.length_drop]; omega⟩)))
  · exact Ok.ret ⟨hc.re h2.1, hl, by show y1.2.length ≤ 6; omega⟩
theorem drawExtend_ok {code : List Int} (hl : code.length ≤ 1050000) : Ok (spec_DrawExtend code) (fun r => lB (RListSigned_r0 r) ∧ (RListSigned_r0 r).length ≤ 6 ∧ sB (RListSigned_r1 r)) := by
  unfold spec_DrawExtend
  refine (l1New_ok hl).bind fun c hc => (l16Any_ok hc).bind fun y h => ?_
  have any : ∀ (a b : Int), Cu code (c.1, a, b) → Ok ((spec_l14Any (c.1, a, b)).bind fun y3 => some (RListSigned_mk y.2 y3.2)) (fun r => lB (RListSigned_r0 r) ∧ (RListSigned_r0 r).length ≤ 6 ∧ sB (RListSigned_r1 r)) :=
    fun a b hab => (l14Any_ok hab).bind fun z hz => Ok.ret ⟨h.2.1, h.2.2, hz.2⟩
  refine Ok.ite (fun _ => any _ _ (hc.re h.1)) fun hn => (once_ok (hc.re h.1) 4).bind fun z hz => Ok.ite (fun _ => any _ _ (hc.re hz)) fun _ => ?_
  have hn : (y.2.length : Int) ≠ 0 := by rw [← beq_eq_false_iff_ne]; exact hn
  have h6 := h.2.2
  have e : IntKind.i64.wrap ((y.2.length : Int) - (1 : Int)) = (y.2.length : Int) - 1 := w64 (by omega) (by omega)
  rw [e]
  exact Ok.chk (decide_eq_true (by omega)) (Ok.chk (decide_eq_true (by omega)) ((next_ok (hc.re hz) (lB_getD h.2.1 _).1).bind fun u hu => Ok.ret ⟨h.2.1, h.2.2, hu.2⟩))
theorem drawHeadAt_ok {code : List Int} (hl : code.length ≤ 1050000) : Ok (spec_DrawHeadAt code) (fun r => lB r.1 ∧ r.1.length ≤ 6) := by
  unfold spec_DrawHeadAt
  exact (l1New_ok hl).bind fun c hc => (l16Any_ok hc).bind fun y h => (below_ok (hc.re h.1) 120).bind fun z hz => Ok.ret ⟨h.2.1, h.2.2⟩
theorem fw_app (s : TSigned) : ∀ (xs : List TSigned) (o : Option THead) (k : Int), 0 ≤ k → xs ≠ [] → fw o xs k < 0 → mayFollow (Signed_Head (xs.getD (xs.length - 1) dSigned)) s = true → fw o (xs ++ [s]) k < 0
  | [], _, _, _, h, _, _ => absurd rfl h
  | x :: t, o, k, hk, _, h, hm => by
    have rest : fw (some (Signed_Head x)) t (k + 1) < 0 → fw (some (Signed_Head x)) (t ++ [s]) (k + 1) < 0 := by
      intro ht
      cases t with
      | nil =>
        have hm : mayFollow (Signed_Head x) s = true := hm
        show (bif !mayFollow (Signed_Head x) s then (k + 1) else fw (some (Signed_Head s)) [] (k + 1 + 1)) < 0
        rw [hm]
        exact (by decide : (-1 : Int) < 0)
      | cons y t => exact fw_app s (y :: t) _ _ (by omega) (by simp) ht hm
    cases o with
    | none =>
      have h : (bif !isFirst x then k else fw (some (Signed_Head x)) t (k + 1)) < 0 := h
      show (bif !isFirst x then k else fw (some (Signed_Head x)) (t ++ [s]) (k + 1)) < 0
      cases hf : isFirst x with
      | false => rw [hf] at h; have h : k < 0 := h; omega
      | true => rw [hf] at h; exact rest h
    | some p =>
      have h : (bif !mayFollow p x then k else fw (some (Signed_Head x)) t (k + 1)) < 0 := h
      show (bif !mayFollow p x then k else fw (some (Signed_Head x)) (t ++ [s]) (k + 1)) < 0
      cases hf : mayFollow p x with
      | false => rw [hf] at h; have h : k < 0 := h; omega
      | true => rw [hf] at h; exact rest h
theorem lastS_gd {xs : List TSigned} (h : 1 ≤ xs.length ∧ xs.length ≤ 13) : lastS xs = xs.getD (xs.length - 1) dSigned := by
  unfold lastS
  rw [show IntKind.i64.wrap ((xs.length : Int) - (1 : Int)) = (xs.length : Int) - 1 from w64 (by omega) (by omega)]
  congr 1
  omega
theorem chain_app {xs : List TSigned} {s : TSigned} (hc : isChain xs = true) (hl : xs.length < 12) (hn : nextCode (Signed_Head (lastS xs)) s = 1) : isChain (xs ++ [s]) = true := by
  have hk := isChain_len xs hc
  unfold isChain inR at hc ⊢
  simp only [Bool.and_eq_true, decide_eq_true_eq] at hc ⊢
  refine ⟨by rw [len1]; omega, fw_app s xs none 0 (Int.le_refl 0) (by rintro rfl; exact absurd hk.1 (by decide)) hc.2 ?_⟩
  rw [lastS_gd (by omega)] at hn
  unfold mayFollow
  rw [hn]
  rfl
theorem ext_cs (xs : List TSigned) (s : TSigned) : ((ext xs s).1 = xs ∧ ((ext xs s).2 != (1 : Int)) = true) ∨ (ext xs s = (xs ++ [s], 1) ∧ isChain xs = true ∧ xs.length < 12 ∧ nextCode (Signed_Head (lastS xs)) s = 1) := by
  unfold ext
  cases hg : (!isChain xs || decide ((xs.length : Int) ≥ (12 : Int))) with
  | true => exact .inl ⟨rfl, rfl⟩
  | false =>
    simp only [Bool.or_eq_false_iff, Bool.not_eq_false', decide_eq_false_iff_not] at hg
    unfold ext2
    rw [cond_f]
    cases hn : nextCode (Signed_Head (lastS xs)) s != (1 : Int) with
    | true => rw [cond_t]; exact .inl ⟨rfl, hn⟩
    | false =>
      rw [cond_f]
      refine .inr ⟨rfl, hg.1, by omega, ?_⟩
      simpa using hn
theorem hq_self (s : TSigned) : hq s s = true := decide_eq_true rfl
theorem all2_self : ∀ xs : List TSigned, all2 hq xs xs = true
  | [] => rfl
  | x :: xs => by show (hq x x && all2 hq xs xs) = true; rw [hq_self, all2_self xs]; rfl
theorem all2_pre : ∀ (xs ys : List TSigned), all2 hq xs (xs ++ ys) = true
  | [], ys => by cases ys <;> rfl
  | x :: xs, ys => by show (hq x x && all2 hq xs (xs ++ ys)) = true; rw [hq_self, all2_pre xs ys]; rfl
theorem preB_pre (xs ys : List TSigned) : preB xs (xs ++ ys) = true := by
  unfold preB
  rw [all2_pre, decide_eq_true (by rw [List.length_append]; omega)]
  rfl
theorem preB_self (xs : List TSigned) : preB xs xs = true := by
  unfold preB
  rw [all2_self, decide_eq_true (Nat.le_refl _)]
  rfl
theorem preB_long {xs : List TSigned} {s : TSigned} : preB (xs ++ [s]) xs = false := by
  unfold preB
  rw [decide_eq_false (by rw [len1]; omega)]
  rfl
theorem eqHeads_self (h : THead) : eqHeads h h = true := decide_eq_true rfl
theorem lastS_app (xs : List TSigned) (s : TSigned) (h : xs.length < 12) : lastS (xs ++ [s]) = s := by
  rw [lastS_gd (by rw [len1]; omega), len1, Nat.add_sub_cancel, at_n (by rw [len1]; omega)]
  simp
theorem getD_app (xs : List TSigned) (s : TSigned) : (xs ++ [s]).getD xs.length dSigned = s := by
  rw [at_n (by rw [len1]; omega)]
  simp
theorem lBs {xs : List TSigned} (h : lB xs) (hl : xs.length ≤ 100) : sizeSignedS xs ≤ 1050000 := by have := lB_size h; omega
theorem chains17 {code : List Int} (hc : code.length ≤ 1050000) {y : TRListSigned} (h1 : lB (RListSigned_r0 y)) (h2 : (RListSigned_r0 y).length ≤ 6) (h3 : sB (RListSigned_r1 y)) : laws_FnChains.l17 code y (ext (RListSigned_r0 y) (RListSigned_r1 y)) = some true := by
  have hx := lBs h1 (by omega)
  obtain ⟨g1, g2, g3⟩ := ext_lB h1 h3
  have hz := lBs g1 (by omega)
  unfold laws_FnChains.l17 laws_FnChains.g17
  rcases ext_cs (RListSigned_r0 y) (RListSigned_r1 y) with ⟨e1, e2⟩ | ⟨e, k1, k2, k3⟩
  · refine cT e2 (cT (by rw [e1]; exact beq_self_eq_true _) ?_)
    rw [e1]
    refine bnd (iIsPrefix_v _ _ hx hx) ?_
    rw [preB_self, cond_t]
    refine bnd (iIsPrefix_v _ _ hx hx) ?_
    rw [preB_self]
  · rw [e] at hz ⊢
    have kc := chain_app k1 k2 k3
    refine cF rfl ?_
    refine bnd (iLastHead_v _ hz) ?_
    have q1 : lastHead (RListSigned_r0 y ++ [RListSigned_r1 y]) = RHeadBool_mk (Signed_Head (RListSigned_r1 y)) true := by
      unfold lastHead
      rw [kc, cond_t, lastS_app _ _ k2]
    refine bnd (iOwnersAt_v _ _ hz) ?_
    have q2 : ownersAt (RListSigned_r0 y ++ [RListSigned_r1 y]) ((RListSigned_r0 y).length : Int) = RKeysBool_mk (Head_Keys (Signed_Head (RListSigned_r1 y))) true := by
      unfold ownersAt
      have e3 : inR ((RListSigned_r0 y).length : Int) 0 (IntKind.i64.wrap (((RListSigned_r0 y ++ [RListSigned_r1 y]).length : Int) - (1 : Int))) = true := by
        rw [len1, w64 (by omega) (by omega)]
        unfold inR
        simp only [Bool.and_eq_true, decide_eq_true_eq]
        omega
      rw [kc, e3, Bool.and_self, cond_t, Int.toNat_natCast, getD_app]
    refine bnd (iHeadAt_v _ _ hz) ?_
    rw [q1, q2]
    have q3 : headAt (RListSigned_r0 y ++ [RListSigned_r1 y]) (Head_Time (RHeadBool_r0 (RHeadBool_mk (Signed_Head (RListSigned_r1 y)) true))) = RHeadBool_mk (Signed_Head (RListSigned_r1 y)) true := by
      unfold headAt
      rw [kc, cond_t, len1]
      show (bif decide (Head_Time (Signed_Head ((RListSigned_r0 y ++ [RListSigned_r1 y]).getD (RListSigned_r0 y).length dSigned)) ≤ Head_Time (RHeadBool_r0 (RHeadBool_mk (Signed_Head (RListSigned_r1 y)) true))) then RHeadBool_mk (Signed_Head ((RListSigned_r0 y ++ [RListSigned_r1 y]).getD (RListSigned_r0 y).length dSigned)) true else _) = _
      rw [getD_app, (RHeadBool_s _ _).1, decide_eq_true (Int.le_refl _), cond_t]
    rw [q3]
    obtain ⟨z, hd, z1, z2⟩ := drawHeadAt_ok hc
    have hz1 := lBs z1 (by omega)
    have hs := kB_size h3.1
    have hh := headAt_size z.1 z.2 hz1
    rw [(RHeadBool_s _ _).1, (RHeadBool_s _ _).2]
    refine bnd hd (bnd (iHeadAt_v _ _ hz1) (bnd (sHeadAt_v _ _ hz1) (bnd (iIsChain_v _ hz) (cT kc (bnd (iIsPrefix_v _ _ hx hz) (cT (preB_pre _ _) (bnd (iIsPrefix_v _ _ hz hx) (cT (by rw [preB_long]; rfl) (cT rfl (bnd (iEqualHeads_v _ _ (by omega) (by omega)) (cT (eqHeads_self _) (cT rfl (bnd (EqualKeys_v _ _ ?_) (cT (decide_eq_true ?_) (cT rfl (bnd (iEqualHeads_v _ _ (by omega) (by omega)) (cT (eqHeads_self _) (cT (beq_self_eq_true _) (bnd (iEqualHeads_v _ _ hh hh) ?_)))))))))))))))))))
    · rw [(RKeysBool_s _ _).1]; have := h3.1.1; omega
    · rw [(RKeysBool_s _ _).1]
    · rw [eqHeads_self]
theorem pure_FnChains (x0 : List Int) : laws_FnChains x0 = some true := by
  unfold laws_FnChains laws_FnChains.b
  refine bnd rfl ?_
  by_cases hb : (x0.length : Int) > 1048576
  · exact cT (decide_eq_true hb) rfl
  refine cF (decide_eq_false hb) ?_
  have hc : x0.length ≤ 1050000 := by omega
  obtain ⟨y, hd, h1, h2, h3⟩ := drawExtend_ok hc
  have hx := lBs h1 (by omega)
  have hs := sB_size h3
  refine bnd hd (bnd (iExtend_v _ _ hx (by omega)) (bnd (sExtend_v _ _ hx (by omega)) (cF (bne_self _) (cF (bne_self _) (bnd (iIsChain_v _ hx) (bnd (sIsChain_v _ hx) (cF (nbeq _) (bnd (iFirstWrong_v _ hx) (bnd (sFirstWrong_v _ hx) (cF (bne_self _) (chains17 hc h1 h2 h3)))))))))))

end Go.Proofs.YtpiabcaiccnciaaGreat
