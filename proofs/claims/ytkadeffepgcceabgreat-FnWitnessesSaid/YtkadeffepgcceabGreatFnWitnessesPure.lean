/- The plain law of FnWitnesses: what the printed functions compute is true, for all data in range. -/
import Derived.Test.YtkadeffepgcceabGreatFnWitnessesPure0
namespace Go.Proofs.YtkadeffepgcceabGreat
open V
set_option linter.unusedVariables false
set_option linter.unusedSimpArgs false
set_option maxHeartbeats 1000000
theorem bnd {α β : Type} {e : Option α} {a : α} {f : α → Option β} {r : Option β} (h : e = some a) (hf : f a = r) : e.bind f = r := by rw [h, bind_s]; exact hf
theorem cF {α : Type} {c : Bool} {a b r : α} (h : c = false) (hb : b = r) : (bif c then a else b) = r := by rw [h, cond_f]; exact hb
theorem cT {α : Type} {c : Bool} {a b r : α} (h : c = true) (ha : a = r) : (bif c then a else b) = r := by rw [h, cond_t]; exact ha
theorem nbeq {α : Type} [BEq α] [ReflBEq α] (a : α) : (!(a == a)) = false := by rw [beq_self_eq_true]; rfl
def fnd {α : Type} (p : α → Bool) : List α → Int → Int
 | [], _ => -1
 | x :: xs, k => bif p x then k else fnd p xs (k + 1)
theorem fnd_cons {α : Type} (p : α → Bool) (x : α) (xs : List α) (k : Int) : fnd p (x :: xs) k = bif p x then k else fnd p xs (k + 1) := rfl
theorem fnd_step {α : Type} (p : α → Bool) {xs : List α} {i : Nat} (h : i < xs.length) : fnd p (xs.drop i) (i : Int) = bif p xs[i] then (i : Int) else fnd p (xs.drop (i + 1)) ((i + 1 : Nat) : Int) := by
 rw [List.drop_eq_getElem_cons h, fnd_cons]; rfl
theorem fnd_last {α : Type} (p : α → Bool) (xs : List α) (k : Int) : fnd p (xs.drop xs.length) k = -1 := by
 rw [List.drop_length]; rfl
theorem fnd_ge {α : Type} (p : α → Bool) (xs : List α) : ∀ k : Int, 0 ≤ k → decide (fnd p xs k ≥ 0) = xs.any p := by
 induction xs with
 | nil => intro k hk; rfl
 | cons x t ih =>
   intro k hk
   rw [fnd_cons, List.any_cons]
   cases p x with
   | true => rw [cond_t, Bool.true_or]; exact decide_eq_true hk
   | false => rw [cond_f, Bool.false_or]; exact ih _ (by omega)
theorem fnd_at {α : Type} (p : α → Bool) (xs : List α) : ∀ (k : Int) (i : Nat) (h : i < xs.length), p xs[i] = true → (fnd p xs k != k + i) = (xs.take i).any p := by
 induction xs with
 | nil => intro k i h; simp at h
 | cons x t ih =>
   intro k i h hp
   cases i with
   | zero =>
     have hx : p x = true := hp
     rw [fnd_cons, hx, cond_t]; simp
   | succ i =>
     rw [fnd_cons, List.take_succ_cons, List.any_cons]
     cases hx : p x with
     | true => rw [cond_t, Bool.true_or]; simp; omega
     | false =>
       rw [cond_f, Bool.false_or, ← ih (k + 1) i (by simpa using h) (by simpa using hp)]
       congr 1; omega
def all2 {α β : Type} (g : α → β → Bool) : List α → List β → Bool
 | x :: xs, y :: ys => g x y && all2 g xs ys
 | _, _ => true
theorem all2_step {α β : Type} (g : α → β → Bool) {xs : List α} {ys : List β} {i : Nat} (h : i < xs.length) (h' : i < ys.length) : all2 g (xs.drop i) (ys.drop i) = (g xs[i] ys[i] && all2 g (xs.drop (i + 1)) (ys.drop (i + 1))) := by
 rw [List.drop_eq_getElem_cons h, List.drop_eq_getElem_cons h']; rfl
theorem l1In_v (a b c : Int) : Z29 a b c = some (decide (b ≤ a) && decide (a ≤ c)) := by
 show (bif decide (b ≤ a) then some (decide (a ≤ c)) else some false) = _
 cases decide (b ≤ a) <;> rfl
theorem InRange_v (a b c : Int) : Z74 a b c = some (decide (b ≤ a) && decide (a ≤ c)) := by
 show (bif decide (b ≤ a) then some (decide (a ≤ c)) else some false) = _
 cases decide (b ≤ a) <;> rfl
def sizeS {α : Type} (size : α → Nat) (xs : List α) : Nat := xs.length + (xs.map size).sum
theorem size_at {α : Type} (size : α → Nat) {xs : List α} {i : Nat} (h : i < xs.length) : size xs[i] ≤ (xs.map size).sum := by
 induction xs generalizing i with
 | nil => simp at h
 | cons x t ih =>
   rw [List.map_cons, List.sum_cons]
   cases i with
   | zero => show size x ≤ _; omega
   | succ i =>
     have hi : i < t.length := by simpa using h
     have := ih hi
     show size t[i] ≤ _
     omega
theorem wd {n : Int} (h : 0 ≤ n ∧ n ≤ 4611686018427387904) : IntKind.i64.wrap n = n := w64 (by omega) (by omega)
def sizeStr (x : ByteArray) : Nat := x.size
def sizeStringS (xs : List ByteArray) : Nat := sizeS sizeStr xs
def sizeKeys (x : TKeys) : Nat := x.1.length
def sizeHead (x : THead) : Nat := sizeKeys (Head_Keys x) + (sizeKeys (Head_Heirs x) + (sizeKeys (Head_Judge x)))
def sizeSigned (x : TSigned) : Nat := sizeHead (Signed_Head x) + ((Signed_Sigs x).length)
def sizeSignedS (xs : List TSigned) : Nat := sizeS sizeSigned xs
def sizeWitness (x : TWitness) : Nat := x.2.length
def sizeEntry (x : TEntry) : Nat := sizeStr x.1 + (sizeStringS x.2.2.2)
def sizeEntryS (xs : List TEntry) : Nat := sizeS sizeEntry xs
theorem Grow_v (n : Int) (h0 : 0 ≤ n) (h1 : n < 68719476736) : Z67 [] n = some [] := by
 have e0 : IntKind.i64.wrap ((0 : Int) - ((0 : Nat) : Int)) = 0 := w64 (by omega) (by omega)
 have e1 : IntKind.i64.wrap (n - 0) = n := by rw [w64 (by omega) (by omega)]; omega
 unfold Z67
 simp only [Z67.b, Z67.l7, Z67.g7, e0, e1]
 rw [decide_eq_false (by omega), cond_f]
 by_cases h : n > 0
 ·rw [decide_eq_true h, cond_t, decide_eq_true (by omega), cond_t, decide_eq_true h1, cond_t, decide_eq_true (by omega), cond_t, decide_eq_true (by omega), cond_t, decide_eq_true (by omega), cond_t]
  simp
 ·rw [decide_eq_false h, cond_f]
theorem Concat_l22 (x0 : List (List Int)) (hl : x0.length < 1152921504606846976) : ∀ i n, i ≤ x0.length → x0.length - i < n → ∀ acc : List Int, acc.length + (x0.drop i).flatten.length < 68719476736 → Z11.l22 x0 n (x0.length : Int) (i : Int) acc = some (acc ++ (x0.drop i).flatten) := by
 refine idx_ind ?_ ?_
 ·intro n acc ha
  rw [Z11.u22]
  simp only [Z11.g22, lt_f (Nat.le_refl _), cond_f, List.drop_length, List.flatten_nil, List.append_nil]
 ·intro i n hi ih acc ha
  rw [List.drop_eq_getElem_cons hi, List.flatten_cons] at ha ⊢
  rw [List.length_append] at ha
  rw [Z11.u22]
  simp only [Z11.g22, lt_t hi, ge_t, cond_t, w64_succ (i := i) (by omega), Int.toNat_natCast, at_n hi]
  rw [decide_eq_true (by omega), cond_t, ih _ (by rw [List.length_append]; omega), List.append_assoc]
theorem Concat_l6 (x0 : List (List Int)) (hl : x0.length < 1152921504606846976) (hf : x0.flatten.length < 68719476736) : ∀ i n, i ≤ x0.length → x0.length - i < n → ∀ s : Int, 0 ≤ s → s + (x0.drop i).flatten.length < 68719476736 → Z11.l6 x0 n s (x0.length : Int) (i : Int) = some x0.flatten := by
 refine idx_ind ?_ ?_
 ·intro n s h0 ha
  rw [Z11.u6]
  rw [List.drop_length, List.flatten_nil] at ha
  simp only [Z11.g6, lt_f (Nat.le_refl _), cond_f]
  rw [Grow_v s h0 (by simpa using ha), bind_s]
  have := Concat_l22 x0 hl 0 KK (Nat.zero_le _) (KK_gt (by omega)) [] (by simpa using hf)
  simpa using this
 ·intro i n hi ih s h0 ha
  rw [List.drop_eq_getElem_cons hi, List.flatten_cons, List.length_append] at ha
  rw [Z11.u6]
  simp only [Z11.g6, lt_t hi, ge_t, cond_t, w64_succ (i := i) (by omega), Int.toNat_natCast, at_n hi]
  rw [w64 (n := s + (x0[i].length : Int)) (by omega) (by omega), decide_eq_false (by omega), cond_f, ih _ (by omega) (by omega)]
theorem Concat_v (x0 : List (List Int)) (hl : x0.length < 1152921504606846976) (hf : x0.flatten.length < 68719476736) : Z11 x0 = some x0.flatten := by
 have := Concat_l6 x0 hl hf 0 KK (Nat.zero_le _) (KK_gt (by omega)) 0 (Int.le_refl 0) (by rw [List.drop_zero, Int.zero_add]; omega)
 exact this
theorem tmod_b (a : Int) {m : Int} (h : 0 < m) : -m < Int.tmod a m ∧ Int.tmod a m < m := by
 refine ⟨?_, Int.tmod_lt_of_pos a h⟩
 have h1 := Int.lt_tmod_of_pos a h
 omega
theorem Mod_eq (a b : Int) : Z151 a b = Z123 a b := by
 unfold Z151 Z123
 rw [l1In_v, InRange_v]
def mod2 (a : Int) : Int := Int.tmod (IntKind.i64.wrap (Int.tmod a 2147483647 + 2147483647)) 2147483647
theorem Mod_v (a : Int) : Z123 a 2147483647 = some (mod2 a) := by
 unfold Z123 mod2
 rw [InRange_v, bind_s]
 rw [decide_eq_true (by omega), decide_eq_true (by omega), Bool.and_self, Bool.not_true, cond_f]
 rw [show ((2147483647 : Int) == 0) = false from by decide, cond_f, cond_f]
def hstep (h a : Int) : Int := Int.tmod (IntKind.i64.wrap ((IntKind.i64.wrap ((IntKind.i64.wrap (h * (1000003 : Int))) + mod2 a)) + (13 : Int))) (2147483647 : Int)
theorem sHash_l (x0 : List Int) (hx : x0.length ≤ 1152921504606846976) : ∀ i n, i ≤ x0.length → x0.length - i < n → ∀ h : Int, Z20.l6 x0 n h (i : Int) = some ((x0.drop i).foldl hstep h) := by
 refine idx_ind ?_ ?_
 ·intro n h
  rw [Z20.u6]
  simp only [Z20.g6, lt_f (Nat.le_refl _), cond_f, List.drop_length, List.foldl_nil]
 ·intro i n hi ih h
  rw [List.drop_eq_getElem_cons hi, List.foldl_cons]
  rw [Z20.u6]
  simp only [Z20.g6, lt_t hi, ge_t, cond_t, bind_s, w64_succ (i := i) (by omega), Int.toNat_natCast, at_n hi, Mod_eq, Mod_v]
  rw [show ((2147483647 : Int) == 0) = false from by decide, cond_f, ih]
  rfl
theorem iHash_l (x0 : List Int) (hx : x0.length ≤ 1152921504606846976) : ∀ i n, i ≤ x0.length → x0.length - i < n → ∀ h : Int, Z25.l6 x0 n h (x0.length : Int) (i : Int) = some ((x0.drop i).foldl hstep h) := by
 refine idx_ind ?_ ?_
 ·intro n h
  rw [Z25.u6]
  simp only [Z25.g6, lt_f (Nat.le_refl _), cond_f, List.drop_length, List.foldl_nil]
 ·intro i n hi ih h
  rw [List.drop_eq_getElem_cons hi, List.foldl_cons]
  rw [Z25.u6]
  simp only [Z25.g6, lt_t hi, ge_t, cond_t, bind_s, w64_succ (i := i) (by omega), Int.toNat_natCast, at_n hi, Mod_v]
  rw [show ((2147483647 : Int) == 0) = false from by decide, cond_f, ih]
  rfl
theorem sHash_v (x0 : List Int) (hx : x0.length ≤ 1152921504606846976) : Z20 x0 = some (x0.foldl hstep 11) := by
 have := sHash_l x0 hx 0 KK (Nat.zero_le _) (KK_gt (by omega)) 11
 rw [List.drop_zero] at this
 exact this
theorem iHash_v (x0 : List Int) (hx : x0.length ≤ 1152921504606846976) : Z25 x0 = some (x0.foldl hstep 11) := by
 have := iHash_l x0 hx 0 KK (Nat.zero_le _) (KK_gt (by omega)) 11
 rw [List.drop_zero] at this
 exact this
def keysInts (k : TKeys) : List Int := [k.2, (k.1.length : Int)] ++ k.1
theorem keysInts_len (k : TKeys) : (keysInts k).length = k.1.length + 2 := by unfold keysInts; simp
theorem sKeysInts_v (k : TKeys) (h : k.1.length ≤ 1050000) : Z100 k = some (keysInts k) := by
 unfold Z100 keysInts
 rw [decide_eq_true (by simp; omega), cond_t]
theorem iKeysInts_v (k : TKeys) (h : k.1.length ≤ 1050000) : Z97 k = some (keysInts k) := by
 unfold Z97 keysInts
 rw [decide_eq_true (by simp; omega), cond_t]
def hd8 (x0 : THead) : List Int := [(Head_Zone x0), (Head_Epoch x0), (Head_Kind x0), (Head_Time x0), (Head_Until x0), (Head_Count x0), (Head_Root x0), (Head_Prev x0)]
def hde (x0 : THead) : List Int := [(Head_Wait x0)]
def hdb (x0 : THead) : List Int := [bif (Head_Frozen x0) then (1 : Int) else 0]
def headInts (x0 : THead) : List Int := ((((hd8 x0 ++ keysInts (Head_Keys x0)) ++ keysInts (Head_Heirs x0)) ++ hde x0) ++ keysInts (Head_Judge x0)) ++ hdb x0
theorem headInts_len (x0 : THead) : (headInts x0).length = sizeHead x0 + 16 := by
 unfold headInts sizeHead sizeKeys
 simp only [List.length_append, keysInts_len]
 simp [hd8, hde, hdb]; omega
theorem app_le {α : Type} (a b : List α) : (a ++ b).length = a.length + b.length := List.length_append
theorem sHeadInts_v (x0 : THead) (h : sizeHead x0 ≤ 1050000) : Z68 x0 = some (headInts x0) := by
 have hs := h
 unfold sizeHead sizeKeys at hs
 have e1 := sKeysInts_v (Head_Keys x0) (by omega)
 have e2 := sKeysInts_v (Head_Heirs x0) (by omega)
 have e3 := sKeysInts_v (Head_Judge x0) (by omega)
 have l1 := keysInts_len (Head_Keys x0)
 have l2 := keysInts_len (Head_Heirs x0)
 have l3 := keysInts_len (Head_Judge x0)
 have l8 : (hd8 x0).length = 8 := rfl
 have le : (hde x0).length = 1 := rfl
 show ((Z100 (Head_Keys x0)).bind fun y1 => bif decide ((hd8 x0).length + y1.length < 68719476736) then (Z100 (Head_Heirs x0)).bind fun y2 => bif decide ((hd8 x0 ++ y1).length + y2.length < 68719476736) then bif decide (((hd8 x0 ++ y1) ++ y2).length + (hde x0).length < 68719476736) then (Z100 (Head_Judge x0)).bind fun y3 => bif decide ((((hd8 x0 ++ y1) ++ y2) ++ hde x0).length + y3.length < 68719476736) then bif (Head_Frozen x0) then bif decide (((((hd8 x0 ++ y1) ++ y2) ++ hde x0) ++ y3).length + [(1 : Int)].length < 68719476736) then some (((((hd8 x0 ++ y1) ++ y2) ++ hde x0) ++ y3) ++ [(1 : Int)]) else none else bif decide (((((hd8 x0 ++ y1) ++ y2) ++ hde x0) ++ y3).length + [(0 : Int)].length < 68719476736) then some (((((hd8 x0 ++ y1) ++ y2) ++ hde x0) ++ y3) ++ [(0 : Int)]) else none else none else none else none else none) = _
 simp only [e1, e2, e3, bind_s, app_le, l1, l2, l3, l8, le, List.length_singleton]
 rw [decide_eq_true (by omega), cond_t, decide_eq_true (by omega), cond_t, decide_eq_true (by omega), cond_t, decide_eq_true (by omega), cond_t, decide_eq_true (by omega), cond_t]
 unfold headInts hdb
 cases (Head_Frozen x0) <;> rfl
theorem iHeadInts_v (x0 : THead) (h : sizeHead x0 ≤ 1050000) : Z81 x0 = some (headInts x0) := by
 have hs := h
 unfold sizeHead sizeKeys at hs
 have e1 := iKeysInts_v (Head_Keys x0) (by omega)
 have e2 := iKeysInts_v (Head_Heirs x0) (by omega)
 have e3 := iKeysInts_v (Head_Judge x0) (by omega)
 have eb : Z127 (Head_Frozen x0) = some (bif (Head_Frozen x0) then (1 : Int) else 0) := by
  unfold Z127
  cases (Head_Frozen x0) <;> rfl
 have ef : [hd8 x0, keysInts (Head_Keys x0), keysInts (Head_Heirs x0), hde x0, keysInts (Head_Judge x0), hdb x0].flatten = headInts x0 := by
  simp [headInts]
 have ec := Concat_v [hd8 x0, keysInts (Head_Keys x0), keysInts (Head_Heirs x0), hde x0, keysInts (Head_Judge x0), hdb x0] (by simp) (by rw [ef, headInts_len]; omega)
 rw [ef] at ec
 show ((Z97 (Head_Keys x0)).bind fun y1 => (Z97 (Head_Heirs x0)).bind fun y2 => (Z97 (Head_Judge x0)).bind fun y3 => (Z127 (Head_Frozen x0)).bind fun y4 => (Z11 [hd8 x0, y1, y2, hde x0, y3, [y4]]).bind fun y5 => some y5) = _
 simp only [e1, e2, e3, eb, bind_s]
 rw [show [bif (Head_Frozen x0) then (1 : Int) else 0] = hdb x0 from rfl, ec, bind_s]
def headDigest (x0 : THead) : Int := ([(233 : Int)] ++ headInts x0).foldl hstep 11
theorem sHeadDigest_v (x0 : THead) (h : sizeHead x0 ≤ 1050000) : Z72 x0 = some (headDigest x0) := by
 have hl := headInts_len x0
 unfold Z72 headDigest
 rw [sHeadInts_v x0 h, bind_s, decide_eq_true (by simp [hl]; omega), cond_t, sHash_v _ (by simp [hl]; omega), bind_s]
theorem iHeadDigest_v (x0 : THead) (h : sizeHead x0 ≤ 1050000) : Z79 x0 = some (headDigest x0) := by
 have hl := headInts_len x0
 unfold Z79 headDigest
 rw [iHeadInts_v x0 h, bind_s, decide_eq_true (by simp [hl]; omega), cond_t, iHash_v _ (by simp [hl]; omega), bind_s]
def markOf (x0 : THead) : TMark := ((Head_Zone x0), (Head_Epoch x0), headDigest x0)
theorem sMarkOf_v (x0 : THead) (h : sizeHead x0 ≤ 1050000) : Z10 x0 = some (markOf x0) := by
 unfold Z10
 rw [sHeadDigest_v x0 h, bind_s]; rfl
theorem iMarkOf_v (x0 : THead) (h : sizeHead x0 ≤ 1050000) : Z69 x0 = some (markOf x0) := by
 unfold Z69
 rw [iHeadDigest_v x0 h, bind_s]; rfl
def keyedHash (k : Int) (xs : List Int) : Int := (([k] ++ xs) ++ [k]).foldl hstep 11
theorem sKeyedHash_v (k : Int) (xs : List Int) (h : xs.length ≤ 16777216) : Z149 k xs = some (keyedHash k xs) := by
 unfold Z149 keyedHash
 rw [decide_eq_true (by simp; omega), cond_t, decide_eq_true (by simp; omega), cond_t, sHash_v _ (by simp; omega), bind_s]
theorem iKeyedHash_v (k : Int) (xs : List Int) (h : xs.length ≤ 16777216) : Z136 k xs = some (keyedHash k xs) := by
 have ef : [[k], xs, [k]].flatten = ([k] ++ xs) ++ [k] := by simp
 have ec := Concat_v [[k], xs, [k]] (by simp) (by rw [ef]; simp; omega)
 rw [ef] at ec
 unfold Z136 keyedHash
 rw [ec, bind_s, iHash_v _ (by simp; omega), bind_s]
def tagOf (k : Int) (xs : List Int) : Int := keyedHash k ([(223 : Int)] ++ xs)
theorem sTagOf_v (k : Int) (xs : List Int) (h : xs.length ≤ 8388608) : Z105 k xs = some (tagOf k xs) := by
 unfold Z105 tagOf
 rw [decide_eq_true (by simp; omega), cond_t, sKeyedHash_v _ _ (by simp; omega), bind_s]
theorem iTagOf_v (k : Int) (xs : List Int) (h : xs.length ≤ 8388608) : Z113 k xs = some (tagOf k xs) := by
 unfold Z113 tagOf
 rw [decide_eq_true (by simp; omega), cond_t, iKeyedHash_v _ _ (by simp; omega), bind_s]
theorem isKey_v (k : Int) : Z99 k = some (decide (1 ≤ k) && decide (k ≤ 99)) := by
 unfold Z99
 rw [InRange_v, bind_s]
def isSigBy (s : TSig) (xs : List Int) : Bool := (decide (1 ≤ s.1) && decide (s.1 ≤ 99)) && (s.2 == tagOf s.1 xs)
theorem sIsSigBy_v (s : TSig) (xs : List Int) (h : xs.length ≤ 8388608) : Z148 s xs = some (isSigBy s xs) := by
 unfold Z148 isSigBy
 rw [l1In_v, bind_s, sTagOf_v _ _ h, bind_s]
 cases (decide (1 ≤ s.1) && decide (s.1 ≤ 99)) <;> rfl
theorem iIsSigBy_v (s : TSig) (xs : List Int) (h : xs.length ≤ 8388608) : Z134 s xs = some (isSigBy s xs) := by
 unfold Z134 isSigBy
 rw [isKey_v, bind_s, iTagOf_v _ _ h, bind_s]
 cases (decide (1 ≤ s.1) && decide (s.1 ≤ 99)) <;> rfl
def sgBy (k : Int) (xs : List Int) (s : TSig) : Bool := s.1 == k && isSigBy s xs
theorem IndexFunc_Sig_l (x0 : List TSig) (x1 : Unit × (Int × List Int)) (hx : x0.length ≤ 1050000) (hm : x1.2.2.length ≤ 8388608) : ∀ i n, i ≤ x0.length → x0.length - i < n → Z37.l4 x0 x1 n (x0.length : Int) (i : Int) = some (fnd (sgBy x1.2.1 x1.2.2) (x0.drop i) (i : Int)) := by
 refine idx_ind ?_ ?_
 ·intro n
  rw [Z37.u4]
  simp only [Z37.g4, lt_f (Nat.le_refl _), cond_f, fnd_last]
 ·intro i n hi ih
  rw [Z37.u4]
  simp only [Z37.g4, Z156, iIsSigBy_v _ _ hm, lt_t hi, ge_t, cond_t, bind_s, w64_succ (i := i) (by omega), Int.toNat_natCast, at_n hi, fnd_step _ hi, ih]
  unfold sgBy
  cases (x0[i].1 == x1.2.1) <;> cases (isSigBy x0[i] x1.2.2) <;> rfl
theorem ContainsFunc_Sig_v (x0 : List TSig) (k : Int) (xs : List Int) (hx : x0.length ≤ 1050000) (hm : xs.length ≤ 8388608) : Z142 x0 ((), (k, xs)) = some (x0.any (sgBy k xs)) := by
 have h := IndexFunc_Sig_l x0 ((), (k, xs)) hx hm 0 KK (Nat.zero_le _) (KK_gt (by omega))
 have e : Z37 x0 ((), (k, xs)) = some (fnd (sgBy k xs) x0 0) := by
  unfold Z37
  simpa [Z37.b] using h
 unfold Z142
 rw [e, bind_s, fnd_ge _ _ _ (Int.le_refl 0)]
def cnt (p : Int → Bool) : List Int → Int → Int
 | [], c => c
 | k :: ks, c => cnt p ks (bif p k then c + 1 else c)
theorem cnt_step (p : Int → Bool) {ks : List Int} {i : Nat} (h : i < ks.length) (c : Int) : cnt p (ks.drop i) c = cnt p (ks.drop (i + 1)) (bif p ks[i] then c + 1 else c) := by
 rw [List.drop_eq_getElem_cons h]; rfl
theorem cnt_last (p : Int → Bool) (ks : List Int) (c : Int) : cnt p (ks.drop ks.length) c = c := by
 rw [List.drop_length]; rfl
def hasSig (sg : List TSig) (xs : List Int) (k : Int) : Bool := sg.any (sgBy k xs)
theorem iCountSigs_l (x0 : TKeys) (xs : List Int) (sg : List TSig) (hk : x0.1.length ≤ 1050000) (hs : sg.length ≤ 1050000) (hm : xs.length ≤ 8388608) : ∀ i n, i ≤ x0.1.length → x0.1.length - i < n → ∀ c : Int, 0 ≤ c → c ≤ i → Z30.l6 x0 xs sg n c (x0.1.length : Int) (i : Int) = some (cnt (hasSig sg xs) (x0.1.drop i) c) := by
 refine idx_ind ?_ ?_
 ·intro n c h0 h1
  rw [Z30.u6]
  simp only [Z30.g6, lt_f (Nat.le_refl _), cond_f, cnt_last]
 ·intro i n hi ih c h0 h1
  rw [Z30.u6]
  simp only [Z30.g6, lt_t hi, ge_t, cond_t, bind_s, w64_succ (i := i) (by omega), Int.toNat_natCast, at_n hi, ContainsFunc_Sig_v _ _ _ hs hm, cnt_step _ hi, w64 (n := c + 1) (by omega) (by omega)]
  rw [show sg.any (sgBy x0.1[i] xs) = hasSig sg xs x0.1[i] from rfl]
  cases hasSig sg xs x0.1[i] with
  | true => rw [cond_t, cond_t]; exact ih _ (by omega) (by omega)
  | false => rw [cond_f, cond_f]; exact ih _ (by omega) (by omega)
theorem iCountSigs_v (x0 : TKeys) (xs : List Int) (sg : List TSig) (hk : x0.1.length ≤ 1050000) (hs : sg.length ≤ 1050000) (hm : xs.length ≤ 8388608) : Z30 x0 xs sg = some (cnt (hasSig sg xs) x0.1 0) := by
 have := iCountSigs_l x0 xs sg hk hs hm 0 KK (Nat.zero_le _) (KK_gt (by omega)) 0 (Int.le_refl 0) (by omega)
 rw [List.drop_zero] at this
 exact this
theorem sCountSigs_l12 (x0 : TKeys) (xs : List Int) (sg : List TSig) (hs : sg.length ≤ 1050000) (hm : xs.length ≤ 8388608) (c : Int) (j : Nat) (hj : j < x0.1.length) (r : Int → Int → Option Int) : ∀ i n, i ≤ sg.length → sg.length - i < n → Z4.l12 x0 xs sg c (j : Int) r n (i : Int) = bif (sg.drop i).any (sgBy x0.1[j] xs) then r (IntKind.i64.wrap (c + 1)) (IntKind.i64.wrap ((j : Int) + 1)) else r c (IntKind.i64.wrap ((j : Int) + 1)) := by
 refine idx_ind ?_ ?_
 ·intro n
  rw [Z4.u12]
  simp only [Z4.g12, lt_f (Nat.le_refl _), cond_f, List.drop_length, List.any_nil]
 ·intro i n hi ih
  rw [Z4.u12]
  simp only [Z4.g12, Z4.l19, Z4.g19, lt_t hi, lt_t hj, ge_t, cond_t, cond_f, bind_s, w64_succ (i := i) (by omega), Int.toNat_natCast, at_n hi, at_n hj, sIsSigBy_v _ _ hm, ih]
  rw [List.drop_eq_getElem_cons hi, List.any_cons]
  rw [show sgBy x0.1[j] xs sg[i] = (sg[i].1 == x0.1[j] && isSigBy sg[i] xs) from rfl]
  cases (sg[i].1 == x0.1[j]) <;> cases (isSigBy sg[i] xs) <;> rfl
theorem sCountSigs_l (x0 : TKeys) (xs : List Int) (sg : List TSig) (hk : x0.1.length ≤ 1050000) (hs : sg.length ≤ 1050000) (hm : xs.length ≤ 8388608) : ∀ i n, i ≤ x0.1.length → x0.1.length - i < n → ∀ c : Int, 0 ≤ c → c ≤ i → Z4.l6 x0 xs sg n c (i : Int) = some (cnt (hasSig sg xs) (x0.1.drop i) c) := by
 refine idx_ind ?_ ?_
 ·intro n c h0 h1
  rw [Z4.u6]
  simp only [Z4.g6, lt_f (Nat.le_refl _), cond_f, cnt_last]
 ·intro i n hi ih c h0 h1
  have hl := sCountSigs_l12 x0 xs sg hs hm c i hi (Z4.l6 x0 xs sg n) 0 KK (Nat.zero_le _) (KK_gt (by omega))
  rw [List.drop_zero] at hl
  rw [Z4.u6]
  simp only [Z4.g6, lt_t hi, cond_t]
  refine Eq.trans hl ?_
  rw [w64_succ (i := i) (by omega), w64 (n := c + 1) (by omega) (by omega), cnt_step _ hi]
  rw [show sg.any (sgBy x0.1[i] xs) = hasSig sg xs x0.1[i] from rfl]
  cases hasSig sg xs x0.1[i] with
  | true => rw [cond_t, cond_t]; exact ih _ (by omega) (by omega)
  | false => rw [cond_f, cond_f]; exact ih _ (by omega) (by omega)
theorem sCountSigs_v (x0 : TKeys) (xs : List Int) (sg : List TSig) (hk : x0.1.length ≤ 1050000) (hs : sg.length ≤ 1050000) (hm : xs.length ≤ 8388608) : Z4 x0 xs sg = some (cnt (hasSig sg xs) x0.1 0) := by
 have := sCountSigs_l x0 xs sg hk hs hm 0 KK (Nat.zero_le _) (KK_gt (by omega)) 0 (Int.le_refl 0) (by omega)
 rw [List.drop_zero] at this
 exact this
def markInts (m : TMark) : List Int := [(241 : Int), m.1, m.2.1, m.2.2]
def countConfirms (k : TKeys) (h : THead) (sg : List TSig) : Int := cnt (hasSig sg (markInts (markOf h))) k.1 0
theorem sCountConfirms_v (k : TKeys) (h : THead) (sg : List TSig) (hk : k.1.length ≤ 1050000) (hh : sizeHead h ≤ 1050000) (hs : sg.length ≤ 1050000) : Z80 k h sg = some (countConfirms k h sg) := by
 unfold Z80 countConfirms
 rw [sMarkOf_v h hh, bind_s]
 unfold Z3
 rw [bind_s, show ([(241 : Int), (markOf h).1, (markOf h).2.1, (markOf h).2.2] : List Int) = markInts (markOf h) from rfl, sCountSigs_v _ _ _ hk hs (by show 4 ≤ _; omega), bind_s]
theorem iCountConfirms_v (k : TKeys) (h : THead) (sg : List TSig) (hk : k.1.length ≤ 1050000) (hh : sizeHead h ≤ 1050000) (hs : sg.length ≤ 1050000) : Z78 k h sg = some (countConfirms k h sg) := by
 unfold Z78 countConfirms
 rw [iMarkOf_v h hh, bind_s]
 unfold Z98
 rw [bind_s, show ([(241 : Int), (markOf h).1, (markOf h).2.1, (markOf h).2.2] : List Int) = markInts (markOf h) from rfl, iCountSigs_v _ _ _ hk hs (by show 4 ≤ _; omega), bind_s]
def gk (x0 : TKeys) (j : Nat) : Int := x0.1.getD j 0
theorem gk_def (x0 : TKeys) (j : Nat) : x0.1.getD j 0 = gk x0 j := rfl
def keysAsc (x0 : TKeys) (i : Nat) : Prop := ∀ j, j < x0.1.length → i ≤ j → 0 < j → gk x0 (j - 1) < gk x0 j
def keysIn (x0 : TKeys) (i : Nat) : Prop := ∀ j, j < x0.1.length → i ≤ j → (1 ≤ gk x0 j ∧ gk x0 j ≤ 99) ∧ (0 < j → gk x0 (j - 1) < gk x0 j)
def keysNeed (x0 : TKeys) : Prop := (1 ≤ (x0.1.length : Int) ∧ (x0.1.length : Int) ≤ 4) ∧ (1 ≤ x0.2 ∧ x0.2 ≤ (x0.1.length : Int))
theorem sIsKeys_l (x0 : TKeys) (hx : x0.1.length ≤ 1050000) : ∀ i n, i ≤ x0.1.length → x0.1.length - i < n → ∃ b, Z23.l4 x0 n (i : Int) = some b ∧ (b = true ↔ keysIn x0 i ∧ keysNeed x0) := by
 refine idx_ind ?_ ?_
 ·intro n
  rw [Z23.u4]
  simp only [Z23.g4, lt_f (Nat.le_refl _), cond_f, l1In_v, bind_s]
  refine ⟨(decide ((1 : Int) ≤ (x0.1.length : Int)) && decide ((x0.1.length : Int) ≤ 4)) && (decide (1 ≤ x0.2) && decide (x0.2 ≤ (x0.1.length : Int))), ?_, ?_⟩
  ·cases (decide ((1 : Int) ≤ (x0.1.length : Int)) && decide ((x0.1.length : Int) ≤ 4)) <;> rfl
  ·unfold keysIn keysNeed
   simp only [Bool.and_eq_true, decide_eq_true_eq]
   exact ⟨fun h => ⟨fun j h1 h2 => absurd h1 (by omega), h⟩, fun h => h.2⟩
 ·intro i n hi ih
  obtain ⟨b, hb, hP⟩ := ih
  rw [Z23.u4]
  simp only [Z23.g4, lt_t hi, ge_t, cond_t, l1In_v, bind_s, w64_succ (i := i) (by omega), Int.toNat_natCast, hb, gk_def]
  by_cases hr : 1 ≤ gk x0 i ∧ gk x0 i ≤ 99
  ·rw [decide_eq_true hr.1, decide_eq_true hr.2, Bool.and_self, Bool.not_true, cond_f]
   by_cases h0 : 0 < i
   ·have ew : IntKind.i64.wrap ((i : Int) - 1) = ((i - 1 : Nat) : Int) := by rw [w64 (by omega) (by omega)]; omega
    simp only [decide_eq_true (show (i : Int) > 0 by omega), cond_t, ew, ge_t, lt_t (show i - 1 < x0.1.length by omega), Int.toNat_natCast, gk_def]
    by_cases ha : gk x0 (i - 1) < gk x0 i
    ·rw [decide_eq_false (by omega), cond_f]
     refine ⟨b, rfl, hP.trans ⟨fun h => ⟨fun j h1 h2 => ?_, h.2⟩, fun h => ⟨fun j h1 h2 => h.1 j h1 (by omega), h.2⟩⟩⟩
     by_cases e : j = i
     ·subst e; exact ⟨hr, fun _ => ha⟩
     ·exact h.1 j h1 (by omega)
    ·rw [decide_eq_true (by omega), cond_t]
     refine ⟨false, rfl, ⟨fun h => Bool.noConfusion h, fun h => absurd ((h.1 i hi (Nat.le_refl _)).2 h0) ha⟩⟩
   ·rw [decide_eq_false (by omega), cond_f]
    refine ⟨b, rfl, hP.trans ⟨fun h => ⟨fun j h1 h2 => ?_, h.2⟩, fun h => ⟨fun j h1 h2 => h.1 j h1 (by omega), h.2⟩⟩⟩
    by_cases e : j = i
    ·subst e; exact ⟨hr, fun h => absurd h h0⟩
    ·exact h.1 j h1 (by omega)
  ·have e : (decide (1 ≤ gk x0 i) && decide (gk x0 i ≤ 99)) = false := by
    cases hc : (decide (1 ≤ gk x0 i) && decide (gk x0 i ≤ 99))
    ·rfl
    ·simp only [Bool.and_eq_true, decide_eq_true_eq] at hc; exact absurd hc hr
   rw [e, Bool.not_false, cond_t]
   exact ⟨false, rfl, ⟨fun h => Bool.noConfusion h, fun h => absurd (h.1 i hi (Nat.le_refl _)).1 hr⟩⟩
theorem asc_l (x0 : TKeys) (hx : x0.1.length ≤ 1050000) : ∀ i n, i ≤ x0.1.length → x0.1.length - i < n → ∃ b, Z48.l4 x0.1 n (x0.1.length : Int) (i : Int) = some b ∧ (b = true ↔ keysAsc x0 i) := by
 refine idx_ind ?_ ?_
 ·intro n
  rw [Z48.u4]
  simp only [Z48.g4, lt_f (Nat.le_refl _), cond_f]
  exact ⟨true, rfl, ⟨fun _ j h1 h2 => absurd h1 (by omega), fun _ => rfl⟩⟩
 ·intro i n hi ih
  obtain ⟨b, hb, hP⟩ := ih
  rw [Z48.u4]
  simp only [Z48.g4, lt_t hi, ge_t, cond_t, w64_succ (i := i) (by omega), Int.toNat_natCast, hb, gk_def]
  by_cases h0 : 0 < i
  ·have ew : IntKind.i64.wrap ((i : Int) - 1) = ((i - 1 : Nat) : Int) := by rw [w64 (by omega) (by omega)]; omega
   simp only [decide_eq_true (show (i : Int) > 0 by omega), cond_t, ew, ge_t, lt_t (show i - 1 < x0.1.length by omega), Int.toNat_natCast, gk_def]
   by_cases ha : gk x0 (i - 1) < gk x0 i
   ·rw [decide_eq_false (by omega), cond_f]
    refine ⟨b, rfl, hP.trans ⟨fun h j h1 h2 h3 => ?_, fun h j h1 h2 h3 => h j h1 (by omega) h3⟩⟩
    by_cases e : j = i
    ·subst e; exact ha
    ·exact h j h1 (by omega) h3
   ·rw [decide_eq_true (by omega), cond_t]
    exact ⟨false, rfl, ⟨fun h => Bool.noConfusion h, fun h => absurd (h i hi (Nat.le_refl _) h0) ha⟩⟩
  ·rw [decide_eq_false (by omega), cond_f]
   refine ⟨b, rfl, hP.trans ⟨fun h j h1 h2 h3 => h j h1 (by omega) h3, fun h j h1 h2 h3 => h j h1 (by omega) h3⟩⟩
theorem asc_le (x0 : TKeys) (h : keysAsc x0 0) (a : Nat) : ∀ b, a ≤ b → b < x0.1.length → gk x0 a ≤ gk x0 b := by
 intro b
 induction b with
 | zero => intro h1 _; have : a = 0 := by omega
           subst this; exact Int.le_refl _
 | succ b ih =>
   intro h1 h2
   by_cases e : a = b + 1
   ·subst e; exact Int.le_refl _
   ·have := ih (by omega) (by omega)
    have h3 := h (b + 1) h2 (by omega) (by omega)
    rw [show b + 1 - 1 = b from rfl] at h3
    omega
theorem keysIn_of (x0 : TKeys) (h : keysAsc x0 0) (h0 : 1 ≤ gk x0 0) (h1 : gk x0 (x0.1.length - 1) ≤ 99) : keysIn x0 0 := by
 intro j hj _
 have a := asc_le x0 h 0 j (by omega) hj
 have b := asc_le x0 h j (x0.1.length - 1) (by omega) (by omega)
 exact ⟨⟨by omega, by omega⟩, h j hj (by omega)⟩
theorem bool_eq {a b : Bool} (h : a = true ↔ b = true) : a = b := by cases a <;> cases b <;> simp_all
theorem IsKeys_v (x0 : TKeys) (hx : x0.1.length ≤ 1050000) : ∃ b, Z23 x0 = some b ∧ Z96 x0 = some b := by
 obtain ⟨s, hs, hS⟩ := sIsKeys_l x0 hx 0 KK (Nat.zero_le _) (KK_gt (by omega))
 obtain ⟨a, ha, hA⟩ := asc_l x0 hx 0 KK (Nat.zero_le _) (KK_gt (by omega))
 refine ⟨s, hs, ?_⟩
 have ea : Z48 x0.1 = some a := ha
 unfold Z96
 rw [InRange_v, bind_s]
 by_cases hl : 1 ≤ (x0.1.length : Int) ∧ (x0.1.length : Int) ≤ 4
 ·rw [decide_eq_true hl.1, decide_eq_true hl.2, Bool.and_self, cond_t, ea, bind_s]
  have ew : IntKind.i64.wrap ((x0.1.length : Int) - 1) = ((x0.1.length - 1 : Nat) : Int) := by rw [w64 (by omega) (by omega)]; omega
  cases a with
  | false =>
    rw [cond_f]
    have : s = false := by
     cases s with
     | false => rfl
     | true =>
       have h := (hS.mp rfl).1
       exact (hA.mpr (fun j h1 h2 h3 => (h j h1 h2).2 h3)).symm
    rw [this]
  | true =>
    have hasc := hA.mp rfl
    rw [cond_t, decide_eq_true (Int.le_refl 0), cond_t, decide_eq_true (by omega), cond_t, isKey_v, bind_s, ew, ge_t, cond_t, lt_t (by omega), cond_t, isKey_v, bind_s, InRange_v, bind_s, Int.toNat_natCast, show (0 : Int).toNat = 0 from rfl]
    rw [show x0.1.getD 0 0 = gk x0 0 from rfl, show x0.1.getD (x0.1.length - 1) 0 = gk x0 (x0.1.length - 1) from rfl]
    have e : s = ((decide (1 ≤ gk x0 0) && decide (gk x0 0 ≤ 99)) && ((decide (1 ≤ gk x0 (x0.1.length - 1)) && decide (gk x0 (x0.1.length - 1) ≤ 99)) && (decide (1 ≤ x0.2) && decide (x0.2 ≤ (x0.1.length : Int))))) := by
     refine bool_eq (hS.trans ?_)
     simp only [Bool.and_eq_true, decide_eq_true_eq]
     constructor
     ·intro h
      exact ⟨(h.1 0 (by omega) (Nat.le_refl _)).1, (h.1 (x0.1.length - 1) (by omega) (by omega)).1, h.2.2⟩
     ·intro h
      exact ⟨keysIn_of x0 hasc h.1.1 h.2.1.2, hl, h.2.2⟩
    rw [e]
    cases (decide (1 ≤ gk x0 0) && decide (gk x0 0 ≤ 99)) <;> cases (decide (1 ≤ gk x0 (x0.1.length - 1)) && decide (gk x0 (x0.1.length - 1) ≤ 99)) <;> rfl
 ·have e : (decide (1 ≤ (x0.1.length : Int)) && decide ((x0.1.length : Int) ≤ 4)) = false := by
   cases hc : (decide (1 ≤ (x0.1.length : Int)) && decide ((x0.1.length : Int) ≤ 4))
   ·rfl
   ·simp only [Bool.and_eq_true, decide_eq_true_eq] at hc; exact absurd hc hl
  rw [e, cond_f]
  have : s = false := by
   cases s with
   | false => rfl
   | true => exact absurd (hS.mp rfl).2.1 hl
  rw [this]
theorem IsKeys_pos (x0 : TKeys) (hx : x0.1.length ≤ 1050000) (h : Z23 x0 = some true) : 1 ≤ x0.1.length := by
 obtain ⟨s, hs, hS⟩ := sIsKeys_l x0 hx 0 KK (Nat.zero_le _) (KK_gt (by omega))
 have e : Z23 x0 = some s := hs
 rw [h] at e
 injection e with e
 have := (hS.mp e.symm).2.1
 omega
noncomputable def keysB (k : TKeys) : Bool := (Z23 k).getD false
theorem sKeysB (k : TKeys) (hx : k.1.length ≤ 1050000) : Z23 k = some (keysB k) := by
 obtain ⟨b, h1, h2⟩ := IsKeys_v k hx
 unfold keysB
 rw [h1]; rfl
theorem iKeysB (k : TKeys) (hx : k.1.length ≤ 1050000) : Z96 k = some (keysB k) := by
 obtain ⟨b, h1, h2⟩ := IsKeys_v k hx
 unfold keysB
 rw [h1, h2]; rfl
def noK (k : TKeys) : Bool := k.2 == (0 : Int) && ((k.1.length : Int) == (0 : Int))
theorem sNoKeys_v (k : TKeys) : Z104 k = some (noK k) := by
 unfold Z104 noK
 cases (k.2 == (0 : Int)) <;> rfl
theorem iNoKeys_v (k : TKeys) : Z94 k = some (noK k) := by
 unfold Z94 noK
 cases (k.2 == (0 : Int)) <;> rfl
theorem keysB_no (k : TKeys) (hx : k.1.length ≤ 1050000) : (keysB k && noK k) = false := by
 cases h : keysB k with
 | false => rfl
 | true =>
   have := IsKeys_pos k hx (by rw [sKeysB k hx, h])
   unfold noK
   have e : ((k.1.length : Int) == (0 : Int)) = false := by rw [beq_eq_false_iff_ne]; omega
   rw [e, Bool.and_false]; rfl
def inR (a b c : Int) : Bool := decide (b ≤ a) && decide (a ≤ c)
theorem l1In_r (a b c : Int) : Z29 a b c = some (inR a b c) := l1In_v a b c
theorem InRange_r (a b c : Int) : Z74 a b c = some (inR a b c) := InRange_v a b c
theorem isDigest_r (a : Int) : Z102 a = some (inR a 0 2147483646) := by
 unfold Z102
 rw [InRange_r, bind_s]
theorem bif_some {α : Type} (c : Bool) (a b : α) : (bif c then some a else some b) = some (bif c then a else b) := by cases c <;> rfl
theorem bif_ff (c a : Bool) : (bif c then a else false) = (c && a) := by cases c <;> rfl
theorem bif_fl (c a : Bool) : (bif c then false else a) = (!c && a) := by cases c <;> rfl
theorem bif_tl (c a : Bool) : (bif c then true else a) = (c || a) := by cases c <;> rfl
theorem bif_tr (c a : Bool) : (bif c then a else true) = (!c || a) := by cases c <;> rfl
def hr4 (x : THead) : Bool := inR (Head_Zone x) 0 2147483646 && (inR (Head_Root x) 0 2147483646 && (inR (Head_Prev x) 0 2147483646 && (inR (Head_Epoch x) 0 200 && inR (Head_Kind x) 1 3)))
def spanB (x : THead) : Bool := decide ((Head_Time x) ≥ 0) && (decide ((Head_Time x) ≤ (Head_Until x)) && (decide ((Head_Until x) ≤ 100000) && decide (IntKind.i64.wrap ((Head_Until x) - (Head_Time x)) ≤ 200)))
theorem span_eq (x : THead) (r : Bool) : (inR (Head_Time x) 0 100000 && (inR (Head_Until x) (Head_Time x) 100000 && (!decide (IntKind.i64.wrap ((Head_Until x) - (Head_Time x)) > 200) && r))) = (spanB x && r) := by
 have : (inR (Head_Time x) 0 100000 && (inR (Head_Until x) (Head_Time x) 100000 && !decide (IntKind.i64.wrap ((Head_Until x) - (Head_Time x)) > 200))) = spanB x := by
  unfold inR spanB
  generalize IntKind.i64.wrap ((Head_Until x) - (Head_Time x)) = w
  refine bool_eq ?_
  simp only [Bool.and_eq_true, decide_eq_true_eq, Bool.not_eq_true', decide_eq_false_iff_not]
  omega
 rw [← this]
 simp only [Bool.and_assoc]
noncomputable def keyPart (x : THead) : Bool := (bif noK (Head_Heirs x) then ((Head_Wait x) == (0 : Int)) else (keysB (Head_Heirs x) && inR (Head_Wait x) 1 500)) && (keysB (Head_Judge x) || (noK (Head_Judge x) && !(Head_Frozen x)))
noncomputable def isHeadB (x : THead) : Bool := hr4 x && (spanB x && (inR (Head_Count x) 0 12 && (keysB (Head_Keys x) && keyPart x)))
theorem sIsHead_v (x : THead) (hx : sizeHead x ≤ 1050000) : Z6 x = some (isHeadB x) := by
 unfold sizeHead sizeKeys at hx
 have k1 := sKeysB (Head_Keys x) (by omega)
 have k2 := sKeysB (Head_Heirs x) (by omega)
 have k3 := sKeysB (Head_Judge x) (by omega)
 have n2 := sNoKeys_v (Head_Heirs x)
 have n3 := sNoKeys_v (Head_Judge x)
 have key : (bif noK (Head_Heirs x) then (!((Head_Wait x) != (0 : Int)) && (keysB (Head_Judge x) || (noK (Head_Judge x) && !(Head_Frozen x)))) else (keysB (Head_Heirs x) && (inR (Head_Wait x) 1 500 && (keysB (Head_Judge x) || (noK (Head_Judge x) && !(Head_Frozen x)))))) = keyPart x := by
  unfold keyPart
  cases noK (Head_Heirs x) with
  | true => simp [bne]
  | false => simp only [cond_f, Bool.and_assoc]
 unfold Z6
 simp only [Z6.b, Z6.l7, Z6.g7, Z6.l11, Z6.g11, Z6.l21, Z6.g21, l1In_r, k1, k2, k3, n2, n3, bind_s, bif_some, bif_ff, bif_fl, bif_tl, bif_tr, Bool.not_not]
 rw [key, span_eq]
 unfold isHeadB hr4 Head_Keys
 simp only [Bool.and_assoc]
theorem iIsHead_v (x : THead) (hx : sizeHead x ≤ 1050000) : Z76 x = some (isHeadB x) := by
 unfold sizeHead sizeKeys at hx
 have k1 := iKeysB (Head_Keys x) (by omega)
 have k2 := iKeysB (Head_Heirs x) (by omega)
 have k3 := iKeysB (Head_Judge x) (by omega)
 have n2 := iNoKeys_v (Head_Heirs x)
 have n3 := iNoKeys_v (Head_Judge x)
 have q3 := keysB_no (Head_Judge x) (by omega)
 have key : ((noK (Head_Heirs x) || keysB (Head_Heirs x)) && ((noK (Head_Judge x) || keysB (Head_Judge x)) && ((bif noK (Head_Heirs x) then ((Head_Wait x) == (0 : Int)) else inR (Head_Wait x) 1 500) && (!(Head_Frozen x) || !noK (Head_Judge x))))) = keyPart x := by
  unfold keyPart
  revert q3
  generalize ((Head_Wait x) == (0 : Int)) = a
  generalize inR (Head_Wait x) 1 500 = b
  generalize (Head_Frozen x) = c
  cases noK (Head_Heirs x) <;> cases keysB (Head_Heirs x) <;> cases noK (Head_Judge x) <;> cases keysB (Head_Judge x) <;> cases a <;> cases b <;> cases c <;> decide
 unfold Z76
 simp only [Z139, Z157, Z93, isDigest_r, InRange_r, k1, k2, k3, n2, n3, bind_s, bif_some, bif_ff, bif_fl, bif_tl, bif_tr, Bool.not_not]
 rw [key]
 unfold isHeadB hr4 spanB Head_Keys
 simp only [Bool.and_assoc]
theorem EqualInts_l (x0 x1 : List Int) (hl : x0.length = x1.length) (hx : x0.length ≤ 1152921504606846976) : ∀ i n, i ≤ x0.length → x0.length - i < n → Z26.l8 x0 x1 n (i : Int) = some (decide (x0.drop i = x1.drop i)) := by
 refine idx_ind ?_ ?_
 ·intro n
  rw [Z26.u8]
  simp only [Z26.g8, lt_f (Nat.le_refl _), cond_f]
  rw [List.drop_length, hl, List.drop_length]; simp
 ·intro i n hi ih
  have hi' : i < x1.length := by omega
  rw [Z26.u8]
  simp only [Z26.g8, lt_t hi, lt_t hi', ge_t, cond_t, w64_succ (i := i) (by omega), Int.toNat_natCast, at_n hi, at_n hi']
  rw [dec_step (drop_eq hi hi')]
  by_cases he : x0[i] = x1[i]
  ·rw [show (x0[i] != x1[i]) = false by simp [he], cond_f, ih, decide_eq_true he, Bool.true_and]
  ·rw [show (x0[i] != x1[i]) = true by simp [he], cond_t, decide_eq_false he, Bool.false_and]
theorem EqualInts_v (x0 x1 : List Int) (hx : x0.length ≤ 1152921504606846976) : Z26 x0 x1 = some (decide (x0 = x1)) := by
 unfold Z26
 by_cases hl : x0.length = x1.length
 ·simp only [Z26.b, len_eq hl, cond_f]
  have := EqualInts_l x0 x1 hl hx 0 KK (Nat.zero_le _) (KK_gt (by omega))
  simpa using this
 ·simp only [Z26.b, len_ne hl, cond_t]
  rw [decide_eq_false (fun h => hl (by rw [h]))]
theorem slicesEq_int_l (x0 x1 : List Int) (hl : x0.length = x1.length) (hx : x0.length ≤ 1152921504606846976) : ∀ i n, i ≤ x0.length → x0.length - i < n → Z32.l8 x0 x1 n (x0.length : Int) (i : Int) = some (decide (x0.drop i = x1.drop i)) := by
 refine idx_ind ?_ ?_
 ·intro n
  rw [Z32.u8]
  simp only [Z32.g8, lt_f (Nat.le_refl _), cond_f]
  rw [List.drop_length, hl, List.drop_length]; simp
 ·intro i n hi ih
  have hi' : i < x1.length := by omega
  rw [Z32.u8]
  simp only [Z32.g8, lt_t hi, lt_t hi', ge_t, cond_t, w64_succ (i := i) (by omega), Int.toNat_natCast, at_n hi, at_n hi']
  rw [dec_step (drop_eq hi hi')]
  by_cases he : x0[i] = x1[i]
  ·rw [show (x0[i] != x1[i]) = false by simp [he], cond_f, ih, decide_eq_true he, Bool.true_and]
  ·rw [show (x0[i] != x1[i]) = true by simp [he], cond_t, decide_eq_false he, Bool.false_and]
theorem slicesEq_int_v (x0 x1 : List Int) (hx : x0.length ≤ 1152921504606846976) : Z32 x0 x1 = some (decide (x0 = x1)) := by
 unfold Z32
 by_cases hl : x0.length = x1.length
 ·simp only [Z32.b, len_eq hl, cond_f]
  have := slicesEq_int_l x0 x1 hl hx 0 KK (Nat.zero_le _) (KK_gt (by omega))
  simpa using this
 ·simp only [Z32.b, len_ne hl, cond_t]
  rw [decide_eq_false (fun h => hl (by rw [h]))]
theorem EqualKeys_v (a b : TKeys) (hx : a.1.length ≤ 1050000) : Z108 a b = some (decide (a = b)) := by
 unfold Z108
 rw [slicesEq_int_v _ _ (by omega), bind_s]
 obtain ⟨a1, a2⟩ := a
 obtain ⟨b1, b2⟩ := b
 by_cases h1 : a1 = b1 <;> by_cases h2 : a2 = b2 <;> simp [h1, h2]
theorem keysInts_inj {k k' : TKeys} {r r' : List Int} (h : keysInts k ++ r = keysInts k' ++ r') : k = k' ∧ r = r' := by
 unfold keysInts at h
 simp only [List.cons_append, List.nil_append, List.append_assoc, List.cons.injEq] at h
 obtain ⟨h1, h2, h3⟩ := h
 have hl : k.1.length = k'.1.length := by omega
 obtain ⟨h4, h5⟩ := List.append_inj h3 hl
 exact ⟨Prod.ext h4 h1, h5⟩
theorem headInts_inj {a b : THead} (h : headInts a = headInts b) : Head_Keys a = Head_Keys b ∧ Head_Heirs a = Head_Heirs b ∧ Head_Judge a = Head_Judge b ∧ hdb a = hdb b := by
 unfold headInts at h
 simp only [List.append_assoc] at h
 obtain ⟨_, h⟩ := List.append_inj h rfl
 obtain ⟨h1, h⟩ := keysInts_inj h
 obtain ⟨h2, h⟩ := keysInts_inj h
 obtain ⟨_, h⟩ := List.append_inj h rfl
 obtain ⟨h3, h⟩ := keysInts_inj h
 exact ⟨h1, h2, h3, h⟩
theorem hdb_inj {a b : THead} (h : hdb a = hdb b) : ((Head_Frozen a) == (Head_Frozen b)) = true := by
 unfold hdb at h
 generalize (Head_Frozen a) = p at h ⊢
 generalize (Head_Frozen b) = q at h ⊢
 revert h
 cases p <;> cases q <;> decide
def eqHeads (a b : THead) : Bool := decide (headInts a = headInts b)
theorem sEqualHeads_v (a b : THead) (ha : sizeHead a ≤ 1050000) (hb : sizeHead b ≤ 1050000) : Z77 a b = some (eqHeads a b) := by
 unfold Z77 eqHeads
 rw [sHeadInts_v a ha, bind_s, sHeadInts_v b hb, bind_s, EqualInts_v _ _ (by rw [headInts_len]; omega), bind_s]
 by_cases h : headInts a = headInts b
 ·rw [decide_eq_true h, cond_t, hdb_inj (headInts_inj h).2.2.2]
 ·rw [decide_eq_false h, cond_f]
theorem l6Copy_v (x : TKeys) (hx : x.1.length ≤ 1050000) : Z101 x = some x := by
 unfold Z101
 rw [decide_eq_true (by simp; omega), cond_t]; rfl
theorem l13Copy_v (x0 : THead) (hx : sizeHead x0 ≤ 1050000) : Z73 x0 = some x0 := by
 unfold sizeHead sizeKeys at hx
 unfold Z73
 exact bnd (l6Copy_v _ (by omega)) (bnd (l6Copy_v _ (by omega)) (bnd (l6Copy_v _ (by omega)) rfl))
theorem l14Copy_v (x0 : TSigned) (hx : sizeSigned x0 ≤ 1050000) : Z66 x0 = some x0 := by
 unfold sizeSigned at hx
 unfold Z66
 exact bnd (l13Copy_v _ (by omega)) (cT (decide_eq_true (by simp; omega)) rfl)
def hasK (xs : List Int) (k : Int) : Bool := xs.any (fun a => a == k)
theorem l6Has_l (x0 : List Int) (k : Int) (hx : x0.length ≤ 1152921504606846976) : ∀ i n, i ≤ x0.length → x0.length - i < n → Z51.l4 x0 k n (i : Int) = some (hasK (x0.drop i) k) := by
 refine idx_ind ?_ ?_
 ·intro n
  rw [Z51.u4]
  simp only [Z51.g4, lt_f (Nat.le_refl _), cond_f, List.drop_length]; rfl
 ·intro i n hi ih
  rw [Z51.u4]
  simp only [Z51.g4, lt_t hi, ge_t, cond_t, w64_succ (i := i) (by omega), Int.toNat_natCast, at_n hi, ih]
  rw [List.drop_eq_getElem_cons hi]
  show _ = some ((x0[i] == k) || hasK (x0.drop (i + 1)) k)
  cases (x0[i] == k) <;> rfl
theorem l6Has_v (x0 : List Int) (k : Int) (hx : x0.length ≤ 1152921504606846976) : Z51 x0 k = some (hasK x0 k) := by
 have := l6Has_l x0 k hx 0 KK (Nat.zero_le _) (KK_gt (by omega))
 rw [List.drop_zero] at this
 exact this
def signs (sk : List Int) (m : List Int) : List Int → List TSig → List TSig
 | [], acc => acc
 | k :: ks, acc => signs sk m ks (bif hasK sk k then acc ++ [(k, tagOf k m)] else acc)
theorem signs_step (sk m : List Int) {ks : List Int} {i : Nat} (h : i < ks.length) (acc : List TSig) : signs sk m (ks.drop i) acc = signs sk m (ks.drop (i + 1)) (bif hasK sk ks[i] then acc ++ [(ks[i], tagOf ks[i] m)] else acc) := by
 rw [List.drop_eq_getElem_cons h]; rfl
theorem signs_last (sk m ks : List Int) (acc : List TSig) : signs sk m (ks.drop ks.length) acc = acc := by
 rw [List.drop_length]; rfl
theorem signs_len (sk m ks : List Int) : ∀ acc : List TSig, (signs sk m ks acc).length ≤ acc.length + ks.length := by
 induction ks with
 | nil => intro acc; exact Nat.le_refl _
 | cons k ks ih =>
   intro acc
   show (signs sk m ks (bif hasK sk k then acc ++ [(k, tagOf k m)] else acc)).length ≤ _
   refine Nat.le_trans (ih _) ?_
   cases hasK sk k with
   | true => rw [cond_t, List.length_append, List.length_cons]; simp; omega
   | false => rw [cond_f, List.length_cons]; omega
theorem sSignBy_l (sk : List Int) (x1 : TKeys) (m : List Int) (hs : sk.length ≤ 1050000) (hk : x1.1.length ≤ 1050000) (hm : m.length ≤ 8388608) : ∀ i n, i ≤ x1.1.length → x1.1.length - i < n → ∀ acc : List TSig, acc.length ≤ i → Z28.l6 sk x1 m n (i : Int) acc = some (signs sk m (x1.1.drop i) acc) := by
 refine idx_ind ?_ ?_
 ·intro n acc ha
  rw [Z28.u6]
  simp only [Z28.g6, lt_f (Nat.le_refl _), cond_f, signs_last]
 ·intro i n hi ih acc ha
  rw [Z28.u6]
  simp only [Z28.g6, lt_t hi, ge_t, cond_t, bind_s, w64_succ (i := i) (by omega), Int.toNat_natCast, at_n hi, l6Has_v _ _ (show sk.length ≤ 1152921504606846976 by omega), sTagOf_v _ _ hm, signs_step _ _ hi]
  cases hasK sk x1.1[i] with
  | true =>
    rw [cond_t, cond_t, decide_eq_true (by simp; omega), cond_t]
    exact ih _ (by rw [List.length_append]; simp; omega)
  | false => rw [cond_f, cond_f]; exact ih _ (by omega)
theorem sSignBy_v (sk : List Int) (x1 : TKeys) (m : List Int) (hs : sk.length ≤ 1050000) (hk : x1.1.length ≤ 1050000) (hm : m.length ≤ 8388608) : Z28 sk x1 m = some (signs sk m x1.1 []) := by
 have := sSignBy_l sk x1 m hs hk hm 0 KK (Nat.zero_le _) (KK_gt (by omega)) [] (Nat.le_refl _)
 rw [List.drop_zero] at this
 exact this
def signHead (sk : List Int) (k : TKeys) (h : THead) : TSigned := Signed_mk h (signs sk (headInts h) k.1 [])
theorem sSignHead_v (sk : List Int) (k : TKeys) (h : THead) (hs : sk.length ≤ 1050000) (hk : k.1.length ≤ 1050000) (hh : sizeHead h ≤ 1050000) : Z70 sk k h = some (signHead sk k h) := by
 unfold Z70
 rw [l13Copy_v _ hh, bind_s, sHeadInts_v _ hh, bind_s, sSignBy_v _ _ _ hs hk (by rw [headInts_len]; omega), bind_s]; rfl
theorem aB {e f : Option Bool} {b c : Bool} (h : e = some b) (hf : f = some c) : (e.bind fun y => bif y then f else some false) = some (b && c) := by
 rw [h, bind_s, hf]; cases b <;> rfl
theorem aC {f : Option Bool} {c d : Bool} (hf : f = some d) : (bif c then f else some false) = some (c && d) := by
 rw [hf]; cases c <;> rfl
theorem aL {α : Type} {e : Option α} {b : α} (h : e = some b) : (e.bind fun y => some y) = some b := by rw [h, bind_s]
theorem signed_at {xs : List TSigned} {i : Nat} (h : i < xs.length) {n : Nat} (hx : sizeSignedS xs ≤ n) : sizeSigned xs[i] ≤ n := by
 have := size_at sizeSigned h
 unfold sizeSignedS sizeS at hx
 omega
theorem entry_at {xs : List TEntry} {i : Nat} (h : i < xs.length) {n : Nat} (hx : sizeEntryS xs ≤ n) : sizeEntry xs[i] ≤ n := by
 have := size_at sizeEntry h
 unfold sizeEntryS sizeS at hx
 omega
def zoneOf (k : TKeys) (s : Int) : Int := ([(239 : Int), s] ++ keysInts k).foldl hstep 11
theorem sZoneOf_v (k : TKeys) (s : Int) (hk : k.1.length ≤ 1050000) : Z119 k s = some (zoneOf k s) := by
 have hl := keysInts_len k
 unfold Z119 zoneOf
 rw [sKeysInts_v k hk, bind_s, decide_eq_true (by simp [hl]; omega), cond_t, sHash_v _ (by simp [hl]; omega), bind_s]
theorem iZoneOf_v (k : TKeys) (s : Int) (hk : k.1.length ≤ 1050000) : Z137 k s = some (zoneOf k s) := by
 have hl := keysInts_len k
 unfold Z137 zoneOf
 rw [iKeysInts_v k hk, bind_s, decide_eq_true (by simp [hl]; omega), cond_t, iHash_v _ (by simp [hl]; omega), bind_s]
noncomputable def isSigned (k : TKeys) (m : List Int) (sg : List TSig) : Bool := keysB k && decide (cnt (hasSig sg m) k.1 0 ≥ k.2)
theorem sIsSigned_v (k : TKeys) (m : List Int) (sg : List TSig) (hk : k.1.length ≤ 1050000) (hs : sg.length ≤ 1050000) (hm : m.length ≤ 8388608) : Z117 k m sg = some (isSigned k m sg) := by
 unfold Z117 isSigned
 exact aB (sKeysB k hk) (bnd (sCountSigs_v k m sg hk hs hm) rfl)
theorem iIsSigned_v (k : TKeys) (m : List Int) (sg : List TSig) (hk : k.1.length ≤ 1050000) (hs : sg.length ≤ 1050000) (hm : m.length ≤ 8388608) : Z135 k m sg = some (isSigned k m sg) := by
 unfold Z135 isSigned
 exact aB (iKeysB k hk) (bnd (iCountSigs_v k m sg hk hs hm) rfl)
noncomputable def signedBy (s : TSigned) (k : TKeys) : Bool := isSigned k (headInts (Signed_Head s)) (Signed_Sigs s)
theorem hi_len (x : THead) (hx : sizeHead x ≤ 1050000) : (headInts x).length ≤ 8388608 := by rw [headInts_len]; omega
theorem isSignedBy_v (s : TSigned) (k : TKeys) (hs : sizeSigned s ≤ 1050000) (hk : k.1.length ≤ 1050000) : Z71 s k = some (signedBy s k) := by
 unfold sizeSigned at hs
 unfold Z71 signedBy
 exact bnd (iHeadInts_v _ (by omega)) (aL (iIsSigned_v _ _ _ hk (by omega) (hi_len _ (by omega))))
noncomputable def isFirst (s : TSigned) : Bool := isHeadB (Signed_Head s) && (Head_Epoch (Signed_Head s) == (0 : Int) && (Head_Kind (Signed_Head s) == (1 : Int) && (!(Head_Frozen (Signed_Head s)) && (Head_Zone (Signed_Head s) == zoneOf (Head_Keys (Signed_Head s)) (Head_Prev (Signed_Head s)) && signedBy s (Head_Keys (Signed_Head s))))))
theorem sIsFirst_v (s : TSigned) (hs : sizeSigned s ≤ 1050000) : Z90 s = some (isFirst s) := by
 unfold sizeSigned at hs
 have hk : (Head_Keys (Signed_Head s)).1.length ≤ 1050000 := by unfold sizeHead sizeKeys at hs; omega
 unfold Z90 isFirst
 exact aB (sIsHead_v _ (by omega)) (aC (aC (aC (bnd (sZoneOf_v _ _ hk) (aC (bnd (sHeadInts_v _ (by omega)) (aL (sIsSigned_v _ _ _ hk (by omega) (hi_len _ (by omega))))))))))
theorem iIsFirst_v (s : TSigned) (hs : sizeSigned s ≤ 1050000) : Z85 s = some (isFirst s) := by
 have hs' := hs
 unfold sizeSigned at hs'
 have hk : (Head_Keys (Signed_Head s)).1.length ≤ 1050000 := by unfold sizeHead sizeKeys at hs'; omega
 unfold Z85 isFirst
 exact aB (iIsHead_v _ (by omega)) (aC (aC (aC (bnd (iZoneOf_v _ _ hk) (aC (aL (isSignedBy_v _ _ hs hk)))))))
theorem sEqualKeys_v (a b : TKeys) (hx : a.1.length ≤ 1050000) : Z109 a b = some (decide (a = b)) := by
 unfold Z109
 refine (aC (aL (EqualInts_v _ _ (by omega)))).trans ?_
 obtain ⟨a1, a2⟩ := a
 obtain ⟨b1, b2⟩ := b
 by_cases h1 : a1 = b1 <;> by_cases h2 : a2 = b2 <;> simp [h1, h2]
def sameC (a b : THead) : Bool := Head_Count a == Head_Count b && Head_Root a == Head_Root b
theorem sSame_v (a b : THead) : Z83 a b = some (sameC a b) := aC rfl
theorem iSame_v (a b : THead) : Z82 a b = some (sameC a b) := aC rfl
def ownC (p h : THead) : Int := bif Head_Frozen p then 4 else bif Head_Frozen h then 6 else 1
def lateB (p h : THead) : Bool := noK (Head_Heirs p) || decide ((Head_Time h) < (IntKind.i64.wrap ((Head_Until p) + (Head_Wait p))))
def heirC (p h : THead) : Int := bif Head_Frozen p then 4 else bif lateB p h then 5 else bif Head_Frozen h || (!decide (Head_Keys h = Head_Heirs p) || !sameC h p) then 6 else 1
def judgeC (p h : THead) : Int := bif noK (Head_Judge p) then 5 else bif (Head_Frozen h == Head_Frozen p) || !(sameC h p && (decide (Head_Judge h = Head_Judge p) && (decide (Head_Heirs h = Head_Heirs p) && (Head_Wait h == Head_Wait p)))) then 6 else bif Head_Frozen h && !decide (Head_Keys h = Head_Keys p) then 6 else 1
theorem sOwn_v (p h : THead) : Z92 p h = some (ownC p h) := by
 unfold Z92 ownC
 cases Head_Frozen p <;> cases Head_Frozen h <;> rfl
theorem heads_len (h : THead) (hx : sizeHead h ≤ 1050000) : (Head_Keys h).1.length ≤ 1050000 ∧ (Head_Heirs h).1.length ≤ 1050000 ∧ (Head_Judge h).1.length ≤ 1050000 := by
 unfold sizeHead sizeKeys at hx; omega
theorem sHeir_v (p h : THead) (hh : sizeHead h ≤ 1050000) : Z39 p h = some (heirC p h) := by
 have hk := (heads_len h hh).1
 unfold Z39 heirC lateB
 simp only [Z39.b, Z39.l9, Z39.g9, sNoKeys_v, sEqualKeys_v _ _ hk, sSame_v, bind_s]
 generalize decide ((Head_Time h) < (IntKind.i64.wrap ((Head_Until p) + (Head_Wait p)))) = a
 generalize decide (Head_Keys h = Head_Heirs p) = b
 cases Head_Frozen p <;> cases noK (Head_Heirs p) <;> cases a <;> cases Head_Frozen h <;> cases b <;> cases sameC h p <;> rfl
theorem sJudge_v (p h : THead) (hh : sizeHead h ≤ 1050000) : Z40 p h = some (judgeC p h) := by
 have hk := heads_len h hh
 unfold Z40 judgeC
 simp only [Z40.b, Z40.l9, Z40.g9, sNoKeys_v, sEqualKeys_v _ _ hk.1, sEqualKeys_v _ _ hk.2.1, sEqualKeys_v _ _ hk.2.2, sSame_v, bind_s, bne]
 generalize (Head_Wait h == Head_Wait p) = w
 generalize (Head_Frozen h == Head_Frozen p) = q
 generalize decide (Head_Judge h = Head_Judge p) = a
 generalize decide (Head_Heirs h = Head_Heirs p) = b
 generalize decide (Head_Keys h = Head_Keys p) = d
 cases noK (Head_Judge p) <;> cases q <;> cases sameC h p <;> cases a <;> cases b <;> cases w <;> cases Head_Frozen h <;> cases d <;> rfl
def finC (code : Int) (b : Bool) : Int := bif code == (1 : Int) then (bif b then code else 7) else code
noncomputable def isNext (p h : THead) : Bool := Head_Zone h == Head_Zone p && (Head_Epoch h == IntKind.i64.wrap ((Head_Epoch p) + (1 : Int)) && (Head_Prev h == headDigest p && decide (Head_Time h ≥ Head_Time p)))
theorem isNext_v (p h : THead) (hp : sizeHead p ≤ 1050000) : Z87 p h = some (isNext p h) := by
 unfold Z87 isNext
 exact aC (aC (bnd (iHeadDigest_v p hp) (aC rfl)))
noncomputable def kindC (p : THead) (s : TSigned) : Int :=
 bif Head_Kind (Signed_Head s) == (2 : Int) then finC (heirC p (Signed_Head s)) (signedBy s (Head_Heirs p)) else bif Head_Kind (Signed_Head s) == (3 : Int) then finC (judgeC p (Signed_Head s)) (signedBy s (Head_Judge p)) else finC (ownC p (Signed_Head s)) (signedBy s (Head_Keys p))
noncomputable def nextCode (p : THead) (s : TSigned) : Int :=
 bif !(isHeadB p && isHeadB (Signed_Head s)) then 2 else bif !isNext p (Signed_Head s) then 3 else kindC p s
theorem finC_v (c : Int) (b : Bool) : (bif c == (1 : Int) then (bif !b then some (7 : Int) else some c) else some c) = some (finC c b) := by
 unfold finC
 cases (c == (1 : Int)) <;> cases b <;> rfl
theorem sNext31_v (s : TSigned) (c : Int) (k : TKeys) (hs : sizeSigned s ≤ 1050000) (hk : k.1.length ≤ 1050000) : Z7.l31 s c k.1 k.2 = some (finC c (signedBy s k)) := by
 unfold sizeSigned at hs
 unfold Z7.l31
 simp only [Z7.g31, sHeadInts_v _ (show sizeHead (Signed_Head s) ≤ 1050000 by omega), sIsSigned_v k _ _ hk (show (Signed_Sigs s).length ≤ 1050000 by omega) (hi_len (Signed_Head s) (by omega)), bind_s]
 exact finC_v c _
theorem sNextCode_v (p : THead) (s : TSigned) (hp : sizeHead p ≤ 1050000) (hs : sizeSigned s ≤ 1050000) : Z7 p s = some (nextCode p s) := by
 have hs' := hs
 unfold sizeSigned at hs'
 have hk := heads_len p hp
 unfold Z7 nextCode isNext
 simp only [Z7.b, Z7.l9, Z7.g9, Z7.l13, Z7.g13, sIsHead_v p hp, sIsHead_v (Signed_Head s) (show _ ≤ 1050000 by omega), sHeadDigest_v p hp, sOwn_v, sHeir_v p (Signed_Head s) (by omega), sJudge_v p (Signed_Head s) (by omega), sNext31_v s _ _ hs hk.1, sNext31_v s _ _ hs hk.2.1, sNext31_v s _ _ hs hk.2.2, bind_s, bif_some, bne]
 show some _ = some _
 unfold kindC
 congr 1
 generalize (Head_Zone (Signed_Head s) == Head_Zone p) = a
 generalize (Head_Epoch (Signed_Head s) == IntKind.i64.wrap ((Head_Epoch p) + (1 : Int))) = b
 generalize (Head_Prev (Signed_Head s) == headDigest p) = c
 have e : decide ((Head_Time (Signed_Head s)) < (Head_Time p)) = !decide (Head_Time (Signed_Head s) ≥ Head_Time p) := by
  by_cases h : Head_Time (Signed_Head s) < Head_Time p
  ·rw [decide_eq_true h, decide_eq_false (by omega)]; rfl
  ·rw [decide_eq_false h, decide_eq_true (by omega)]; rfl
 rw [e]
 generalize decide (Head_Time (Signed_Head s) ≥ Head_Time p) = d
 cases isHeadB p <;> cases isHeadB (Signed_Head s) <;> cases a <;> cases b <;> cases c <;> cases d <;> rfl
theorem iOwn_v (p : THead) (s : TSigned) (hp : sizeHead p ≤ 1050000) (hs : sizeSigned s ≤ 1050000) : Z88 p s = some (finC (ownC p (Signed_Head s)) (signedBy s (Head_Keys p))) := by
 have hk := heads_len p hp
 unfold Z88 ownC
 rw [isSignedBy_v s _ hs hk.1, bind_s]
 cases Head_Frozen p <;> cases Head_Frozen (Signed_Head s) <;> cases signedBy s (Head_Keys p) <;> rfl
theorem iHeir_v (p : THead) (s : TSigned) (hp : sizeHead p ≤ 1050000) (hs : sizeSigned s ≤ 1050000) : Z17 p s = some (finC (heirC p (Signed_Head s)) (signedBy s (Head_Heirs p))) := by
 have hk := heads_len p hp
 have hs' := hs
 unfold sizeSigned at hs'
 have hq := heads_len (Signed_Head s) (by omega)
 unfold Z17 heirC lateB
 simp only [Z17.b, Z17.l11, Z17.g11, Z17.l15, Z17.g15, iNoKeys_v, EqualKeys_v _ _ hq.1, iSame_v, isSignedBy_v s _ hs hk.2.1, bind_s]
 generalize decide ((Head_Time (Signed_Head s)) < (IntKind.i64.wrap ((Head_Until p) + (Head_Wait p)))) = a
 generalize decide (Head_Keys (Signed_Head s) = Head_Heirs p) = b
 generalize signedBy s (Head_Heirs p) = c
 cases Head_Frozen p <;> cases noK (Head_Heirs p) <;> cases a <;> cases Head_Frozen (Signed_Head s) <;> cases b <;> cases sameC (Signed_Head s) p <;> cases c <;> rfl
theorem iJudge_v (p : THead) (s : TSigned) (hp : sizeHead p ≤ 1050000) (hs : sizeSigned s ≤ 1050000) : Z18 p s = some (finC (judgeC p (Signed_Head s)) (signedBy s (Head_Judge p))) := by
 have hk := heads_len p hp
 have hs' := hs
 unfold sizeSigned at hs'
 have hq := heads_len (Signed_Head s) (by omega)
 unfold Z18 judgeC
 simp only [Z18.b, Z18.l7, Z18.g7, Z18.l13, Z18.g13, iNoKeys_v, EqualKeys_v _ _ hq.1, EqualKeys_v _ _ hq.2.1, EqualKeys_v _ _ hq.2.2, iSame_v, isSignedBy_v s _ hs hk.2.2, bind_s]
 generalize (Head_Wait (Signed_Head s) == Head_Wait p) = w
 generalize (Head_Frozen (Signed_Head s) == Head_Frozen p) = q
 generalize decide (Head_Judge (Signed_Head s) = Head_Judge p) = a
 generalize decide (Head_Heirs (Signed_Head s) = Head_Heirs p) = b
 generalize decide (Head_Keys (Signed_Head s) = Head_Keys p) = d
 generalize signedBy s (Head_Judge p) = c
 cases noK (Head_Judge p) <;> cases q <;> cases sameC (Signed_Head s) p <;> cases a <;> cases b <;> cases w <;> cases Head_Frozen (Signed_Head s) <;> cases d <;> cases c <;> rfl
theorem isHeadB_kind (x : THead) (h : isHeadB x = true) : Head_Kind x = 1 ∨ Head_Kind x = 2 ∨ Head_Kind x = 3 := by
 unfold isHeadB hr4 at h
 simp only [Bool.and_eq_true] at h
 have h1 := h.1.2.2.2.2
 unfold inR at h1
 simp only [Bool.and_eq_true, decide_eq_true_eq] at h1
 omega
theorem iNextCode_v (p : THead) (s : TSigned) (hp : sizeHead p ≤ 1050000) (hs : sizeSigned s ≤ 1050000) : Z34 p s = some (nextCode p s) := by
 have hs' := hs
 unfold sizeSigned at hs'
 unfold Z34 nextCode
 simp only [Z34.b, Z34.l5, Z34.g5, iIsHead_v p hp, iIsHead_v (Signed_Head s) (show _ ≤ 1050000 by omega), isNext_v p _ hp, iOwn_v p s hp hs, iHeir_v p s hp hs, iJudge_v p s hp hs, bind_s]
 cases h1 : isHeadB p with
 | false => rfl
 | true =>
   cases h2 : isHeadB (Signed_Head s) with
   | false => rfl
   | true =>
     cases isNext p (Signed_Head s) with
     | false => rfl
     | true =>
       show _ = some (kindC p s)
       unfold kindC
       rcases isHeadB_kind _ h2 with h | h | h <;> rw [h] <;> rfl
noncomputable def mayFollow (p : THead) (s : TSigned) : Bool := nextCode p s == (1 : Int)
theorem sMay_v (p : THead) (s : TSigned) (hp : sizeHead p ≤ 1050000) (hs : sizeSigned s ≤ 1050000) : Z91 p s = some (mayFollow p s) := bnd (sNextCode_v p s hp hs) rfl
theorem iMay_v (p : THead) (s : TSigned) (hp : sizeHead p ≤ 1050000) (hs : sizeSigned s ≤ 1050000) : Z86 p s = some (mayFollow p s) := bnd (iNextCode_v p s hp hs) rfl
noncomputable def fw : Option THead → List TSigned → Int → Int
 | _, [], _ => -1
 | none, s :: t, k => bif !isFirst s then k else fw (some (Signed_Head s)) t (k + 1)
 | some p, s :: t, k => bif !mayFollow p s then k else fw (some (Signed_Head s)) t (k + 1)
def prevAt (xs : List TSigned) : Nat → Option THead
 | 0 => none
 | j + 1 => some (Signed_Head (xs.getD j dSigned))
theorem fw_last (o : Option THead) (xs : List TSigned) (k : Int) : fw o (xs.drop xs.length) k = -1 := by
 rw [List.drop_length]
 cases o <;> rfl
theorem fw_zero {xs : List TSigned} (h : 0 < xs.length) : fw none (xs.drop 0) 0 = bif !isFirst xs[0] then 0 else fw (prevAt xs 1) (xs.drop 1) 1 := by
 rw [List.drop_eq_getElem_cons h]
 show _ = bif !isFirst xs[0] then 0 else fw (some (Signed_Head (xs.getD 0 dSigned))) (xs.drop 1) 1
 rw [at_n h]; rfl
theorem fw_succ {xs : List TSigned} {j : Nat} (h : j + 1 < xs.length) : fw (prevAt xs (j + 1)) (xs.drop (j + 1)) ((j + 1 : Nat) : Int) = bif !mayFollow (Signed_Head xs[j]) xs[j + 1] then ((j + 1 : Nat) : Int) else fw (prevAt xs (j + 2)) (xs.drop (j + 2)) ((j + 2 : Nat) : Int) := by
 rw [List.drop_eq_getElem_cons h]
 show fw (some (Signed_Head (xs.getD j dSigned))) _ _ = bif !mayFollow (Signed_Head xs[j]) xs[j + 1] then ((j + 1 : Nat) : Int) else fw (some (Signed_Head (xs.getD (j + 1) dSigned))) (xs.drop (j + 2)) ((j + 2 : Nat) : Int)
 rw [at_n h, at_n (show j < xs.length by omega)]; rfl
theorem head_at {xs : List TSigned} {i : Nat} (h : i < xs.length) {n : Nat} (hx : sizeSignedS xs ≤ n) : sizeHead (Signed_Head xs[i]) ≤ n := by
 have := signed_at h hx
 unfold sizeSigned at this
 omega
theorem sFirstWrong_l (x0 : List TSigned) (hx : sizeSignedS x0 ≤ 1050000) : ∀ i n, i ≤ x0.length → x0.length - i < n → Z44.l4 x0 n (i : Int) = some (fw (prevAt x0 i) (x0.drop i) (i : Int)) := by
 have hl : x0.length ≤ 1050000 := by unfold sizeSignedS sizeS at hx; omega
 refine idx_ind ?_ ?_
 ·intro n
  rw [Z44.u4]
  simp only [Z44.g4, lt_f (Nat.le_refl _), cond_f, fw_last]
 ·intro i n hi ih
  rw [Z44.u4]
  match i, hi, ih with
  | 0, hi, ih =>
    have e := fw_zero hi
    have hg : x0.getD ((0 : Int).toNat) dSigned = x0[0] := at_n hi _
    simp only [Z44.g4, lt_t hi, cond_t, Int.natCast_zero, beq_self_eq_true, decide_eq_true (Int.le_refl 0), hg, sIsFirst_v _ (signed_at hi hx), bind_s]
    rw [decide_eq_true (show (0 : Int) < (x0.length : Int) by omega), cond_t, cond_t, wd (n := (0 : Int) + 1) (by omega), decide_eq_false (by omega), cond_f, show (0 : Int) + 1 = ((0 + 1 : Nat) : Int) from rfl, ih]
    rw [show prevAt x0 0 = none from rfl, e, bif_some]; rfl
  | j + 1, hi, ih =>
    have e := fw_succ hi
    have hj : j < x0.length := by omega
    have ew : IntKind.i64.wrap (((j + 1 : Nat) : Int) - 1) = (j : Int) := by rw [wd (by omega)]; omega
    simp only [Z44.g4, lt_t hi, cond_t, ew, ge_t, lt_t hj, Int.toNat_natCast, at_n hi, at_n hj, sMay_v _ _ (head_at hj hx) (signed_at hi hx), bind_s]
    rw [show (((j + 1 : Nat) : Int) == (0 : Int)) = false by rw [beq_eq_false_iff_ne]; omega, cond_f, decide_eq_true (by omega), cond_t, w64_succ (by omega), ih, e, bif_some]
theorem iFirstWrong_l (x0 : List TSigned) (hx : sizeSignedS x0 ≤ 1050000) : ∀ i n, i ≤ x0.length → x0.length - i < n → Z43.l4 x0 n (x0.length : Int) (i : Int) = some (fw (prevAt x0 i) (x0.drop i) (i : Int)) := by
 have hl : x0.length ≤ 1050000 := by unfold sizeSignedS sizeS at hx; omega
 refine idx_ind ?_ ?_
 ·intro n
  rw [Z43.u4]
  simp only [Z43.g4, lt_f (Nat.le_refl _), cond_f, fw_last]
 ·intro i n hi ih
  rw [Z43.u4]
  match i, hi, ih with
  | 0, hi, ih =>
    have e := fw_zero hi
    have hg : x0.getD ((0 : Int).toNat) dSigned = x0[0] := at_n hi _
    simp only [Z43.g4, lt_t hi, cond_t, Int.natCast_zero, beq_self_eq_true, decide_eq_true (Int.le_refl 0), hg, iIsFirst_v _ (signed_at hi hx), bind_s]
    rw [decide_eq_true (show (0 : Int) < (x0.length : Int) by omega), cond_t, cond_t, wd (n := (0 : Int) + 1) (by omega), decide_eq_false (by omega), cond_f, show (0 : Int) + 1 = ((0 + 1 : Nat) : Int) from rfl, ih]
    rw [show prevAt x0 0 = none from rfl, e, bif_some]; rfl
  | j + 1, hi, ih =>
    have e := fw_succ hi
    have hj : j < x0.length := by omega
    have ew : IntKind.i64.wrap (((j + 1 : Nat) : Int) - 1) = (j : Int) := by rw [wd (by omega)]; omega
    simp only [Z43.g4, lt_t hi, cond_t, ew, ge_t, lt_t hj, Int.toNat_natCast, at_n hi, at_n hj, iMay_v _ _ (head_at hj hx) (signed_at hi hx), bind_s]
    rw [show (((j + 1 : Nat) : Int) == (0 : Int)) = false by rw [beq_eq_false_iff_ne]; omega, cond_f, decide_eq_true (by omega), cond_t, w64_succ (by omega), ih, e, bif_some]
noncomputable def isChain (xs : List TSigned) : Bool := inR (xs.length : Int) 1 12 && decide (fw none xs 0 < 0)
theorem sFirstWrong_v (x0 : List TSigned) (hx : sizeSignedS x0 ≤ 1050000) : Z44 x0 = some (fw none x0 0) :=
 sFirstWrong_l x0 hx 0 KK (Nat.zero_le _) (KK_gt (by unfold sizeSignedS sizeS at hx; omega))
theorem iFirstWrong_v (x0 : List TSigned) (hx : sizeSignedS x0 ≤ 1050000) : Z43 x0 = some (fw none x0 0) :=
 iFirstWrong_l x0 hx 0 KK (Nat.zero_le _) (KK_gt (by unfold sizeSignedS sizeS at hx; omega))
theorem sIsChain_v (x0 : List TSigned) (hx : sizeSignedS x0 ≤ 1050000) : Z103 x0 = some (isChain x0) := by
 unfold Z103 isChain
 exact aB (l1In_r _ _ _) (bnd (sFirstWrong_v x0 hx) rfl)
theorem iIsChain_v (x0 : List TSigned) (hx : sizeSignedS x0 ≤ 1050000) : Z133 x0 = some (isChain x0) := by
 unfold Z133 isChain
 exact aB (InRange_r _ _ _) (bnd (iFirstWrong_v x0 hx) rfl)
theorem isChain_len (xs : List TSigned) (h : isChain xs = true) : 1 ≤ xs.length ∧ xs.length ≤ 12 := by
 unfold isChain inR at h
 simp only [Bool.and_eq_true, decide_eq_true_eq] at h
 omega
theorem keys_getD (xs : List TSigned) (i : Nat) (n : Nat) (hx : sizeSignedS xs ≤ n) : sizeHead (Signed_Head (xs.getD i dSigned)) ≤ n := by
 by_cases h : i < xs.length
 ·rw [at_n h]; exact head_at h hx
 ·have e : xs.getD i dSigned = dSigned := by simp [List.getD, show xs.length ≤ i by omega]
  rw [e]; exact Nat.zero_le _
theorem l5Copy_v (x : List ByteArray) (hx : x.length ≤ 1050000) : Z122 x = some x := by
 unfold Z122
 rw [decide_eq_true (by simp; omega), cond_t]; rfl
theorem entry_path (e : TEntry) (hx : sizeEntry e ≤ 1050000) : e.2.2.2.length ≤ 1050000 := by
 unfold sizeEntry sizeStringS sizeS at hx; omega
theorem l8Copy_v (e : TEntry) (hx : sizeEntry e ≤ 1050000) : Z107 e = some e := by
 unfold Z107
 exact bnd (l5Copy_v _ (entry_path e hx)) rfl
theorem R_alt (c : Bool) (h : THead) : RHeadBool_r1 (bif c then RHeadBool_mk h true else dRHeadBool) = c ∧ (c = true → RHeadBool_r0 (bif c then RHeadBool_mk h true else dRHeadBool) = h) := by
 cases c
 ·exact ⟨rfl, fun h => Bool.noConfusion h⟩
 ·exact ⟨rfl, fun _ => rfl⟩
theorem idxF {α : Type} (xs : List α) (d : α) (f : α → Option Bool) (p : α → Bool) (hl : xs.length ≤ 1050000) (hf : ∀ i (h : i < xs.length), f xs[i] = some (p xs[i])) (l : Nat → Int → Int → Option Int) (u : ∀ n L a, l (n + 1) L a = (bif decide (a < L) then bif decide (0 ≤ a) then bif decide (a < (xs.length : Int)) then (f (xs.getD a.toNat d)).bind fun y1 => bif y1 then some a else l n L (IntKind.i64.wrap (a + (1 : Int))) else none else none else some (-1 : Int))) : l KK (xs.length : Int) (0 : Int) = some (fnd p xs 0) := by
 have hh : ∀ i n, i ≤ xs.length → xs.length - i < n → l n (xs.length : Int) (i : Int) = some (fnd p (xs.drop i) (i : Int)) := by
  refine idx_ind ?_ ?_
  ·intro n
   rw [u]
   simp only [lt_f (Nat.le_refl _), cond_f, fnd_last]
  ·intro i n hi ih
   rw [u]
   simp only [lt_t hi, ge_t, cond_t, Int.toNat_natCast, at_n hi, hf i hi, bind_s, w64_succ (i := i) (by omega), ih, fnd_step p hi]
   cases p xs[i] <;> rfl
 have := hh 0 KK (Nat.zero_le _) (KK_gt (by omega))
 rw [List.drop_zero] at this
 exact this
theorem cntF {α : Type} (xs : List α) (p : α → Bool) {e : Option Int} (h : e = some (fnd p xs 0)) : (e.bind fun y1 => some (decide (y1 ≥ (0 : Int)))) = some (xs.any p) := by
 rw [h, bind_s, fnd_ge _ _ _ (Int.le_refl 0)]
theorem copyL {α : Type} (xs : List α) (d : α) (f : α → Option α) (hl : xs.length ≤ 1050000) (hf : ∀ i (h : i < xs.length), f xs[i] = some xs[i]) (l : Nat → List α → Int → Option (List α)) (u : ∀ n ys a, l (n + 1) ys a = (bif decide (a < (xs.length : Int)) then bif decide (0 ≤ a) then bif decide (a < (xs.length : Int)) then (f (xs.getD a.toNat d)).bind fun y1 => bif decide (ys.length + [y1].length < 68719476736) then l n (ys ++ [y1]) (IntKind.i64.wrap (a + (1 : Int))) else none else none else none else some ys)) : l KK [] (0 : Int) = some xs := by
 have hh : ∀ i n, i ≤ xs.length → xs.length - i < n → l n (xs.take i) (i : Int) = some xs := by
  refine idx_ind ?_ ?_
  ·intro n
   rw [u]
   simp only [lt_f (Nat.le_refl _), cond_f, List.take_length]
  ·intro i n hi ih
   rw [u]
   have hg : (xs.take i).length + [xs[i]].length < 68719476736 := by rw [List.length_take]; show _ + 1 < _; omega
   simp only [lt_t hi, ge_t, cond_t, Int.toNat_natCast, at_n hi, hf i hi, bind_s, w64_succ (i := i) (by omega), List.take_append_getElem hi]
   rw [decide_eq_true hg, cond_t]
   exact ih
 have := hh 0 KK (Nat.zero_le _) (KK_gt (by omega))
 rw [List.take_zero] at this
 exact this
def lastS (xs : List TSigned) : TSigned := xs.getD (IntKind.i64.wrap ((xs.length : Int) - (1 : Int))).toNat dSigned
noncomputable def lastHead (xs : List TSigned) : TRHeadBool := bif isChain xs then RHeadBool_mk (Signed_Head (lastS xs)) true else dRHeadBool
theorem wl {n : Nat} (h : 1 ≤ n ∧ n ≤ 12) : IntKind.i64.wrap ((n : Int) - (1 : Int)) = (n : Int) - 1 := wd (by omega)
theorem lastS_size (xs : List TSigned) (hx : sizeSignedS xs ≤ 1050000) : sizeHead (Signed_Head (lastS xs)) ≤ 1050000 := keys_getD xs _ _ hx
theorem sLastHead_v (xs : List TSigned) (hx : sizeSignedS xs ≤ 1050000) : Z150 xs = some (lastHead xs) := by
 unfold Z150 lastHead
 refine bnd (sIsChain_v xs hx) ?_
 cases hc : isChain xs with
 | false => rfl
 | true =>
   have hl := isChain_len xs hc
   exact cF rfl (cT (decide_eq_true (by rw [wl hl]; omega)) (cT (decide_eq_true (by rw [wl hl]; omega)) (bnd (l13Copy_v _ (lastS_size xs hx)) rfl)))
theorem last_v (xs : List TSigned) (hc : isChain xs = true) : Z114 xs = some (Signed_Head (lastS xs)) := by
 have hl := isChain_len xs hc
 unfold Z114
 exact cT (decide_eq_true (by rw [wl hl]; omega)) (cT (decide_eq_true (by rw [wl hl]; omega)) rfl)
theorem l16Copy_v (xs : List TSigned) (hx : sizeSignedS xs ≤ 1050000) : Z41 xs = some xs :=
 copyL xs dSigned Z66 (by unfold sizeSignedS sizeS at hx; omega) (fun i h => l14Copy_v _ (signed_at h hx)) (fun n ys a => Z41.l6 xs n a ys) (fun n ys a => Z41.u6 xs n a ys)
noncomputable def ext2 (xs : List TSigned) (s : TSigned) (v : Bool) : List TSigned × Int := bif v then (xs, 2) else bif nextCode (Signed_Head (lastS xs)) s != (1 : Int) then (xs, nextCode (Signed_Head (lastS xs)) s) else (xs ++ [s], 1)
noncomputable def ext (xs : List TSigned) (s : TSigned) : List TSigned × Int := ext2 xs s (!isChain xs || decide ((xs.length : Int) ≥ (12 : Int)))
theorem lastHead_r (xs : List TSigned) : RHeadBool_r1 (lastHead xs) = isChain xs ∧ (isChain xs = true → RHeadBool_r0 (lastHead xs) = Signed_Head (lastS xs)) := R_alt (isChain xs) (Signed_Head (lastS xs))
theorem app_ok (xs : List TSigned) (s : TSigned) (hx : sizeSignedS xs ≤ 1050000) : decide (xs.length + [s].length < 68719476736) = true := by
 refine decide_eq_true ?_
 show xs.length + 1 < _
 unfold sizeSignedS sizeS at hx
 omega
theorem sExt7_v (xs : List TSigned) (s : TSigned) (hx : sizeSignedS xs ≤ 1050000) (hs : sizeSigned s ≤ 1050000) (hc : isChain xs = true) (v : Bool) : Z38.l7 xs s (lastHead xs) v = some (ext2 xs s v) := by
 unfold ext2
 cases v with
 | true => exact bnd (l16Copy_v xs hx) rfl
 | false =>
   show ((Z7 (RHeadBool_r0 (lastHead xs)) s).bind _) = _
   rw [(lastHead_r xs).2 hc]
   refine bnd (sNextCode_v _ s (lastS_size xs hx) hs) ?_
   cases nextCode (Signed_Head (lastS xs)) s != (1 : Int) with
   | true => exact bnd (l16Copy_v xs hx) rfl
   | false => exact bnd (l16Copy_v xs hx) (bnd (l14Copy_v s hs) (cT (app_ok xs s hx) rfl))
theorem sExtend_v (xs : List TSigned) (s : TSigned) (hx : sizeSignedS xs ≤ 1050000) (hs : sizeSigned s ≤ 1050000) : Z38 xs s = some (ext xs s) := by
 unfold ext
 refine bnd (sLastHead_v xs hx) ?_
 rw [(lastHead_r xs).1]
 cases hc : isChain xs with
 | false => exact bnd (l16Copy_v xs hx) rfl
 | true => exact sExt7_v xs s hx hs hc _
def hq (s t : TSigned) : Bool := eqHeads (Signed_Head s) (Signed_Head t)
theorem hq_comm (s t : TSigned) : hq s t = hq t s := by
 unfold hq eqHeads
 exact decide_eq_decide.2 ⟨Eq.symm, Eq.symm⟩
def preB (a b : List TSigned) : Bool := decide (a.length ≤ b.length) && all2 hq a b
def mis : List TSigned → List TSigned → Nat
 | x :: xs, y :: ys => bif hq x y then mis xs ys + 1 else 0
 | _, _ => 0
theorem all2_hq_comm : ∀ (a b : List TSigned), all2 hq a b = all2 hq b a
 | [], [] => rfl
 | [], _ :: _ => rfl
 | _ :: _, [] => rfl
 | x :: xs, y :: ys => by
   unfold all2
   rw [hq_comm x y, all2_hq_comm xs ys]
theorem mis_lt : ∀ (a b : List TSigned), all2 hq a b = false → mis a b < a.length ∧ mis a b < b.length
 | [], _, h => (by unfold all2 at h; cases h)
 | _ :: _, [], h => (by unfold all2 at h; cases h)
 | x :: xs, y :: ys, h => by
   unfold all2 at h
   unfold mis
   cases hx : hq x y with
   | false => exact ⟨Nat.succ_pos _, Nat.succ_pos _⟩
   | true =>
     rw [hx, Bool.true_and] at h
     have := mis_lt xs ys h
     rw [cond_t, List.length_cons, List.length_cons]
     omega
theorem preB_no {a b : List TSigned} (h : preB a b = false) (h' : preB b a = false) : all2 hq a b = false := by
 unfold preB at h h'
 rw [all2_hq_comm b a] at h'
 by_cases hl : a.length ≤ b.length
 ·rw [decide_eq_true hl, Bool.true_and] at h; exact h
 ·rw [decide_eq_true (by omega), Bool.true_and] at h'; exact h'
noncomputable def forkInB (a b : List TSigned) : Bool := isChain a && (isChain b && (Head_Zone (Signed_Head (a.getD 0 dSigned)) == Head_Zone (Signed_Head (b.getD 0 dSigned)) && (!preB a b && !preB b a)))
noncomputable def forkInF (a b : List TSigned) (m : Nat) : TFork := Fork_mk (bif decide ((m : Int) > (0 : Int)) then a.getD (IntKind.i64.wrap ((m : Int) - (1 : Int))).toNat dSigned else dSigned) (a.getD m dSigned) (b.getD m dSigned)
noncomputable def forkIn (a b : List TSigned) : TRForkBool := bif forkInB a b then RForkBool_mk (forkInF a b (mis a b)) true else dRForkBool
theorem mis_hq : ∀ (a b : List TSigned), all2 hq a b = false → (∀ i (_ : i < mis a b) (ha : i < a.length) (hb : i < b.length), hq a[i] b[i] = true) ∧ (∀ (ha : mis a b < a.length) (hb : mis a b < b.length), hq a[mis a b] b[mis a b] = false)
 | [], _, h => (by unfold all2 at h; cases h)
 | _ :: _, [], h => (by unfold all2 at h; cases h)
 | x :: xs, y :: ys, h => by
   unfold all2 at h
   cases hx : hq x y with
   | false =>
     have e : mis (x :: xs) (y :: ys) = 0 := by unfold mis; rw [hx]; rfl
     refine ⟨fun i hi => by omega, ?_⟩
     rw [e]
     exact fun _ _ => hx
   | true =>
     rw [hx, Bool.true_and] at h
     have ih := mis_hq xs ys h
     have e : mis (x :: xs) (y :: ys) = mis xs ys + 1 := by rw [mis, hx]; rfl
     rw [e]
     refine ⟨fun i hi ha hb => ?_, fun ha hb => ih.2 (by simpa using ha) (by simpa using hb)⟩
     cases i with
     | zero => exact hx
     | succ i => exact ih.1 i (by omega) (by simpa using ha) (by simpa using hb)
theorem sig_getD (xs : List TSigned) (i : Nat) (n : Nat) (hx : sizeSignedS xs ≤ n) : sizeSigned (xs.getD i dSigned) ≤ n := by
 by_cases h : i < xs.length
 ·rw [at_n h]; exact signed_at h hx
 ·have e : xs.getD i dSigned = dSigned := by simp [List.getD, show xs.length ≤ i by omega]
  rw [e]; exact Nat.zero_le _
theorem fkRest (a b : List TSigned) (m : Nat) (ha : m < a.length) (hb : m < b.length) (hx : sizeSignedS a ≤ 1050000) (hy : sizeSignedS b ≤ 1050000) (cp : TSigned → Option TSigned) (hcp : ∀ s, sizeSigned s ≤ 1050000 → cp s = some s) : (bif decide (0 ≤ (m : Int)) then bif decide ((m : Int) < (a.length : Int)) then (cp (a.getD (m : Int).toNat dSigned)).bind fun y3 => bif decide (0 ≤ (m : Int)) then bif decide ((m : Int) < (b.length : Int)) then (cp (b.getD (m : Int).toNat dSigned)).bind fun y4 => bif decide ((m : Int) > (0 : Int)) then bif decide (0 ≤ (IntKind.i64.wrap ((m : Int) - (1 : Int)))) then bif decide ((IntKind.i64.wrap ((m : Int) - (1 : Int))) < (a.length : Int)) then (cp (a.getD ((IntKind.i64.wrap ((m : Int) - (1 : Int))).toNat) dSigned)).bind fun y5 => some (RForkBool_mk (Fork_mk y5 y3 y4) true) else none else none else some (RForkBool_mk (Fork_mk dSigned y3 y4) true) else none else none else none else none) = some (RForkBool_mk (forkInF a b m) true) := by
 have hl : a.length ≤ 1050000 := by unfold sizeSignedS sizeS at hx; omega
 refine cT ge_t (cT (lt_t ha) (bnd (hcp _ (sig_getD a _ _ hx)) (cT ge_t (cT (lt_t hb) (bnd (hcp _ (sig_getD b _ _ hy)) ?_)))))
 unfold forkInF
 cases hd : decide ((m : Int) > (0 : Int)) with
 | false => rfl
 | true =>
   have hm : 0 < m := by have := of_decide_eq_true hd; omega
   have e : IntKind.i64.wrap ((m : Int) - (1 : Int)) = (m : Int) - 1 := wd (by omega)
   exact cT rfl (cT (decide_eq_true (by rw [e]; omega)) (cT (decide_eq_true (by rw [e]; omega)) (bnd (hcp _ (sig_getD a _ _ hx)) rfl)))
theorem preL (a b : List TSigned) (h : a.length ≤ b.length) (hl : a.length ≤ 1050000) (f : THead → THead → Option Bool) (hf : ∀ i (ha : i < a.length) (hb : i < b.length), f (Signed_Head a[i]) (Signed_Head b[i]) = some (hq a[i] b[i])) (l : Nat → Int → Option Bool) (u : ∀ n v, l (n + 1) v = (bif decide (v < (a.length : Int)) then bif decide (0 ≤ v) then bif decide (v < (a.length : Int)) then bif decide (0 ≤ v) then bif decide (v < (b.length : Int)) then (f (Signed_Head (a.getD v.toNat dSigned)) (Signed_Head (b.getD v.toNat dSigned))).bind fun y1 => bif !y1 then some false else l n (IntKind.i64.wrap (v + (1 : Int))) else none else none else none else none else some true)) : l KK (0 : Int) = some (all2 hq a b) := by
 have hh : ∀ i n, i ≤ a.length → a.length - i < n → l n (i : Int) = some (all2 hq (a.drop i) (b.drop i)) := by
  refine idx_ind ?_ ?_
  ·intro n
   rw [u]
   simp only [lt_f (Nat.le_refl _), cond_f, List.drop_length]
   cases b.drop a.length <;> rfl
  ·intro i n hi ih
   have hi' : i < b.length := by omega
   rw [u]
   simp only [lt_t hi, lt_t hi', ge_t, cond_t, Int.toNat_natCast, at_n hi, at_n hi', hf i hi hi', bind_s, w64_succ (i := i) (by omega), ih, all2_step hq hi hi']
   cases hq a[i] b[i] <;> rfl
 have := hh 0 KK (Nat.zero_le _) (KK_gt (by omega))
 rw [List.drop_zero, List.drop_zero] at this
 exact this
theorem sIsPrefix_v (a b : List TSigned) (hx : sizeSignedS a ≤ 1050000) (hy : sizeSignedS b ≤ 1050000) : Z52 a b = some (preB a b) := by
 unfold Z52 preB
 by_cases h : a.length ≤ b.length
 ·rw [decide_eq_true h, Bool.true_and]
  exact cF (decide_eq_false (by omega)) (preL a b h (by unfold sizeSignedS sizeS at hx; omega) Z77 (fun i ha hb => sEqualHeads_v _ _ (head_at ha hx) (head_at hb hy)) (Z52.l8 a b) (fun n v => Z52.u8 a b n v))
 ·rw [decide_eq_false h, Bool.false_and]
  exact cT (decide_eq_true (by omega)) rfl
theorem sForkL_v (a b : List TSigned) (hx : sizeSignedS a ≤ 1050000) (hy : sizeSignedS b ≤ 1050000) (hn : all2 hq a b = false) : Z19.l8 a b KK (0 : Int) = some (RForkBool_mk (forkInF a b (mis a b)) true) := by
 have hl : a.length ≤ 1050000 := by unfold sizeSignedS sizeS at hx; omega
 obtain ⟨ha, hb⟩ := mis_lt a b hn
 obtain ⟨h1, h2⟩ := mis_hq a b hn
 have hh : ∀ i n, i ≤ mis a b → mis a b - i < n → Z19.l8 a b n (i : Int) = some (RForkBool_mk (forkInF a b (mis a b)) true) := by
  refine idx_ind ?_ ?_
  ·intro n
   rw [Z19.u8]
   refine cT (lt_t ha) (cT (lt_t hb) (cT ge_t (cT (lt_t ha) (cT ge_t (cT (lt_t hb) (bnd (sEqualHeads_v _ _ (keys_getD a _ _ hx) (keys_getD b _ _ hy)) (cF ?_ (fkRest a b _ ha hb hx hy Z66 l14Copy_v))))))))
   have := h2 ha hb
   rw [Int.toNat_natCast, at_n ha, at_n hb]
   exact this
  ·intro i n hi ih
   have hia : i < a.length := by omega
   have hib : i < b.length := by omega
   rw [Z19.u8]
   refine cT (lt_t hia) (cT (lt_t hib) (cT ge_t (cT (lt_t hia) (cT ge_t (cT (lt_t hib) (bnd (sEqualHeads_v _ _ (keys_getD a _ _ hx) (keys_getD b _ _ hy)) (cT ?_ ?_)))))))
   ·have := h1 i hi hia hib
    rw [Int.toNat_natCast, at_n hia, at_n hib]
    exact this
   ·rw [w64_succ (by omega)]
    exact ih
 exact hh 0 KK (Nat.zero_le _) (KK_gt (by omega))
theorem sForkIn_v (a b : List TSigned) (hx : sizeSignedS a ≤ 1050000) (hy : sizeSignedS b ≤ 1050000) : Z19 a b = some (forkIn a b) := by
 unfold forkIn forkInB
 refine bnd (sIsChain_v a hx) ?_
 cases hc : isChain a with
 | false => rfl
 | true =>
   refine cF rfl (bnd (sIsChain_v b hy) ?_)
   cases hd : isChain b with
   | false => rfl
   | true =>
     have la := isChain_len a hc
     have lb := isChain_len b hd
     refine cF rfl (cT rfl (cT (decide_eq_true (by omega)) (cT rfl (cT (decide_eq_true (by omega)) ?_))))
     cases hz : (Head_Zone (Signed_Head (a.getD 0 dSigned)) == Head_Zone (Signed_Head (b.getD 0 dSigned))) with
     | false => exact cT (congrArg (fun z => !z) hz) rfl
     | true =>
       refine cF (congrArg (fun z => !z) hz) (bnd (sIsPrefix_v a b hx hy) ?_)
       cases hp : preB a b with
       | true => rfl
       | false =>
         refine cF rfl (bnd (sIsPrefix_v b a hy hx) ?_)
         cases hp' : preB b a with
         | true => rfl
         | false => exact sForkL_v a b hx hy (preB_no hp hp')
theorem cmp_less : ∀ a b : List UInt8, Lib.compareBytes a b = bif Op.bytesLess a b then (-1 : Int) else bif a == b then 0 else 1
 | [], [] => rfl
 | [], _ :: _ => rfl
 | _ :: _, [] => rfl
 | a :: x, b :: y => by
   have ih := cmp_less x y
   unfold Lib.compareBytes Op.bytesLess
   by_cases h : a < b
   ·rw [if_pos h, decide_eq_true h, Bool.true_or]; rfl
   ·rw [if_neg h, decide_eq_false h, Bool.false_or]
    by_cases g : b < a
    ·rw [if_pos g]
     have ne : (a == b) = false := by rw [beq_eq_false_iff_ne]; rintro rfl; exact h g
     have ne2 : (a :: x == b :: y) = false := by rw [List.cons_beq_cons, ne, Bool.false_and]
     rw [ne, ne2, Bool.false_and]; rfl
    ·have e : a = b := UInt8.le_antisymm (UInt8.not_lt.1 g) (UInt8.not_lt.1 h)
     subst e
     rw [if_neg g, ih, beq_self_eq_true, Bool.true_and, List.cons_beq_cons, beq_self_eq_true, Bool.true_and]
def cmpS (a b : ByteArray) : Int := Lib.compareBytes a.data.toList b.data.toList
def allN (p : Nat → Bool) (n : Nat) : Bool := decide (∀ i, i < n → p i = true)
theorem allN_iff (p : Nat → Bool) (n : Nat) : allN p n = true ↔ ∀ i, i < n → p i = true := by unfold allN; exact decide_eq_true_iff
theorem allL {len : Nat} (hl : len ≤ 1152921504606846976) (p : Nat → Bool) (z : Bool) (l : Nat → Int → Option Bool) (u0 : ∀ n, l (n + 1) (len : Int) = some z) (u : ∀ n i, i < len → l (n + 1) (i : Int) = bif p i then l n ((i + 1 : Nat) : Int) else some false) : l KK (0 : Int) = some (allN p len && z) := by
 have hh : ∀ i n, i ≤ len → len - i < n → l n (i : Int) = some (decide (∀ j, j < len → i ≤ j → p j = true) && z) := by
  refine idx_ind ?_ ?_
  ·intro n
   have e : decide (∀ j, j < len → len ≤ j → p j = true) = true := decide_eq_true (fun j h1 h2 => absurd h1 (by omega))
   rw [u0, e, Bool.true_and]
  ·intro i n hi ih
   rw [u n i hi, ih]
   cases hp : p i with
   | false =>
     have e : decide (∀ j, j < len → i ≤ j → p j = true) = false := decide_eq_false (fun h => by have := h i hi (Nat.le_refl _); rw [hp] at this; cases this)
     rw [cond_f, e, Bool.false_and]
   | true =>
     rw [cond_t]
     have e : decide (∀ j, j < len → i ≤ j → p j = true) = decide (∀ j, j < len → i + 1 ≤ j → p j = true) := by
      refine decide_eq_decide.2 ⟨fun h j h1 h2 => h j h1 (by omega), fun h j h1 h2 => ?_⟩
      by_cases e : j = i
      ·subst e; exact hp
      ·exact h j h1 (by omega)
     rw [e]
 have := hh 0 KK (Nat.zero_le _) (KK_gt (by omega))
 have e : decide (∀ j, j < len → 0 ≤ j → p j = true) = allN p len := decide_eq_decide.2 ⟨fun h j h1 => h j h1 (Nat.zero_le _), fun h j h1 _ => h j h1⟩
 rw [e] at this
 exact this
def lcS (c : Int) : Bool := (!(decide (c < 97) || decide (c > 122))) || (!(decide (c < 48) || decide (c > 57)))
def btN (s : ByteArray) (i : Nat) : Int := V.bt s (i : Int)
theorem sIsLabel_l (s : ByteArray) (hs : s.size ≤ 1050000) : Z15.l7 s = some (allN (fun i => lcS (btN s i) || !(btN s i != (45 : Int))) s.size && true) := by
 refine allL (by omega) _ _ (Z15.l8 s) (fun n => ?_) (fun n i hi => ?_)
 ·rw [Z15.u8]
  simp only [Z15.g8, lt_f (Nat.le_refl _), cond_f]
 ·rw [Z15.u8]
  simp only [Z15.g8, lt_t hi, ge_t, cond_t, w64_succ (i := i) (by omega)]
  rw [show V.bt s (i : Int) = btN s i from rfl]
  generalize btN s i = c
  unfold lcS
  cases decide (c < 97) <;> cases decide (c > 122) <;> cases decide (c < 48) <;> cases decide (c > 57) <;> cases (c != (45 : Int)) <;> rfl
def isLabel (s : ByteArray) : Bool := (decide (1 ≤ s.size) && decide (s.size ≤ 8)) && (allN (fun i => lcS (btN s i) || ((btN s i == (45 : Int)) && (decide (0 < i) && decide (i + 1 < s.size)))) s.size)
theorem lc45 : lcS 45 = false := by decide
theorem sIsLabel_v (s : ByteArray) (hs : s.size ≤ 1050000) : Z15 s = some (isLabel s) := by
 unfold Z15
 rw [sIsLabel_l s hs]
 refine bnd (l1In_v _ _ _) ?_
 by_cases hl : 1 ≤ s.size ∧ s.size ≤ 8
 ·have hw : IntKind.i64.wrap ((s.size : Int) - (1 : Int)) = ((s.size - 1 : Nat) : Int) := by rw [wd (by omega)]; omega
  refine cF (by rw [decide_eq_true (by omega), decide_eq_true (by omega)]; rfl) (cT rfl (cT (decide_eq_true (by omega)) ?_))
  rw [hw]
  rw [show V.bt s (0 : Int) = btN s 0 from rfl, show V.bt s ((s.size - 1 : Nat) : Int) = btN s (s.size - 1) from rfl]
  have key : (bif btN s 0 == (45 : Int) then false else bif btN s (s.size - 1) == (45 : Int) then false else (allN (fun i => lcS (btN s i) || !(btN s i != (45 : Int))) s.size && true)) = isLabel s := by
   unfold isLabel
   rw [decide_eq_true hl.1, decide_eq_true hl.2, Bool.and_self, Bool.true_and, Bool.and_true]
   refine bool_eq ?_
   rw [allN_iff]
   constructor
   ·intro h i hi
    cases h0 : (btN s 0 == (45 : Int)) with
    | true => rw [h0] at h; cases h
    | false =>
      rw [h0, cond_f] at h
      cases h1 : (btN s (s.size - 1) == (45 : Int)) with
      | true => rw [h1] at h; cases h
      | false =>
        rw [h1, cond_f, allN_iff] at h
        have := h i hi
        simp only [Bool.or_eq_true, Bool.and_eq_true, decide_eq_true_eq, Bool.not_eq_true', bne_eq_false_iff_eq] at this ⊢
        refine this.imp_right fun g => ⟨by rw [g]; rfl, ?_, ?_⟩
        ·refine Nat.pos_of_ne_zero fun e => ?_
         subst e
         rw [g] at h0; cases h0
        ·refine Nat.lt_of_not_le fun e => ?_
         have e2 : i = s.size - 1 := by omega
         subst e2
         rw [g] at h1; cases h1
   ·intro h
    have h0 : (btN s 0 == (45 : Int)) = false := by
     cases hc : (btN s 0 == (45 : Int)) with
     | false => rfl
     | true =>
       have e : btN s 0 = 45 := eq_of_beq hc
       have := h 0 (by omega)
       rw [e, lc45] at this
       simp at this
    have h1 : (btN s (s.size - 1) == (45 : Int)) = false := by
     cases hc : (btN s (s.size - 1) == (45 : Int)) with
     | false => rfl
     | true =>
       have e : btN s (s.size - 1) = 45 := eq_of_beq hc
       have := h (s.size - 1) (by omega)
       rw [e, lc45] at this
       simp only [Bool.false_or, Bool.and_eq_true, decide_eq_true_eq] at this
       omega
    rw [h0, h1, cond_f, cond_f, allN_iff]
    intro i hi
    have := h i hi
    simp only [Bool.or_eq_true, Bool.and_eq_true] at this
    rw [Bool.or_eq_true]
    refine this.imp_right fun g => ?_
    have e : btN s i = 45 := eq_of_beq g.1
    rw [e]; rfl
  rw [← key]
  cases (btN s 0 == (45 : Int)) with
  | true => rfl
  | false =>
    refine cF rfl (cT ge_t (cT (lt_t (by omega)) ?_))
    cases (btN s (s.size - 1) == (45 : Int)) <;> rfl
 ·have e : isLabel s = false := by
   unfold isLabel
   have : (decide (1 ≤ s.size) && decide (s.size ≤ 8)) = false := by
    rw [← Bool.decide_and]
    exact decide_eq_false hl
   rw [this, Bool.false_and]
  rw [e]
  refine cT ?_ rfl
  by_cases h1 : 1 ≤ s.size
  ·rw [decide_eq_true (show (1 : Int) ≤ (s.size : Int) by omega), decide_eq_false (show ¬ (s.size : Int) ≤ 8 by omega)]; rfl
  ·rw [decide_eq_false (show ¬ (1 : Int) ≤ (s.size : Int) by omega)]; rfl
theorem entry_label (e : TEntry) {n : Nat} (hx : sizeEntry e ≤ n) : e.1.size ≤ n := by
 unfold sizeEntry sizeStr at hx; omega
theorem entry_paths (e : TEntry) {n : Nat} (hx : sizeEntry e ≤ n) : sizeStringS e.2.2.2 ≤ n := by
 unfold sizeEntry at hx; omega
theorem str_at {xs : List ByteArray} {i : Nat} (h : i < xs.length) {n : Nat} (hx : sizeStringS xs ≤ n) : xs[i].size ≤ n := by
 have := size_at sizeStr h
 unfold sizeStringS sizeS at hx
 unfold sizeStr at this hx
 omega
theorem all_not {α : Type} (xs : List α) (p : α → Bool) : (!(xs.any fun x => !p x)) = xs.all p := by
 induction xs with
 | nil => rfl
 | cons x t ih => rw [List.any_cons, List.all_cons, Bool.not_or, ih, Bool.not_not]
def isPath (p : List ByteArray) : Bool := (decide ((1 : Int) ≤ (p.length : Int)) && decide ((p.length : Int) ≤ 4)) && p.all isLabel
theorem allGet {α : Type} (xs : List α) (p : α → Bool) (q : Nat → Bool) (h : ∀ i (hi : i < xs.length), q i = p xs[i]) : allN q xs.length = xs.all p := by
 refine bool_eq ?_
 rw [allN_iff, List.all_eq_true]
 constructor
 ·intro g x hx
  obtain ⟨i, hi, rfl⟩ := List.getElem_of_mem hx
  rw [← h i hi]
  exact g i hi
 ·intro g i hi
  rw [h i hi]
  exact g _ (List.getElem_mem _)
theorem sIsPath_v (p : List ByteArray) (hp : sizeStringS p ≤ 1050000) : Z49 p = some (isPath p) := by
 have hl : p.length ≤ 1050000 := by unfold sizeStringS sizeS at hp; omega
 refine (allL (len := p.length) (by omega) (fun i => isLabel (p.getD i (⟨#[]⟩ : ByteArray))) (decide ((1 : Int) ≤ (p.length : Int)) && decide ((p.length : Int) ≤ 4)) (Z49.l4 p) (fun n => ?_) (fun n i hi => ?_)).trans ?_
 ·rw [Z49.u4]
  simp only [Z49.g4, lt_f (Nat.le_refl _), cond_f]
  exact bnd (l1In_v _ _ _) rfl
 ·rw [Z49.u4]
  simp only [Z49.g4, lt_t hi, ge_t, cond_t, w64_succ (i := i) (by omega), Int.toNat_natCast, at_n hi]
  rw [sIsLabel_v _ (str_at hi hp), bind_s]
  cases isLabel p[i] <;> rfl
 ·unfold isPath
  rw [allGet p isLabel _ (fun i hi => by rw [at_n hi]), Bool.and_comm]
def inR2 (a b c : Int) : Bool := decide (b ≤ a) && decide (a ≤ c)
def isEntry (e : TEntry) : Bool := isLabel e.1 && (bif e.2.1 == (1 : Int) then inR2 e.2.2.1 0 999999 && ((e.2.2.2.length : Int) == (0 : Int)) else bif e.2.1 == (2 : Int) then inR2 e.2.2.1 0 2147483646 && ((e.2.2.2.length : Int) == (0 : Int)) else bif e.2.1 == (3 : Int) then inR2 e.2.2.1 0 2147483646 && isPath e.2.2.2 else false)
theorem sIsEntry_v (e : TEntry) (hx : sizeEntry e ≤ 1050000) : Z147 e = some (isEntry e) := by
 have h1 := sIsLabel_v e.1 (entry_label e hx)
 have h2 := sIsPath_v e.2.2.2 (entry_paths e hx)
 unfold Z147 isEntry
 cases e.2.1 == (1 : Int) with
 | true =>
   refine cT rfl (bnd h1 ?_)
   cases isLabel e.1 with
   | false => rfl
   | true =>
     refine cT rfl (bnd (l1In_v _ _ _) ?_)
     show _ = some (true && (inR2 e.2.2.1 0 999999 && _))
     unfold inR2
     cases (decide (0 ≤ e.2.2.1) && decide (e.2.2.1 ≤ 999999)) <;> rfl
 | false =>
   refine cF rfl ?_
   cases e.2.1 == (2 : Int) with
   | true =>
     refine cT rfl (bnd h1 ?_)
     cases isLabel e.1 with
     | false => rfl
     | true =>
       refine cT rfl (bnd (l1In_v _ _ _) ?_)
       show _ = some (true && (inR2 e.2.2.1 0 2147483646 && _))
       unfold inR2
       cases (decide (0 ≤ e.2.2.1) && decide (e.2.2.1 ≤ 2147483646)) <;> rfl
   | false =>
     refine cF rfl ?_
     cases e.2.1 == (3 : Int) with
     | true =>
       refine cT rfl (bnd h1 ?_)
       cases isLabel e.1 with
       | false => rfl
       | true =>
         refine cT rfl (bnd (l1In_v _ _ _) ?_)
         show _ = some (true && (inR2 e.2.2.1 0 2147483646 && _))
         unfold inR2
         cases (decide (0 ≤ e.2.2.1) && decide (e.2.2.1 ≤ 2147483646)) with
         | false => rfl
         | true => exact cT rfl (bnd h2 (by rw [Bool.true_and, Bool.true_and]))
     | false => exact cF rfl (by rw [cond_f, cond_f, cond_f, Bool.and_false])
theorem isDigest_v (a : Int) : Z102 a = some (inR2 a 0 2147483646) := bnd (InRange_v _ _ _) rfl
theorem sCompare_v (a b : ByteArray) : Z116 a b = some (cmpS a b) := by
 unfold Z116 cmpS
 rw [cmp_less, ByteArray.toList_eq, ByteArray.toList_eq]
 cases Op.bytesLess a.data.toList b.data.toList with
 | true => rfl
 | false => cases a.data.toList == b.data.toList <;> rfl
def areEntries (xs : List TEntry) : Bool := allN (fun i => isEntry (xs.getD i dEntry) && (decide (i = 0) || cmpS (xs.getD (i - 1) dEntry).1 (xs.getD i dEntry).1 == -1)) xs.length && decide ((xs.length : Int) ≤ (12 : Int))
theorem sAreEntries_v (xs : List TEntry) (hx : sizeEntryS xs ≤ 1050000) : Z27 xs = some (areEntries xs) := by
 have hl : xs.length ≤ 1050000 := by unfold sizeEntryS sizeS at hx; omega
 refine allL (len := xs.length) (by omega) _ _ (Z27.l4 xs) (fun n => ?_) (fun n i hi => ?_)
 ·rw [Z27.u4]
  simp only [Z27.g4, lt_f (Nat.le_refl _), cond_f]
 ·rw [Z27.u4]
  simp only [Z27.g4, lt_t hi, ge_t, cond_t, w64_succ (i := i) (by omega), Int.toNat_natCast, at_n hi]
  rw [sIsEntry_v _ (entry_at hi hx), bind_s]
  cases isEntry xs[i] with
  | false => rfl
  | true =>
    by_cases h0 : i = 0
    ·subst h0; rfl
    ·have ew : IntKind.i64.wrap ((i : Int) - 1) = ((i - 1 : Nat) : Int) := by rw [w64 (by omega) (by omega)]; omega
     rw [decide_eq_true (show (i : Int) > 0 by omega), decide_eq_false h0, ew]
     refine cF rfl (cT rfl (cT ge_t (cT (lt_t (by omega)) (bnd (sCompare_v _ _) ?_))))
     rw [Int.toNat_natCast, Bool.true_and, Bool.false_or]
     show _ = bif (cmpS (xs.getD (i - 1) dEntry).1 xs[i].1 == -1) then _ else _
     show (bif !(cmpS (xs.getD (i - 1) dEntry).1 xs[i].1 == -1) then _ else _) = _
     cases (cmpS (xs.getD (i - 1) dEntry).1 xs[i].1 == -1) <;> rfl
theorem mapL {α β : Type} (xs : List α) (d : α) (f : α → Option β) (g : α → β) (pre : List β) (hl : xs.length ≤ 1050000) (hp : pre.length ≤ 1050000) (hf : ∀ i (h : i < xs.length), f xs[i] = some (g xs[i])) (l : Nat → List β → Int → Option (List β)) (u : ∀ n ys a, l (n + 1) ys a = (bif decide (a < (xs.length : Int)) then bif decide (0 ≤ a) then bif decide (a < (xs.length : Int)) then (f (xs.getD a.toNat d)).bind fun y1 => bif decide (ys.length + [y1].length < 68719476736) then l n (ys ++ [y1]) (IntKind.i64.wrap (a + (1 : Int))) else none else none else none else some ys)) : l KK pre (0 : Int) = some (pre ++ xs.map g) := by
 have hh : ∀ i n, i ≤ xs.length → xs.length - i < n → l n (pre ++ (xs.take i).map g) (i : Int) = some (pre ++ xs.map g) := by
  refine idx_ind ?_ ?_
  ·intro n
   rw [u]
   simp only [lt_f (Nat.le_refl _), cond_f, List.take_length]
  ·intro i n hi ih
   rw [u]
   have hg : (pre ++ (xs.take i).map g).length + [g xs[i]].length < 68719476736 := by rw [List.length_append, List.length_map, List.length_take]; show _ + 1 < _; omega
   simp only [lt_t hi, ge_t, cond_t, Int.toNat_natCast, at_n hi, hf i hi, bind_s, w64_succ (i := i) (by omega)]
   rw [decide_eq_true hg, cond_t]
   have e : pre ++ (xs.take i).map g ++ [g xs[i]] = pre ++ (xs.take (i + 1)).map g := by
    rw [List.append_assoc, ← List.take_append_getElem hi, List.map_append]; rfl
   rw [e]
   exact ih
 have := hh 0 KK (Nat.zero_le _) (KK_gt (by omega))
 rw [List.take_zero, List.map_nil, List.append_nil] at this
 exact this
theorem catL {α β : Type} (xs : List α) (d : α) (f : α → Option (List β)) (g : α → List β) (pre : List β) (B : Nat) (hB : pre.length + (xs.flatMap g).length ≤ B) (hB2 : B ≤ 1073741824) (hl : xs.length ≤ 1050000) (hf : ∀ i (h : i < xs.length), f xs[i] = some (g xs[i])) (l : Nat → List β → Int → Option (List β)) (u : ∀ n ys a, l (n + 1) ys a = (bif decide (a < (xs.length : Int)) then bif decide (0 ≤ a) then bif decide (a < (xs.length : Int)) then (f (xs.getD a.toNat d)).bind fun y1 => bif decide (ys.length + y1.length < 68719476736) then l n (ys ++ y1) (IntKind.i64.wrap (a + (1 : Int))) else none else none else none else some ys)) : l KK pre (0 : Int) = some (pre ++ xs.flatMap g) := by
 have hh : ∀ i n, i ≤ xs.length → xs.length - i < n → l n (pre ++ (xs.take i).flatMap g) (i : Int) = some (pre ++ xs.flatMap g) := by
  refine idx_ind ?_ ?_
  ·intro n
   rw [u]
   simp only [lt_f (Nat.le_refl _), cond_f, List.take_length]
  ·intro i n hi ih
   rw [u]
   have e : pre ++ (xs.take i).flatMap g ++ g xs[i] = pre ++ (xs.take (i + 1)).flatMap g := by
    rw [List.append_assoc, ← List.take_append_getElem hi, List.flatMap_append, List.flatMap_singleton]
   have hle : (pre ++ (xs.take (i + 1)).flatMap g).length ≤ B := by
    have : (xs.flatMap g).length = ((xs.take (i + 1)).flatMap g).length + ((xs.drop (i + 1)).flatMap g).length := by
     rw [← List.length_append, ← List.flatMap_append, List.take_append_drop]
    rw [List.length_append]; omega
   have hg : (pre ++ (xs.take i).flatMap g).length + (g xs[i]).length < 68719476736 := by
    rw [← List.length_append, e]; omega
   simp only [lt_t hi, ge_t, cond_t, Int.toNat_natCast, at_n hi, hf i hi, bind_s, w64_succ (i := i) (by omega)]
   rw [decide_eq_true hg, cond_t, e]
   exact ih
 have := hh 0 KK (Nat.zero_le _) (KK_gt (by omega))
 rw [List.take_zero, List.flatMap_nil, List.append_nil] at this
 exact this
theorem bytesOf_ln (s : ByteArray) : (V.bytesOf s).length = s.size := by
 unfold V.bytesOf
 rw [List.length_map, Array.length_toList]; rfl
noncomputable def bti (xs : List Int) : List Int := (xs.length : Int) :: xs.map IntKind.i64.wrap
theorem bti_len (xs : List Int) : (bti xs).length = xs.length + 1 := by unfold bti; rw [List.length_cons, List.length_map]
theorem sBti_v (xs : List Int) (hx : xs.length ≤ 1050000) : Z59 xs = some (bti xs) :=
 mapL xs 0 (fun a => some (IntKind.i64.wrap a)) IntKind.i64.wrap [(xs.length : Int)] hx (by simp) (fun i h => rfl) (fun n ys a => Z59.l6 xs n a ys) (fun n ys a => Z59.u6 xs n a ys)
theorem smallS_t {s : ByteArray} (hs : s.size ≤ 1050000) : V.smallS s = true := by
 rw [V.smallS_eq]
 exact decide_eq_true (by show (s.size : Int) < 68719476736; omega)
noncomputable def lints (s : ByteArray) : List Int := bti (V.bytesOf s)
theorem lints_len (s : ByteArray) : (lints s).length = s.size + 1 := by unfold lints; rw [bti_len, bytesOf_ln]
theorem sLints_v (s : ByteArray) (hs : s.size ≤ 1050000) : Z125 s = some (lints s) := by
 unfold Z125
 exact cT (smallS_t hs) (bnd (sBti_v _ (by rw [bytesOf_ln]; exact hs)) rfl)
noncomputable def eints (e : TEntry) : List Int := (lints e.1 ++ [e.2.1, e.2.2.1, (e.2.2.2.length : Int)]) ++ e.2.2.2.flatMap lints
theorem flat_len (p : List ByteArray) : (p.flatMap lints).length = sizeStringS p := by
 unfold sizeStringS sizeS
 induction p with
 | nil => rfl
 | cons x t ih =>
   rw [List.flatMap_cons, List.length_append, ih, lints_len, List.length_cons, List.map_cons, List.sum_cons]
   unfold sizeStr
   omega
theorem eints_len (e : TEntry) : (eints e).length = sizeEntry e + 4 := by
 unfold eints sizeEntry sizeStr
 rw [List.length_append, List.length_append, lints_len, flat_len]
 show e.1.size + 1 + 3 + _ = _
 omega
theorem eL (e : TEntry) (hx : sizeEntry e ≤ 1050000) (f : ByteArray → Option (List Int)) (hf : ∀ s, s.size ≤ 1050000 → f s = some (lints s)) (l : Nat → List Int → Int → Option (List Int)) (u : ∀ n ys a, l (n + 1) ys a = (bif decide (a < (e.2.2.2.length : Int)) then bif decide (0 ≤ a) then bif decide (a < (e.2.2.2.length : Int)) then (f (e.2.2.2.getD a.toNat (⟨#[]⟩ : ByteArray))).bind fun y1 => bif decide (ys.length + y1.length < 68719476736) then l n (ys ++ y1) (IntKind.i64.wrap (a + (1 : Int))) else none else none else none else some ys)) : ((f e.1).bind fun y1 => bif decide (y1.length + [e.2.1, e.2.2.1, (e.2.2.2.length : Int)].length < 68719476736) then l KK (y1 ++ [e.2.1, e.2.2.1, (e.2.2.2.length : Int)]) (0 : Int) else none) = some (eints e) := by
 have h1 := entry_label e hx
 have h2 := entry_paths e hx
 refine bnd (hf _ h1) (cT (decide_eq_true (by rw [lints_len]; show _ + 3 < _; omega)) ?_)
 exact catL e.2.2.2 (⟨#[]⟩ : ByteArray) f lints _ 2200000 (by rw [List.length_append, lints_len, flat_len]; show _ + 3 + _ ≤ _; omega) (by omega) (by unfold sizeStringS sizeS at h2; omega) (fun i h => hf _ (str_at h h2)) l u
theorem sEints_v (e : TEntry) (hx : sizeEntry e ≤ 1050000) : Z60 e = some (eints e) :=
 eL e hx Z125 sLints_v (fun n ys a => Z60.l6 e n a ys) (fun n ys a => Z60.u6 e n a ys)
def hs (xs : List Int) : Int := xs.foldl hstep 11
noncomputable def leafOf (e : TEntry) : Int := hs (227 :: eints e)
theorem sLeaf_v (e : TEntry) (hx : sizeEntry e ≤ 1050000) : Z130 e = some (leafOf e) := by
 unfold Z130
 have hl := eints_len e
 exact bnd (sEints_v e hx) (cT (decide_eq_true (by show 1 + _ < _; omega)) (bnd (sHash_v _ (show ([(227 : Int)] ++ eints e).length ≤ _ by rw [List.length_append]; show 1 + _ ≤ _; omega)) rfl))
noncomputable def leaves (xs : List TEntry) : List Int := xs.map leafOf
theorem leaves_len (xs : List TEntry) : (leaves xs).length = xs.length := List.length_map ..
theorem sLeaves_v (xs : List TEntry) (hx : sizeEntryS xs ≤ 1050000) : Z61 xs = some (leaves xs) :=
 mapL xs dEntry Z130 leafOf [] (by unfold sizeEntryS sizeS at hx; omega) (by simp) (fun i h => sLeaf_v _ (entry_at h hx)) (fun n ys a => Z61.l6 xs n a ys) (fun n ys a => Z61.u6 xs n a ys)
def node (a b : Int) : Int := hs [229, a, b]
theorem sNode_v (a b : Int) : Z152 a b = some (node a b) := bnd (sHash_v _ (by show 3 ≤ _; omega)) rfl
def up : List Int → List Int
 | a :: b :: t => node a b :: up t
 | [a] => [a]
 | [] => []
theorem up_len : ∀ xs : List Int, (up xs).length = (xs.length + 1) / 2
 | [] => by rw [up]; rfl
 | [a] => by simp [up]
 | a :: b :: t => by
   show (up t).length + 1 = (t.length + 1 + 1 + 1) / 2
   rw [up_len t]; omega
theorem upL (f : Int → Int → Option Int) (hf : ∀ a b, f a b = some (node a b)) (xs : List Int) (hx : xs.length ≤ 1050000) (l : Nat → Int → List Int → Option (List Int)) (u : ∀ n a ys, l (n + 1) a ys = (bif decide (a < (xs.length : Int)) then bif decide ((IntKind.i64.wrap (a + (1 : Int))) < (xs.length : Int)) then bif decide (0 ≤ a) then bif decide (a < (xs.length : Int)) then bif decide (0 ≤ (IntKind.i64.wrap (a + (1 : Int)))) then bif decide ((IntKind.i64.wrap (a + (1 : Int))) < (xs.length : Int)) then (f (xs.getD a.toNat (0 : Int)) (xs.getD ((IntKind.i64.wrap (a + (1 : Int))).toNat) (0 : Int))).bind fun y1 => bif decide (ys.length + [y1].length < 68719476736) then l n (IntKind.i64.wrap (a + (2 : Int))) (ys ++ [y1]) else none else none else none else none else none else bif decide (0 ≤ a) then bif decide (a < (xs.length : Int)) then bif decide (ys.length + [xs.getD a.toNat (0 : Int)].length < 68719476736) then l n (IntKind.i64.wrap (a + (2 : Int))) (ys ++ [xs.getD a.toNat (0 : Int)]) else none else none else none else some ys)) : l KK (0 : Int) [] = some (up xs) := by
 have hh : ∀ (suf : List Int) (i n : Nat) (ys : List Int), suf = xs.drop i → suf.length < n → ys.length ≤ i → i ≤ xs.length + 1 → l n (i : Int) ys = some (ys ++ up suf) := by
  intro suf
  induction suf using up.induct with
  | case1 a b t ih =>
    intro i n ys hs hn hy hi0
    have hlen : (xs.drop i).length = t.length + 2 := by rw [← hs]; rfl
    rw [List.length_drop] at hlen
    have hi : i < xs.length := by omega
    have hi' : i + 1 < xs.length := by omega
    have e1 := List.drop_eq_getElem_cons hi
    have e2 := List.drop_eq_getElem_cons hi'
    rw [e1, e2] at hs
    injection hs with ha hs
    injection hs with hb ht
    cases n with
    | zero => simp at hn
    | succ n =>
      have ew : IntKind.i64.wrap ((i : Int) + 2) = ((i + 2 : Nat) : Int) := by rw [w64 (by omega) (by omega)]; omega
      have hg : ys.length + [node xs[i] xs[i + 1]].length < 68719476736 := by show _ + 1 < _; omega
      rw [u]
      simp only [w64_succ (i := i) (by omega), lt_t hi, lt_t hi', ge_t, cond_t, Int.toNat_natCast, at_n hi, at_n hi', hf, bind_s, ew]
      rw [decide_eq_true hg, cond_t]
      rw [ih (i + 2) n _ ht (by simp at hn; omega) (by rw [List.length_append]; show _ + 1 ≤ _; omega) (by omega)]
      rw [List.append_assoc, ha, hb]; rfl
  | case2 a =>
    intro i n ys hs hn hy hi0
    have hlen : (xs.drop i).length = 1 := by rw [← hs]; rfl
    rw [List.length_drop] at hlen
    have hi : i < xs.length := by omega
    have e1 := List.drop_eq_getElem_cons hi
    rw [e1] at hs
    injection hs with ha hs
    match n, hn with
    | n + 2, _ =>
      have ew : IntKind.i64.wrap ((i : Int) + 2) = ((i + 2 : Nat) : Int) := by rw [w64 (by omega) (by omega)]; omega
      have hg : ys.length + [xs[i]].length < 68719476736 := by show _ + 1 < _; omega
      rw [u]
      simp only [w64_succ (i := i) (by omega), lt_t hi, lt_f (show xs.length ≤ i + 1 by omega), ge_t, cond_t, cond_f, Int.toNat_natCast, at_n hi, ew]
      rw [decide_eq_true hg, cond_t, u]
      simp only [lt_f (show xs.length ≤ i + 2 by omega), cond_f]
      rw [ha]; rfl
  | case3 =>
    intro i n ys hs hn hy hi0
    have hlen : (xs.drop i).length = 0 := by rw [← hs]; rfl
    rw [List.length_drop] at hlen
    cases n with
    | zero => simp at hn
    | succ n =>
      rw [u]
      simp only [lt_f (show xs.length ≤ i by omega), cond_f]
      rw [up, List.append_nil]
 have := hh xs 0 KK [] (by rw [List.drop_zero]) (KK_gt (by omega)) (Nat.le_refl _) (Nat.zero_le _)
 exact this
theorem sUp_v (xs : List Int) (hx : xs.length ≤ 1050000) : Z57 xs = some (up xs) := upL Z152 sNode_v xs hx (Z57.l6 xs) (fun n a ys => Z57.u6 xs n a ys)
def topF : Nat → List Int → Int
 | 0, _ => 0
 | n + 1, xs => bif decide ((xs.length : Int) > (1 : Int)) then topF n (up xs) else xs.getD 0 0
noncomputable def topOf (xs : List Int) : Int := bif (xs.length : Int) == (0 : Int) then hs [229] else topF KK xs
theorem topL (f : List Int → Option (List Int)) (hf : ∀ xs : List Int, xs.length ≤ 1050000 → f xs = some (up xs)) (l : Nat → List Int → Option Int) (u : ∀ n xs, l (n + 1) xs = (bif decide ((xs.length : Int) > (1 : Int)) then (f xs).bind fun y2 => l n y2 else bif decide (0 ≤ (0 : Int)) then bif decide ((0 : Int) < (xs.length : Int)) then some (xs.getD ((0 : Int).toNat) (0 : Int)) else none else none)) : ∀ (n : Nat) (xs : List Int), 0 < xs.length → xs.length < n → xs.length ≤ 1050000 → l n xs = some (topF n xs) := by
 intro n
 induction n with
 | zero => intro xs h0 h1; omega
 | succ n ih =>
   intro xs h0 h1 h2
   rw [u]
   show _ = some (bif decide ((xs.length : Int) > (1 : Int)) then topF n (up xs) else xs.getD 0 0)
   by_cases h : 1 < xs.length
   ·rw [decide_eq_true (show (xs.length : Int) > 1 by omega), cond_t, cond_t, hf xs h2, bind_s]
    have := up_len xs
    exact ih _ (by omega) (by omega) (by omega)
   ·rw [decide_eq_false (show ¬ (xs.length : Int) > 1 by omega), cond_f, cond_f]
    exact cT rfl (cT (decide_eq_true (by omega)) rfl)
theorem sTop_v (xs : List Int) (hx : xs.length ≤ 1050000) : Z56 xs = some (topOf xs) := by
 unfold Z56 topOf
 cases h : ((xs.length : Int) == (0 : Int)) with
 | true => exact cT h (bnd (sHash_v _ (by show 1 ≤ _; omega)) rfl)
 | false =>
   have h0 : (xs.length : Int) ≠ 0 := by simpa using h
   exact cF h (topL Z57 sUp_v Z56.l8 (fun n xs => Z56.u8 n xs) KK xs (by omega) (KK_gt (by omega)) hx)
noncomputable def rootF (n t : Int) : Int := hs [231, n, t]
noncomputable def rootOf (xs : List TEntry) : Int := rootF (xs.length : Int) (topOf (leaves xs))
theorem sRootF_v (n t : Int) : Z158 n t = some (rootF n t) := bnd (sHash_v _ (by show 3 ≤ _; omega)) rfl
theorem sRoot_v (xs : List TEntry) (hx : sizeEntryS xs ≤ 1050000) : Z118 xs = some (rootOf xs) := by
 unfold Z118
 have hl : xs.length ≤ 1050000 := by unfold sizeEntryS sizeS at hx; omega
 exact bnd (sLeaves_v xs hx) (bnd (sTop_v _ (by rw [leaves_len]; exact hl)) (bnd (sRootF_v _ _) rfl))
theorem l9Copy_v (xs : List TEntry) (hx : sizeEntryS xs ≤ 1050000) : Z62 xs = some xs :=
 copyL xs dEntry Z107 (by unfold sizeEntryS sizeS at hx; omega) (fun i h => l8Copy_v _ (entry_at h hx)) (fun n ys a => Z62.l6 xs n a ys) (fun n ys a => Z62.u6 xs n a ys)
noncomputable def fhead (k : TKeys) (s : Int) (xs : List TEntry) (now u : Int) : THead := Head_mk (zoneOf k s) 0 1 now u (xs.length : Int) (rootOf xs) s k dKeys 0 dKeys false
theorem fhead_size (k : TKeys) (s : Int) (xs : List TEntry) (now u : Int) : sizeHead (fhead k s xs now u) = k.1.length := by
 show k.1.length + (([] : List Int).length + ([] : List Int).length) = _
 rfl
noncomputable def firstG (k : TKeys) (s : Int) (xs : List TEntry) (now term : Int) : Bool := areEntries xs && ((inR now 0 100000 && inR term 0 200) && isHeadB (fhead k s xs now (IntKind.i64.wrap (now + term))))
noncomputable def firstHead (k : TKeys) (s : Int) (xs : List TEntry) (now term : Int) : TRHeadBool := bif firstG k s xs now term then RHeadBool_mk (fhead k s xs now (IntKind.i64.wrap (now + term))) true else dRHeadBool
theorem sFirst5_v (k : TKeys) (s : Int) (xs : List TEntry) (now term : Int) (v : Bool) (hk : k.1.length ≤ 1050000) (hx : sizeEntryS xs ≤ 1050000) : Z55.l5 k s xs now term v = some (bif !v && isHeadB (fhead k s xs now (IntKind.i64.wrap (now + term))) then RHeadBool_mk (fhead k s xs now (IntKind.i64.wrap (now + term))) true else dRHeadBool) := by
 cases v with
 | true => rfl
 | false =>
   refine bnd (sZoneOf_v k s hk) (bnd (sRoot_v xs hx) (bnd (l6Copy_v k hk) (bnd (sIsHead_v (fhead k s xs now (IntKind.i64.wrap (now + term))) (by rw [fhead_size]; exact hk)) ?_)))
   cases isHeadB (fhead k s xs now (IntKind.i64.wrap (now + term))) <;> rfl
theorem sFirstHead_v (k : TKeys) (s : Int) (xs : List TEntry) (now term : Int) (hk : k.1.length ≤ 1050000) (hx : sizeEntryS xs ≤ 1050000) : Z55 k s xs now term = some (firstHead k s xs now term) := by
 unfold Z55 firstHead firstG
 refine bnd (sAreEntries_v xs hx) ?_
 cases areEntries xs with
 | false => exact sFirst5_v k s xs now term true hk hx
 | true =>
   refine cF rfl (bnd (l1In_r _ _ _) ?_)
   cases inR now 0 100000 with
   | false => exact sFirst5_v k s xs now term true hk hx
   | true =>
     refine cF rfl (bnd (l1In_r _ _ _) ?_)
     rw [sFirst5_v k s xs now term _ hk hx]
     cases inR term 0 200 <;> rfl
def ofMk (a b : Int) (m : TMark) : Bool := m.1 == a && m.2.1 == b
theorem l19Find_v (w : TWitness) (a b : Int) (hx : w.2.length ≤ 1050000) : Z33 w a b = some (fnd (ofMk a b) w.2 0) := by
 have hh : ∀ i n, i ≤ w.2.length → w.2.length - i < n → Z33.l4 w a b n (i : Int) = some (fnd (ofMk a b) (w.2.drop i) (i : Int)) := by
  refine idx_ind ?_ ?_
  ·intro n
   rw [Z33.u4]
   simp only [Z33.g4, lt_f (Nat.le_refl _), cond_f, fnd_last]
  ·intro i n hi ih
   rw [Z33.u4]
   simp only [Z33.g4, lt_t hi, ge_t, cond_t, w64_succ (i := i) (by omega), Int.toNat_natCast, at_n hi, fnd_step _ hi, ih]
   unfold ofMk
   cases (w.2[i].1 == a) <;> cases (w.2[i].2.1 == b) <;> rfl
 have := hh 0 KK (Nat.zero_le _) (KK_gt (by omega))
 rw [List.drop_zero] at this
 exact this
theorem hasMk_v (xs : List TMark) (m : TMark) (hx : xs.length ≤ 1050000) : Z115 xs (m, ()) = some (xs.any (ofMk m.1 m.2.1)) := by
 unfold Z115
 refine cntF xs _ ?_
 refine idxF xs dMark (fun x => Z111 m x) (ofMk m.1 m.2.1) hx (fun i h => ?_) (Z64.l4 xs (m, ())) (fun n L a => Z64.u4 xs (m, ()) n L a)
 unfold Z111 ofMk
 rw [Bool.beq_comm (a := xs[i].1), Bool.beq_comm (a := xs[i].2.1)]
 cases (m.1 == xs[i].1) <;> rfl
def okMk (xs : List TMark) (i : Nat) (m : TMark) : Bool := inR2 m.1 0 2147483646 && (inR2 m.2.2 0 2147483646 && (inR2 m.2.1 0 200 && !(xs.take i).any (ofMk m.1 m.2.1)))
def isWit (w : TWitness) : Bool := allN (fun i => okMk w.2 i (w.2.getD i dMark)) w.2.length && (inR2 w.1 1 99 && decide ((w.2.length : Int) ≤ (40 : Int)))
theorem l1In_2 (a b c : Int) : Z29 a b c = some (inR2 a b c) := l1In_v a b c
theorem InRange_2 (a b c : Int) : Z74 a b c = some (inR2 a b c) := InRange_v a b c
theorem sIsWit_v (w : TWitness) (hx : w.2.length ≤ 1050000) : Z50 w = some (isWit w) := by
 refine allL (len := w.2.length) (by omega) (fun i => okMk w.2 i (w.2.getD i dMark)) _ (Z50.l4 w) (fun n => ?_) (fun n i hi => ?_)
 ·rw [Z50.u4]
  simp only [Z50.g4, lt_f (Nat.le_refl _), cond_f, l1In_2, bind_s]
  cases inR2 w.1 1 99 <;> rfl
 ·have hp : ofMk w.2[i].1 w.2[i].2.1 w.2[i] = true := by unfold ofMk; simp
  have hf := fnd_at (ofMk w.2[i].1 w.2[i].2.1) w.2 0 i hi hp
  rw [Int.zero_add] at hf
  rw [Z50.u4]
  simp only [Z50.g4, lt_t hi, ge_t, cond_t, l1In_2, bind_s, w64_succ (i := i) (by omega), Int.toNat_natCast, at_n hi, l19Find_v _ _ _ hx, hf]
  unfold okMk
  cases inR2 w.2[i].1 0 2147483646 <;> cases inR2 w.2[i].2.2 0 2147483646 <;> cases inR2 w.2[i].2.1 0 200 <;> cases ((w.2.take i).any (ofMk w.2[i].1 w.2[i].2.1)) <;> rfl
theorem iIsWit_v (w : TWitness) (hx : w.2.length ≤ 1050000) : Z31 w = some (isWit w) := by
 refine allL (len := w.2.length) (by omega) (fun i => okMk w.2 i (w.2.getD i dMark)) _ (fun n v => Z31.l4 w n (w.2.length : Int) v) (fun n => ?_) (fun n i hi => ?_)
 ·rw [Z31.u4]
  simp only [Z31.g4, lt_f (Nat.le_refl _), cond_f]
  unfold Z99
  simp only [InRange_2, bind_s]
  cases inR2 w.1 1 99 <;> rfl
 ·have ht : (w.2.take i).length ≤ 1050000 := by simp; omega
  have hle : decide ((i : Int) ≤ (w.2.length : Int)) = true := decide_eq_true (by omega)
  rw [Z31.u4]
  simp only [Z31.g4, lt_t hi, ge_t, cond_t, isDigest_v, InRange_2, bind_s, w64_succ (i := i) (by omega), Int.toNat_natCast, at_n hi, hasMk_v _ _ ht, hle, decide_eq_true (Int.le_refl 0)]
  unfold okMk
  cases inR2 w.2[i].1 0 2147483646 <;> cases inR2 w.2[i].2.2 0 2147483646 <;> cases inR2 w.2[i].2.1 0 200 <;> cases ((w.2.take i).any (ofMk w.2[i].1 w.2[i].2.1)) <;> rfl
theorem isWit_len (w : TWitness) (h : isWit w = true) : w.2.length ≤ 40 := by
 unfold isWit at h
 simp only [Bool.and_eq_true, decide_eq_true_eq] at h
 omega
theorem sMints (h : THead) : Z3 (markOf h) = some [(241 : Int), Head_Zone h, Head_Epoch h, headDigest h] := by
 unfold Z3 markOf; generalize headDigest h = d; rfl
theorem iMints (h : THead) : Z98 (markOf h) = some [(241 : Int), Head_Zone h, Head_Epoch h, headDigest h] := by
 unfold Z98 markOf; generalize headDigest h = d; rfl
theorem isWit_ep (w : TWitness) (h : isWit w = true) : ∀ i (hi : i < w.2.length), 0 ≤ w.2[i].2.1 ∧ w.2[i].2.1 ≤ 200 := by
 intro i hi
 unfold isWit at h
 rw [Bool.and_eq_true, allN_iff] at h
 have := h.1 i hi
 rw [at_n hi] at this
 unfold okMk inR2 at this
 simp only [Bool.and_eq_true, decide_eq_true_eq] at this
 exact this.2.2.1
theorem may_next (p : THead) (s : TSigned) (h : mayFollow p s = true) : isHeadB p = true ∧ isHeadB (Signed_Head s) = true ∧ Head_Zone (Signed_Head s) = Head_Zone p ∧ Head_Epoch (Signed_Head s) = IntKind.i64.wrap ((Head_Epoch p) + (1 : Int)) := by
 unfold mayFollow nextCode at h
 cases h1 : (isHeadB p && isHeadB (Signed_Head s)) with
 | false => rw [h1] at h; cases h
 | true =>
   cases h2 : isNext p (Signed_Head s) with
   | false => rw [h1, h2] at h; cases h
   | true =>
     rw [Bool.and_eq_true] at h1
     unfold isNext at h2
     simp only [Bool.and_eq_true] at h2
     exact ⟨h1.1, h1.2, eq_of_beq h2.1, eq_of_beq h2.2.1⟩
theorem isHeadB_epoch (x : THead) (h : isHeadB x = true) : 0 ≤ Head_Epoch x ∧ Head_Epoch x ≤ 200 := by
 unfold isHeadB hr4 at h
 simp only [Bool.and_eq_true] at h
 have h1 := h.1.2.2.2.1
 unfold inR at h1
 simp only [Bool.and_eq_true, decide_eq_true_eq] at h1
 exact h1
theorem fw_facts (xs : List TSigned) : ∀ (p : THead) (k : Int), 0 ≤ k → fw (some p) xs k < 0 → ∀ i (hi : i < xs.length), Head_Epoch (Signed_Head xs[i]) = Head_Epoch p + 1 + i ∧ Head_Zone (Signed_Head xs[i]) = Head_Zone p := by
 induction xs with
 | nil => intro p k _ _ i hi; simp at hi
 | cons s t ih =>
   intro p k hk h i hi
   unfold fw at h
   cases hf : mayFollow p s with
   | false => rw [hf] at h; exact absurd h (by show ¬ k < 0; omega)
   | true =>
     rw [hf] at h
     have hm := may_next p s hf
     have hp := isHeadB_epoch p hm.1
     have he : Head_Epoch (Signed_Head s) = Head_Epoch p + 1 := by rw [hm.2.2.2, w64 (by omega) (by omega)]
     cases i with
     | zero => exact ⟨by show Head_Epoch (Signed_Head s) = _; rw [he]; simp, hm.2.2.1⟩
     | succ i =>
       have hi2 : i < t.length := by simpa using hi
       have := ih (Signed_Head s) (k + 1) (by omega) h i hi2
       refine ⟨?_, ?_⟩
       ·show Head_Epoch (Signed_Head t[i]) = _
        rw [this.1, he]; omega
       ·show Head_Zone (Signed_Head t[i]) = _
        rw [this.2, hm.2.2.1]
theorem chain_at0 (xs : List TSigned) (h : isChain xs = true) : ∀ i (hi : i < xs.length), Head_Epoch (Signed_Head xs[i]) = i ∧ Head_Zone (Signed_Head xs[i]) = Head_Zone (Signed_Head (xs.getD 0 dSigned)) := by
 unfold isChain at h
 rw [Bool.and_eq_true] at h
 have h := of_decide_eq_true h.2
 cases xs with
 | nil => intro i hi; simp at hi
 | cons s t =>
   unfold fw at h
   cases hf : isFirst s with
   | false => rw [hf] at h; exact absurd h (by show ¬ (0 : Int) < 0; omega)
   | true =>
     rw [hf] at h
     have e0 : Head_Epoch (Signed_Head s) = 0 := by
      unfold isFirst at hf
      simp only [Bool.and_eq_true] at hf
      exact eq_of_beq hf.2.1
     intro i hi
     cases i with
     | zero => exact ⟨e0, rfl⟩
     | succ i =>
       have hi2 : i < t.length := by simpa using hi
       have := fw_facts t (Signed_Head s) _ (by omega) h i hi2
       refine ⟨?_, this.2⟩
       show Head_Epoch (Signed_Head t[i]) = _
       rw [this.1, e0]; omega
theorem lastS_at (xs : List TSigned) (h : isChain xs = true) : ∃ hi : xs.length - 1 < xs.length, lastS xs = xs[xs.length - 1] := by
 have hl := isChain_len xs h
 refine ⟨by omega, ?_⟩
 unfold lastS
 rw [wl hl, show ((xs.length : Int) - 1).toNat = xs.length - 1 by omega, at_n (by omega)]
def badM (xs : List TSigned) (z e : Int) (m : TMark) : Bool := m.1 == z && (decide (m.2.1 > e) || m.2.2 != headDigest (Signed_Head (xs.getD m.2.1.toNat dSigned)))
theorem anyI {len : Nat} (hl : len ≤ 1152921504606846976) (p : Nat → Bool) (l : Nat → Int → Option Bool) (u0 : ∀ n, l (n + 1) (len : Int) = some false) (u : ∀ n i, i < len → l (n + 1) (i : Int) = bif p i then some true else l n ((i + 1 : Nat) : Int)) : l KK (0 : Int) = some (!allN (fun i => !p i) len) := by
 have h := allL hl (fun i => !p i) true (fun n a => (l n a).map (fun b => !b)) (fun n => by rw [u0]; rfl) (fun n i hi => by rw [u n i hi]; cases p i <;> rfl)
 rw [Bool.and_true] at h
 cases hk : l KK 0 with
 | none => rw [hk] at h; cases h
 | some b =>
   rw [hk] at h
   injection h with h
   rw [← h, Bool.not_not]
theorem anyGet {α : Type} (xs : List α) (p : α → Bool) (q : Nat → Bool) (h : ∀ i (hi : i < xs.length), q i = p xs[i]) : (!allN (fun i => !q i) xs.length) = xs.any p := by
 rw [allGet xs (fun x => !p x) (fun i => !q i) (fun i hi => by rw [h i hi])]
 rw [← all_not]
 rw [Bool.not_not]
 congr 1
 funext x
 rw [Bool.not_not]
noncomputable def against (w : TWitness) (xs : List TSigned) : Bool := w.2.any (badM xs (Head_Zone (Signed_Head (lastS xs))) (Head_Epoch (Signed_Head (lastS xs))))
theorem sAgainst_v (w : TWitness) (xs : List TSigned) (hw : w.2.length ≤ 1050000) (hx : sizeSignedS xs ≤ 1050000) (hc : isChain xs = true) (hi : isWit w = true) : Z46 w xs = some (against w xs) := by
 have hl := isChain_len xs hc
 obtain ⟨hlt, hle⟩ := lastS_at xs hc
 have he : Head_Epoch (Signed_Head (lastS xs)) = (xs.length : Int) - 1 := by
  rw [hle, (chain_at0 xs hc _ hlt).1]; omega
 unfold Z46 against
 refine cT (decide_eq_true (by rw [wl hl]; omega)) (cT (decide_eq_true (by rw [wl hl]; omega)) ?_)
 refine (anyI (len := w.2.length) (by omega) (fun i => badM xs (Head_Zone (Signed_Head (lastS xs))) (Head_Epoch (Signed_Head (lastS xs))) (w.2.getD i dMark)) (fun n a => Z46.l6 w xs n a (Head_Zone (Signed_Head (lastS xs))) (Head_Epoch (Signed_Head (lastS xs))) _ _ _ _ _ _ _ _ _ _ _ _ _ _) (fun n => ?_) (fun n i hi' => ?_)).trans (congrArg some (anyGet w.2 _ _ (fun i hi => by rw [at_n hi])))
 ·rw [Z46.u6]
  simp only [Z46.g6, lt_f (Nat.le_refl _), cond_f]
 ·have hep := isWit_ep w hi i hi'
  rw [Z46.u6]
  simp only [Z46.g6, lt_t hi', ge_t, cond_t, Int.toNat_natCast, at_n hi', w64_succ (i := i) (by omega)]
  unfold badM
  cases hz : (w.2[i].1 == Head_Zone (Signed_Head (lastS xs))) with
  | false => exact cT (congrArg (fun z => !z) hz) rfl
  | true =>
    refine cF (congrArg (fun z => !z) hz) ?_
    by_cases hg : w.2[i].2.1 > Head_Epoch (Signed_Head (lastS xs))
    ·rw [decide_eq_true hg]; rfl
    ·rw [decide_eq_false hg]
     refine cF rfl (cT (decide_eq_true hep.1) (cT (decide_eq_true (by omega)) (bnd (sHeadDigest_v _ (keys_getD xs _ _ hx)) ?_)))
     rw [Bool.false_or, Bool.true_and]
noncomputable def contr (xs : List TSigned) (m : TMark) : Bool := (m.1 == Head_Zone (Signed_Head (lastS xs)) && decide (m.2.1 > Head_Epoch (Signed_Head (lastS xs)))) || xs.any fun s => (Head_Zone (Signed_Head s) == m.1 && Head_Epoch (Signed_Head s) == m.2.1) && (headDigest (Signed_Head s) != m.2.2)
theorem contr1_v (s : TSigned) (m : TMark) (hs : sizeHead (Signed_Head s) ≤ 1050000) : Z84 s m = some ((Head_Zone (Signed_Head s) == m.1 && Head_Epoch (Signed_Head s) == m.2.1) && (headDigest (Signed_Head s) != m.2.2)) := by
 unfold Z84
 rw [iMarkOf_v _ hs, bind_s]
 unfold Z111 markOf
 dsimp only
 generalize headDigest (Signed_Head s) = hd
 cases (Head_Zone (Signed_Head s) == m.1) with
 | false => rfl
 | true =>
   cases (Head_Epoch (Signed_Head s) == m.2.1) with
   | false => rfl
   | true =>
     rw [Bool.and_self, Bool.true_and]; rfl
theorem anyContr_v (xs : List TSigned) (m : TMark) (hx : sizeSignedS xs ≤ 1050000) : Z129 xs ((), m) = some (xs.any fun s => (Head_Zone (Signed_Head s) == m.1 && Head_Epoch (Signed_Head s) == m.2.1) && (headDigest (Signed_Head s) != m.2.2)) := by
 unfold Z129
 refine cntF xs _ ?_
 refine idxF xs dSigned (fun s => Z84 s m) _ (by unfold sizeSignedS sizeS at hx; omega) (fun i h => ?_) (Z65.l4 xs ((), m)) (fun n L a => Z65.u4 xs ((), m) n L a)
 exact contr1_v _ m (head_at h hx)
theorem contr_v (xs : List TSigned) (m : TMark) (hx : sizeSignedS xs ≤ 1050000) (hc : isChain xs = true) : Z138 m xs = some (contr xs m) := by
 unfold Z138 contr
 refine bnd (last_v xs hc) ?_
 cases (m.1 == Head_Zone (Signed_Head (lastS xs))) with
 | false => exact cF rfl (bnd (anyContr_v xs m hx) rfl)
 | true =>
   refine cT rfl ?_
   cases decide (m.2.1 > Head_Epoch (Signed_Head (lastS xs))) with
   | true => rfl
   | false => exact cF rfl (bnd (anyContr_v xs m hx) rfl)
theorem contr_bad (xs : List TSigned) (m : TMark) (hc : isChain xs = true) (h0 : 0 ≤ m.2.1) : contr xs m = badM xs (Head_Zone (Signed_Head (lastS xs))) (Head_Epoch (Signed_Head (lastS xs))) m := by
 have hl := isChain_len xs hc
 obtain ⟨hlt, hle⟩ := lastS_at xs hc
 have hca := chain_at0 xs hc
 have he : Head_Epoch (Signed_Head (lastS xs)) = (xs.length : Int) - 1 := by
  rw [hle, (hca _ hlt).1]; omega
 have hzl : Head_Zone (Signed_Head (lastS xs)) = Head_Zone (Signed_Head (xs.getD 0 dSigned)) := by
  rw [hle, (hca _ hlt).2]
 unfold contr badM
 refine bool_eq ?_
 simp only [Bool.or_eq_true, Bool.and_eq_true, List.any_eq_true, decide_eq_true_eq]
 constructor
 ·rintro (h | ⟨s, hs, ⟨h1, h2⟩, h3⟩)
  ·exact ⟨h.1, .inl h.2⟩
  ·obtain ⟨i, hi, rfl⟩ := List.getElem_of_mem hs
   have hq := hca i hi
   have h1 := eq_of_beq h1
   have h2 := eq_of_beq h2
   refine ⟨?_, .inr ?_⟩
   ·rw [← h1, hq.2, hzl]; exact beq_self_eq_true _
   ·have e : m.2.1.toNat = i := by rw [← h2, hq.1]; omega
    rw [e, at_n hi]
    rw [bne_iff_ne] at h3 ⊢
    exact fun g => h3 g.symm
 ·rintro ⟨h1, h2⟩
  rcases h2 with h2 | h2
  ·exact .inl ⟨h1, h2⟩
  ·by_cases hg : m.2.1 > Head_Epoch (Signed_Head (lastS xs))
   ·exact .inl ⟨h1, hg⟩
   ·right
    have hi : m.2.1.toNat < xs.length := by omega
    have hq := hca _ hi
    rw [at_n hi] at h2
    refine ⟨xs[m.2.1.toNat], List.getElem_mem _, ⟨?_, ?_⟩, ?_⟩
    ·rw [hq.2, ← hzl, eq_of_beq h1]; exact beq_self_eq_true _
    ·rw [hq.1]
     rw [show ((m.2.1.toNat : Nat) : Int) = m.2.1 by omega]
     exact beq_self_eq_true _
    ·rw [bne_iff_ne] at h2 ⊢
     exact fun g => h2 g.symm
theorem iAgainst_v (w : TWitness) (xs : List TSigned) (hw : w.2.length ≤ 1050000) (hx : sizeSignedS xs ≤ 1050000) (hc : isChain xs = true) (hi : isWit w = true) : Z141 w.2 ((), xs) = some (against w xs) := by
 unfold Z141
 refine cntF w.2 _ ?_
 refine idxF w.2 dMark (fun m => Z155 m xs) _ hw (fun i h => ?_) (Z63.l4 w.2 ((), xs)) (fun n L a => Z63.u4 w.2 ((), xs) n L a)
 rw [← contr_bad xs _ hc (isWit_ep w hi i h).1]
 exact bnd (contr_v xs _ hx hc) rfl
noncomputable def nm (s : TSigned) : TMark := markOf (Signed_Head s)
noncomputable def isNew (w : TWitness) (s : TSigned) : Bool := !w.2.any (ofMk (nm s).1 (nm s).2.1)
noncomputable def newMarks (w : TWitness) (xs : List TSigned) : List TMark := w.2 ++ (xs.filter (isNew w)).map nm
noncomputable def confEnd (w : TWitness) (xs : List TSigned) (ms : List TMark) : TRWitnessSigBool := bif decide ((ms.length : Int) > (40 : Int)) then RWitnessSigBool_mk w dSig false else RWitnessSigBool_mk (w.1, ms) (w.1, tagOf w.1 [(241 : Int), Head_Zone (Signed_Head (lastS xs)), Head_Epoch (Signed_Head (lastS xs)), headDigest (Signed_Head (lastS xs))]) true
noncomputable def confirmM (w : TWitness) (xs : List TSigned) : TRWitnessSigBool := bif isWit w && (isChain xs && !against w xs) then confEnd w xs (newMarks w xs) else RWitnessSigBool_mk w dSig false
theorem take_filter (p : TSigned → Bool) (xs : List TSigned) {i : Nat} (h : i < xs.length) : ((xs.take (i + 1)).filter p).map nm = bif p xs[i] then ((xs.take i).filter p).map nm ++ [nm xs[i]] else ((xs.take i).filter p).map nm := by
 rw [← List.take_append_getElem h, List.filter_append, List.map_append]
 cases hp : p xs[i] with
 | true => rw [List.filter_cons_of_pos hp]; rfl
 | false => rw [List.filter_cons_of_neg (by rw [hp]; exact Bool.false_ne_true), List.filter_nil, List.map_nil, List.append_nil]; rfl
theorem filter_len (p : TSigned → Bool) (xs : List TSigned) (i : Nat) (h : i ≤ xs.length) : (((xs.take i).filter p).map nm).length ≤ i := by
 rw [List.length_map]
 refine Nat.le_trans (List.length_filter_le _ _) ?_
 rw [List.length_take]; omega
theorem l19Copy_v (w : TWitness) (hw : w.2.length ≤ 1050000) : Z131 w = some w := by
 unfold Z131
 rw [decide_eq_true (by simp; omega), cond_t]; rfl
theorem Clone_Mark_v (x : List TMark) (hx : x.length ≤ 1050000) : Z140 x = some x := by
 have e : (bif decide (([] : List TMark).length + x.length < 68719476736) then some ([] ++ x) else none) = some x := by
  rw [decide_eq_true (by simp; omega), cond_t]; rfl
 unfold Z140
 rw [e]
 cases x with
 | nil => exact both_eq _
 | cons a t => rfl
theorem copyWitness_v (w : TWitness) (hw : w.2.length ≤ 1050000) : Z128 w = some w := by
 unfold Z128
 exact bnd (Clone_Mark_v _ hw) rfl
theorem fnd_neg {α : Type} (p : α → Bool) (xs : List α) : decide (fnd p xs 0 < 0) = !xs.any p := by
 rw [← fnd_ge p xs 0 (Int.le_refl 0)]
 by_cases h : fnd p xs 0 < 0
 ·rw [decide_eq_true h, decide_eq_false (by omega)]; rfl
 ·rw [decide_eq_false h, decide_eq_true (by omega)]; rfl
theorem sConf10_v (w : TWitness) (xs : List TSigned) (hw : w.2.length ≤ 1050000) (hx : sizeSignedS xs ≤ 1050000) (hc : isChain xs = true) : Z13.l10 w xs w KK 0 w.2 = some (confEnd w xs (newMarks w xs)) := by
 have hl := isChain_len xs hc
 have hh : ∀ i n, i ≤ xs.length → xs.length - i < n → Z13.l10 w xs w n (i : Int) (w.2 ++ ((xs.take i).filter (isNew w)).map nm) = some (confEnd w xs (newMarks w xs)) := by
  refine idx_ind ?_ ?_
  ·intro n
   rw [Z13.u10]
   simp only [Z13.g10, lt_f (Nat.le_refl _), cond_f, List.take_length, both_eq]
   unfold confEnd newMarks
   generalize w.2 ++ (xs.filter (isNew w)).map nm = ms
   cases decide ((ms.length : Int) > (40 : Int)) with
   | true => exact cT rfl (bnd (l19Copy_v w hw) rfl)
   | false => exact cF rfl (cT (decide_eq_true (by rw [wl hl]; omega)) (cT (decide_eq_true (by rw [wl hl]; omega)) (bnd (sMarkOf_v _ (lastS_size xs hx)) (bnd (sMints _) (bnd (sTagOf_v _ _ (by show 4 ≤ _; omega)) rfl)))))
  ·intro i n hi ih
   have hfl := filter_len (isNew w) xs i (by omega)
   rw [Z13.u10]
   simp only [Z13.g10, lt_t hi, ge_t, cond_t, w64_succ (i := i) (by omega), Int.toNat_natCast, at_n hi]
   refine bnd (sMarkOf_v _ (head_at hi hx)) (bnd (l19Find_v w _ _ hw) ?_)
   rw [fnd_neg]
   rw [take_filter (isNew w) xs hi] at ih
   show (bif isNew w xs[i] then _ else _) = _
   cases hn : isNew w xs[i] with
   | true =>
     rw [hn, cond_t, ← List.append_assoc] at ih
     refine cT rfl (cT (decide_eq_true ?_) ih)
     rw [List.length_append]; show _ + 1 < _; omega
   | false =>
     rw [hn, cond_f] at ih
     exact ih
 have := hh 0 KK (Nat.zero_le _) (KK_gt (by omega))
 rw [List.take_zero, List.filter_nil, List.map_nil, List.append_nil] at this
 exact this
theorem new_same (w : TWitness) (xs : List TSigned) (hc : isChain xs = true) {i : Nat} (hi : i < xs.length) : (!(w.2 ++ ((xs.take i).filter (isNew w)).map nm).any (ofMk (nm xs[i]).1 (nm xs[i]).2.1)) = isNew w xs[i] := by
 have hca := chain_at0 xs hc
 unfold isNew
 rw [List.any_append]
 have e : (((xs.take i).filter (isNew w)).map nm).any (ofMk (nm xs[i]).1 (nm xs[i]).2.1) = false := by
  rw [Bool.eq_false_iff]
  intro h
  rw [List.any_eq_true] at h
  obtain ⟨m, hm, ho⟩ := h
  obtain ⟨s, hs, rfl⟩ := List.mem_map.1 hm
  have hs := (List.mem_filter.1 hs).1
  obtain ⟨j, hj, rfl⟩ := List.getElem_of_mem hs
  rw [List.length_take] at hj
  have hj2 : j < xs.length := by omega
  rw [List.getElem_take] at ho
  unfold ofMk at ho
  rw [Bool.and_eq_true] at ho
  have h2 : Head_Epoch (Signed_Head xs[j]) = Head_Epoch (Signed_Head xs[i]) := eq_of_beq ho.2
  rw [(hca j hj2).1, (hca i hi).1] at h2
  omega
 unfold isNew at e
 rw [e, Bool.or_false]
theorem iConf10_v (w : TWitness) (xs : List TSigned) (hw : w.2.length ≤ 1050000) (hwl : w.2.length ≤ 40) (hx : sizeSignedS xs ≤ 1050000) (hc : isChain xs = true) : Z16.l10 w xs w KK (xs.length : Int) 0 w.2 = some (confEnd w xs (newMarks w xs)) := by
 have hl := isChain_len xs hc
 have hh : ∀ i n, i ≤ xs.length → xs.length - i < n → Z16.l10 w xs w n (xs.length : Int) (i : Int) (w.2 ++ ((xs.take i).filter (isNew w)).map nm) = some (confEnd w xs (newMarks w xs)) := by
  refine idx_ind ?_ ?_
  ·intro n
   rw [Z16.u10]
   simp only [Z16.g10, lt_f (Nat.le_refl _), cond_f, List.take_length, both_eq]
   unfold confEnd newMarks
   generalize w.2 ++ (xs.filter (isNew w)).map nm = ms
   cases decide ((ms.length : Int) > (40 : Int)) with
   | true => exact cT rfl (bnd (copyWitness_v w hw) rfl)
   | false => exact cF rfl (bnd (last_v xs hc) (bnd (iMarkOf_v _ (lastS_size xs hx)) (bnd (iMints _) (bnd (iTagOf_v _ _ (by show 4 ≤ _; omega)) rfl))))
  ·intro i n hi ih
   have hfl := filter_len (isNew w) xs i (by omega)
   rw [Z16.u10]
   simp only [Z16.g10, lt_t hi, ge_t, cond_t, w64_succ (i := i) (by omega), Int.toNat_natCast, at_n hi]
   refine bnd (iMarkOf_v _ (head_at hi hx)) (bnd (hasMk_v _ (nm xs[i]) (by rw [List.length_append]; omega)) ?_)
   rw [new_same w xs hc hi]
   rw [take_filter (isNew w) xs hi] at ih
   cases hn : isNew w xs[i] with
   | true =>
     rw [hn, cond_t, ← List.append_assoc] at ih
     refine cT rfl (cT (decide_eq_true ?_) ih)
     rw [List.length_append]; show _ + 1 < _; omega
   | false =>
     rw [hn, cond_f] at ih
     exact ih
 have := hh 0 KK (Nat.zero_le _) (KK_gt (by omega))
 rw [List.take_zero, List.filter_nil, List.map_nil, List.append_nil] at this
 exact this
theorem sConfirm_v (w : TWitness) (xs : List TSigned) (hw : w.2.length ≤ 1050000) (hx : sizeSignedS xs ≤ 1050000) : Z13 w xs = some (confirmM w xs) := by
 unfold Z13 confirmM
 refine bnd (l19Copy_v w hw) (bnd (sIsWit_v w hw) ?_)
 cases hi : isWit w with
 | false => rfl
 | true =>
   refine cF rfl (bnd (sIsChain_v xs hx) ?_)
   cases hc : isChain xs with
   | false => rfl
   | true =>
     refine cF rfl (bnd (sAgainst_v w xs hw hx hc hi) ?_)
     cases against w xs with
     | true => rfl
     | false => exact sConf10_v w xs hw hx hc
theorem iConfirm_v (w : TWitness) (xs : List TSigned) (hw : w.2.length ≤ 1050000) (hx : sizeSignedS xs ≤ 1050000) : Z16 w xs = some (confirmM w xs) := by
 unfold Z16 confirmM
 refine bnd (copyWitness_v w hw) (bnd (iIsWit_v w hw) ?_)
 cases hi : isWit w with
 | false => rfl
 | true =>
   refine cF rfl (bnd (iIsChain_v xs hx) ?_)
   cases hc : isChain xs with
   | false => rfl
   | true =>
     refine cF rfl (bnd (iAgainst_v w xs hw hx hc hi) ?_)
     cases against w xs with
     | true => rfl
     | false => exact iConf10_v w xs hw (isWit_len w hi) hx hc
theorem confirmM_size (w : TWitness) (xs : List TSigned) (hw : w.2.length ≤ 1050000) (hx : sizeSignedS xs ≤ 1050000) : sizeWitness (RWitnessSigBool_r0 (confirmM w xs)) ≤ 2100000 := by
 have hl : xs.length ≤ 1050000 := by unfold sizeSignedS sizeS at hx; omega
 have h1 := filter_len (isNew w) xs xs.length (Nat.le_refl _)
 rw [List.take_length] at h1
 unfold confirmM confEnd
 cases (isWit w && (isChain xs && !against w xs)) with
 | false => show w.2.length ≤ _; omega
 | true =>
   cases decide (((newMarks w xs).length : Int) > (40 : Int)) with
   | true => show w.2.length ≤ _; omega
   | false =>
     show (newMarks w xs).length ≤ _
     unfold newMarks
     rw [List.length_append]
     omega
theorem fw_heads (xs : List TSigned) : ∀ (p : THead) (k : Int), 0 ≤ k → fw (some p) xs k < 0 → ∀ i (hi : i < xs.length), isHeadB (Signed_Head xs[i]) = true := by
 induction xs with
 | nil => intro p k _ _ i hi; simp at hi
 | cons s t ih =>
   intro p k hk h i hi
   unfold fw at h
   cases hf : mayFollow p s with
   | false => rw [hf] at h; exact absurd h (by show ¬ k < 0; omega)
   | true =>
     rw [hf] at h
     have hm := may_next p s hf
     cases i with
     | zero => exact hm.2.1
     | succ i =>
       have hi2 : i < t.length := by simpa using hi
       exact ih (Signed_Head s) (k + 1) (by omega) h i hi2
theorem chain_heads (xs : List TSigned) (h : isChain xs = true) : ∀ i (hi : i < xs.length), isHeadB (Signed_Head xs[i]) = true := by
 unfold isChain at h
 rw [Bool.and_eq_true] at h
 have h := of_decide_eq_true h.2
 cases xs with
 | nil => intro i hi; simp at hi
 | cons s t =>
   unfold fw at h
   cases hf : isFirst s with
   | false => rw [hf] at h; exact absurd h (by show ¬ (0 : Int) < 0; omega)
   | true =>
     rw [hf] at h
     intro i hi
     cases i with
     | zero =>
       unfold isFirst at hf
       simp only [Bool.and_eq_true] at hf
       exact hf.1
     | succ i =>
       have hi2 : i < t.length := by simpa using hi
       exact fw_heads t (Signed_Head s) _ (by omega) h i hi2
def Ok {α : Type} (o : Option α) (Q : α → Prop) : Prop := ∃ a, o = some a ∧ Q a
theorem Ok.bind {α β : Type} {e : Option α} {P : α → Prop} {f : α → Option β} {Q : β → Prop} (h : Ok e P) (hf : ∀ a, P a → Ok (f a) Q) : Ok (e.bind f) Q := by
 obtain ⟨a, rfl, ha⟩ := h
 rw [bind_s]
 exact hf a ha
theorem Ok.ret {α : Type} {a : α} {Q : α → Prop} (h : Q a) : Ok (some a) Q := ⟨a, rfl, h⟩
theorem Ok.of {α : Type} {e : Option α} {a : α} {Q : α → Prop} (h : e = some a) (hq : Q a) : Ok e Q := ⟨a, h, hq⟩
theorem Ok.mono {α : Type} {e : Option α} {P Q : α → Prop} (h : Ok e P) (hq : ∀ a, P a → Q a) : Ok e Q := by
 obtain ⟨a, h1, h2⟩ := h
 exact ⟨a, h1, hq a h2⟩
theorem Ok.ite {α : Type} {c : Bool} {a b : Option α} {Q : α → Prop} (h1 : c = true → Ok a Q) (h2 : c = false → Ok b Q) : Ok (bif c then a else b) Q := by
 cases c with
 | true => rw [cond_t]; exact h1 rfl
 | false => rw [cond_f]; exact h2 rfl
theorem Ok.chk {α : Type} {c : Bool} {a b : Option α} {Q : α → Prop} (h : c = true) (h1 : Ok a Q) : Ok (bif c then a else b) Q := by
 subst h
 rw [cond_t]
 exact h1
theorem Ok.both {α : Type} {x : Option α} {Q : α → Prop} (h : Ok x Q) : Ok (V.both x x) Q := by
 rw [both_eq]
 exact h
def Cu (code : List Int) (c : Tl1Cur) : Prop := c.1 = code ∧ 0 ≤ c.2.1 ∧ c.2.1 ≤ (code.length : Int) ∧ code.length ≤ 1050000
theorem Cu.re {code : List Int} {c d : Tl1Cur} (h : Cu code c) (h' : Cu code d) : Cu code (c.1, d.2.1, d.2.2) := ⟨h.1, h'.2⟩
theorem and255 (a : Int) : 0 ≤ IntKind.i64.wrap ((BitVec.ofInt IntKind.i64.bits a &&& BitVec.ofInt IntKind.i64.bits (255 : Int)).toNat : Int) ∧ IntKind.i64.wrap ((BitVec.ofInt IntKind.i64.bits a &&& BitVec.ofInt IntKind.i64.bits (255 : Int)).toNat : Int) ≤ 255 := by
 have h : (BitVec.ofInt IntKind.i64.bits a &&& BitVec.ofInt IntKind.i64.bits (255 : Int)).toNat ≤ 255 := by
  rw [BitVec.toNat_and]
  exact Nat.le_trans Nat.and_le_right (by decide)
 rw [w64 (by omega) (by omega)]
 omega
theorem byte_ok {code : List Int} {c : Tl1Cur} (hc : Cu code c) : Ok (Z120 c) (fun r => Cu code r.1 ∧ 0 ≤ r.2 ∧ r.2 ≤ 255) := by
 obtain ⟨h1, h2, h3, h4⟩ := hc
 unfold Z120
 refine Ok.chk (by decide) (Ok.chk (by decide) (Ok.ite (fun h => ?_) (fun _ => Ok.ret ⟨⟨h1, h2, h3, h4⟩, and255 _⟩)))
 have h := of_decide_eq_true h
 rw [h1] at h
 refine Ok.chk (decide_eq_true h2) (Ok.chk (decide_eq_true (by rw [h1]; exact h)) (Ok.ret ⟨⟨h1, ?_, ?_, h4⟩, and255 _⟩))
 ·show 0 ≤ IntKind.i64.wrap (c.2.1 + 1)
  rw [w64 (by omega) (by omega)]
  omega
 ·show IntKind.i64.wrap (c.2.1 + 1) ≤ _
  rw [w64 (by omega) (by omega)]
  omega
theorem below_ok {code : List Int} {c : Tl1Cur} (hc : Cu code c) (n : Int) : Ok (Z5 c n) (fun r => Cu code r.1 ∧ 0 ≤ r.2 ∧ (0 < n → r.2 < n) ∧ (n ≤ 0 → r.2 = 0)) := by
 unfold Z5
 refine Ok.ite (fun h => ?_) (fun h => ?_)
 ·have h := of_decide_eq_true h
  exact Ok.ret ⟨hc, Int.le_refl 0, fun h' => by omega, fun _ => rfl⟩
 ·have h := of_decide_eq_false h
  have hn : (n == (0 : Int)) = false := by rw [beq_eq_false_iff_ne]; omega
  refine Ok.ite (fun _ => (byte_ok hc).bind fun y hy => ?_) (fun _ => (byte_ok hc).bind fun y hy => (byte_ok (hc.re hy.1)).bind fun z hz => (byte_ok (hc.re hz.1)).bind fun u hu => ?_)
  ·rw [hn, cond_f]
   exact Ok.ret ⟨hc.re hy.1, Int.tmod_nonneg n hy.2.1, fun h' => Int.tmod_lt_of_pos _ h', fun h' => by omega⟩
  ·rw [hn, cond_f]
   obtain ⟨_, y1, y2⟩ := hy
   obtain ⟨_, z1, z2⟩ := hz
   obtain ⟨_, u1, u2⟩ := hu
   have e1 : IntKind.i64.wrap (y.2 * 65536) = y.2 * 65536 := w64 (by omega) (by omega)
   have e2 : IntKind.i64.wrap (z.2 * 256) = z.2 * 256 := w64 (by omega) (by omega)
   have e3 : IntKind.i64.wrap (y.2 * 65536 + z.2 * 256) = y.2 * 65536 + z.2 * 256 := w64 (by omega) (by omega)
   have e4 : IntKind.i64.wrap (y.2 * 65536 + z.2 * 256 + u.2) = y.2 * 65536 + z.2 * 256 + u.2 := w64 (by omega) (by omega)
   rw [e1, e2, e3, e4]
   exact Ok.ret ⟨hc.re ‹_›, Int.tmod_nonneg n (by omega), fun h' => Int.tmod_lt_of_pos _ h', fun h' => by omega⟩
theorem once_ok {code : List Int} {c : Tl1Cur} (hc : Cu code c) (n : Int) : Ok (Z95 c n) (fun r => Cu code r.1) := by
 unfold Z95
 exact (below_ok hc n).bind fun y hy => Ok.ret (hc.re hy.1)
theorem int_ok {code : List Int} {c : Tl1Cur} (hc : Cu code c) {xs : List Int} (hx : 0 < xs.length) : Ok (Z42 c xs) (fun r => Cu code r.1 ∧ r.2 ∈ xs) := by
 unfold Z42
 refine (below_ok hc _).bind fun y hy => ?_
 obtain ⟨h1, h2, h3, _⟩ := hy
 have h3 := h3 (by omega)
 refine Ok.chk (decide_eq_true h2) (Ok.chk (decide_eq_true h3) (Ok.ret ⟨hc.re h1, ?_⟩))
 show xs.getD y.2.toNat 0 ∈ xs
 rw [List.getD_eq_getElem?_getD, List.getElem?_eq_getElem (show y.2.toNat < xs.length by omega)]
 exact List.getElem_mem _
theorem str_ok {code : List Int} {c : Tl1Cur} (hc : Cu code c) {xs : List ByteArray} (hx : 0 < xs.length) : Ok (Z132 c xs) (fun r => Cu code r.1 ∧ r.2 ∈ xs) := by
 unfold Z132
 refine (below_ok hc _).bind fun y hy => ?_
 obtain ⟨h1, h2, h3, _⟩ := hy
 have h3 := h3 (by omega)
 refine Ok.chk (decide_eq_true h2) (Ok.chk (decide_eq_true h3) (Ok.ret ⟨hc.re h1, ?_⟩))
 show xs.getD y.2.toNat _ ∈ xs
 rw [List.getD_eq_getElem?_getD, List.getElem?_eq_getElem (show y.2.toNat < xs.length by omega)]
 exact List.getElem_mem _
theorem ge0 {v : Int} (h : decide (v > (0 : Int)) = true) : 0 < v := of_decide_eq_true h
theorem pred_w {v : Int} (h0 : 0 < v) (h1 : v ≤ 1000) : IntKind.i64.wrap (v - (1 : Int)) = v - 1 := w64 (by omega) (by omega)
theorem app1 {α : Type} {xs : List α} {x : α} (h : xs.length ≤ 1050000) : decide (xs.length + [x].length < 68719476736) = true := decide_eq_true (by show xs.length + 1 < _; omega)
theorem len1 {α : Type} (xs : List α) (x : α) : (xs ++ [x]).length = xs.length + 1 := by simp
theorem szApp {α : Type} (f : α → Nat) (xs : List α) (x : α) : sizeS f (xs ++ [x]) = sizeS f xs + 1 + f x := by
 unfold sizeS
 simp only [List.length_append, List.map_append, List.sum_append, List.map_cons, List.map_nil, List.sum_cons, List.sum_nil, List.length_cons, List.length_nil]
 omega
theorem strM {code : List Int} {c : Tl1Cur} (hc : Cu code c) {xs : List ByteArray} {n : Nat} (hx : 0 < xs.length) (hs : (xs.all fun s => decide (s.size ≤ n)) = true) : Ok (Z132 c xs) (fun r => Cu code r.1 ∧ r.2.size ≤ n) :=
 (str_ok hc hx).mono fun r h => ⟨h.1, of_decide_eq_true (List.all_eq_true.1 hs r.2 h.2)⟩
theorem l4Label_ok {code : List Int} {c : Tl1Cur} (hc : Cu code c) : Ok (Z121 c) (fun r => Cu code r.1 ∧ r.2.size ≤ 9) := by
 unfold Z121
 exact (strM (n := 9) hc (by decide) (by decide)).bind fun y hy => Ok.ret ⟨hc.re hy.1, hy.2⟩
theorem l5Path_l {code : List Int} {x0 : Tl1Cur} : ∀ (n : Nat) (v a b : Int) (acc : List ByteArray), v < (n : Int) → 0 ≤ v → v ≤ 1000 → acc.length + v.toNat ≤ 1000 → Cu code (x0.1, a, b) → Ok (Z58.l6 x0 n v a b acc) (fun r => Cu code r.1 ∧ sizeStringS r.2 ≤ sizeStringS acc + 10 * v.toNat) := by
 intro n
 induction n with
 | zero => intro v a b acc h0 h1; omega
 | succ n ih =>
   intro v a b acc h0 h1 h2 ha hc
   rw [Z58.u6]
   refine Ok.ite (fun h => ?_) (fun h => Ok.ret ⟨hc, by show sizeStringS acc ≤ _; omega⟩)
   have h := ge0 h
   refine (l4Label_ok hc).bind fun y hy => Ok.chk (app1 (by omega)) ?_
   rw [pred_w h h2]
   refine (ih (v - 1) _ _ (acc ++ [y.2]) (by omega) (by omega) (by omega) (by rw [len1]; omega) (hc.re hy.1)).mono fun r hr => ⟨hr.1, ?_⟩
   have e : sizeStringS (acc ++ [y.2]) = sizeStringS acc + 1 + sizeStr y.2 := szApp _ _ _
   have e2 : sizeStr y.2 ≤ 9 := hy.2
   have := hr.2
   omega
theorem l5Path_ok {code : List Int} {c : Tl1Cur} (hc : Cu code c) : Ok (Z58 c) (fun r => Cu code r.1 ∧ sizeStringS r.2 ≤ 30) := by
 unfold Z58
 refine (below_ok hc 3).bind fun y hy => ?_
 obtain ⟨h1, h2, h3, _⟩ := hy
 have h3 := h3 (by omega)
 have e : IntKind.i64.wrap ((1 : Int) + y.2) = 1 + y.2 := w64 (by omega) (by omega)
 rw [e]
 have hk := KK_gt (n := 1000) (by omega)
 refine (l5Path_l KK (1 + y.2) _ _ [] (by omega) (by omega) (by omega) (by show 0 + _ ≤ _; omega) (hc.re h1)).mono fun r hr => ⟨hr.1, ?_⟩
 have e0 : sizeStringS [] = 0 := rfl
 have := hr.2
 omega
theorem l8Entry_ok {code : List Int} {c : Tl1Cur} (hc : Cu code c) : Ok (Z154 c) (fun r => Cu code r.1 ∧ sizeEntry r.2 ≤ 39) := by
 unfold Z154
 refine (l4Label_ok hc).bind fun y1 h1 => (below_ok (hc.re h1.1) 5).bind fun y2 h2 => Ok.ite (fun _ => ?_) fun _ => Ok.ite (fun _ => ?_) fun _ => ?_
 ·refine (below_ok (hc.re h2.1) 5000).bind fun y3 h3 => Ok.bind (P := fun e => sizeEntry e ≤ 39) ?_ fun e he => Ok.ret ⟨hc.re h3.1, he⟩
  exact Ok.ret (by show sizeStr y1.2 + 0 ≤ 39; have : sizeStr y1.2 ≤ 9 := h1.2; omega)
 ·refine (below_ok (hc.re h2.1) 5000).bind fun y3 h3 => (l5Path_ok (hc.re h3.1)).bind fun y6 h6 => Ok.bind (P := fun e => sizeEntry e ≤ 39) ?_ fun e he => Ok.ret ⟨hc.re h6.1, he⟩
  have hl : y6.2.length ≤ 1050000 := by have := h6.2; unfold sizeStringS sizeS at this; omega
  exact Ok.of (bnd (l5Copy_v y6.2 hl) rfl) (by show sizeStr y1.2 + sizeStringS y6.2 ≤ 39; have : sizeStr y1.2 ≤ 9 := h1.2; have := h6.2; omega)
 ·refine (below_ok (hc.re h2.1) 50).bind fun y3 h3 => Ok.bind (P := fun e => sizeEntry e ≤ 39) ?_ fun e he => Ok.ret ⟨hc.re h3.1, he⟩
  exact Ok.ret (by show sizeStr y1.2 + 0 ≤ 39; have : sizeStr y1.2 ≤ 9 := h1.2; omega)
theorem szDrop {α : Type} (f : α → Nat) {xs : List α} {i : Nat} (h : i < xs.length) : sizeS f (xs.drop i) = 1 + f xs[i] + sizeS f (xs.drop (i + 1)) := by
 rw [List.drop_eq_getElem_cons h]
 unfold sizeS
 simp only [List.map_cons, List.sum_cons, List.length_cons]
 omega
theorem szLen {α : Type} (f : α → Nat) (xs : List α) : xs.length ≤ sizeS f xs := by unfold sizeS; omega
theorem put_l (xs : List TEntry) (e : TEntry) (hx : sizeEntryS xs + sizeEntry e ≤ 100000) : ∀ (n i : Nat) (done : Bool) (out : List TEntry), xs.length - i < n → i ≤ xs.length → sizeEntryS out + (bif done then 0 else sizeEntry e + 1) + sizeEntryS (xs.drop i) ≤ sizeEntryS xs + sizeEntry e + 1 →
 Ok (Z2.l8 xs e n done (i : Int) out) (fun r => sizeEntryS r.1 ≤ sizeEntryS xs + sizeEntry e + 1) := by
 have hlx := szLen sizeEntry xs
 have hl : xs.length ≤ 100000 := by unfold sizeEntryS at hx; omega
 have fin : ∀ out : List TEntry, sizeEntryS out ≤ sizeEntryS xs + sizeEntry e + 1 → Ok (Z2.l29 xs out) (fun r => sizeEntryS r.1 ≤ sizeEntryS xs + sizeEntry e + 1) := by
  intro out ho
  have tail : ∀ v : Bool, Ok (Z2.l31 xs out v) (fun r => sizeEntryS r.1 ≤ sizeEntryS xs + sizeEntry e + 1) := by
   intro v
   refine Ok.ite (fun _ => ?_) fun _ => Ok.ret ho
   exact Ok.of (bnd (l9Copy_v xs (by omega)) rfl) (by show sizeEntryS xs ≤ _; omega)
  refine Ok.bind (P := fun _ => True) (Ok.of (sAreEntries_v xs (by omega)) trivial) fun y _ => Ok.ite (fun _ => tail _) fun _ => ?_
  exact Ok.bind (P := fun _ => True) (Ok.of (sAreEntries_v out (by omega)) trivial) fun y _ => tail _
 intro n
 induction n with
 | zero => intro i done out h0; omega
 | succ n ih =>
   intro i done out h0 h1 hi
   have hlo := szLen sizeEntry out
   have hou : sizeEntryS out ≤ 100001 := by omega
   have hlo : out.length ≤ 100001 := by unfold sizeEntryS at hou; omega
   rw [Z2.u8]
   refine Ok.ite (fun h => ?_) (fun h => ?_)
   ·have hlt : i < xs.length := by have := of_decide_eq_true h; omega
    have hd := szDrop sizeEntry hlt
    have hd : sizeEntryS (xs.drop i) = 1 + sizeEntry xs[i] + sizeEntryS (xs.drop (i + 1)) := hd
    refine Ok.chk (decide_eq_true (by omega)) (Ok.chk h ?_)
    rw [Int.toNat_natCast, at_n hlt]
    refine Ok.bind (P := fun _ => True) (Ok.of (sCompare_v _ _) trivial) fun k _ => ?_
    have hei : sizeEntry xs[i] ≤ 1050000 := by omega
    have nx : ∀ (d : Bool) (o : List TEntry), sizeEntryS o + (bif d then 0 else sizeEntry e + 1) + sizeEntryS (xs.drop i) ≤ sizeEntryS xs + sizeEntry e + 1 → Ok (Z2.l21 xs e (i : Int) k (Z2.l8 xs e n) d o) (fun r => sizeEntryS r.1 ≤ sizeEntryS xs + sizeEntry e + 1) := by
     intro d o ho
     have hlo : o.length ≤ sizeEntryS o := szLen sizeEntry o
     have hlo : o.length ≤ 1050000 := by omega
     refine Ok.ite (fun _ => ?_) fun _ => ?_
     ·refine Ok.chk (decide_eq_true (by omega)) (Ok.chk h ?_)
      rw [Int.toNat_natCast, at_n hlt, w64_succ (by omega)]
      refine Ok.bind (P := fun y => y = xs[i]) (Ok.of (l8Copy_v _ hei) rfl) fun y hy => Ok.chk (app1 hlo) ?_
      subst hy
      refine ih (i + 1) d _ (by omega) (by omega) ?_
      have e2 : sizeEntryS (o ++ [xs[i]]) = sizeEntryS o + 1 + sizeEntry xs[i] := szApp _ _ _
      omega
     ·rw [w64_succ (by omega)]
      exact ih (i + 1) d o (by omega) (by omega) (by omega)
    have cs : ∀ v : Bool, (v = true → done = false) → Ok (Z2.l17 xs e done (i : Int) out k (Z2.l8 xs e n) v) (fun r => sizeEntryS r.1 ≤ sizeEntryS xs + sizeEntry e + 1) := by
     intro v hv
     refine Ok.ite (fun h => ?_) fun _ => nx _ _ hi
     have hd := hv h
     subst hd
     rw [cond_f] at hi
     refine Ok.bind (P := fun y => y = e) (Ok.of (l8Copy_v _ (by omega)) rfl) fun y hy => Ok.chk (app1 (by omega)) (nx _ _ ?_)
     subst hy
     have e2 : sizeEntryS (out ++ [y]) = sizeEntryS out + 1 + sizeEntry y := szApp _ _ _
     rw [cond_t]
     omega
    exact Ok.ite (fun _ => cs _ (fun h => by cases done <;> simp_all)) (fun _ => cs _ (fun h => by cases h))
   ·have e0 : i = xs.length := by have := of_decide_eq_false h; omega
    subst e0
    rw [List.drop_length] at hi
    have e0 : sizeEntryS [] = 0 := rfl
    refine Ok.ite (fun h => ?_) (fun h => fin _ (by omega))
    have hd : done = false := by cases done <;> simp_all
    subst hd
    rw [cond_f] at hi
    refine Ok.bind (P := fun y => y = e) (Ok.of (l8Copy_v _ (by omega)) rfl) fun y hy => Ok.chk (app1 (by omega)) (fin _ ?_)
    subst hy
    have e2 : sizeEntryS (out ++ [y]) = sizeEntryS out + 1 + sizeEntry y := szApp _ _ _
    omega
theorem put_ok (xs : List TEntry) (e : TEntry) (hx : sizeEntryS xs + sizeEntry e ≤ 100000) : Ok (Z2 xs e) (fun r => sizeEntryS r.1 ≤ sizeEntryS xs + sizeEntry e + 1) := by
 have hlx := szLen sizeEntry xs
 have hlx : xs.length ≤ 100000 := by unfold sizeEntryS at hx; omega
 refine put_l xs e hx KK 0 false [] (KK_gt (by omega)) (Nat.zero_le _) ?_
 have e0 : sizeEntryS [] = 0 := rfl
 rw [cond_f, List.drop_zero]
 omega
theorem l9List_l {code : List Int} {x0 : Tl1Cur} : ∀ (n : Nat) (v a b : Int) (acc : List TEntry), v < (n : Int) → 0 ≤ v → v ≤ 1000 → sizeEntryS acc + 40 * v.toNat ≤ 50000 → Cu code (x0.1, a, b) → Ok (Z47.l6 x0 n v a b acc) (fun r => Cu code r.1 ∧ sizeEntryS r.2 ≤ sizeEntryS acc + 40 * v.toNat) := by
 intro n
 induction n with
 | zero => intro v a b acc h0 h1; omega
 | succ n ih =>
   intro v a b acc h0 h1 h2 ha hc
   rw [Z47.u6]
   refine Ok.ite (fun h => ?_) (fun h => Ok.ret ⟨hc, by show sizeEntryS acc ≤ _; omega⟩)
   have h := ge0 h
   refine (l8Entry_ok hc).bind fun y hy => ?_
   have hy2 := hy.2
   refine (put_ok acc y.2 (by omega)).bind fun z hz => ?_
   rw [pred_w h h2]
   refine (ih (v - 1) _ _ z.1 (by omega) (by omega) (by omega) (by omega) (hc.re hy.1)).mono fun r hr => ⟨hr.1, ?_⟩
   have := hr.2
   omega
theorem l9List_ok {code : List Int} {c : Tl1Cur} (hc : Cu code c) : Ok (Z47 c) (fun r => Cu code r.1 ∧ sizeEntryS r.2 ≤ 240) := by
 unfold Z47
 refine (below_ok hc 7).bind fun y hy => ?_
 obtain ⟨h1, h2, h3, _⟩ := hy
 have h3 := h3 (by omega)
 have hk := KK_gt (n := 1000) (by omega)
 have e0 : sizeEntryS [] = 0 := rfl
 refine (l9List_l KK y.2 _ _ [] (by omega) (by omega) (by omega) (by omega) (hc.re h1)).mono fun r hr => ⟨hr.1, ?_⟩
 have := hr.2
 omega
theorem l6Keys_l {code : List Int} {x0 : Tl1Cur} {m : Int} (hm : m ≤ 1000) : ∀ (n : Nat) (t i a b : Int) (acc : List Int), m - i < (n : Int) → 0 ≤ i → i ≤ m → (acc.length : Int) = i → Cu code (x0.1, a, b) → Ok (Z22.l10 x0 n m t i a b acc) (fun r => Cu code r.1 ∧ (r.2.1.length : Int) = m) := by
 intro n
 induction n with
 | zero => intro t i a b acc h0 h1 h2; omega
 | succ n ih =>
   intro t i a b acc h0 h1 h2 ha hc
   rw [Z22.u10]
   refine Ok.ite (fun h => ?_) (fun h => ?_)
   ·have h := of_decide_eq_true h
    refine (below_ok hc 3).bind fun y hy => Ok.chk (app1 (by omega)) ?_
    have e : IntKind.i64.wrap (i + (1 : Int)) = i + 1 := w64 (by omega) (by omega)
    rw [e]
    exact ih _ (i + 1) _ _ _ (by omega) (by omega) (by omega) (by rw [len1]; omega) (hc.re hy.1)
   ·have h := of_decide_eq_false h
    exact (below_ok hc m).bind fun y hy => Ok.ret ⟨hc.re hy.1, by show (acc.length : Int) = m; omega⟩
theorem l6Keys_ok {code : List Int} {c : Tl1Cur} (hc : Cu code c) : Ok (Z22 c) (fun r => Cu code r.1 ∧ r.2.1.length ≤ 3) := by
 unfold Z22
 refine (below_ok hc 3).bind fun y hy => (below_ok (hc.re hy.1) 4).bind fun z hz => ?_
 obtain ⟨h1, h2, h3, _⟩ := hy
 have h3 := h3 (by omega)
 have e : IntKind.i64.wrap ((1 : Int) + y.2) = 1 + y.2 := w64 (by omega) (by omega)
 rw [e]
 have hk := KK_gt (n := 2000) (by omega)
 refine (l6Keys_l (m := 1 + y.2) (by omega) KK z.2 0 _ _ [] (by omega) (by omega) (by omega) rfl (hc.re hz.1)).mono fun r hr => ⟨hr.1, ?_⟩
 have := hr.2
 omega
theorem l6Any_ok {code : List Int} {c : Tl1Cur} (hc : Cu code c) : Ok (Z112 c) (fun r => Cu code r.1 ∧ r.2.1.length ≤ 4) := by
 unfold Z112
 refine (l6Keys_ok hc).bind fun y1 h1 => (below_ok (hc.re h1.1) 10).bind fun y2 h2 => Ok.ite (fun _ => ?_) fun _ => Ok.ite (fun _ => ?_) fun _ => Ok.ite (fun _ => ?_) fun _ => ?_
 ·exact (int_ok (hc.re h2.1) (by decide)).bind fun y3 h3 => Ok.ret ⟨hc.re h3.1, Nat.le_succ_of_le h1.2⟩
 ·have one : Ok ((Z42 (c.1, y2.1.2.1, y2.1.2.2) [(1 : Int), (99 : Int), (100 : Int)]).bind fun y4 => bif decide (y1.2.1.length + [y4.2].length < 68719476736) then some ((c.1, y4.1.2.1, y4.1.2.2), y1.2.1 ++ [y4.2], y1.2.2) else none) (fun r => Cu code r.1 ∧ r.2.1.length ≤ 4) :=
   (int_ok (hc.re h2.1) (by decide)).bind fun y3 h3 => Ok.chk (app1 (Nat.le_trans h1.2 (by decide))) (Ok.ret ⟨hc.re h3.1, by show (y1.2.1 ++ [y3.2]).length ≤ 4; rw [len1]; have := h1.2; omega⟩)
  simp only [both_eq]
  exact one
 ·exact Ok.ret ⟨hc.re h2.1, by show ([] : List Int).length ≤ 4; decide⟩
 ·exact Ok.ret ⟨hc.re h2.1, Nat.le_succ_of_le h1.2⟩
theorem l1New_l {code : List Int} (hl : code.length ≤ 1050000) : ∀ (n i : Nat) (v : Int), code.length - i < n → i ≤ code.length → Ok (Z12.l6 code n v (i : Int)) (Cu code) := by
 intro n
 induction n with
 | zero => intro i v h0; omega
 | succ n ih =>
   intro i v h0 h1
   rw [Z12.u6]
   have ret : ∀ v : Int, Ok (some ((code, (0 : Int), v) : Tl1Cur)) (Cu code) := fun v => Ok.ret ⟨rfl, Int.le_refl 0, by show (0 : Int) ≤ _; omega, hl⟩
   refine Ok.ite (fun h => Ok.ite (fun _ => ?_) fun _ => ret v) fun _ => ret v
   have hlt : i < code.length := by have := of_decide_eq_true h; omega
   unfold Z12.l11
   refine Ok.chk (decide_eq_true (by omega)) (Ok.chk h ?_)
   rw [w64_succ (by omega)]
   exact ih (i + 1) _ (by omega) (by omega)
theorem l1New_ok {code : List Int} (hl : code.length ≤ 1050000) : Ok (Z12 code) (Cu code) :=
 l1New_l hl KK 0 _ (KK_gt (by omega)) (Nat.zero_le _)
def kB (h : THead) : Prop := (Head_Keys h).1.length ≤ 4 ∧ (Head_Heirs h).1.length ≤ 4 ∧ (Head_Judge h).1.length ≤ 4
theorem kB_size {h : THead} (hk : kB h) : sizeHead h ≤ 12 := by
 obtain ⟨h1, h2, h3⟩ := hk
 unfold sizeHead sizeKeys
 omega
def sB (s : TSigned) : Prop := kB (Signed_Head s) ∧ (Signed_Sigs s).length ≤ 8
theorem sB_size {s : TSigned} (hs : sB s) : sizeSigned s ≤ 20 := by
 have h1 := kB_size hs.1
 have h2 := hs.2
 unfold sizeSigned
 omega
theorem signHead_sB {sk : List Int} {k : TKeys} {h : THead} (hh : kB h) (hk : k.1.length ≤ 4) : sB (signHead sk k h) := by
 have := signs_len sk (headInts h) k.1 []
 rw [List.length_nil, Nat.zero_add] at this
 exact ⟨hh, by show (signs sk (headInts h) k.1 []).length ≤ 8; omega⟩
theorem sign_ok {sk : List Int} {k : TKeys} {h : THead} (hh : kB h) (hk : k.1.length ≤ 4) (hs : sk.length ≤ 4) : Ok (Z70 sk k h) sB :=
 Ok.of (sSignHead_v sk k h (by omega) (by omega) (Nat.le_trans (kB_size hh) (by decide))) (signHead_sB hh hk)
theorem l13Head_l {code : List Int} {x0 : Tl1Cur} {a b v1 v2 v25 v26 : Int} {y1 y2 y4 y5 y6 y7 : Tl1Cur × Int} {y8 : Tl1Cur × List Int × Int} {l : List Int} (hc : Cu code (x0.1, v1, v2)) (h8 : y8.2.1.length ≤ 3) (hl : l.length ≤ 3) : Ok (Z24.l13 x0 a b y1 y2 y4 y5 y6 y7 y8 v1 v2 v25 v26 l) (fun r => Cu code r.1 ∧ kB r.2) := by
 refine (once_ok hc 2).bind fun y h => Ok.ite (fun _ => ?_) fun _ => Ok.ret ⟨hc.re h, Nat.le_succ_of_le h8, Nat.le_succ_of_le hl, Nat.zero_le _⟩
 exact (l6Keys_ok (hc.re h)).bind fun z hz => (once_ok (hc.re hz.1) 3).bind fun u hu => Ok.ret ⟨hc.re hu, Nat.le_succ_of_le h8, Nat.le_succ_of_le hl, Nat.le_succ_of_le hz.2⟩
theorem l13Head_ok {code : List Int} {c : Tl1Cur} (hc : Cu code c) : Ok (Z24 c) (fun r => Cu code r.1 ∧ kB r.2) := by
 unfold Z24 Z24.b
 simp only [both_eq]
 refine (below_ok hc 50).bind fun y1 h1 => (below_ok (hc.re h1.1) 4).bind fun y2 h2 => (below_ok (hc.re h2.1) 3).bind fun y3 h3 => (below_ok (hc.re h3.1) 40).bind fun y4 h4 => (below_ok (hc.re h4.1) 90).bind fun y5 h5 => (below_ok (hc.re h5.1) 9).bind fun y6 h6 => (below_ok (hc.re h6.1) 5).bind fun y7 h7 => (l6Keys_ok (hc.re h7.1)).bind fun y8 h8 => (below_ok (hc.re h8.1) 60).bind fun y9 h9 => ?_
 refine (once_ok (hc.re h9.1) 2).bind fun y h => Ok.ite (fun _ => ?_) fun _ => l13Head_l (hc.re h) h8.2 (Nat.zero_le _)
 exact (l6Keys_ok (hc.re h)).bind fun z hz => (below_ok (hc.re hz.1) 30).bind fun u hu => l13Head_l (hc.re hu.1) h8.2 hz.2
theorem l13Any_ok {code : List Int} {c : Tl1Cur} (hc : Cu code c) : Ok (Z106 c) (fun r => Cu code r.1 ∧ kB r.2) := by
 unfold Z106
 refine (l13Head_ok hc).bind fun y1 h1 => (below_ok (hc.re h1.1) 14).bind fun y2 h2 => Ok.ite (fun _ => ?_) fun _ => Ok.ite (fun _ => ?_) fun _ => Ok.ite (fun _ => ?_) fun _ => Ok.ite (fun _ => ?_) fun _ => Ok.ite (fun _ => ?_) fun _ => Ok.ite (fun _ => ?_) fun _ => Ok.ite (fun _ => ?_) fun _ => ?_
 ·exact (int_ok (hc.re h2.1) (by decide)).bind fun y h => Ok.ret ⟨hc.re h.1, h1.2⟩
 ·exact (int_ok (hc.re h2.1) (by decide)).bind fun y h => Ok.ret ⟨hc.re h.1, h1.2⟩
 ·exact (int_ok (hc.re h2.1) (by decide)).bind fun y h => Ok.ret ⟨hc.re h.1, h1.2⟩
 ·exact (l6Any_ok (hc.re h2.1)).bind fun y h => Ok.ret ⟨hc.re h.1, h.2, h1.2.2.1, h1.2.2.2⟩
 ·exact (int_ok (hc.re h2.1) (by decide)).bind fun y h => Ok.ret ⟨hc.re h.1, h1.2⟩
 ·exact Ok.ret ⟨hc.re h2.1, h1.2⟩
 ·exact (l6Any_ok (hc.re h2.1)).bind fun y h => Ok.ret ⟨hc.re h.1, h1.2.1, h1.2.2.1, h.2⟩
 ·exact Ok.ret ⟨hc.re h2.1, h1.2⟩
theorem l6Held_l {code : List Int} {x0 : Tl1Cur} : ∀ (n : Nat) (v a b : Int) (acc : List Int), v < (n : Int) → 0 ≤ v → v ≤ 1000 → acc.length + v.toNat ≤ 1000 → Cu code (x0.1, a, b) → Ok (Z54.l6 x0 n v a b acc) (fun r => Cu code r.1 ∧ r.2.length ≤ acc.length + v.toNat) := by
 intro n
 induction n with
 | zero => intro v a b acc h0 h1; omega
 | succ n ih =>
   intro v a b acc h0 h1 h2 ha hc
   rw [Z54.u6]
   refine Ok.ite (fun h => ?_) (fun h => Ok.ret ⟨hc, by show acc.length ≤ _; omega⟩)
   have h := ge0 h
   refine (below_ok hc 9).bind fun y hy => Ok.chk (app1 (by omega)) ?_
   rw [pred_w h h2]
   refine (ih (v - 1) _ _ _ (by omega) (by omega) (by omega) (by rw [len1]; omega) (hc.re hy.1)).mono fun r hr => ⟨hr.1, ?_⟩
   have := hr.2
   rw [len1] at this
   omega
theorem l6Held_ok {code : List Int} {c : Tl1Cur} (hc : Cu code c) : Ok (Z54 c) (fun r => Cu code r.1 ∧ r.2.length ≤ 6) := by
 unfold Z54
 refine (below_ok hc 6).bind fun y hy => ?_
 obtain ⟨h1, h2, h3, _⟩ := hy
 have h3 := h3 (by omega)
 have hk := KK_gt (n := 1000) (by omega)
 refine (l6Held_l KK y.2 _ _ [] (by omega) (by omega) (by omega) (by show 0 + _ ≤ _; omega) (hc.re h1)).mono fun r hr => ⟨hr.1, ?_⟩
 have : r.2.length ≤ 0 + y.2.toNat := hr.2
 omega
theorem upd_len {α : Type} (xs : List α) (i : Nat) (f : α → α) : (V.upd xs i f).length = xs.length := by
 induction xs generalizing i with
 | nil => rfl
 | cons x xs ih =>
   cases i with
   | zero => rfl
   | succ i => show (V.upd xs i f).length + 1 = xs.length + 1; rw [ih]
theorem l7Sigs_l {code : List Int} {x0 : Tl1Cur} {v1 v2 : Int} {s : List TSig} (hc : Cu code (x0.1, v1, v2)) (hs : s.length ≤ 4) : Ok (Z0.l5 x0 v1 v2 s) (fun r => Cu code r.1 ∧ r.2.length ≤ 8) := by
 refine (below_ok hc 6).bind fun y3 h3 => Ok.ite (fun _ => ?_) fun _ => Ok.ite (fun _ => ?_) fun _ => Ok.ite (fun _ => ?_) fun _ => ?_
 ·exact (int_ok (hc.re h3.1) (by decide)).bind fun y4 h4 => (below_ok (hc.re h4.1) 9).bind fun y5 h5 => Ok.chk (app1 (by omega)) (Ok.ret ⟨hc.re h5.1, by show (s ++ [_]).length ≤ 8; rw [len1]; omega⟩)
 ·exact Ok.chk (decide_eq_true (by omega)) (Ok.ret ⟨hc.re h3.1, by show (s ++ s).length ≤ 8; rw [List.length_append]; omega⟩)
 ·refine Ok.ite (fun h => ?_) fun _ => Ok.ret ⟨hc.re h3.1, by show s.length ≤ 8; omega⟩
  exact Ok.chk (by decide) (Ok.chk h (Ok.chk (by decide) (Ok.chk h (Ok.ret ⟨hc.re h3.1, by show (V.upd s _ _).length ≤ 8; rw [upd_len]; omega⟩))))
 ·exact Ok.ret ⟨hc.re h3.1, by show s.length ≤ 8; omega⟩
theorem l7Sigs_ok {code : List Int} {c : Tl1Cur} (hc : Cu code c) {k : TKeys} {m : List Int} (hk : k.1.length ≤ 4) (hm : m.length ≤ 8388608) : Ok (Z0 c k m) (fun r => Cu code r.1 ∧ r.2.length ≤ 8) := by
 unfold Z0 Z0.b
 simp only [both_eq]
 refine (l6Held_ok hc).bind fun y hy => Ok.bind (P := fun s => s.length ≤ 4) ?_ fun s hs => l7Sigs_l (hc.re hy.1) hs
 have hl := hy.2
 refine Ok.of (sSignBy_v y.2 k m (by omega) (by omega) hm) ?_
 have := signs_len y.2 m k.1 []
 rw [List.length_nil, Nat.zero_add] at this
 omega
theorem l14First_l {code : List Int} {x0 : Tl1Cur} {v18 v19 v20 v21 v22 v23 v24 v25 v26 v1 v2 v27 v28 v29 : Int} {b : Bool} {l1 l2 l3 : List Int} {y1 : Tl1Cur × List Int × Int} (hc : Cu code (x0.1, v1, v2)) (h1 : y1.2.1.length ≤ 3) (hl1 : l1.length ≤ 4) (hl2 : l2.length ≤ 4) (hl3 : l3.length ≤ 4) : Ok (Z21.l25 x0 v18 v19 v20 v21 v22 v23 v24 v25 v26 b l1 y1 v1 v2 v27 v28 v29 l2 l3) (fun r => Cu code r.1 ∧ sB r.2) := by
 refine (sign_ok ?_ ?_ ?_).bind fun y hy => Ok.ret ⟨hc, hy⟩
 ·exact ⟨hl1, hl2, hl3⟩
 ·exact Nat.le_succ_of_le h1
 ·exact Nat.le_succ_of_le h1
theorem firstHead_kB {k : TKeys} {s : Int} {xs : List TEntry} {now term : Int} (hk : k.1.length ≤ 3) : kB (RHeadBool_r0 (firstHead k s xs now term)) := by
 unfold firstHead
 cases firstG k s xs now term with
 | true => exact ⟨Nat.le_succ_of_le hk, Nat.zero_le _, Nat.zero_le _⟩
 | false => exact ⟨Nat.zero_le _, Nat.zero_le _, Nat.zero_le _⟩
theorem l14First_ok {code : List Int} {c : Tl1Cur} (hc : Cu code c) : Ok (Z21 c) (fun r => Cu code r.1 ∧ sB r.2) := by
 unfold Z21 Z21.b
 simp only [both_eq]
 refine (l6Keys_ok hc).bind fun y1 h1 => (below_ok (hc.re h1.1) 9).bind fun y2 h2 => (l9List_ok (hc.re h2.1)).bind fun y3 h3 => (below_ok (hc.re h3.1) 40).bind fun y4 h4 => (below_ok (hc.re h4.1) 60).bind fun y5 h5 => Ok.bind (P := fun y => kB (RHeadBool_r0 y)) ?_ fun y6 h6 => ?_
 ·have hx := h3.2
  have hk := h1.2
  exact Ok.of (sFirstHead_v y1.2 y2.2 y3.2 y4.2 y5.2 (by show y1.2.1.length ≤ _; omega) (by omega)) (firstHead_kB h1.2)
 ·refine (below_ok (hc.re h5.1) 4).bind fun y7 h7 => Ok.ite (fun _ => ?_) fun _ => Ok.ite (fun _ => ?_) fun _ => l14First_l (hc.re h7.1) h1.2 h6.1 h6.2.1 h6.2.2
  ·exact (l6Keys_ok (hc.re h7.1)).bind fun y8 h8 => (below_ok (hc.re h8.1) 30).bind fun y9 h9 => l14First_l (hc.re h9.1) h1.2 h6.1 (Nat.le_succ_of_le h8.2) h6.2.2
  ·exact (l6Keys_ok (hc.re h7.1)).bind fun y8 h8 => l14First_l (hc.re h8.1) h1.2 h6.1 h6.2.1 (Nat.le_succ_of_le h8.2)
theorem l14Any_ok {code : List Int} {c : Tl1Cur} (hc : Cu code c) : Ok (Z153 c) (fun r => Cu code r.1 ∧ sB r.2) := by
 unfold Z153
 refine (l14First_ok hc).bind fun y1 h1 => (below_ok (hc.re h1.1) 8).bind fun y2 h2 => Ok.ite (fun _ => ?_) fun _ => Ok.ite (fun _ => ?_) fun _ => Ok.ite (fun _ => ?_) fun _ => ?_
 ·exact (l13Any_ok (hc.re h2.1)).bind fun y3 h3 => Ok.ret ⟨hc.re h3.1, h3.2, h1.2.2⟩
 ·refine Ok.bind (P := fun m => m.length ≤ 8388608) ?_ fun m hm => (l7Sigs_ok (hc.re h2.1) (show _ ≤ 4 from h1.2.1.1) hm).bind fun y5 h5 => Ok.ret ⟨hc.re h5.1, h1.2.1, h5.2⟩
  have hz := kB_size h1.2.1
  have hm : (headInts (Signed_Head y1.2)).length ≤ 8388608 := by rw [headInts_len]; omega
  exact Ok.of (sHeadInts_v _ (Nat.le_trans hz (by decide))) hm
 ·refine (sign_ok ?_ ?_ ?_).bind fun y6 h6 => Ok.ret ⟨hc.re h2.1, h6⟩
  ·exact h1.2.1
  ·exact h1.2.1.1
  ·exact h1.2.1.1
 ·exact Ok.ret ⟨hc.re h2.1, h1.2⟩
theorem next63 {code : List Int} {x0 : Tl1Cur} {a b v1 v2 v18 v19 v20 v21 v22 v24 v25 v26 v27 v33 : Int} {h : THead} {f : Bool} {l1 l2 l3 l4 : List Int} (hc : Cu code (x0.1, v1, v2)) (h1 : l1.length ≤ 4) (h2 : l2.length ≤ 4) (h3 : l3.length ≤ 4) (h4 : l4.length ≤ 4) : Ok (Z1.l63 x0 a h b v1 v2 v18 v19 v20 v21 v22 v24 v25 v26 v27 f l1 l2 l3 l4 v33) (fun r => Cu code r.1 ∧ sB r.2) := by
 refine (sign_ok ?_ ?_ ?_).bind fun y hy => Ok.ret ⟨hc, hy⟩
 ·exact ⟨h1, h2, h3⟩
 ·exact h4
 ·exact h4
theorem next27 {code : List Int} {x0 : Tl1Cur} {x1 y1 : THead} {a b v1 v2 v35 v36 : Int} (hc : Cu code (x0.1, v1, v2)) (hx : kB x1) (hy : kB y1) : Ok (Z1.l27 x0 x1 a v35 y1 b v1 v2 v36) (fun r => Cu code r.1 ∧ sB r.2) := by
 refine Ok.bind (P := fun k => k = Head_Heirs x1) (Ok.of (l6Copy_v _ (by have := hx.2.1; omega)) rfl) fun k hk => ?_
 subst hk
 exact next63 hc hx.2.1 hy.2.1 hy.2.2 hx.2.1
theorem next25 {code : List Int} {x0 : Tl1Cur} {x1 y1 : THead} {a b v1 v2 v35 v36 : Int} (hc : Cu code (x0.1, v1, v2)) (hx : kB x1) (hy : kB y1) : Ok (Z1.l25 x0 x1 a v36 y1 b v1 v2 v35) (fun r => Cu code r.1 ∧ sB r.2) := by
 unfold Z1.l25 Z1.g25
 simp only [both_eq]
 exact (below_ok hc 60).bind fun y h => next27 (hc.re h.1) hx hy
theorem next41 {code : List Int} {x0 : Tl1Cur} {x1 y1 : THead} {a b v1 v2 v35 v36 : Int} {f g : Bool} (hc : Cu code (x0.1, v1, v2)) (hx : kB x1) (hy : kB y1) : Ok (Z1.l41 x0 x1 a v35 v36 y1 b f v1 v2 g) (fun r => Cu code r.1 ∧ sB r.2) :=
 Ok.ite (fun _ => (l6Keys_ok hc).bind fun y h => next63 (hc.re h.1) (Nat.le_succ_of_le h.2) hy.2.1 hy.2.2 hx.2.2) fun _ => next63 hc hy.1 hy.2.1 hy.2.2 hx.2.2
theorem next13 {code : List Int} {x0 : Tl1Cur} {x1 y1 : THead} {a b v1 v2 v35 v36 : Int} (hc : Cu code (x0.1, v1, v2)) (hx : kB x1) (hy : kB y1) : Ok (Z1.l13 x0 x1 a v35 y1 b v1 v2 v36) (fun r => Cu code r.1 ∧ sB r.2) := by
 unfold Z1.l13 Z1.g13
 simp only [both_eq]
 refine (below_ok hc 6).bind fun y5 h5 => Ok.ite (fun _ => ?_) fun _ => Ok.ite (fun _ => Ok.ite (fun _ => ?_) fun _ => ?_) fun _ => Ok.ite (fun _ => ?_) fun _ => Ok.ite (fun _ => ?_) fun _ => Ok.ite (fun _ => ?_) fun _ => ?_
 ·exact (below_ok (hc.re h5.1) 3).bind fun y h => next25 (hc.re h.1) hx hy
 ·exact (once_ok (hc.re h5.1) 2).bind fun y h => next41 (hc.re h) hx hy
 ·exact next41 (hc.re h5.1) hx hy
 ·exact (l6Keys_ok (hc.re h5.1)).bind fun y h => next63 (hc.re h.1) (Nat.le_succ_of_le h.2) hy.2.1 hy.2.2 hx.1
 ·refine (l9List_ok (hc.re h5.1)).bind fun y h => Ok.bind (P := fun _ => True) (Ok.of (sRoot_v _ (by have := h.2; omega)) trivial) fun z _ => next63 (hc.re h.1) hy.1 hy.2.1 hy.2.2 hx.1
 ·exact (l6Keys_ok (hc.re h5.1)).bind fun y h => (below_ok (hc.re h.1) 20).bind fun z hz => (l6Keys_ok (hc.re hz.1)).bind fun u hu => next63 (hc.re hu.1) hy.1 (Nat.le_succ_of_le h.2) (Nat.le_succ_of_le hu.2) hx.1
 ·exact next63 (hc.re h5.1) hy.1 hy.2.1 hy.2.2 hx.1
theorem next_ok {code : List Int} {c : Tl1Cur} (hc : Cu code c) {p : THead} (hp : kB p) : Ok (Z1 c p) (fun r => Cu code r.1 ∧ sB r.2) := by
 have hz := kB_size hp
 unfold Z1 Z1.b
 simp only [both_eq]
 refine Ok.bind (P := fun h => h = p) (Ok.of (l13Copy_v p (by omega)) rfl) fun h hh => ?_
 subst hh
 refine Ok.bind (P := fun _ => True) (Ok.of (sHeadDigest_v h (by omega)) trivial) fun d _ => (below_ok hc 40).bind fun y3 h3 => ?_
 unfold Z1.l11 Z1.g11
 simp only [both_eq]
 exact (below_ok (hc.re h3.1) 60).bind fun y4 h4 => next13 (hc.re h4.1) hp hp
def lB (xs : List TSigned) : Prop := ∀ s ∈ xs, sB s
theorem lB_size : ∀ {xs : List TSigned}, lB xs → sizeSignedS xs ≤ 21 * xs.length
 | [], _ => Nat.le_refl _
 | s :: xs, h => by
   have ih := lB_size (xs := xs) fun t ht => h t (List.mem_cons_of_mem _ ht)
   have hs := sB_size (h s (List.mem_cons_self ..))
   unfold sizeSignedS sizeS at ih ⊢
   simp only [List.map_cons, List.sum_cons, List.length_cons]
   omega
theorem lB_app {xs : List TSigned} {s : TSigned} (h : lB xs) (hs : sB s) : lB (xs ++ [s]) := by
 intro t ht
 rcases List.mem_append.1 ht with ht | ht
 ·exact h t ht
 ·rw [List.mem_singleton.1 ht]; exact hs
theorem ext_or (xs : List TSigned) (s : TSigned) : (ext xs s).1 = xs ∨ (ext xs s).1 = xs ++ [s] := by
 unfold ext ext2
 cases (!isChain xs || decide ((xs.length : Int) ≥ (12 : Int))) with
 | true => exact .inl rfl
 | false =>
   cases nextCode (Signed_Head (lastS xs)) s != (1 : Int) with
   | true => exact .inl rfl
   | false => exact .inr rfl
theorem ext_lB {xs : List TSigned} {s : TSigned} (h : lB xs) (hs : sB s) : lB (ext xs s).1 ∧ xs.length ≤ (ext xs s).1.length ∧ (ext xs s).1.length ≤ xs.length + 1 := by
 rcases ext_or xs s with e | e <;> rw [e]
 ·exact ⟨h, Nat.le_refl _, Nat.le_succ _⟩
 ·exact ⟨lB_app h hs, by rw [len1]; omega, by rw [len1]; omega⟩
theorem dSigned_sB : sB dSigned := ⟨⟨Nat.zero_le _, Nat.zero_le _, Nat.zero_le _⟩, Nat.zero_le _⟩
theorem lB_getD {xs : List TSigned} (h : lB xs) (i : Nat) : sB (xs.getD i dSigned) := by
 by_cases hi : i < xs.length
 ·rw [at_n hi]; exact h _ (List.getElem_mem _)
 ·have e : xs.getD i dSigned = dSigned := by simp [List.getD, show xs.length ≤ i by omega]
  rw [e]; exact dSigned_sB
theorem l16Chain_l {code : List Int} {x0 : Tl1Cur} : ∀ (n : Nat) (v a b : Int) (xs : List TSigned), v < (n : Int) → 0 ≤ v → v ≤ 1000 → 1 ≤ xs.length → xs.length + v.toNat ≤ 1000 → lB xs → Cu code (x0.1, a, b) → Ok (Z45.l6 x0 n v a b xs) (fun r => Cu code r.1 ∧ lB r.2 ∧ 1 ≤ r.2.length ∧ r.2.length ≤ xs.length + v.toNat) := by
 intro n
 induction n with
 | zero => intro v a b xs h0 h1; omega
 | succ n ih =>
   intro v a b xs h0 h1 h2 hx ha hl hc
   rw [Z45.u6]
   refine Ok.ite (fun h => ?_) (fun h => Ok.ret ⟨hc, hl, hx, by show xs.length ≤ _; omega⟩)
   have h := ge0 h
   have e : IntKind.i64.wrap ((xs.length : Int) - (1 : Int)) = (xs.length : Int) - 1 := w64 (by omega) (by omega)
   rw [e]
   refine Ok.chk (decide_eq_true (by omega)) (Ok.chk (decide_eq_true (by omega)) ?_)
   refine (next_ok hc (lB_getD hl _).1).bind fun y hy => Ok.bind (P := fun z => z = ext xs y.2) (Ok.of (sExtend_v xs y.2 ?_ ?_) rfl) fun z hz => ?_
   ·have := lB_size hl; omega
   ·have := sB_size hy.2; omega
   ·subst hz
    rw [pred_w h h2]
    obtain ⟨k1, k2, k3⟩ := ext_lB hl hy.2
    refine (ih (v - 1) _ _ (ext xs y.2).1 (by omega) (by omega) (by omega) (by omega) (by omega) k1 (hc.re hy.1)).mono fun r hr => ⟨hr.1, hr.2.1, hr.2.2.1, ?_⟩
    have := hr.2.2.2
    omega
theorem l16Chain_ok {code : List Int} {c : Tl1Cur} (hc : Cu code c) : Ok (Z45 c) (fun r => Cu code r.1 ∧ lB r.2 ∧ 1 ≤ r.2.length ∧ r.2.length ≤ 5) := by
 unfold Z45
 refine (l14First_ok hc).bind fun y1 h1 => (below_ok (hc.re h1.1) 5).bind fun y hy => ?_
 obtain ⟨k1, k2, k3, _⟩ := hy
 have k3 := k3 (by omega)
 have hk := KK_gt (n := 1000) (by omega)
 refine (l16Chain_l KK y.2 _ _ [y1.2] (by omega) (by omega) (by omega) (Nat.le_refl 1) (by show 1 + _ ≤ _; omega) (fun s hs => by rw [List.mem_singleton.1 hs]; exact h1.2) (hc.re k1)).mono fun r hr => ⟨hr.1, hr.2.1, hr.2.2.1, ?_⟩
 have : r.2.length ≤ 1 + y.2.toNat := hr.2.2.2
 omega
theorem lB_upd {xs : List TSigned} (h : lB xs) (f : TSigned → TSigned) (hf : ∀ s, sB s → sB (f s)) (i : Nat) : lB (V.upd xs i f) := by
 induction xs generalizing i with
 | nil => exact h
 | cons x xs ih =>
   cases i with
   | zero =>
     intro s hs
     rcases List.mem_cons.1 (show s ∈ f x :: xs from hs) with rfl | hs
     ·exact hf x (h x (List.mem_cons_self ..))
     ·exact h s (List.mem_cons_of_mem _ hs)
   | succ i =>
     intro s hs
     rcases List.mem_cons.1 (show s ∈ x :: V.upd xs i f from hs) with rfl | hs
     ·exact h s (List.mem_cons_self ..)
     ·exact ih (fun t ht => h t (List.mem_cons_of_mem _ ht)) i s hs
theorem l16Any_ok {code : List Int} {c : Tl1Cur} (hc : Cu code c) : Ok (Z110 c) (fun r => Cu code r.1 ∧ lB r.2 ∧ r.2.length ≤ 6) := by
 unfold Z110
 refine (l16Chain_ok hc).bind fun y1 h1 => (below_ok (hc.re h1.1) 10).bind fun y2 h2 => ?_
 obtain ⟨_, hl, k1, k2⟩ := h1
 have e : IntKind.i64.wrap ((y1.2.length : Int) - (1 : Int)) = (y1.2.length : Int) - 1 := w64 (by omega) (by omega)
 refine Ok.ite (fun _ => ?_) fun _ => Ok.ite (fun _ => ?_) fun _ => Ok.ite (fun _ => ?_) fun _ => Ok.ite (fun _ => ?_) fun _ => ?_
 ·rw [e]
  exact Ok.chk (by decide) (Ok.chk (decide_eq_true (by omega)) (Ok.chk (decide_eq_true (by omega)) (Ok.ret ⟨hc.re h2.1, fun s hs => hl s (List.mem_of_mem_take hs), by show (y1.2.take _).length ≤ 6; rw [List.length_take]; omega⟩)))
 ·exact (l14Any_ok (hc.re h2.1)).bind fun y3 h3 => Ok.chk (app1 (by omega)) (Ok.ret ⟨hc.re h3.1, lB_app hl h3.2, by show (y1.2 ++ [y3.2]).length ≤ 6; rw [len1]; omega⟩)
 ·have hp : decide ((0 : Int) < (y1.2.length : Int)) = true := decide_eq_true (by omega)
  exact Ok.chk (by decide) (Ok.chk hp (Ok.chk (by decide) (Ok.chk hp (Ok.ret ⟨hc.re h2.1, by refine lB_upd hl _ ?_ _; intro s hs; exact hs, by show (V.upd y1.2 _ _).length ≤ 6; rw [upd_len]; omega⟩))))
 ·exact Ok.chk (by decide) (Ok.chk (decide_eq_true (by omega)) (Ok.chk (decide_eq_true (by omega)) (Ok.ret ⟨hc.re h2.1, fun s hs => hl s (List.mem_of_mem_drop hs), by show (y1.2.drop _).length ≤ 6; rw [List.length_drop]; omega⟩)))
 ·exact Ok.ret ⟨hc.re h2.1, hl, by show y1.2.length ≤ 6; omega⟩
theorem lBs {xs : List TSigned} (h : lB xs) (hl : xs.length ≤ 100) : sizeSignedS xs ≤ 1050000 := by have := lB_size h; omega
theorem l18_l {code : List Int} {x0 : Tl1Cur} {y1 : Tl1Cur × List TSigned} (h1 : lB y1.2) (hn : 1 ≤ y1.2.length ∧ y1.2.length ≤ 5) : ∀ (n : Nat) (v a b : Int) (xs : List TSigned), v < (n : Int) → 0 ≤ v → v ≤ 1000 → 1 ≤ xs.length → xs.length + v.toNat ≤ 20 → lB xs → Cu code (x0.1, a, b) →
 Ok (Z8.l8 x0 y1 n v a b xs) (fun r => Cu code r.1 ∧ (lB r.2.1 ∧ 1 ≤ r.2.1.length ∧ r.2.1.length ≤ 5) ∧ lB r.2.2 ∧ 1 ≤ r.2.2.length ∧ r.2.2.length ≤ 20) := by
 intro n
 induction n with
 | zero => intro v a b xs h0 h1; omega
 | succ n ih =>
   intro v a b xs g0 g1 g2 hx ha hl hc
   rw [Z8.u8]
   refine Ok.ite (fun h => ?_) (fun h => ?_)
   ·have h := ge0 h
    have e : IntKind.i64.wrap ((xs.length : Int) - (1 : Int)) = (xs.length : Int) - 1 := w64 (by omega) (by omega)
    rw [e]
    refine Ok.chk (decide_eq_true (by omega)) (Ok.chk (decide_eq_true (by omega)) ?_)
    refine (next_ok hc (lB_getD hl _).1).bind fun y hy => Ok.bind (P := fun z => z = ext xs y.2) (Ok.of (sExtend_v xs y.2 ?_ ?_) rfl) fun z hz => ?_
    ·have := lB_size hl; omega
    ·have := sB_size hy.2; omega
    ·subst hz
     rw [pred_w h g2]
     obtain ⟨k1, k2, k3⟩ := ext_lB hl hy.2
     exact ih (v - 1) _ _ (ext xs y.2).1 (by omega) (by omega) (by omega) (by omega) (by omega) k1 (hc.re hy.1)
   ·refine (once_ok hc 5).bind fun y hy => Ok.ite (fun _ => ?_) fun _ => Ok.ret ⟨hc.re hy, ⟨h1, hn⟩, hl, hx, by show xs.length ≤ 20; omega⟩
    refine Ok.chk (by decide) (Ok.chk (decide_eq_true (by omega)) ?_)
    have hs := lB_getD h1 ((0 : Int).toNat)
    have hz := sB_size hs
    refine Ok.bind (P := fun s => sB s) (Ok.of (l14Copy_v _ (by omega)) hs) fun s hs => ?_
    refine Ok.bind (P := sB) ?_ fun u hu => Ok.ret ⟨hc.re hy, ⟨h1, hn⟩, fun t ht => by rw [List.mem_singleton.1 ht]; exact hu, by show 1 ≤ [u].length; simp, by show [u].length ≤ 20; simp⟩
    refine sign_ok ?_ hs.1.1 hs.1.1
    exact ⟨hs.1.1, hs.1.2.1, hs.1.2.2⟩
theorem l18Two_ok {code : List Int} {c : Tl1Cur} (hc : Cu code c) : Ok (Z8 c) (fun r => Cu code r.1 ∧ (lB r.2.1 ∧ 1 ≤ r.2.1.length ∧ r.2.1.length ≤ 5) ∧ lB r.2.2 ∧ 1 ≤ r.2.2.length ∧ r.2.2.length ≤ 20) := by
 unfold Z8
 refine (l16Chain_ok hc).bind fun y1 h1 => (below_ok (hc.re h1.1) _).bind fun y2 h2 => ?_
 obtain ⟨_, hl, k1, k2⟩ := h1
 obtain ⟨h2a, h2b, h2c, _⟩ := h2
 have h2c := h2c (by omega)
 have e : IntKind.i64.wrap ((1 : Int) + y2.2) = 1 + y2.2 := w64 (by omega) (by omega)
 rw [e]
 refine Ok.chk (by decide) (Ok.chk (decide_eq_true (by omega)) (Ok.chk (decide_eq_true (by omega)) ?_))
 have ht : lB (y1.2.take (1 + y2.2).toNat) := fun s hs => hl s (List.mem_of_mem_take hs)
 have hlt : (y1.2.take (1 + y2.2).toNat).length ≤ 5 ∧ 1 ≤ (y1.2.take (1 + y2.2).toNat).length := by rw [List.length_take]; omega
 have hz := lB_size ht
 refine Ok.bind (P := fun xs => xs = y1.2.take (1 + y2.2).toNat) (Ok.of (l16Copy_v _ (by omega)) rfl) fun xs hxs => ?_
 subst hxs
 refine (below_ok (hc.re h2a) 3).bind fun y4 h4 => ?_
 obtain ⟨h4a, h4b, h4c, _⟩ := h4
 have h4c := h4c (by omega)
 have hk := KK_gt (n := 1000) (by omega)
 exact l18_l hl ⟨k1, k2⟩ KK y4.2 _ _ _ (by omega) (by omega) (by omega) hlt.2 (by omega) ht (hc.re h4a)
theorem confirmM_len (w : TWitness) (xs : List TSigned) (hw : w.2.length ≤ 41) : (RWitnessSigBool_r0 (confirmM w xs)).2.length ≤ 41 := by
 unfold confirmM
 cases (isWit w && (isChain xs && !against w xs)) with
 | false => exact hw
 | true =>
   rw [cond_t]
   unfold confEnd
   by_cases h : ((newMarks w xs).length : Int) > 40
   ·rw [decide_eq_true h, cond_t]; exact hw
   ·rw [decide_eq_false h, cond_f]
    show (newMarks w xs).length ≤ 41
    omega
theorem l19W_l {code : List Int} {x0 : Tl1Cur} {a b : List TSigned} (ha : lB a) (hb : lB b) (hla : 1 ≤ a.length ∧ a.length ≤ 20) (hlb : 1 ≤ b.length ∧ b.length ≤ 20) : ∀ (n : Nat) (v i j k : Int) (ms : List TMark), v < (n : Int) → 0 ≤ v → v ≤ 1000 → ms.length ≤ 41 → Cu code (x0.1, i, j) →
 Ok (Z14.l6 x0 a b n v i j k ms) (fun r => Cu code r.1 ∧ r.2.2.length ≤ 41) := by
 intro n
 induction n with
 | zero => intro v i j k ms h0 h1; omega
 | succ n ih =>
   intro v i j k ms g0 g1 g2 hm hc
   rw [Z14.u6]
   refine Ok.ite (fun h => ?_) (fun h => Ok.ret ⟨hc, hm⟩)
   have h := ge0 h
   have half : ∀ (l : List TSigned), lB l → 1 ≤ l.length ∧ l.length ≤ 20 → ∀ y : Tl1Cur × Bool, Cu code y.1 → Ok (Z14.l17 x0 a b v k ms y (Z14.l6 x0 a b n) l) (fun r => Cu code r.1 ∧ r.2.2.length ≤ 41) := by
    intro l hl hn y hy
    unfold Z14.l17 Z14.g17
    simp only [both_eq]
    refine (below_ok (hc.re hy) _).bind fun u hu => ?_
    obtain ⟨u1, u2, u3, _⟩ := hu
    have u3 := u3 (by omega)
    have e : IntKind.i64.wrap ((1 : Int) + u.2) = 1 + u.2 := w64 (by omega) (by omega)
    rw [e]
    refine Ok.chk (by decide) (Ok.chk (decide_eq_true (by omega)) (Ok.chk (decide_eq_true (by omega)) ?_))
    have ht : lB (l.take (1 + u.2).toNat) := fun s hs => hl s (List.mem_of_mem_take hs)
    have hz := lB_size ht
    have hq : (l.take (1 + u.2).toNat).length ≤ 20 := by rw [List.length_take]; omega
    refine Ok.bind (P := fun z => z = confirmM (k, ms) (l.take (1 + u.2).toNat)) (Ok.of (sConfirm_v _ _ (by show ms.length ≤ _; omega) (by omega)) rfl) fun z hz => ?_
    subst hz
    rw [pred_w h g2]
    exact ih (v - 1) _ _ _ _ (by omega) (by omega) (by omega) (confirmM_len (k, ms) _ hm) (hc.re u1)
   exact (once_ok hc 2).bind fun y hy => Ok.ite (fun _ => half b hb hlb y hy) fun _ => half a ha hla y hy
theorem l19W_ok {code : List Int} {c : Tl1Cur} (hc : Cu code c) {a b : List TSigned} (ha : lB a) (hb : lB b) (hla : 1 ≤ a.length ∧ a.length ≤ 20) (hlb : 1 ≤ b.length ∧ b.length ≤ 20) : Ok (Z14 c a b) (fun r => Cu code r.1 ∧ r.2.2.length ≤ 41) := by
 unfold Z14
 refine (below_ok hc 9).bind fun y1 h1 => (below_ok (hc.re h1.1) 3).bind fun y2 h2 => ?_
 obtain ⟨k1, k2, k3, _⟩ := h2
 have k3 := k3 (by omega)
 have hk := KK_gt (n := 1000) (by omega)
 exact l19W_l ha hb hla hlb KK y2.2 _ _ _ [] (by omega) (by omega) (by omega) (by decide) (hc.re k1)
theorem l19A_l {code : List Int} {x0 : Tl1Cur} {y2 : Tl1Cur × Int × List TMark} {y3 : Tl1Cur × Int} (hc : Cu code x0) (hy : Cu code y3.1) : ∀ (n : Nat) (v : Int) (ms : List TMark), 40 - v < (n : Int) → 0 ≤ v → (ms.length : Int) ≤ v ∨ ms.length ≤ 41 ∧ 40 ≤ v → v ≤ 41 → ms.length ≤ 41 → 0 < n → Ok (Z53.l20 x0 y2 y3 n v ms) (fun r => Cu code r.1 ∧ r.2.2.length ≤ 41) := by
 intro n
 induction n with
 | zero => intro v ms h0 h1 h2 h3 h4 h5; omega
 | succ n ih =>
   intro v ms h0 h1 h2 h3 h4 _
   rw [Z53.u20]
   refine Ok.ite (fun h => ?_) (fun _ => Ok.ret ⟨hc.re hy, h4⟩)
   have h := of_decide_eq_true h
   refine Ok.chk (app1 (by omega)) ?_
   rw [show IntKind.i64.wrap (v + (1 : Int)) = v + 1 from w64 (by omega) (by omega)]
   exact ih (v + 1) _ (by omega) (by omega) (by rw [len1]; omega) (by omega) (by rw [len1]; omega) (by omega)
theorem l19Any_ok {code : List Int} {c : Tl1Cur} (hc : Cu code c) : Ok (Z53 c) (fun r => Cu code r.1 ∧ r.2.2.length ≤ 42) := by
 unfold Z53 Z53.b
 simp only [both_eq]
 refine (l18Two_ok hc).bind fun y1 h1 => (l19W_ok (hc.re h1.1) h1.2.1.1 h1.2.2.1 ⟨h1.2.1.2.1, by have := h1.2.1.2.2; omega⟩ h1.2.2.2).bind fun y2 h2 => (below_ok (hc.re h2.1) 8).bind fun y3 h3 => Ok.ite (fun _ => ?_) fun _ => Ok.ite (fun _ => ?_) fun _ => Ok.ite (fun _ => ?_) fun _ => ?_
 ·exact (int_ok (hc.re h3.1) (by decide)).bind fun y4 h4 => Ok.ret ⟨hc.re h4.1, Nat.le_succ_of_le h2.2⟩
 ·exact (int_ok (hc.re h3.1) (by decide)).bind fun y4 h4 => (int_ok (hc.re h4.1) (by decide)).bind fun y5 h5 => Ok.chk (app1 (Nat.le_trans h2.2 (by decide))) (Ok.ret ⟨hc.re h5.1, by show (y2.2.2 ++ [_]).length ≤ 42; rw [len1]; have := h2.2; omega⟩)
 ·have hk := KK_gt (n := 1000) (by omega)
  have h2 := h2.2
  exact (l19A_l hc h3.1 KK (y2.2.2.length : Int) y2.2.2 (by omega) (by omega) (.inl (Int.le_refl _)) (by omega) h2 (by omega)).mono fun r hr => ⟨hr.1, Nat.le_succ_of_le hr.2⟩
 ·exact Ok.ret ⟨hc.re h3.1, Nat.le_succ_of_le h2.2⟩
theorem drawConfirm_ok {code : List Int} (hl : code.length ≤ 1050000) : Ok (Z143 code) (fun r => (RWitnessList_r0 r).2.length ≤ 42 ∧ lB (RWitnessList_r1 r) ∧ (RWitnessList_r1 r).length ≤ 20) := by
 unfold Z143
 simp only [both_eq]
 refine (l1New_ok hl).bind fun c hc => (l18Two_ok hc).bind fun y2 h2 => (l19W_ok (hc.re h2.1) h2.2.1.1 h2.2.2.1 ⟨h2.2.1.2.1, by have := h2.2.1.2.2; omega⟩ h2.2.2.2).bind fun y3 h3 => (below_ok (hc.re h3.1) 8).bind fun y4 h4 => Ok.ite (fun _ => ?_) fun _ => Ok.ite (fun _ => ?_) fun _ => Ok.ite (fun _ => ?_) fun _ => ?_
 ·exact (l19Any_ok (hc.re h4.1)).bind fun y5 h5 => Ok.ret ⟨h5.2, h2.2.1.1, Nat.le_trans h2.2.1.2.2 (by decide)⟩
 ·exact (l16Any_ok (hc.re h4.1)).bind fun y5 h5 => Ok.ret ⟨Nat.le_succ_of_le h3.2, h5.2.1, Nat.le_trans h5.2.2 (by decide)⟩
 ·exact Ok.ret ⟨Nat.le_succ_of_le h3.2, h2.2.2.1, h2.2.2.2.2⟩
 ·exact Ok.ret ⟨Nat.le_succ_of_le h3.2, h2.2.1.1, Nat.le_trans h2.2.1.2.2 (by decide)⟩
theorem drawForkIn_ok {code : List Int} (hl : code.length ≤ 1050000) : Ok (Z145 code) (fun r => (lB r.1 ∧ r.1.length ≤ 20) ∧ lB r.2 ∧ r.2.length ≤ 20) := by
 unfold Z145
 refine (l1New_ok hl).bind fun c hc => (l18Two_ok hc).bind fun y2 h2 => (below_ok (hc.re h2.1) 8).bind fun y3 h3 => Ok.ite (fun _ => ?_) fun _ => Ok.ite (fun _ => ?_) fun _ => ?_
 ·exact (l16Any_ok (hc.re h3.1)).bind fun y4 h4 => Ok.ret ⟨⟨h2.2.1.1, Nat.le_trans h2.2.1.2.2 (by decide)⟩, h4.2.1, Nat.le_trans h4.2.2 (by decide)⟩
 ·exact (l16Any_ok (hc.re h3.1)).bind fun y4 h4 => Ok.ret ⟨⟨h4.2.1, Nat.le_trans h4.2.2 (by decide)⟩, h2.2.2.1, h2.2.2.2.2⟩
 ·exact Ok.ret ⟨⟨h2.2.1.1, Nat.le_trans h2.2.1.2.2 (by decide)⟩, h2.2.2.1, h2.2.2.2.2⟩
theorem drawCC_ok {code : List Int} (hl : code.length ≤ 1050000) : Ok (Z144 code) (fun r => (RKeysHeadList_r0 r).1.length ≤ 4 ∧ kB (RKeysHeadList_r1 r) ∧ (RKeysHeadList_r2 r).length ≤ 8) := by
 unfold Z144
 simp only [both_eq]
 refine (l1New_ok hl).bind fun c hc => (l6Any_ok hc).bind fun y2 h2 => (l13Any_ok (hc.re h2.1)).bind fun y3 h3 => ?_
 have hz := kB_size h3.2
 refine Ok.bind (P := fun m => m = markOf y3.2) (Ok.of (sMarkOf_v y3.2 (by omega)) rfl) fun m hm => ?_
 subst hm
 refine Ok.bind (P := fun m => m.length ≤ 8388608) (Ok.of (sMints y3.2) (by show 4 ≤ _; omega)) fun m hm => ?_
 exact (l7Sigs_ok (hc.re h3.1) h2.2 hm).bind fun y6 h6 => Ok.ret ⟨h2.2, h3.2, h6.2⟩
theorem drawMI_ok {code : List Int} (hl : code.length ≤ 1050000) : Ok (Z146 code) (fun m => ∃ h, m = markOf h) := by
 unfold Z146
 refine (l1New_ok hl).bind fun c hc => (l13Any_ok hc).bind fun y h => ?_
 have hz := kB_size h.2
 exact Ok.bind (P := fun m => m = markOf y.2) (Ok.of (sMarkOf_v y.2 (by omega)) rfl) fun m hm => Ok.ret ⟨y.2, hm⟩
theorem mod2_r (a : Int) : 0 ≤ mod2 a ∧ mod2 a ≤ 2147483646 := by
 have h := tmod_b a (m := 2147483647) (by omega)
 unfold mod2
 rw [w64 (by omega) (by omega)]
 have h1 := Int.tmod_nonneg (2147483647 : Int) (show 0 ≤ Int.tmod a 2147483647 + 2147483647 by omega)
 have h2 := Int.tmod_lt_of_pos (Int.tmod a 2147483647 + 2147483647) (show (0 : Int) < 2147483647 by omega)
 omega
theorem hstep_r {h : Int} (a : Int) (h0 : 0 ≤ h) (h1 : h ≤ 2147483646) : 0 ≤ hstep h a ∧ hstep h a ≤ 2147483646 := by
 have hm := mod2_r a
 unfold hstep
 rw [w64 (n := h * 1000003) (by omega) (by omega), w64 (n := h * 1000003 + mod2 a) (by omega) (by omega), w64 (n := h * 1000003 + mod2 a + 13) (by omega) (by omega)]
 have g1 := Int.tmod_nonneg (2147483647 : Int) (show 0 ≤ h * 1000003 + mod2 a + 13 by omega)
 have g2 := Int.tmod_lt_of_pos (h * 1000003 + mod2 a + 13) (show (0 : Int) < 2147483647 by omega)
 omega
theorem foldl_r : ∀ (xs : List Int) (h : Int), 0 ≤ h → h ≤ 2147483646 → 0 ≤ xs.foldl hstep h ∧ xs.foldl hstep h ≤ 2147483646
 | [], h, h0, h1 => ⟨h0, h1⟩
 | x :: xs, h, h0, h1 => foldl_r xs (hstep h x) (hstep_r x h0 h1).1 (hstep_r x h0 h1).2
theorem digest_r (x : THead) : 0 ≤ headDigest x ∧ headDigest x ≤ 2147483646 := foldl_r _ 11 (by decide) (by decide)
theorem one_keys {k : Int} (h0 : 1 ≤ k) (h1 : k ≤ 99) : keysB ([k], 1) = true := by
 have hl : ([k] : List Int).length ≤ 1050000 := by show 1 ≤ _; omega
 obtain ⟨s, hs, hS⟩ := sIsKeys_l ([k], 1) hl 0 KK (Nat.zero_le _) (KK_gt (by show 1 - 0 < _; omega))
 have e : Z23 ([k], 1) = some s := hs
 have : s = true := hS.mpr ⟨fun j hj _ => by
  have hj : j < 1 := hj
  have : j = 0 := by omega
  subst this
  exact ⟨⟨h0, h1⟩, fun h => absurd h (by decide)⟩, ⟨by show (1 : Int) ≤ 1; decide, by show (1 : Int) ≤ 4; decide⟩, by show (1 : Int) ≤ 1; decide, by show (1 : Int) ≤ 1; decide⟩
 subst this
 unfold keysB
 rw [e]; rfl
theorem isHeadB_zone (x : THead) (h : isHeadB x = true) : 0 ≤ Head_Zone x ∧ Head_Zone x ≤ 2147483646 := by
 unfold isHeadB hr4 at h
 simp only [Bool.and_eq_true] at h
 have h1 := h.1.1
 unfold inR at h1
 simp only [Bool.and_eq_true, decide_eq_true_eq] at h1
 exact h1
theorem nm_ok {xs : List TSigned} (hc : isChain xs = true) {i : Nat} (hi : i < xs.length) : inR2 (nm xs[i]).1 0 2147483646 = true ∧ inR2 (nm xs[i]).2.2 0 2147483646 = true ∧ inR2 (nm xs[i]).2.1 0 200 = true := by
 have hh := chain_heads xs hc i hi
 have h1 := isHeadB_zone _ hh
 have h2 := isHeadB_epoch _ hh
 have h3 := digest_r (Signed_Head xs[i])
 have e1 : (nm xs[i]).1 = Head_Zone (Signed_Head xs[i]) := rfl
 have e2 : (nm xs[i]).2.1 = Head_Epoch (Signed_Head xs[i]) := rfl
 have e3 : (nm xs[i]).2.2 = headDigest (Signed_Head xs[i]) := by unfold nm markOf; generalize headDigest (Signed_Head xs[i]) = d; rfl
 unfold inR2
 rw [e1, e2, e3]
 simp only [Bool.and_eq_true, decide_eq_true_eq]
 omega
/-- Marks that are right, one by one. -/
theorem allOk_app {ms : List TMark} {m : TMark} (h : allN (fun i => okMk ms i (ms.getD i dMark)) ms.length = true) (h1 : inR2 m.1 0 2147483646 = true) (h2 : inR2 m.2.2 0 2147483646 = true) (h3 : inR2 m.2.1 0 200 = true) (h4 : ms.any (ofMk m.1 m.2.1) = false) :
 allN (fun i => okMk (ms ++ [m]) i ((ms ++ [m]).getD i dMark)) (ms ++ [m]).length = true := by
 rw [allN_iff] at h ⊢
 intro i hi
 rw [len1] at hi
 by_cases hl : i < ms.length
 ·have g := h i hl
  rw [at_n hl] at g
  rw [at_n (by rw [len1]; omega), List.getElem_append_left hl]
  unfold okMk at g ⊢
  rw [List.take_append_of_le_length (by omega)]
  exact g
 ·have e : i = ms.length := by omega
  subst e
  rw [at_n (by rw [len1]; omega)]
  have e2 : (ms ++ [m])[ms.length]'(by rw [len1]; omega) = m := by simp
  rw [e2]
  unfold okMk
  rw [List.take_append_of_le_length (Nat.le_refl _), List.take_length, h1, h2, h3, h4]
  rfl
theorem news_ok (w : TWitness) (xs : List TSigned) (hc : isChain xs = true) (hw : isWit w = true) : ∀ i, i ≤ xs.length → allN (fun k => okMk (w.2 ++ ((xs.take i).filter (isNew w)).map nm) k ((w.2 ++ ((xs.take i).filter (isNew w)).map nm).getD k dMark)) (w.2 ++ ((xs.take i).filter (isNew w)).map nm).length = true := by
 intro i
 induction i with
 | zero =>
   intro _
   rw [List.take_zero, List.filter_nil, List.map_nil, List.append_nil]
   unfold isWit at hw
   rw [Bool.and_eq_true] at hw
   exact hw.1
 | succ i ih =>
   intro hi
   have hi : i < xs.length := by omega
   have g := ih (by omega)
   rw [take_filter (isNew w) xs hi]
   cases hn : isNew w xs[i] with
   | false => rw [cond_f]; exact g
   | true =>
     rw [cond_t, ← List.append_assoc]
     obtain ⟨h1, h2, h3⟩ := nm_ok hc hi
     refine allOk_app g h1 h2 h3 ?_
     have := new_same w xs hc hi
     rw [hn] at this
     simpa using this
theorem wit_news (w : TWitness) (xs : List TSigned) (hc : isChain xs = true) (hw : isWit w = true) (hl : ((newMarks w xs).length : Int) ≤ 40) : isWit (w.1, newMarks w xs) = true := by
 have g := news_ok w xs hc hw xs.length (Nat.le_refl _)
 rw [List.take_length] at g
 have hw2 := hw
 unfold isWit at hw2
 simp only [Bool.and_eq_true, decide_eq_true_eq] at hw2
 unfold isWit
 simp only [Bool.and_eq_true, decide_eq_true_eq]
 exact ⟨g, hw2.2.1, hl⟩
theorem news_has (w : TWitness) (xs : List TSigned) : ∀ s ∈ xs, (newMarks w xs).any (ofMk (nm s).1 (nm s).2.1) = true := by
 intro s hs
 unfold newMarks
 rw [List.any_append]
 cases hn : isNew w s with
 | false =>
   unfold isNew at hn
   have : w.2.any (ofMk (nm s).1 (nm s).2.1) = true := by simpa using hn
   rw [this]; rfl
 | true =>
   have : ((xs.filter (isNew w)).map nm).any (ofMk (nm s).1 (nm s).2.1) = true := by
    rw [List.any_eq_true]
    refine ⟨nm s, List.mem_map.2 ⟨s, List.mem_filter.2 ⟨hs, hn⟩, rfl⟩, ?_⟩
    unfold ofMk
    simp
   rw [this, Bool.or_true]
theorem news_again (w : TWitness) (xs : List TSigned) : newMarks (w.1, newMarks w xs) xs = newMarks w xs := by
 have e : xs.filter (isNew (w.1, newMarks w xs)) = [] := by
  rw [List.filter_eq_nil_iff]
  intro s hs
  unfold isNew
  have := news_has w xs s hs
  show ¬ (!(newMarks w xs).any (ofMk (nm s).1 (nm s).2.1)) = true
  rw [this]
  decide
 show newMarks w xs ++ (xs.filter (isNew (w.1, newMarks w xs))).map nm = newMarks w xs
 rw [e, List.map_nil, List.append_nil]
theorem news_against (w : TWitness) (xs : List TSigned) (hc : isChain xs = true) (ha : against w xs = false) : against (w.1, newMarks w xs) xs = false := by
 have hl := isChain_len xs hc
 obtain ⟨hlt, hle⟩ := lastS_at xs hc
 have hca := chain_at0 xs hc
 unfold against at ha ⊢
 show (w.2 ++ (xs.filter (isNew w)).map nm).any (badM xs _ _) = false
 rw [List.any_append, ha, Bool.false_or, List.any_eq_false]
 intro m hm
 obtain ⟨s, hs, rfl⟩ := List.mem_map.1 hm
 have hs := (List.mem_filter.1 hs).1
 obtain ⟨i, hi, rfl⟩ := List.getElem_of_mem hs
 have e1 : (nm xs[i]).2.1 = (i : Int) := (hca i hi).1
 have e3 : (nm xs[i]).2.2 = headDigest (Signed_Head xs[i]) := by unfold nm markOf; generalize headDigest (Signed_Head xs[i]) = d; rfl
 have e4 : Head_Epoch (Signed_Head (lastS xs)) = ((xs.length - 1 : Nat) : Int) := by rw [hle]; exact (hca _ hlt).1
 unfold badM
 rw [e1, e3, e4, Int.toNat_natCast, at_n hi, bne_self_eq_false, decide_eq_false (by omega)]
 simp
theorem conf_again (w : TWitness) (xs : List TSigned) (h : RWitnessSigBool_r2 (confirmM w xs) = true) :
 isWit w = true ∧ isChain xs = true ∧ ((newMarks w xs).length : Int) ≤ 40 ∧ confirmM w xs = RWitnessSigBool_mk (w.1, newMarks w xs) (w.1, tagOf w.1 [(241 : Int), Head_Zone (Signed_Head (lastS xs)), Head_Epoch (Signed_Head (lastS xs)), headDigest (Signed_Head (lastS xs))]) true ∧
 RWitnessSigBool_r2 (confirmM (w.1, newMarks w xs) xs) = true := by
 unfold confirmM at h
 cases hg : (isWit w && (isChain xs && !against w xs)) with
 | false => rw [hg, cond_f, (RWitnessSigBool_s _ _ _).2.2] at h; cases h
 | true =>
   have hg2 := hg
   simp only [Bool.and_eq_true, Bool.not_eq_true'] at hg2
   obtain ⟨h1, h2, h3⟩ := hg2
   rw [hg, cond_t] at h
   unfold confEnd at h
   by_cases hl : ((newMarks w xs).length : Int) > 40
   ·rw [decide_eq_true hl, cond_t, (RWitnessSigBool_s _ _ _).2.2] at h; cases h
   ·have hw := wit_news w xs h2 h1 (by omega)
    have ha := news_against w xs h2 h3
    refine ⟨h1, h2, by omega, ?_, ?_⟩
    ·unfold confirmM
     rw [hg, cond_t]
     unfold confEnd
     rw [decide_eq_false hl, cond_f]
    ·unfold confirmM
     rw [hw, h2, ha, news_again]
     unfold confEnd
     rw [decide_eq_false hl]
     simp only [Bool.not_false, Bool.and_self, cond_t, cond_f, (RWitnessSigBool_s _ _ _).2.2]
theorem slicesEq_Mark_v (x : List TMark) (hx : x.length ≤ 1050000) : Z36 x x = some true := by
 have hh : ∀ i n, i ≤ x.length → x.length - i < n → Z36.l8 x x n (x.length : Int) (i : Int) = some true := by
  refine idx_ind ?_ ?_
  ·intro n
   rw [Z36.u8]
   simp only [Z36.g8, lt_f (Nat.le_refl _), cond_f]
  ·intro i n hi ih
   rw [Z36.u8]
   simp only [Z36.g8, lt_t hi, ge_t, cond_t, beq_self_eq_true, Bool.and_true, Bool.not_true, cond_f, w64_succ (i := i) (by omega), ih]
 unfold Z36 Z36.b
 exact cF (bne_self _) (hh 0 KK (Nat.zero_le _) (KK_gt (by omega)))
theorem iEqWit_v (w : TWitness) (hw : w.2.length ≤ 1050000) : Z126 w w = some true := by
 unfold Z126
 exact cT (beq_self_eq_true _) (bnd (slicesEq_Mark_v w.2 hw) rfl)
theorem sameInts_v (x : List Int) (hx : x.length ≤ 1050000) : Z35 x x = some true := by
 have hh : ∀ i n, i ≤ x.length → x.length - i < n → Z35.l8 x x n (i : Int) = some true := by
  refine idx_ind ?_ ?_
  ·intro n
   rw [Z35.u8]
   simp only [Z35.g8, lt_f (Nat.le_refl _), cond_f]
  ·intro i n hi ih
   rw [Z35.u8]
   simp only [Z35.g8, lt_t hi, ge_t, cond_t, bne_self_eq_false, cond_f, w64_succ (i := i) (by omega), ih]
 unfold Z35 Z35.b
 exact cF (bne_self _) (hh 0 KK (Nat.zero_le _) (KK_gt (by omega)))
noncomputable def isConf (k : TKeys) (h : THead) (sg : List TSig) : Bool := keysB k && decide (countConfirms k h sg ≥ k.2)
theorem sIsConf_v (k : TKeys) (h : THead) (sg : List TSig) (hk : k.1.length ≤ 1050000) (hh : sizeHead h ≤ 1050000) (hs : sg.length ≤ 1050000) : Z89 k h sg = some (isConf k h sg) := by
 unfold Z89 isConf
 refine bnd (sKeysB k hk) ?_
 cases keysB k with
 | false => rfl
 | true => exact bnd (sCountConfirms_v k h sg hk hh hs) rfl
theorem iIsConf_v (k : TKeys) (h : THead) (sg : List TSig) (hk : k.1.length ≤ 1050000) (hh : sizeHead h ≤ 1050000) (hs : sg.length ≤ 1050000) : Z75 k h sg = some (isConf k h sg) := by
 unfold Z75 isConf
 refine bnd (iKeysB k hk) ?_
 cases keysB k with
 | false => rfl
 | true => exact bnd (iCountConfirms_v k h sg hk hh hs) rfl
theorem own_conf {k : Int} (h0 : 1 ≤ k) (h1 : k ≤ 99) (h : THead) : isConf ([k], 1) h [(k, tagOf k [(241 : Int), Head_Zone h, Head_Epoch h, headDigest h])] = true := by
 have e : markInts (markOf h) = [(241 : Int), Head_Zone h, Head_Epoch h, headDigest h] := by unfold markInts markOf; generalize headDigest h = d; rfl
 unfold isConf countConfirms
 rw [one_keys h0 h1, e]
 have hs : hasSig [(k, tagOf k [(241 : Int), Head_Zone h, Head_Epoch h, headDigest h])] [(241 : Int), Head_Zone h, Head_Epoch h, headDigest h] k = true := by
  unfold hasSig sgBy isSigBy
  simp only [List.any_cons, List.any_nil, Bool.or_false, beq_self_eq_true, Bool.true_and, Bool.and_true, decide_eq_true h0, decide_eq_true h1]
 unfold cnt
 rw [hs]
 rfl
theorem wit41 {code : List Int} (hc : code.length ≤ 1050000) : Z9.l41 code = some true := by
 obtain ⟨y, hd, h1, h2, h3⟩ := drawCC_ok hc
 obtain ⟨m, hm, hh, hmk⟩ := drawMI_ok hc
 have hz := kB_size h2
 unfold Z9.l41 Z9.g41
 have hi : Z98 m = some (markInts m) := rfl
 have hs : Z3 m = some (markInts m) := rfl
 refine bnd hd (bnd hm (bnd (iCountConfirms_v _ _ _ (by omega) (by omega) (by omega)) (bnd (sCountConfirms_v _ _ _ (by omega) (by omega) (by omega)) (cT (beq_self_eq_true _) (bnd (iIsConf_v _ _ _ (by omega) (by omega) (by omega)) (bnd (sIsConf_v _ _ _ (by omega) (by omega) (by omega)) (cT (beq_self_eq_true _) (bnd hi (bnd hs (bnd (sameInts_v _ (by show 4 ≤ _; omega)) (cT rfl (bnd (iMarkOf_v _ (by omega)) (bnd (sMarkOf_v _ (by omega)) ?_)))))))))))))
 simp only [beq_self_eq_true, Bool.and_self]
theorem wit37 {code : List Int} (hc : code.length ≤ 1050000) {y : TRWitnessList} {x : TWitness} {s : TSig} {u8 u9 u10 : TRWitnessSigBool} {f : TRForkBool} {v : Bool} {h : THead} (hx : isWit x = true) (hu : RWitnessSigBool_r2 u8 = true) (hk : 1 ≤ (RWitnessList_r0 y).1 ∧ (RWitnessList_r0 y).1 ≤ 99)
 (hs : s = ((RWitnessList_r0 y).1, tagOf (RWitnessList_r0 y).1 [(241 : Int), Head_Zone h, Head_Epoch h, headDigest h])) (hh : sizeHead h ≤ 1050000) (hl : (RWitnessList_r0 y).2.length ≤ x.2.length) (hxl : x.2.length ≤ 1050000) (hv : RWitnessSigBool_r2 u9 = true → RWitnessSigBool_r2 u10 = true → v = true) :
 Z9.l37 code y (RWitnessSigBool_mk x s true) u8 u9 u10 f v (Head_Zone h) (Head_Epoch h) (Head_Kind h) (Head_Time h) (Head_Until h) (Head_Count h) (Head_Root h) (Head_Prev h) (Head_Keys h).1 (Head_Keys h).2 (Head_Heirs h).1 (Head_Heirs h).2 (Head_Wait h) (Head_Judge h).1 (Head_Judge h).2 (Head_Frozen h) = some true := by
 have tail : ((Z124 (RWitnessList_r0 y).1).bind fun y15 => (Z75 y15 h [s]).bind fun y16 => bif !y16 then some false else bif decide ((x.2.length : Int) < ((RWitnessList_r0 y).2.length : Int)) then some false else Z9.l41 code) = some true := by
  refine bnd rfl (bnd (iIsConf_v _ _ _ (by show 1 ≤ _; omega) hh (by show 1 ≤ _; omega)) ?_)
  rw [hs, own_conf hk.1 hk.2]
  exact cF rfl (cF (decide_eq_false (by omega)) (wit41 hc))
 unfold Z9.l37 Z9.g37
 rw [(RWitnessSigBool_s _ _ _).1, (RWitnessSigBool_s _ _ _).2.1]
 refine bnd (iIsWit_v x hxl) ?_
 rw [hx, hu]
 refine cF rfl (cF rfl ?_)
 cases h9 : RWitnessSigBool_r2 u9 with
 | false => rw [cond_f]; exact tail
 | true =>
   rw [cond_t]
   cases h10 : RWitnessSigBool_r2 u10 with
   | false => rw [cond_f]; exact tail
   | true =>
     rw [cond_t, hv h9 h10]
     cases RForkBool_r1 f with
     | false => rw [cond_f]; exact tail
     | true => rw [cond_t]; exact cF rfl tail
theorem wit17 {code : List Int} (hc : code.length ≤ 1050000) {y : TRWitnessList} (h1 : (RWitnessList_r0 y).2.length ≤ 42) (h2 : lB (RWitnessList_r1 y)) (h3 : (RWitnessList_r1 y).length ≤ 20) :
 Z9.l17 code y (confirmM (RWitnessList_r0 y) (RWitnessList_r1 y)) (confirmM (RWitnessList_r0 y) (RWitnessList_r1 y)) = some true := by
 have hx := lBs h2 (by omega)
 unfold Z9.l17 Z9.g17
 cases hb : RWitnessSigBool_r2 (confirmM (RWitnessList_r0 y) (RWitnessList_r1 y)) with
 | false => rw [cond_f]; exact wit41 hc
 | true =>
   rw [cond_t]
   obtain ⟨k1, k2, k3, k4, k5⟩ := conf_again _ _ hb
   have hl := isChain_len _ k2
   rw [k4]
   rw [(RWitnessSigBool_s _ _ _).1]
   obtain ⟨z, hd, ⟨z1, z2⟩, z3, z4⟩ := drawForkIn_ok hc
   have hz1 := lBs z1 (by omega)
   have hz2 := lBs z3 (by omega)
   have hn : (newMarks (RWitnessList_r0 y) (RWitnessList_r1 y)).length ≤ 41 := by omega
   have hn2 : (newMarks (RWitnessList_r0 y) (RWitnessList_r1 y)).length ≤ 1050000 := by omega
   have e : IntKind.i64.wrap (((RWitnessList_r1 y).length : Int) - (1 : Int)) = ((RWitnessList_r1 y).length : Int) - 1 := w64 (by omega) (by omega)
   have q2 := confirmM_len ((RWitnessList_r0 y).1, newMarks (RWitnessList_r0 y) (RWitnessList_r1 y)) z.1 hn
   have q3 : (RWitnessSigBool_r0 (confirmM ((RWitnessList_r0 y).1, newMarks (RWitnessList_r0 y) (RWitnessList_r1 y)) z.1)).2.length ≤ 1050000 := by omega
   have hw : isWit ((RWitnessList_r0 y).1, newMarks (RWitnessList_r0 y) (RWitnessList_r1 y)) = true := wit_news _ _ k2 k1 k3
   have hkey : 1 ≤ (RWitnessList_r0 y).1 ∧ (RWitnessList_r0 y).1 ≤ 99 := by
    unfold isWit inR2 at k1
    simp only [Bool.and_eq_true, decide_eq_true_eq] at k1
    exact k1.2.1
   have hhs := kB_size (lB_getD h2 (IntKind.i64.wrap (((RWitnessList_r1 y).length : Int) - (1 : Int))).toNat).1
   have hlen : (RWitnessList_r0 y).2.length ≤ (newMarks (RWitnessList_r0 y) (RWitnessList_r1 y)).length := by unfold newMarks; rw [List.length_append]; omega
   refine cT (decide_eq_true (by rw [e]; omega)) (cT (decide_eq_true (by rw [e]; omega)) (bnd hd (bnd (iConfirm_v _ _ hn2 hx) (bnd (iConfirm_v _ _ hn2 hz1) (bnd (iConfirm_v _ _ q3 hz2) (bnd (sForkIn_v _ _ hz1 hz2) (bnd (sConfirm_v _ _ hn2 hz1) (bnd (sConfirm_v _ _ q3 hz2) ?_))))))))
   cases h9 : RWitnessSigBool_r2 (confirmM ((RWitnessList_r0 y).1, newMarks (RWitnessList_r0 y) (RWitnessList_r1 y)) z.1) with
   | false => rw [cond_f]; exact wit37 hc hw k5 hkey rfl (by omega) hlen hn2 (fun h => by rw [h9] at h; cases h)
   | true => rw [cond_t]; exact wit37 hc hw k5 hkey rfl (by omega) hlen hn2 (fun _ h => h)
theorem pure_FnWitnesses (x0 : List Int) : Z9 x0 = some true := by
 unfold Z9 Z9.b
 refine bnd rfl ?_
 by_cases hb : (x0.length : Int) > 1048576
 ·exact cT (decide_eq_true hb) rfl
 refine cF (decide_eq_false hb) ?_
 have hc : x0.length ≤ 1050000 := by omega
 obtain ⟨y, hd, h1, h2, h3⟩ := drawConfirm_ok hc
 have hx := lBs h2 (by omega)
 have hw : (RWitnessList_r0 y).2.length ≤ 1050000 := by omega
 have hcl : (RWitnessSigBool_r0 (confirmM (RWitnessList_r0 y) (RWitnessList_r1 y))).2.length ≤ 1050000 := by
  have := confirmM_size _ _ hw hx
  unfold confirmM
  cases (isWit (RWitnessList_r0 y) && (isChain (RWitnessList_r1 y) && !against (RWitnessList_r0 y) (RWitnessList_r1 y))) with
  | false => exact hw
  | true =>
    rw [cond_t]
    unfold confEnd
    by_cases h : ((newMarks (RWitnessList_r0 y) (RWitnessList_r1 y)).length : Int) > 40
    ·rw [decide_eq_true h, cond_t]; exact hw
    ·rw [decide_eq_false h, cond_f]
     show (newMarks (RWitnessList_r0 y) (RWitnessList_r1 y)).length ≤ _
     omega
 refine bnd hd (bnd (iConfirm_v _ _ hw hx) (bnd (sConfirm_v _ _ hw hx) (cF (nbeq _) (cF (by simp only [beq_self_eq_true, Bool.and_self, Bool.not_true]) (bnd (iEqWit_v _ hcl) (cF rfl ?_))))))
 cases hr : RWitnessSigBool_r2 (confirmM (RWitnessList_r0 y) (RWitnessList_r1 y)) with
 | true => exact cF rfl (wit17 hc h1 h2 h3)
 | false =>
   refine cT rfl ?_
   have e : RWitnessSigBool_r0 (confirmM (RWitnessList_r0 y) (RWitnessList_r1 y)) = RWitnessList_r0 y := by
    unfold confirmM at hr ⊢
    cases hg : (isWit (RWitnessList_r0 y) && (isChain (RWitnessList_r1 y) && !against (RWitnessList_r0 y) (RWitnessList_r1 y))) with
    | false => rw [cond_f, (RWitnessSigBool_s _ _ _).1]
    | true =>
      rw [hg, cond_t] at hr
      rw [cond_t]
      unfold confEnd at hr ⊢
      by_cases h : ((newMarks (RWitnessList_r0 y) (RWitnessList_r1 y)).length : Int) > 40
      ·rw [decide_eq_true h, cond_t, (RWitnessSigBool_s _ _ _).1]
      ·rw [decide_eq_false h, cond_f, (RWitnessSigBool_s _ _ _).2.2] at hr; cases hr
   rw [e]
   exact bnd (iEqWit_v _ hw) (cF rfl (wit17 hc h1 h2 h3))

end Go.Proofs.YtkadeffepgcceabGreat
