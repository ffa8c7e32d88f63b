/- The universe of plain data: cells' types, their Lean types, and how a row's element reads as cells. -/
import Derived.Calls
namespace Go.Proofs.Ytchhidcbfladhaa
namespace V
set_option linter.unusedVariables false
mutual
inductive LTy where
  | int (k : IntKind) | bool | str | sl (t : ETy) | ptr (t : ETy) | fn (f : Nat) (agg : Bool) (a b : ETy)
inductive ETy where
  | nil | cons (t : LTy) (ts : ETy)
end
mutual
def LTy.den : LTy → Type
  | .int _ => Int
  | .bool => Bool
  | .str => ByteArray
  | .sl t => List t.den
  | .ptr t => t.den
  | .fn _ _ a b => a.den × b.den
def ETy.den : ETy → Type
  | .nil => Unit
  | .cons t .nil => t.den
  | .cons t (.cons u ts) => t.den × (ETy.cons u ts).den
end
mutual
def LTy.beq : LTy → LTy → Bool
  | .int k, .int k' => decide (k = k')
  | .bool, .bool => true
  | .str, .str => true
  | .sl t, .sl t' => t.beq t'
  | .ptr t, .ptr t' => t.beq t'
  | .fn f g a b, .fn f' g' a' b' => decide (f = f') && decide (g = g') && a.beq a' && b.beq b'
  | _, _ => false
def ETy.beq : ETy → ETy → Bool
  | .nil, .nil => true
  | .cons t ts, .cons t' ts' => t.beq t' && ts.beq ts'
  | _, _ => false
end
mutual
theorem LTy.eq_of_beq : ∀ (a b : LTy), a.beq b = true → a = b
  | .int k, b, h => by cases b <;> simp_all [LTy.beq]
  | .bool, b, h => by cases b <;> simp_all [LTy.beq]
  | .str, b, h => by cases b <;> simp_all [LTy.beq]
  | .sl t, b, h => by
    cases b with
    | sl t' => rw [ETy.eq_of_beq t t' (by simpa [LTy.beq] using h)]
    | _ => simp [LTy.beq] at h
  | .ptr t, b, h => by
    cases b with
    | ptr t' => rw [ETy.eq_of_beq t t' (by simpa [LTy.beq] using h)]
    | _ => simp [LTy.beq] at h
  | .fn f g x y, b, h => by
    cases b with
    | fn f' g' x' y' =>
      simp only [LTy.beq, Bool.and_eq_true, decide_eq_true_eq] at h
      obtain ⟨⟨⟨h1, h2⟩, h3⟩, h4⟩ := h
      rw [h1, h2, ETy.eq_of_beq x x' h3, ETy.eq_of_beq y y' h4]
    | _ => simp [LTy.beq] at h
theorem ETy.eq_of_beq : ∀ (a b : ETy), a.beq b = true → a = b
  | .nil, b, h => by cases b <;> simp_all [ETy.beq]
  | .cons t ts, b, h => by
    cases b with
    | nil => simp [ETy.beq] at h
    | cons t' ts' =>
      simp only [ETy.beq, Bool.and_eq_true] at h
      rw [LTy.eq_of_beq t t' h.1, ETy.eq_of_beq ts ts' h.2]
end
mutual
theorem LTy.beq_refl : ∀ (a : LTy), a.beq a = true
  | .int k => by simp [LTy.beq]
  | .bool => rfl
  | .str => rfl
  | .sl t => by simp [LTy.beq, ETy.beq_refl t]
  | .ptr t => by simp [LTy.beq, ETy.beq_refl t]
  | .fn f g x y => by simp [LTy.beq, ETy.beq_refl x, ETy.beq_refl y]
theorem ETy.beq_refl : ∀ (a : ETy), a.beq a = true
  | .nil => rfl
  | .cons t ts => by simp [ETy.beq, LTy.beq_refl t, ETy.beq_refl ts]
end
def ETy.cast? (a b : ETy) (x : a.den) : Option b.den := if h : a.beq b = true then some (cast (congrArg ETy.den (ETy.eq_of_beq a b h)) x) else none
def ETy.casts? (a b : ETy) (x : List a.den) : Option (List b.den) := if h : a.beq b = true then some (cast (congrArg (fun T => List (ETy.den T)) (ETy.eq_of_beq a b h)) x) else none
theorem ETy.cast?_some {a b : ETy} {x : a.den} {y : b.den} (h : ETy.cast? a b x = some y) : ∃ e : a = b, e ▸ x = y := by
  unfold ETy.cast? at h
  split at h
  · rename_i hb
    have e := ETy.eq_of_beq a b hb
    subst e
    simp at h
    exact ⟨rfl, h⟩
  · cases h
theorem ETy.casts?_some {a b : ETy} {x : List a.den} {y : List b.den} (h : ETy.casts? a b x = some y) : ∃ e : a = b, e ▸ x = y := by
  unfold ETy.casts? at h
  split at h
  · rename_i hb
    have e := ETy.eq_of_beq a b hb
    subst e
    simp at h
    exact ⟨rfl, h⟩
  · cases h
/-- A cell's value with its type. -/
inductive Sg where
  | int (k : IntKind) (n : Int)
  | bool (b : Bool)
  | str (s : ByteArray)
  | sl (T : ETy) (xs : List T.den)
  | ptr (T : ETy) (x : T.den)
  | fn (f : Nat) (agg : Bool) (A B : ETy) (a : A.den) (b : B.den)
def LTy.sg : (t : LTy) → t.den → Sg
  | .int k, n => .int k n
  | .bool, b => .bool b
  | .str, s => .str s
  | .sl T, xs => .sl T xs
  | .ptr T, x => .ptr T x
  | .fn f g A B, x => .fn f g A B x.1 x.2
def Sg.t : Sg → LTy
  | .int k _ => .int k
  | .bool _ => .bool
  | .str _ => .str
  | .sl T _ => .sl T
  | .ptr T _ => .ptr T
  | .fn f g A B _ _ => .fn f g A B
def Sg.int? (k : IntKind) : Sg → Option Int
  | .int k' n => match decide (k = k') with | true => some n | false => none
  | _ => none
def Sg.bool? : Sg → Option Bool
  | .bool b => some b
  | _ => none
def Sg.str? : Sg → Option ByteArray
  | .str b => some b
  | _ => none
def Sg.sl? (T : ETy) : Sg → Option (List T.den)
  | .sl T' xs => ETy.casts? T' T xs
  | _ => none
def Sg.ptr? (T : ETy) : Sg → Option T.den
  | .ptr T' x => ETy.cast? T' T x
  | _ => none
def Sg.fn? (f : Nat) (g : Bool) (A B : ETy) : Sg → Option (A.den × B.den)
  | .fn f' g' A' B' a b =>
    match decide (f' = f), decide (g' = g), ETy.cast? A' A a, ETy.cast? B' B b with
    | true, true, some a, some b => some (a, b)
    | _, _, _, _ => none
  | _ => none
def LTy.get : (t : LTy) → Sg → Option t.den
  | .int k, g => g.int? k
  | .bool, g => g.bool?
  | .str, g => g.str?
  | .sl T, g => g.sl? T
  | .ptr T, g => g.ptr? T
  | .fn f q A B, g => g.fn? f q A B
def ETy.len : ETy → Nat
  | .nil => 0
  | .cons _ ts => ts.len + 1
def ETy.sgs : (T : ETy) → T.den → List Sg
  | .nil, _ => []
  | .cons t .nil, x => [t.sg x]
  | .cons t (.cons u ts), x => t.sg x.1 :: (ETy.cons u ts).sgs x.2
/-- The same, of whatever types. -/
structure Pk where
  T : ETy
  x : T.den
def Pk.cons (t : LTy) (y : t.den) : Pk → Pk
  | ⟨.nil, _⟩ => ⟨.cons t .nil, y⟩
  | ⟨.cons u ts, z⟩ => ⟨.cons t (.cons u ts), (y, z)⟩
def Pk.add (g : Sg) (p : Pk) : Pk :=
  match g with
  | .int k n => Pk.cons (.int k) n p
  | .bool b => Pk.cons .bool b p
  | .str s => Pk.cons .str s p
  | .sl T xs => Pk.cons (.sl T) xs p
  | .ptr T x => Pk.cons (.ptr T) x p
  | .fn f g A B a b => Pk.cons (.fn f g A B) (a, b) p
def packs : List Sg → Pk
  | [] => ⟨.nil, ()⟩
  | g :: gs => Pk.add g (packs gs)
end V
end Go.Proofs.Ytchhidcbfladhaa
