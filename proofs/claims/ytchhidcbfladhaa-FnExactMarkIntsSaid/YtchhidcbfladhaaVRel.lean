/- How values and memory mean plain data: read-only (blocks of a class R), or owned (with the list of their blocks). -/
import Derived.Test.YtchhidcbfladhaaVCode
import Derived.Laws.Sem
namespace Go.Proofs.Ytchhidcbfladhaa
namespace V
set_option linter.unusedVariables false
/-- Two lists, element by element. -/
def All2 {α β : Type} (Q : α → β → Prop) : List α → List β → Prop
  | [], [] => True
  | a :: as, b :: bs => Q a b ∧ All2 Q as bs
  | _, _ => False
theorem All2.length {α β : Type} {Q : α → β → Prop} : ∀ {as : List α} {bs : List β}, All2 Q as bs → as.length = bs.length
  | [], [], _ => rfl
  | _ :: _, _ :: _, h => by simp [All2.length h.2]
  | [], _ :: _, h => h.elim
  | _ :: _, [], h => h.elim
theorem All2.mono {α β : Type} {Q Q' : α → β → Prop} (hq : ∀ a b, Q a b → Q' a b) : ∀ {as : List α} {bs : List β}, All2 Q as bs → All2 Q' as bs
  | [], [], _ => trivial
  | _ :: _, _ :: _, h => ⟨hq _ _ h.1, All2.mono hq h.2⟩
  | [], _ :: _, h => h.elim
  | _ :: _, [], h => h.elim
theorem All2.mono_mem {α β : Type} {Q Q' : α → β → Prop} : ∀ {as : List α} {bs : List β}, (∀ a b, a ∈ as → Q a b → Q' a b) → All2 Q as bs → All2 Q' as bs
  | [], [], _, _ => trivial
  | _ :: _, _ :: _, hq, h => ⟨hq _ _ (by simp) h.1, All2.mono_mem (fun a b ha => hq a b (by simp [ha])) h.2⟩
  | [], _ :: _, _, h => h.elim
  | _ :: _, [], _, h => h.elim
theorem All2.get {α β : Type} {Q : α → β → Prop} : ∀ {as : List α} {bs : List β}, All2 Q as bs → ∀ (j : Nat) (a : α), as[j]? = some a → ∃ b, bs[j]? = some b ∧ Q a b
  | [], [], _, j, a, h => by simp at h
  | x :: as, y :: bs, h, 0, a, ha => ⟨y, rfl, by simp at ha; subst ha; exact h.1⟩
  | x :: as, y :: bs, h, j + 1, a, ha => by
    obtain ⟨b, hb, hq⟩ := All2.get h.2 j a (by simpa using ha)
    exact ⟨b, by simpa using hb, hq⟩
  | [], _ :: _, h, _, _, _ => h.elim
  | _ :: _, [], h, _, _, _ => h.elim
theorem All2.of_get {α β : Type} {Q : α → β → Prop} : ∀ {as : List α} {bs : List β}, as.length = bs.length → (∀ (j : Nat) (a : α) (b : β), as[j]? = some a → bs[j]? = some b → Q a b) → All2 Q as bs
  | [], [], _, _ => trivial
  | x :: as, y :: bs, hl, h => ⟨h 0 x y rfl rfl, All2.of_get (by simpa using hl) fun j a b ha hb => h (j + 1) a b (by simpa using ha) (by simpa using hb)⟩
  | [], _ :: _, hl, _ => by simp at hl
  | _ :: _, [], hl, _ => by simp at hl
theorem All2.append {α β : Type} {Q : α → β → Prop} : ∀ {as : List α} {bs : List β} {cs : List α} {ds : List β}, All2 Q as bs → All2 Q cs ds → All2 Q (as ++ cs) (bs ++ ds)
  | [], [], _, _, _, h => h
  | _ :: _, _ :: _, _, _, h, h' => ⟨h.1, All2.append h.2 h'⟩
  | [], _ :: _, _, _, h, _ => h.elim
  | _ :: _, [], _, _, h, _ => h.elim
theorem All2.take {α β : Type} {Q : α → β → Prop} : ∀ (n : Nat) {as : List α} {bs : List β}, All2 Q as bs → All2 Q (as.take n) (bs.take n)
  | 0, _, _, _ => trivial
  | n + 1, [], [], h => trivial
  | n + 1, _ :: _, _ :: _, h => ⟨h.1, All2.take n h.2⟩
  | n + 1, [], _ :: _, h => h.elim
  | n + 1, _ :: _, [], h => h.elim
theorem All2.drop {α β : Type} {Q : α → β → Prop} : ∀ (n : Nat) {as : List α} {bs : List β}, All2 Q as bs → All2 Q (as.drop n) (bs.drop n)
  | 0, _, _, h => by simpa using h
  | n + 1, [], [], h => trivial
  | n + 1, _ :: _, _ :: _, h => All2.drop n h.2
  | n + 1, [], _ :: _, h => h.elim
  | n + 1, _ :: _, [], h => h.elim
theorem All2.split {α β : Type} {Q : α → β → Prop} : ∀ {as cs : List α} {bs : List β}, All2 Q (as ++ cs) bs → ∃ b1 b2, bs = b1 ++ b2 ∧ All2 Q as b1 ∧ All2 Q cs b2
  | [], _, bs, h => ⟨[], bs, rfl, trivial, h⟩
  | a :: as, cs, b :: bs, h => by
    obtain ⟨b1, b2, rfl, h1, h2⟩ := All2.split h.2
    exact ⟨b :: b1, b2, rfl, ⟨h.1, h1⟩, h2⟩
  | a :: as, cs, [], h => h.elim
theorem All2.map_left {α β γ : Type} {Q : γ → β → Prop} (f : α → γ) : ∀ {as : List α} {bs : List β}, All2 (fun a b => Q (f a) b) as bs → All2 Q (as.map f) bs
  | [], [], _ => trivial
  | _ :: _, _ :: _, h => ⟨h.1, All2.map_left f h.2⟩
  | [], _ :: _, h => h.elim
  | _ :: _, [], h => h.elim
theorem All2.of_map_left {α β γ : Type} {Q : γ → β → Prop} (f : α → γ) : ∀ {as : List α} {bs : List β}, All2 Q (as.map f) bs → All2 (fun a b => Q (f a) b) as bs
  | [], [], _ => trivial
  | _ :: _, _ :: _, h => ⟨h.1, All2.of_map_left f h.2⟩
  | [], _ :: _, h => h.elim
  | _ :: _, [], h => h.elim
abbrev Cls := Nat → Prop
abbrev nth {α : Type} (l : List α) (i : Nat) : Option α := l[i]?
/-- A block of cells, none frozen, of n cells at the least. -/
def blk (w : World) (b n : Nat) : Prop := ∃ cs e, w.heap[b]? = some (.cells cs e (0, 0)) ∧ n ≤ cs.size
theorem blk.lt {w : World} {b n : Nat} (h : blk w b n) : b < w.heap.size := by
  obtain ⟨cs, e, h, _⟩ := h
  exact (Array.getElem?_eq_some_iff.1 h).1
theorem blk.mono {w : World} {b n m : Nat} (h : blk w b n) (hm : m ≤ n) : blk w b m := by
  obtain ⟨cs, e, h, hn⟩ := h
  exact ⟨cs, e, h, by omega⟩
theorem blk.same {w w' : World} {b n : Nat} (h : blk w b n) (hs : w'.heap[b]? = w.heap[b]?) : blk w' b n := by
  obtain ⟨cs, e, h, hn⟩ := h
  exact ⟨cs, e, hs.trans h, hn⟩
theorem blk.frozen {w : World} {b n o : Nat} (h : blk w b n) : w.frozen? ⟨b, o, none⟩ = false := by
  obtain ⟨cs, e, h, _⟩ := h
  simp [World.frozen?, h]
theorem blk.cell {w : World} {b n o : Nat} (h : blk w b n) (ho : o < n) : (w.cell? ⟨b, o, none⟩).isSome = true := by
  obtain ⟨cs, e, h, hn⟩ := h
  simp [World.cell?, h]
  omega
theorem cell_same {w w' : World} {b o : Nat} (hs : w'.heap[b]? = w.heap[b]?) : w'.cell? ⟨b, o, none⟩ = w.cell? ⟨b, o, none⟩ := by
  simp [World.cell?, hs]
def firstsV : ETy → Bool → List Value → Array Value
  | .nil, _, _ => #[]
  | .cons .., true, vs => #[.agg vs.toArray]
  | .cons .., false, vs => vs.toArray
mutual
def LTy.ro (w : World) (R : Cls) : (t : LTy) → t.den → Value → Prop
  | .int k, n, v => v = .int k n
  | .bool, b, v => v = .bool b
  | .str, s, v => v = .string s
  | .sl T, xs, v => (xs = [] ∧ ∃ a c, v = .slice a 0 c) ∨
      ∃ b o c, v = .slice (some ⟨b, o, none⟩) (List.length xs) c ∧ R b ∧ List.length xs ≤ c ∧ ∀ i x, nth (α := T.den) xs i = some x → ETy.ro w R T x b (o + i * T.len)
  | .ptr T, x, v => ∃ b o, v = .pointer (some ⟨b, o, none⟩) ∧ R b ∧ ETy.ro w R T x b o
  | .fn f agg A B, x, v => ∃ (vs : List Value) (cs : Array Value), v = .func (.func f) (firstsV A agg vs) cs ∧ ETy.vals w R A x.1 vs ∧ ETy.vals w R B x.2 cs.toList
def ETy.ro (w : World) (R : Cls) : (T : ETy) → T.den → Nat → Nat → Prop
  | .nil, _, _, _ => True
  | .cons t .nil, x, b, o => ∃ v, w.cell? ⟨b, o, none⟩ = some v ∧ LTy.ro w R t x v
  | .cons t (.cons u ts), x, b, o => (∃ v, w.cell? ⟨b, o, none⟩ = some v ∧ LTy.ro w R t x.1 v) ∧ ETy.ro w R (.cons u ts) x.2 b (o + 1)
def ETy.vals (w : World) (R : Cls) : (T : ETy) → T.den → List Value → Prop
  | .nil, _, vs => vs = []
  | .cons t .nil, x, vs => ∃ v, vs = [v] ∧ LTy.ro w R t x v
  | .cons t (.cons u ts), x, vs => ∃ v r, vs = v :: r ∧ LTy.ro w R t x.1 v ∧ ETy.vals w R (.cons u ts) x.2 r
end
/-- The same, of a value with its type. -/
def Sg.ro (w : World) (R : Cls) : Sg → Value → Prop
  | .int k n, v => v = .int k n
  | .bool b, v => v = .bool b
  | .str s, v => v = .string s
  | .sl T xs, v => LTy.ro w R (.sl T) xs v
  | .ptr T x, v => LTy.ro w R (.ptr T) x v
  | .fn f g A B a b, v => LTy.ro w R (.fn f g A B) (a, b) v
theorem LTy.ro_sg {w : World} {R : Cls} {t : LTy} {x : t.den} {v : Value} : LTy.ro w R t x v ↔ (t.sg x).ro w R v := by
  cases t <;> rfl
theorem Sg.int?_eq {k : IntKind} {g : Sg} {x : Int} (h : g.int? k = some x) : g = .int k x := by
  cases g with
  | int k' n =>
    unfold Sg.int? at h
    by_cases hk : k = k'
    · subst hk
      simp at h
      rw [h]
    · simp [hk] at h
  | _ => simp [Sg.int?] at h
theorem Sg.bool?_eq {g : Sg} {x : Bool} (h : g.bool? = some x) : g = .bool x := by
  cases g <;> simp [Sg.bool?] at h
  rw [h]
theorem Sg.str?_eq {g : Sg} {x : ByteArray} (h : g.str? = some x) : g = .str x := by
  cases g <;> simp [Sg.str?] at h
  rw [h]
theorem Sg.sl?_eq {T : ETy} {g : Sg} {x : List T.den} (h : g.sl? T = some x) : g = .sl T x := by
  cases g with
  | sl T' xs =>
    obtain ⟨e, h⟩ := ETy.casts?_some h
    subst e
    subst h
    rfl
  | _ => simp [Sg.sl?] at h
theorem Sg.ptr?_eq {T : ETy} {g : Sg} {x : T.den} (h : g.ptr? T = some x) : g = .ptr T x := by
  cases g with
  | ptr T' y =>
    obtain ⟨e, h⟩ := ETy.cast?_some h
    subst e
    subst h
    rfl
  | _ => simp [Sg.ptr?] at h
theorem Sg.fn?_eq {f : Nat} {q : Bool} {A B : ETy} {g : Sg} {x : A.den × B.den} (h : g.fn? f q A B = some x) : g = .fn f q A B x.1 x.2 := by
  cases g with
  | fn f' q' A' B' a b =>
    simp only [Sg.fn?] at h
    by_cases h1 : f' = f
    · by_cases h2 : q' = q
      · subst h1
        subst h2
        cases h3 : ETy.cast? A' A a with
        | none => simp [h3] at h
        | some a' =>
          cases h4 : ETy.cast? B' B b with
          | none => simp [h3, h4] at h
          | some b' =>
            obtain ⟨e, h3⟩ := ETy.cast?_some h3
            obtain ⟨e', h4⟩ := ETy.cast?_some h4
            subst e
            subst e'
            subst h3
            subst h4
            simp [ETy.cast?, ETy.beq_refl] at h
            rw [← h]
      · simp [h2] at h
    · simp [h1] at h
  | _ => simp [Sg.fn?] at h
theorem LTy.get_sg {t : LTy} {g : Sg} {x : t.den} (h : t.get g = some x) : t.sg x = g := by
  cases t with
  | int k => exact (Sg.int?_eq h).symm
  | bool => exact (Sg.bool?_eq h).symm
  | str => exact (Sg.str?_eq h).symm
  | sl T => exact (Sg.sl?_eq h).symm
  | ptr T => exact (Sg.ptr?_eq h).symm
  | fn f q A B => exact (Sg.fn?_eq h).symm
theorem ETy.sgs_length : ∀ (T : ETy) (x : T.den), (T.sgs x).length = T.len
  | .nil, _ => rfl
  | .cons t .nil, x => rfl
  | .cons t (.cons u ts), x => by simp only [ETy.sgs, List.length_cons, ETy.sgs_length (.cons u ts) x.2, ETy.len]
/-- Cells that lie one behind the other. -/
def cellsRo (w : World) (R : Cls) (gs : List Sg) (b o : Nat) : Prop := ∀ j g, gs[j]? = some g → ∃ v, w.cell? ⟨b, o + j, none⟩ = some v ∧ g.ro w R v
theorem ETy.ro_iff {w : World} {R : Cls} {b : Nat} : ∀ (T : ETy) (x : T.den) (o : Nat), ETy.ro w R T x b o ↔ cellsRo w R (T.sgs x) b o
  | .nil, x, o => by simp [ETy.ro, cellsRo, ETy.sgs]
  | .cons t .nil, x, o => by
    constructor
    · rintro ⟨v, hc, hv⟩ j g hg
      cases j with
      | zero => simp [ETy.sgs] at hg; subst hg; exact ⟨v, hc, LTy.ro_sg.1 hv⟩
      | succ j => simp [ETy.sgs] at hg
    · intro h
      obtain ⟨v, hc, hv⟩ := h 0 (t.sg x) rfl
      exact ⟨v, hc, LTy.ro_sg.2 hv⟩
  | .cons t (.cons u ts), x, o => by
    constructor
    · rintro ⟨⟨v, hc, hv⟩, hr⟩ j g hg
      cases j with
      | zero => simp [ETy.sgs] at hg; subst hg; exact ⟨v, hc, LTy.ro_sg.1 hv⟩
      | succ j =>
        have h2 := (ETy.ro_iff (.cons u ts) x.2 (o + 1)).1 hr j g (by simpa [ETy.sgs] using hg)
        rw [show o + (j + 1) = o + 1 + j by omega]
        exact h2
    · intro h
      refine ⟨?_, (ETy.ro_iff (.cons u ts) x.2 (o + 1)).2 ?_⟩
      · obtain ⟨v, hc, hv⟩ := h 0 (t.sg x.1) rfl
        exact ⟨v, hc, LTy.ro_sg.2 hv⟩
      · intro j g hg
        have h2 := h (j + 1) g (by simpa [ETy.sgs] using hg)
        rw [show o + (j + 1) = o + 1 + j by omega] at h2
        exact h2
theorem ETy.vals_iff {w : World} {R : Cls} : ∀ (T : ETy) (x : T.den) (vs : List Value), ETy.vals w R T x vs ↔ All2 (Sg.ro w R) (T.sgs x) vs
  | .nil, x, vs => by cases vs <;> simp [ETy.vals, ETy.sgs, All2]
  | .cons t .nil, x, vs => by
    constructor
    · rintro ⟨v, rfl, hv⟩
      exact ⟨LTy.ro_sg.1 hv, trivial⟩
    · intro h
      cases vs with
      | nil => exact h.elim
      | cons v r =>
        cases r with
        | nil => exact ⟨v, rfl, LTy.ro_sg.2 h.1⟩
        | cons _ _ => exact h.2.elim
  | .cons t (.cons u ts), x, vs => by
    constructor
    · rintro ⟨v, r, rfl, hv, hr⟩
      exact ⟨LTy.ro_sg.1 hv, (ETy.vals_iff (.cons u ts) x.2 r).1 hr⟩
    · intro h
      cases vs with
      | nil => exact h.elim
      | cons v r => exact ⟨v, r, rfl, LTy.ro_sg.2 h.1, (ETy.vals_iff (.cons u ts) x.2 r).2 h.2⟩
/-! What is readable stays so where its blocks stay, and under a greater class. -/
mutual
theorem LTy.ro_same {w w' : World} {R R' : Cls} (hs : ∀ b, R b → w'.heap[b]? = w.heap[b]?) (hR : ∀ b, R b → R' b) : ∀ (t : LTy) (x : t.den) (v : Value), LTy.ro w R t x v → LTy.ro w' R' t x v
  | .int k, x, v, h => h
  | .bool, x, v, h => h
  | .str, x, v, h => h
  | .sl T, xs, v, h => by
    rcases h with h | ⟨b, o, c, rfl, hb, hl, h⟩
    · exact .inl h
    · exact .inr ⟨b, o, c, rfl, hR b hb, hl, fun i x hx => ETy.ro_same hs hR T x b _ (hs b hb) (h i x hx)⟩
  | .ptr T, x, v, h => by
    obtain ⟨b, o, rfl, hb, h⟩ := h
    exact ⟨b, o, rfl, hR b hb, ETy.ro_same hs hR T x b o (hs b hb) h⟩
  | .fn f g A B, x, v, h => by
    obtain ⟨vs, cs, rfl, h1, h2⟩ := h
    exact ⟨vs, cs, rfl, ETy.vals_same hs hR A x.1 _ h1, ETy.vals_same hs hR B x.2 _ h2⟩
theorem ETy.ro_same {w w' : World} {R R' : Cls} (hs : ∀ b, R b → w'.heap[b]? = w.heap[b]?) (hR : ∀ b, R b → R' b) : ∀ (T : ETy) (x : T.den) (b o : Nat), w'.heap[b]? = w.heap[b]? → ETy.ro w R T x b o → ETy.ro w' R' T x b o
  | .nil, x, b, o, hb, h => trivial
  | .cons t .nil, x, b, o, hb, h => by
    obtain ⟨v, hc, hv⟩ := h
    exact ⟨v, (cell_same hb).trans hc, LTy.ro_same hs hR t x v hv⟩
  | .cons t (.cons u ts), x, b, o, hb, h => by
    obtain ⟨⟨v, hc, hv⟩, hr⟩ := h
    exact ⟨⟨v, (cell_same hb).trans hc, LTy.ro_same hs hR t x.1 v hv⟩, ETy.ro_same hs hR (.cons u ts) x.2 b (o + 1) hb hr⟩
theorem ETy.vals_same {w w' : World} {R R' : Cls} (hs : ∀ b, R b → w'.heap[b]? = w.heap[b]?) (hR : ∀ b, R b → R' b) : ∀ (T : ETy) (x : T.den) (vs : List Value), ETy.vals w R T x vs → ETy.vals w' R' T x vs
  | .nil, x, vs, h => h
  | .cons t .nil, x, vs, h => by
    obtain ⟨v, rfl, hv⟩ := h
    exact ⟨v, rfl, LTy.ro_same hs hR t x v hv⟩
  | .cons t (.cons u ts), x, vs, h => by
    obtain ⟨v, r, rfl, hv, hr⟩ := h
    exact ⟨v, r, rfl, LTy.ro_same hs hR t x.1 v hv, ETy.vals_same hs hR (.cons u ts) x.2 r hr⟩
end
theorem Sg.ro_same {w w' : World} {R R' : Cls} (hs : ∀ b, R b → w'.heap[b]? = w.heap[b]?) (hR : ∀ b, R b → R' b) {g : Sg} {v : Value} (h : g.ro w R v) : g.ro w' R' v := by
  cases g with
  | int | bool | str => exact h
  | sl T xs => exact LTy.ro_same hs hR (.sl T) xs v h
  | ptr T x => exact LTy.ro_same hs hR (.ptr T) x v h
  | fn f g A B a b => exact LTy.ro_same hs hR (.fn f g A B) (a, b) v h
theorem Sg.ro_one {w : World} {R : Cls} {g : Sg} {v : Value} (h : g.ro w R v) : v.oneCell' = true := by
  cases g with
  | int | bool | str => cases h; rfl
  | sl T xs => rcases h with ⟨_, a, c, rfl⟩ | ⟨b, o, c, rfl, _⟩ <;> rfl
  | ptr T x => obtain ⟨b, o, rfl, _⟩ := h; rfl
  | fn f g A B a b =>
    obtain ⟨vs, cs, hv, _⟩ := (show LTy.ro w R (.fn f g A B) (a, b) v from h)
    rw [hv]
    rfl
/-! Owned: with the list of the blocks. -/
def rowOwn {α : Type} (Q : α → Nat → List Nat → Prop) (s : Nat) : List α → Nat → List Nat → Prop
  | [], _, fp => fp = []
  | x :: xs, o, fp => ∃ f1 f2, fp = f1 ++ f2 ∧ Q x o f1 ∧ rowOwn Q s xs (o + s) f2
mutual
def LTy.own (w : World) : (t : LTy) → t.den → Value → List Nat → Prop
  | .int k, n, v, fp => v = .int k n ∧ fp = []
  | .bool, b, v, fp => v = .bool b ∧ fp = []
  | .str, s, v, fp => v = .string s ∧ fp = []
  | .sl T, xs, v, fp => (xs = [] ∧ fp = [] ∧ ∃ a, v = .slice a 0 0) ∨
      ∃ b o c fr, v = .slice (some ⟨b, o, none⟩) (List.length xs) c ∧ List.length xs ≤ c ∧ blk w b (o + c * T.len) ∧ rowOwn (fun x o fp => ETy.own w T x b o fp) T.len xs o fr ∧ fp = b :: fr
  | .ptr T, x, v, fp => False
  | .fn .., x, v, fp => False
def ETy.own (w : World) : (T : ETy) → T.den → Nat → Nat → List Nat → Prop
  | .nil, _, _, _, fp => fp = []
  | .cons t .nil, x, b, o, fp => ∃ v, w.cell? ⟨b, o, none⟩ = some v ∧ LTy.own w t x v fp
  | .cons t (.cons u ts), x, b, o, fp => ∃ f1 f2, fp = f1 ++ f2 ∧ (∃ v, w.cell? ⟨b, o, none⟩ = some v ∧ LTy.own w t x.1 v f1) ∧ ETy.own w (.cons u ts) x.2 b (o + 1) f2
end
theorem rowOwn_mono {α : Type} {Q Q' : α → Nat → List Nat → Prop} {s : Nat} : ∀ {xs : List α} {o : Nat} {fp : List Nat}, (∀ x o f, (∀ b ∈ f, b ∈ fp) → Q x o f → Q' x o f) → rowOwn Q s xs o fp → rowOwn Q' s xs o fp
  | [], _, _, _, h => h
  | x :: xs, o, fp, hq, h => by
    obtain ⟨f1, f2, rfl, h1, h2⟩ := h
    exact ⟨f1, f2, rfl, hq _ _ _ (fun b hb => by simp [hb]) h1, rowOwn_mono (fun x o f hf h => hq x o f (fun b hb => by simp [hf b hb]) h) h2⟩
mutual
theorem LTy.own_same {w w' : World} : ∀ (t : LTy) (x : t.den) (v : Value) (fp : List Nat), (∀ b ∈ fp, w'.heap[b]? = w.heap[b]?) → LTy.own w t x v fp → LTy.own w' t x v fp
  | .int k, x, v, fp, hs, h => h
  | .bool, x, v, fp, hs, h => h
  | .str, x, v, fp, hs, h => h
  | .sl T, xs, v, fp, hs, h => by
    rcases h with h | ⟨b, o, c, fr, rfl, hl, hb, hr, rfl⟩
    · exact .inl h
    · exact .inr ⟨b, o, c, fr, rfl, hl, hb.same (hs b (by simp)), rowOwn_mono (fun x o f hf h => ETy.own_same T x b o f (hs b (by simp)) (fun b' hb' => hs b' (by simp [hf b' hb'])) h) hr, rfl⟩
  | .ptr T, x, v, fp, hs, h => h
  | .fn .., x, v, fp, hs, h => h
theorem ETy.own_same {w w' : World} : ∀ (T : ETy) (x : T.den) (b o : Nat) (fp : List Nat), w'.heap[b]? = w.heap[b]? → (∀ b ∈ fp, w'.heap[b]? = w.heap[b]?) → ETy.own w T x b o fp → ETy.own w' T x b o fp
  | .nil, x, b, o, fp, hb, hs, h => h
  | .cons t .nil, x, b, o, fp, hb, hs, h => by
    obtain ⟨v, hc, hv⟩ := h
    exact ⟨v, (cell_same hb).trans hc, LTy.own_same t x v fp hs hv⟩
  | .cons t (.cons u ts), x, b, o, fp, hb, hs, h => by
    obtain ⟨f1, f2, rfl, ⟨v, hc, hv⟩, hr⟩ := h
    exact ⟨f1, f2, rfl, ⟨v, (cell_same hb).trans hc, LTy.own_same t x.1 v f1 (fun b hb => hs b (by simp [hb])) hv⟩, ETy.own_same (.cons u ts) x.2 b (o + 1) f2 hb (fun b hb => hs b (by simp [hb])) hr⟩
end
theorem rowOwn_get {α : Type} {Q : α → Nat → List Nat → Prop} {s : Nat} : ∀ {xs : List α} {o : Nat} {fp : List Nat}, rowOwn Q s xs o fp → ∀ i x, xs[i]? = some x → ∃ f, (∀ b ∈ f, b ∈ fp) ∧ Q x (o + i * s) f
  | [], _, _, _, i, x, hx => by simp at hx
  | y :: xs, o, fp, h, 0, x, hx => by
    obtain ⟨f1, f2, rfl, h1, h2⟩ := h
    simp at hx
    subst hx
    exact ⟨f1, fun b hb => by simp [hb], by simpa using h1⟩
  | y :: xs, o, fp, h, i + 1, x, hx => by
    obtain ⟨f1, f2, rfl, h1, h2⟩ := h
    obtain ⟨f, hf, hq⟩ := rowOwn_get h2 i x (by simpa using hx)
    refine ⟨f, fun b hb => by simp [hf b hb], ?_⟩
    rw [show o + (i + 1) * s = o + s + i * s by rw [Nat.add_mul]; omega]
    exact hq
mutual
theorem LTy.own_ro {w : World} {R : Cls} : ∀ (t : LTy) (x : t.den) (v : Value) (fp : List Nat), (∀ b ∈ fp, R b) → LTy.own w t x v fp → LTy.ro w R t x v
  | .int k, x, v, fp, hs, h => h.1
  | .bool, x, v, fp, hs, h => h.1
  | .str, x, v, fp, hs, h => h.1
  | .sl T, xs, v, fp, hs, h => by
    rcases h with ⟨h1, _, a, rfl⟩ | ⟨b, o, c, fr, rfl, hl, hb, hr, rfl⟩
    · exact .inl ⟨h1, a, 0, rfl⟩
    · refine .inr ⟨b, o, c, rfl, hs b (by simp), hl, fun i x hx => ?_⟩
      obtain ⟨f, hf, hq⟩ := rowOwn_get hr i x hx
      exact ETy.own_ro T x b _ f (fun b' hb' => hs b' (by simp [hf b' hb'])) hq
  | .ptr T, x, v, fp, hs, h => h.elim
  | .fn .., x, v, fp, hs, h => h.elim
theorem ETy.own_ro {w : World} {R : Cls} : ∀ (T : ETy) (x : T.den) (b o : Nat) (fp : List Nat), (∀ b ∈ fp, R b) → ETy.own w T x b o fp → ETy.ro w R T x b o
  | .nil, x, b, o, fp, hs, h => trivial
  | .cons t .nil, x, b, o, fp, hs, h => by
    obtain ⟨v, hc, hv⟩ := h
    exact ⟨v, hc, LTy.own_ro t x v fp hs hv⟩
  | .cons t (.cons u ts), x, b, o, fp, hs, h => by
    obtain ⟨f1, f2, rfl, ⟨v, hc, hv⟩, hr⟩ := h
    exact ⟨⟨v, hc, LTy.own_ro t x.1 v f1 (fun b hb => hs b (by simp [hb])) hv⟩, ETy.own_ro (.cons u ts) x.2 b (o + 1) f2 (fun b hb => hs b (by simp [hb])) hr⟩
end
mutual
theorem LTy.own_lt {w : World} : ∀ (t : LTy) (x : t.den) (v : Value) (fp : List Nat), LTy.own w t x v fp → ∀ b ∈ fp, b < w.heap.size
  | .int k, x, v, fp, h, b, hb => by rw [h.2] at hb; cases hb
  | .bool, x, v, fp, h, b, hb => by rw [h.2] at hb; cases hb
  | .str, x, v, fp, h, b, hb => by rw [h.2] at hb; cases hb
  | .sl T, xs, v, fp, h, b, hb => by
    rcases h with ⟨_, h, _⟩ | ⟨b', o, c, fr, rfl, hl, hb', hr, rfl⟩
    · rw [h] at hb; cases hb
    · rcases List.mem_cons.1 hb with rfl | hb
      · exact hb'.lt
      · exact rowOwn_lt (fun x o f h => ETy.own_lt T x b' o f h) hr b hb
  | .ptr T, x, v, fp, h, b, hb => h.elim
  | .fn .., x, v, fp, h, b, hb => h.elim
theorem ETy.own_lt {w : World} : ∀ (T : ETy) (x : T.den) (b o : Nat) (fp : List Nat), ETy.own w T x b o fp → ∀ b ∈ fp, b < w.heap.size
  | .nil, x, b, o, fp, h, b', hb => by rw [h] at hb; cases hb
  | .cons t .nil, x, b, o, fp, h, b', hb => by
    obtain ⟨v, hc, hv⟩ := h
    exact LTy.own_lt t x v fp hv b' hb
  | .cons t (.cons u ts), x, b, o, fp, h, b', hb => by
    obtain ⟨f1, f2, rfl, ⟨v, hc, hv⟩, hr⟩ := h
    rcases List.mem_append.1 hb with hb | hb
    · exact LTy.own_lt t x.1 v f1 hv b' hb
    · exact ETy.own_lt (.cons u ts) x.2 b (o + 1) f2 hr b' hb
theorem rowOwn_lt {α : Type} {Q : α → Nat → List Nat → Prop} {s n : Nat} (hq : ∀ x o f, Q x o f → ∀ b ∈ f, b < n) : ∀ {xs : List α} {o : Nat} {fp : List Nat}, rowOwn Q s xs o fp → ∀ b ∈ fp, b < n
  | [], _, _, h, b, hb => by rw [h] at hb; cases hb
  | y :: xs, o, fp, h, b, hb => by
    obtain ⟨f1, f2, rfl, h1, h2⟩ := h
    rcases List.mem_append.1 hb with hb | hb
    · exact hq _ _ _ h1 b hb
    · exact rowOwn_lt hq h2 b hb
end
end V
end Go.Proofs.Ytchhidcbfladhaa
