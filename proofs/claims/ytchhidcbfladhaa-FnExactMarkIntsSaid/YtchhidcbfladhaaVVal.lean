/- Contracts: what it is that a Go function does what a Lean function says. -/
import Derived.Test.YtchhidcbfladhaaVTyOk
namespace Go.Proofs.Ytchhidcbfladhaa
namespace V
set_option linter.unusedVariables false
/-- How a parameter or a result is held: read alone; owned; a variable of the caller's (are its rows owned?). -/
inductive Md where
  | ro | own | box (ow : Bool)
def Sg.own (w : World) : Sg → Value → List Nat → Prop
  | .int k n, v, fp => v = .int k n ∧ fp = []
  | .bool b, v, fp => v = .bool b ∧ fp = []
  | .str s, v, fp => v = .string s ∧ fp = []
  | .sl T xs, v, fp => LTy.own w (.sl T) xs v fp
  | .ptr .., _, _ => False
  | .fn .., _, _ => False
theorem LTy.own_sg {w : World} {t : LTy} {x : t.den} {v : Value} {fp : List Nat} : LTy.own w t x v fp ↔ (t.sg x).own w v fp := by
  cases t <;> rfl
theorem Sg.own_ro {w : World} {R : Cls} {g : Sg} {v : Value} {fp : List Nat} (hf : ∀ b ∈ fp, R b) (h : g.own w v fp) : g.ro w R v := by
  cases g with
  | int | bool | str => exact h.1
  | sl T xs => exact LTy.own_ro (.sl T) xs v fp hf h
  | ptr => exact h.elim
  | fn => exact h.elim
theorem Sg.own_same {w w' : World} {g : Sg} {v : Value} {fp : List Nat} (hs : ∀ b ∈ fp, w'.heap[b]? = w.heap[b]?) (h : g.own w v fp) : g.own w' v fp := by
  cases g with
  | int | bool | str => exact h
  | sl T xs => exact LTy.own_same (.sl T) xs v fp hs h
  | ptr => exact h
  | fn => exact h
theorem Sg.own_lt {w : World} {g : Sg} {v : Value} {fp : List Nat} (h : g.own w v fp) : ∀ b ∈ fp, b < w.heap.size := by
  cases g with
  | int | bool | str => intro b hb; rw [h.2] at hb; cases hb
  | sl T xs => exact LTy.own_lt (.sl T) xs v fp h
  | ptr => exact h.elim
  | fn => exact h.elim
theorem Sg.own_one {w : World} {g : Sg} {v : Value} {fp : List Nat} (h : g.own w v fp) : v.oneCell' = true :=
  Sg.ro_one (R := fun _ => True) (Sg.own_ro (fun _ _ => trivial) h)
/-- Owned cells, one behind the other. -/
def cellsOwn (w : World) : List Sg → Nat → Nat → List Nat → Prop
  | [], _, _, fp => fp = []
  | g :: gs, b, o, fp => ∃ f1 f2, fp = f1 ++ f2 ∧ (∃ v, w.cell? ⟨b, o, none⟩ = some v ∧ g.own w v f1) ∧ cellsOwn w gs b (o + 1) f2
theorem ETy.own_iff {w : World} {b : Nat} : ∀ (T : ETy) (x : T.den) (o : Nat) (fp : List Nat), ETy.own w T x b o fp ↔ cellsOwn w (T.sgs x) b o fp
  | .nil, x, o, fp => Iff.rfl
  | .cons t .nil, x, o, fp => by
    constructor
    · rintro ⟨v, hc, hv⟩
      exact ⟨fp, [], by simp, ⟨v, hc, LTy.own_sg.1 hv⟩, rfl⟩
    · rintro ⟨f1, f2, rfl, ⟨v, hc, hv⟩, rfl⟩
      exact ⟨v, hc, by simpa using LTy.own_sg.2 hv⟩
  | .cons t (.cons u ts), x, o, fp => by
    constructor
    · rintro ⟨f1, f2, rfl, ⟨v, hc, hv⟩, hr⟩
      exact ⟨f1, f2, rfl, ⟨v, hc, LTy.own_sg.1 hv⟩, (ETy.own_iff (.cons u ts) x.2 (o + 1) f2).1 hr⟩
    · rintro ⟨f1, f2, rfl, ⟨v, hc, hv⟩, hr⟩
      exact ⟨f1, f2, rfl, ⟨v, hc, LTy.own_sg.2 hv⟩, (ETy.own_iff (.cons u ts) x.2 (o + 1) f2).2 hr⟩
theorem cellsOwn_same {w w' : World} : ∀ {gs : List Sg} {b o : Nat} {fp : List Nat}, w'.heap[b]? = w.heap[b]? → (∀ b ∈ fp, w'.heap[b]? = w.heap[b]?) → cellsOwn w gs b o fp → cellsOwn w' gs b o fp
  | [], _, _, _, _, _, h => h
  | g :: gs, b, o, fp, hb, hs, h => by
    obtain ⟨f1, f2, rfl, ⟨v, hc, hv⟩, hr⟩ := h
    exact ⟨f1, f2, rfl, ⟨v, (cell_same hb).trans hc, Sg.own_same (fun b hb => hs b (by simp [hb])) hv⟩, cellsOwn_same hb (fun b hb => hs b (by simp [hb])) hr⟩
theorem cellsOwn_ro {w : World} {R : Cls} : ∀ {gs : List Sg} {b o : Nat} {fp : List Nat}, (∀ b ∈ fp, R b) → cellsOwn w gs b o fp → cellsRo w R gs b o
  | [], _, _, _, _, _ => fun j g h => by simp at h
  | g :: gs, b, o, fp, hf, h => by
    obtain ⟨f1, f2, rfl, ⟨v, hc, hv⟩, hr⟩ := h
    intro j g' hg
    cases j with
    | zero => simp at hg; subst hg; exact ⟨v, hc, Sg.own_ro (fun b hb => hf b (by simp [hb])) hv⟩
    | succ j =>
      have := cellsOwn_ro (R := R) (fun b hb => hf b (by simp [hb])) hr j g' (by simpa using hg)
      rw [show o + (j + 1) = o + 1 + j by omega]
      exact this
theorem cellsOwn_lt {w : World} : ∀ {gs : List Sg} {b o : Nat} {fp : List Nat}, cellsOwn w gs b o fp → ∀ b ∈ fp, b < w.heap.size
  | [], _, _, _, h, b, hb => by rw [h] at hb; cases hb
  | g :: gs, b, o, fp, h, b', hb => by
    obtain ⟨f1, f2, rfl, ⟨v, hc, hv⟩, hr⟩ := h
    rcases List.mem_append.1 hb with hb | hb
    · exact Sg.own_lt hv b' hb
    · exact cellsOwn_lt hr b' hb
theorem cellsRo_same {w w' : World} {R R' : Cls} {gs : List Sg} {b o : Nat} (hs : ∀ b, R b → w'.heap[b]? = w.heap[b]?) (hR : ∀ b, R b → R' b) (hb : w'.heap[b]? = w.heap[b]?) (h : cellsRo w R gs b o) : cellsRo w' R' gs b o := by
  intro j g hg
  obtain ⟨v, hc, hv⟩ := h j g hg
  exact ⟨v, (cell_same hb).trans hc, Sg.ro_same hs hR hv⟩
def Sg.rel (w : World) (R : Cls) : Md → Sg → Value → List Nat → Prop
  | .ro, g, v, fp => g.ro w R v ∧ fp = []
  | .own, g, v, fp => g.own w v fp
  | .box true, .ptr T x, v, fp => ∃ b vs e fr, v = .pointer (some ⟨b, 0, none⟩) ∧ w.heap[b]? = some (.cells vs e (0, 0)) ∧ vs.size = T.len ∧ fp = b :: fr ∧ cellsOwn w (T.sgs x) b 0 fr
  | .box false, .ptr T x, v, fp => ∃ b vs e, v = .pointer (some ⟨b, 0, none⟩) ∧ w.heap[b]? = some (.cells vs e (0, 0)) ∧ vs.size = T.len ∧ fp = [b] ∧ cellsRo w R (T.sgs x) b 0
  | .box _, _, _, _ => False
theorem Sg.rel_lt {w : World} {R : Cls} {m : Md} {g : Sg} {v : Value} {fp : List Nat} (h : g.rel w R m v fp) : ∀ b ∈ fp, b < w.heap.size := by
  cases m with
  | ro => intro b hb; rw [h.2] at hb; cases hb
  | own => exact Sg.own_lt h
  | box ow =>
    cases g with
    | ptr T x =>
      cases ow with
      | true =>
        obtain ⟨b, vs, e, fr, rfl, hb, hl, rfl, hc⟩ := h
        intro b' hb'
        rcases List.mem_cons.1 hb' with rfl | hb'
        · exact (Array.getElem?_eq_some_iff.1 hb).1
        · exact cellsOwn_lt hc b' hb'
      | false =>
        obtain ⟨b, vs, e, rfl, hb, hl, rfl, hc⟩ := h
        intro b' hb'
        rcases List.mem_cons.1 hb' with rfl | hb'
        · exact (Array.getElem?_eq_some_iff.1 hb).1
        · cases hb'
    | _ => cases ow <;> exact h.elim
theorem Sg.rel_one {w : World} {R : Cls} {m : Md} {g : Sg} {v : Value} {fp : List Nat} (h : g.rel w R m v fp) : v.oneCell' = true := by
  cases m with
  | ro => exact Sg.ro_one h.1
  | own => exact Sg.own_one h
  | box ow =>
    cases g with
    | ptr T x =>
      cases ow with
      | true => obtain ⟨b, vs, e, fr, rfl, _⟩ := h; rfl
      | false => obtain ⟨b, vs, e, rfl, _⟩ := h; rfl
    | _ => cases ow <;> exact h.elim
/-- Values one by one, with the blocks of all of them. -/
def relAll (w : World) (R : Cls) : List (Md × Sg) → List Value → List Nat → Prop
  | [], [], fp => fp = []
  | (m, g) :: r, v :: vs, fp => ∃ f1 f2, fp = f1 ++ f2 ∧ g.rel w R m v f1 ∧ relAll w R r vs f2
  | _, _, _ => False
def argMds (io : List (Nat × Bool)) : Nat → List Sg → List (Md × Sg)
  | _, [] => []
  | q, g :: r => ((match look io q with | none => Md.ro | some ow => match g with | .ptr .. => .box ow | _ => .own), g) :: argMds io (q + 1) r
def resMds : List Bool → List Sg → List (Md × Sg)
  | _, [] => []
  | own, g :: r => ((match own.headD false, g with | true, .sl .. => Md.own | true, .ptr .. => .box false | _, _ => .ro), g) :: resMds own.tail r
def ioMds : List (Nat × Bool) → List Sg → List (Md × Sg)
  | (_, ow) :: r, g :: gs => ((match g with | .ptr .. => .box ow | _ => .own), g) :: ioMds r gs
  | _, _ => []
def packV : List (Bool × Nat) → List Value → List Value
  | [], _ => []
  | (g, n) :: r, vs => (match g with | true => .agg (vs.take n).toArray | false => vs.headD Go.undef) :: packV r (vs.drop n)
def tupV : List Value → Value
  | [v] => v
  | vs => .tuple vs.toArray
/-- The values of the written parameters. -/
def ioVals (io : List (Nat × Bool)) (vs : List Value) : List Value := io.map fun p => vs.getD p.1 Go.undef
/-- The world has grown; nothing that was is changed but blocks of W. -/
structure Ext (W : List Nat) (w w' : World) : Prop where
  sz : w.heap.size ≤ w'.heap.size
  fr : ∀ b, b < w.heap.size → b ∉ W → w'.heap[b]? = w.heap[b]?
  os : w'.os = w.os
  out : w'.output = w.output
  tape : w'.tape = w.tape
structure Valid (P : Program) (g : Nat) (con : Con) : Prop where
  fn : ∃ fn, P.funcs[g]? = some fn ∧ (fn.name == "runtime.NumGoroutine") = false ∧ fn.body.isNone = false
  calls : ∀ x y, con.f x = some y → ∀ (w : World) (vs : List Value) (R : Cls) (fp : List Nat), relAll w R (argMds con.io 0 (con.A.sgs x)) vs fp → fp.Nodup → (∀ b ∈ fp, ¬ R b) → (∀ b, R b → b < w.heap.size) →
    Calls P g (packV con.ps vs).toArray w fun e w' => ∃ rs fo fr R', e = .returned (tupV (packV con.rs rs)) ∧
      relAll w' R' (ioMds con.io ((con.B.sgs y).take con.io.length)) (ioVals con.io vs) fo ∧ relAll w' R' (resMds con.own ((con.B.sgs y).drop con.io.length)) rs fr ∧
      (fo ++ fr).Nodup ∧ (∀ b ∈ fo ++ fr, ¬ R' b ∧ (b ∈ fp ∨ w.heap.size ≤ b)) ∧ (∀ b, R b → R' b) ∧ (∀ b, R' b → b < w'.heap.size ∧ (R b ∨ w.heap.size ≤ b)) ∧ Ext fp w w'
structure EnvOk (P : Program) (E : Env) : Prop where
  ty : ∀ t i, E.ty t = some i → TiOk P t i
  tab : ∀ g con, E.tab g = some con → Valid P g con
  mixed : P.follows .mixedOrders = true
end V
end Go.Proofs.Ytchhidcbfladhaa
