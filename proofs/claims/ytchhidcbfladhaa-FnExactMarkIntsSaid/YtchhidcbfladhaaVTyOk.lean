/- The types' table agrees with the program's. -/
import Derived.Test.YtchhidcbfladhaaVSt
import Derived.Laws.Entries
namespace Go.Proofs.Ytchhidcbfladhaa
namespace V
set_option linter.unusedVariables false
def zl : Lf → Value → Bool
  | .val (.int k n), .int k' m => decide (k = k') && decide (n = m)
  | .val (.bool b), .bool b' => b == b'
  | .val (.str s), .string s' => decide (s.data = s'.data)
  | .nil0, .slice none 0 0 => true
  | .nilp, .pointer none => true
  | .dead, v => v.oneCell'
  | _, _ => false
def sgZ : Sg → Value → Bool
  | .int k n, .int k' m => decide (k = k') && decide (n = m)
  | .bool b, .bool b' => b == b'
  | .str s, .string s' => decide (s.data = s'.data)
  | .sl _ xs, .slice none 0 0 => match xs with | [] => true | _ => false
  | _, _ => false
def all2 {α β : Type} (q : α → β → Bool) : List α → List β → Bool
  | [], [] => true
  | a :: r, b :: s => q a b && all2 q r s
  | _, _ => false
theorem all2_All2 {α β : Type} {q : α → β → Bool} {Q : α → β → Prop} (h : ∀ a b, q a b = true → Q a b) : ∀ {l : List α} {m : List β}, all2 q l m = true → All2 Q l m
  | [], [], _ => trivial
  | a :: r, b :: s, hq => by
    simp only [all2, Bool.and_eq_true] at hq
    exact ⟨h a b hq.1, all2_All2 h hq.2⟩
  | [], _ :: _, hq => by simp [all2] at hq
  | _ :: _, [], hq => by simp [all2] at hq
def descAgg : TypeDesc → Bool
  | .struct _ | .array _ _ => true
  | _ => false
def fieldChk (P : Program) (x : Nat × Nat × Bool) (f : Field) : Bool :=
  match P.underlying f.type, P.info? f.type with
  | some d, some i => decide (f.offset = x.1) && decide (i.size = x.2.1) && decide (1 ≤ x.2.1) && (descAgg d == x.2.2)
  | _, _ => false
def scalarChk (P : Program) : Nat → List Field → List Value → Bool
  | _, [], [] => true
  | j, f :: fs, z :: zs =>
    decide (f.offset = j) && !(f.name == "_") && (match P.underlying f.type, z with | some (.int _), .int _ _ => true | some .bool, .bool _ => true | some .string, .string _ => true | _, _ => false) && scalarChk P (j + 1) fs zs
  | _, _, _ => false
def tiChk (P : Program) (t : Nat) (i : TI) : Bool :=
  match P.underlying t, P.info? t with
  | some d, some info =>
    (match i.k, d with
      | .int k, .int k' => decide (k = k')
      | .bool, .bool => true
      | .str, .string => true
      | .sl e, .slice e' => decide (e = e')
      | .st, .struct fs => all2 (fieldChk P) i.fields fs.toList && !(P.stoodInHeld t) && (!i.eq || ((match info.zero with | some z => scalarChk P 0 fs.toList z.cells.toList | none => false) && !(P.eqGuardType P.depth t)))
      | .oth, .pointer _ => true
      | .oth, .func _ _ _ => true
      | _, _ => false) && (i.k.agg || !i.eq) &&
    (i.k.agg || i.fields.isEmpty) && decide (info.size = i.zero.length) && decide (info.bytes = i.bytes) && decide (1 ≤ info.size) &&
    (match info.zero with
      | some z => (match z, i.k.agg with | .agg _, true => true | .tuple _, _ => false | .agg _, false => false | _, g => !g) && all2 zl i.zero z.cells.toList && (decide (i.T.len = 0) || all2 sgZ (i.T.sgs i.T.dflt) z.cells.toList)
      | none => false)
  | _, _ => false
structure TiOk (P : Program) (t : Nat) (i : TI) : Prop where
  und : ∃ d, P.underlying t = some d ∧ descAgg d = i.k.agg ∧ (∀ k, i.k = .int k → d = .int k) ∧ (i.k = .str → d = .string) ∧ (∀ e, i.k = .sl e → d = .slice e) ∧ (∀ e, d = .slice e → i.k = .sl e) ∧
    (i.k = .st → ∃ fs, d = .struct fs ∧ P.stoodInHeld t = false ∧ fs.size = i.fields.length ∧ ∀ (j : Nat) (x : Nat × Nat × Bool), i.fields[j]? = some x → ∃ f d' i', fs[j]? = some f ∧ P.underlying f.type = some d' ∧ P.info? f.type = some i' ∧ f.offset = x.1 ∧ i'.size = x.2.1 ∧ 1 ≤ x.2.1 ∧ descAgg d' = x.2.2)
  fld : i.k.agg = true ∨ i.fields = []
  zs : ∀ l ∈ i.zero, ∀ n, l.says n = false
  bl : i.k = .bool → P.underlying t = some .bool
  eqs : i.eq = true → ∃ fs zs, P.underlying t = some (.struct fs) ∧ P.stoodInHeld t = false ∧ fs.size = i.fields.length ∧ scalarChk P 0 fs.toList zs = true ∧ all2 zl i.zero zs = true ∧ P.eqGuardType P.depth t = false
  info : ∃ info z, P.info? t = some info ∧ info.size = i.zero.length ∧ info.bytes = i.bytes ∧ 1 ≤ i.zero.length ∧ info.zero = some z ∧ z.cells.size = i.zero.length ∧
    (∀ u ∈ z.cells.toList, u.oneCell' = true) ∧
    (∀ c w R H, All2 (Lf.rel c w R H) i.zero z.cells.toList) ∧ (i.T.len ≠ 0 → i.T.len = i.zero.length ∧ All2 (fun g v => sgZ g v = true) (i.T.sgs i.T.dflt) z.cells.toList)
theorem zl_rel {l : Lf} {v : Value} (h : zl l v = true) (c : Cc) (w : World) (R : Cls) (H : Hp) : l.rel c w R H v ∧ v.oneCell' = true := by
  cases l with
  | val g =>
    cases g <;> cases v <;> simp [zl] at h
    · obtain ⟨rfl, rfl⟩ := h; exact ⟨rfl, rfl⟩
    · subst h; exact ⟨rfl, rfl⟩
    · rename_i s s'
      have : s = s' := by cases s; cases s'; simp at h; rw [h]
      subst this
      exact ⟨rfl, rfl⟩
  | nil0 =>
    cases v with
    | slice a n m =>
      cases a with
      | none =>
        cases n with
        | zero => cases m with | zero => exact ⟨⟨none, rfl⟩, rfl⟩ | succ m => simp [zl] at h
        | succ n => simp [zl] at h
      | some a => simp [zl] at h
    | _ => simp [zl] at h
  | nilp =>
    cases v with
    | pointer a => cases a with | none => exact ⟨rfl, rfl⟩ | some a => simp [zl] at h
    | _ => simp [zl] at h
  | dead => exact ⟨trivial, h⟩
  | _ => simp [zl] at h
theorem tiOk {P : Program} {t : Nat} {i : TI} (h : tiChk P t i = true) : TiOk P t i := by
  unfold tiChk at h
  split at h
  case h_2 => cases h
  rename_i d info hd hi
  simp only [Bool.and_eq_true, decide_eq_true_eq] at h
  obtain ⟨⟨⟨⟨⟨⟨hk, heq⟩, hfl⟩, hs⟩, hb⟩, h1⟩, hz⟩ := h
  constructor
  · refine ⟨d, hd, ?_⟩
    cases hik : i.k with
    | int k => cases d <;> simp [hik] at hk; subst hk; simp [descAgg, Tk.agg]
    | bool => cases d <;> simp [hik] at hk; simp [descAgg, Tk.agg]
    | str => cases d <;> simp [hik] at hk; simp [descAgg, Tk.agg]
    | sl e => cases d <;> simp [hik] at hk; subst hk; simp [descAgg, Tk.agg]
    | st =>
      cases d <;> simp [hik] at hk
      rename_i fs
      obtain ⟨⟨hk, hst⟩, hsc⟩ := hk
      refine ⟨by simp [descAgg, Tk.agg], by simp, by simp, by simp, by simp, fun _ => ⟨fs, rfl, hst, ?_, ?_⟩⟩
      · have := (all2_All2 (Q := fun _ _ => True) (fun _ _ _ => trivial) hk).length
        simpa using this.symm
      · intro j x hx
        obtain ⟨f, hf, hc⟩ := (all2_All2 (Q := fun x f => fieldChk P x f = true) (fun _ _ h => h) hk).get j x hx
        unfold fieldChk at hc
        split at hc
        case h_2 => cases hc
        rename_i d' i' hd' hi'
        simp only [Bool.and_eq_true, decide_eq_true_eq, beq_iff_eq] at hc
        exact ⟨f, d', i', by simpa using hf, hd', hi', hc.1.1.1, hc.1.1.2, hc.1.2, hc.2⟩
    | oth => cases d <;> simp [hik] at hk <;> simp [descAgg, Tk.agg]
  · simpa using hfl
  · have key : ∀ (ls : List Lf) (vs : List Value), all2 zl ls vs = true → ∀ l ∈ ls, ∀ n, l.says n = false := by
      intro ls
      induction ls with
      | nil => intro vs _ l hl; cases hl
      | cons l0 ls ih =>
        intro vs hv l hl n
        cases vs with
        | nil => simp [all2] at hv
        | cons v vs =>
          simp only [all2, Bool.and_eq_true] at hv
          rcases List.mem_cons.1 hl with rfl | hl
          · cases l <;> first | rfl | (simp [zl] at hv)
          · exact ih vs hv.2 l hl n
    cases hzz : info.zero with
    | none => simp [hzz] at hz
    | some z =>
      simp only [hzz, Bool.and_eq_true] at hz
      exact key _ _ hz.1.2
  · intro hb'
    rw [hd]
    cases d <;> simp [hb'] at hk
    rfl
  · intro he
    rw [he] at heq
    cases hik : i.k with
    | st =>
      cases d <;> simp [hik] at hk
      rename_i fs
      obtain ⟨⟨hk, hst⟩, hsc⟩ := hk
      have hlen := (all2_All2 (Q := fun _ _ => True) (fun _ _ _ => trivial) hk).length
      rcases hsc with hsc | hsc
      · rw [he] at hsc; cases hsc
      · obtain ⟨hsc, hg⟩ := hsc
        split at hsc
        · rename_i z hz'
          rw [hz'] at hz
          simp only [Bool.and_eq_true] at hz
          exact ⟨fs, z.cells.toList, hd, hst, by simpa using hlen.symm, hsc, hz.1.2, hg⟩
        · cases hsc
    | _ => simp [hik, Tk.agg] at heq
  · cases hzz : info.zero with
    | none => simp [hzz] at hz
    | some z =>
      simp only [hzz, Bool.and_eq_true, Bool.or_eq_true, decide_eq_true_eq] at hz
      obtain ⟨⟨ha, hz⟩, hT⟩ := hz
      have hlen := (all2_All2 (Q := fun _ _ => True) (fun _ _ _ => trivial) hz).length
      have hone : ∀ u ∈ z.cells.toList, u.oneCell' = true := by
        have : ∀ (l : List Lf) (m : List Value), all2 zl l m = true → ∀ u ∈ m, u.oneCell' = true := by
          intro l
          induction l with
          | nil => intro m hm u hu; cases m with | nil => cases hu | cons _ _ => simp [all2] at hm
          | cons a l ih =>
            intro m hm u hu
            cases m with
            | nil => cases hu
            | cons b m =>
              simp only [all2, Bool.and_eq_true] at hm
              rcases List.mem_cons.1 hu with rfl | hu
              · exact (zl_rel hm.1 ⟨fun _ => none, fun _ => []⟩ default (fun _ => False) []).2
              · exact ih m hm.2 u hu
        exact this _ _ hz
      refine ⟨info, z, hi, hs, hb, by omega, hzz, by simpa using hlen.symm, hone, fun c w R H => all2_All2 (fun l v h => (zl_rel h c w R H).1) hz, fun hT0 => ?_⟩
      rcases hT with hT | hT
      · exact absurd hT hT0
      · have h2 := all2_All2 (Q := fun g v => sgZ g v = true) (fun _ _ h => h) hT
        exact ⟨by rw [← ETy.sgs_length i.T i.T.dflt, h2.length, ← hlen], h2⟩
end V
end Go.Proofs.Ytchhidcbfladhaa
