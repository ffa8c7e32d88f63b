/- The evaluator's states as assertions on the machine's. -/
import Derived.Test.YtchhidcbfladhaaVRel
namespace Go.Proofs.Ytchhidcbfladhaa
namespace V
set_option linter.unusedVariables false
structure Cc where
  at_ : Nat → Option (Nat × Nat)
  fp : Nat → List Nat
/-- What a call may touch: the world at its start, the blocks that it may write, its temporaries' number, where written parameters lie. -/
structure Fr where
  w0 : World
  W : List Nat
  nt : Nat
  io : List (Nat × Option (Nat × Nat))
def refAt (w : World) (T : ETy) (len : Nat) (v : Value) : Option (Nat × Nat) → Prop
  | none => ∃ a, v = .slice a 0 0
  | some (b, o) => ∃ cp, v = .slice (some ⟨b, o, none⟩) len cp ∧ len ≤ cp ∧ blk w b (o + cp * T.len)
def capsRel (c : Cc) (H : Hp) (ns : List Nat) (vs : List Value) : Prop :=
  All2 (fun n v => ∀ ls, look H n = some (.box ls) → ∃ b, c.at_ n = some (b, 0) ∧ v = .pointer (some ⟨b, 0, none⟩)) ns vs
def Lf.rel (c : Cc) (w : World) (R : Cls) (H : Hp) : Lf → Value → Prop
  | .val g, v => g.ro w R v
  | .nil0, v => ∃ a, v = .slice a 0 0
  | .ref n, v => ∀ T d xs, look H n = some (.row T d xs) → refAt w T xs.length v (c.at_ n)
  | .pref n i j, v => ∀ T d xs, look H n = some (.row T d xs) → d = true ∧ i < xs.length ∧ j < T.len ∧ ∃ b o, c.at_ n = some (b, o) ∧ w.cell? ⟨b, o + i * T.len + j, none⟩ = some v
  | .ptr n off, v => ∀ ls, look H n = some (.box ls) → ∃ b, c.at_ n = some (b, 0) ∧ v = .pointer (some ⟨b, off, none⟩)
  | .eptr n i j, v => ∀ T d xs, look H n = some (.row T d xs) → i < xs.length ∧ ∃ b o, c.at_ n = some (b, o) ∧ v = .pointer (some ⟨b, o + i * T.len + j, none⟩)
  | .rptr p j, v => ∃ b o, v = .pointer (some ⟨b, o + j, none⟩) ∧ R b ∧ p.T.ro w R p.x b o
  | .fnl f caps, v => ∃ vs : List Value, v = .func (.func f) #[] vs.toArray ∧ capsRel c H caps vs
  | .nilp, v => v = .pointer none
  | .dead, _ => True
def V1.rel (c : Cc) (w : World) (R : Cls) (H : Hp) (g : Bool) (ls : List Lf) (v : Value) : Prop :=
  match g with
  | false => ∃ l, ls = [l] ∧ l.rel c w R H v
  | true => ∃ vs : List Value, v = .agg vs.toArray ∧ All2 (Lf.rel c w R H) ls vs
def AV.rel (c : Cc) (w : World) (R : Cls) (H : Hp) : AV → Value → Prop
  | .v g ls, x => V1.rel c w R H g ls x
  | .tup ps, x => ∃ vs : List Value, x = .tuple vs.toArray ∧ All2 (fun p y => V1.rel c w R H p.1 p.2 y) ps vs
  | .undef, x => x = Go.undef
def Ent.rel (c : Cc) (w : World) (R : Cls) (H : Hp) (n : Nat) : Ent → Prop
  | .box ls => ∃ b vs e, c.at_ n = some (b, 0) ∧ c.fp n = [b] ∧ w.heap[b]? = some (.cells vs e (0, 0)) ∧ All2 (Lf.rel c w R H) ls vs.toList
  | .row T true xs =>
    match c.at_ n with
    | none => xs = [] ∧ c.fp n = []
    | some (b, o) => ∃ fr, c.fp n = b :: fr ∧ blk w b (o + xs.length * T.len) ∧ rowOwn (fun x o fp => ETy.own w T x b o fp) T.len xs o fr
  | .row T false xs =>
    match c.at_ n with
    | none => xs = [] ∧ c.fp n = []
    | some (b, o) => c.fp n = [b] ∧ blk w b (o + xs.length * T.len) ∧ ∀ i x, nth xs i = some x → ETy.ro w R T x b (o + i * T.len)
structure Rel (F : Fr) (c : Cc) (w : World) (R : Cls) (σ : St) (a : Act) : Prop where
  tm : ∀ t av, look σ.tmps t = some av → ∃ v, a.tmps[t]? = some v ∧ av.rel c w R σ.heap v
  hp : ∀ n e, look σ.heap n = some e → e.rel c w R σ.heap n
  nd : ∀ n e, look σ.heap n = some e → (c.fp n).Nodup
  dj : ∀ n e m e', n ≠ m → look σ.heap n = some e → look σ.heap m = some e' → ∀ b ∈ c.fp n, b ∉ c.fp m
  nr : ∀ n e, look σ.heap n = some e → ∀ b ∈ c.fp n, ¬ R b ∧ (b ∈ F.W ∨ F.w0.heap.size ≤ b)
  rl : ∀ b, R b → b < w.heap.size
  sz : F.w0.heap.size ≤ w.heap.size
  fr : ∀ b, b < F.w0.heap.size → b ∉ F.W → w.heap[b]? = F.w0.heap[b]?
  os : w.os = F.w0.os
  out : w.output = F.w0.output
  tape : w.tape = F.w0.tape
  df : a.defers = []
  nt : a.tmps.size = F.nt
  io : ∀ p z, look F.io p = some z → ∀ e, look σ.heap p = some e → c.at_ p = z
theorem look_cons {α : Type} (m : Nat) (x : α) (r : List (Nat × α)) (n : Nat) : look ((m, x) :: r) n = if n = m then some x else look r n := by
  show (match Nat.beq n m with | true => some x | false => look r n) = _
  by_cases h : n = m
  · subst h; simp
  · have : Nat.beq n m = false := by cases hb : Nat.beq n m with | true => exact absurd (Nat.eq_of_beq_eq_true hb) h | false => rfl
    simp [this, h]
theorem look_append {α : Type} (n : Nat) : ∀ (l r : List (Nat × α)), look (l ++ r) n = match look l n with | some x => some x | none => look r n
  | [], r => rfl
  | (m, x) :: l, r => by
    rw [List.cons_append, look_cons, look_cons, look_append n l r]
    by_cases h : n = m <;> simp [h]
theorem mem_iff : ∀ (l : List Nat) (n : Nat), mem l n = true ↔ n ∈ l
  | [], n => by simp [mem]
  | m :: l, n => by
    unfold mem
    cases hb : Nat.beq n m with
    | true => simp [Nat.eq_of_beq_eq_true hb]
    | false =>
      have : n ≠ m := fun h => by subst h; simp at hb
      simp [this, mem_iff l n]
theorem look_drop : ∀ (H : Hp) (ns : List Nat) (n : Nat), look (drop H ns) n = if n ∈ ns then none else look H n
  | [], ns, n => by simp [drop, look]
  | (m, e) :: r, ns, n => by
    unfold drop
    cases hm : mem ns m with
    | true =>
      simp only [look_drop r ns n, look_cons]
      have hm' := (mem_iff ns m).1 hm
      by_cases h : n ∈ ns
      · simp [h]
      · have : n ≠ m := fun e => h (e ▸ hm')
        simp [h, this]
    | false =>
      have hm' : ¬ m ∈ ns := fun h => by simp [(mem_iff ns m).2 h] at hm
      simp only [look_cons, look_drop r ns n]
      by_cases h : n = m
      · subst h; simp [hm']
      · simp [h]
theorem look_sets : ∀ (H S : Hp) (n : Nat), look (sets H S) n = match look H n, look S n with | some _, some e' => some e' | x, _ => x
  | [], S, n => by simp [sets, look]
  | (m, e) :: r, S, n => by
    unfold sets
    cases hS : look S m with
    | some e' =>
      simp only [look_cons, look_sets r S n]
      by_cases h : n = m
      · subst h; simp [hS]
      · simp [h]
    | none =>
      simp only [look_cons, look_sets r S n]
      by_cases h : n = m
      · subst h; simp [hS]
      · simp [h]
/-- A leaf that stands somewhere in a state. -/
def AV.leaves : AV → List Lf
  | .v _ ls => ls
  | .tup vs => flatA vs
  | .undef => []
def St.has (σ : St) (l : Lf) : Prop := (∃ t av, look σ.tmps t = some av ∧ l ∈ av.leaves) ∨ (∃ n ls, look σ.heap n = some (.box ls) ∧ l ∈ ls)
theorem lsSay_mem {n : Nat} : ∀ {ls : List Lf}, lsSay n ls = false → ∀ l ∈ ls, l.says n = false
  | [], _, l, hl => by cases hl
  | m :: ls, h, l, hl => by
    simp only [lsSay, Bool.or_eq_false_iff] at h
    rcases List.mem_cons.1 hl with rfl | hl
    · exact h.1
    · exact lsSay_mem h.2 l hl
theorem vsSay_mem {n : Nat} : ∀ {vs : List (Bool × List Lf)}, vsSay n vs = false → ∀ l ∈ flatA vs, l.says n = false
  | [], _, l, hl => by cases hl
  | (g, ls) :: vs, h, l, hl => by
    simp only [vsSay, Bool.or_eq_false_iff] at h
    rcases List.mem_append.1 hl with hl | hl
    · exact lsSay_mem h.1 l hl
    · exact vsSay_mem h.2 l hl
theorem tmpsSay_look {n : Nat} : ∀ {ts : List (Nat × AV)}, tmpsSay n ts = false → ∀ t av, look ts t = some av → av.says n = false
  | [], _, t, av, h => by simp [look] at h
  | (m, a) :: ts, h, t, av, hl => by
    simp only [tmpsSay, Bool.or_eq_false_iff] at h
    rw [look_cons] at hl
    by_cases e : t = m
    · simp [e] at hl; subst hl; exact h.1
    · simp [e] at hl; exact tmpsSay_look h.2 t av hl
theorem heapSay_look {n : Nat} : ∀ {H : Hp}, heapSay n H = false → look H n = none ∧ ∀ m e, look H m = some e → e.says n = false
  | [], _ => ⟨rfl, fun m e h => by simp [look] at h⟩
  | (m, a) :: ts, h => by
    simp only [heapSay, Bool.or_eq_false_iff] at h
    obtain ⟨⟨h1, h2⟩, h3⟩ := h
    obtain ⟨h4, h5⟩ := heapSay_look h3
    have hne : n ≠ m := fun e => by subst e; simp at h1
    refine ⟨by rw [look_cons]; simp [hne, h4], fun k e hl => ?_⟩
    rw [look_cons] at hl
    by_cases e' : k = m
    · simp [e'] at hl; subst hl; exact h2
    · simp [e'] at hl; exact h5 k e hl
theorem St.fresh_spec {σ : St} {n : Nat} (h : σ.fresh n = true) : look σ.heap n = none ∧ ∀ l, σ.has l → l.says n = false := by
  simp only [St.fresh, Bool.and_eq_true, Bool.not_eq_true'] at h
  obtain ⟨h1, h2⟩ := h
  obtain ⟨h3, h4⟩ := heapSay_look h2
  refine ⟨h3, fun l hl => ?_⟩
  rcases hl with ⟨t, av, ht, hl⟩ | ⟨m, ls, hm, hl⟩
  · have := tmpsSay_look h1 t av ht
    cases av with
    | v g ls => exact lsSay_mem this l hl
    | tup vs => exact vsSay_mem this l hl
    | undef => cases hl
  · exact lsSay_mem (h4 m _ hm) l hl
theorem capsSay {n : Nat} {caps : List Nat} (h : mem caps n = false) : n ∉ caps := fun hm => by simp [(mem_iff caps n).2 hm] at h
/-- A leaf's meaning is kept where the names that it says are kept. -/
theorem Lf.rel_keep {c c' : Cc} {w w' : World} {R R' : Cls} {H H' : Hp} (hR : ∀ b, R b → w'.heap[b]? = w.heap[b]?) (hR' : ∀ b, R b → R' b)
    (l : Lf) (v : Value)
    (hk : ∀ n e', l.says n = true → look H' n = some e' → look H n = some e' ∧ c'.at_ n = c.at_ n ∧ (∀ b o, c.at_ n = some (b, o) → w'.heap[b]? = w.heap[b]?))
    (h : l.rel c w R H v) : l.rel c' w' R' H' v := by
  cases l with
  | val g => exact Sg.ro_same hR hR' h
  | nil0 => exact h
  | ref n =>
    intro T d xs hl
    obtain ⟨h1, h2, h3⟩ := hk n _ (by simp [Lf.says]) hl
    have h4 := h T d xs h1
    rw [h2]
    cases hz : c.at_ n with
    | none => rw [hz] at h4; exact h4
    | some z =>
      rw [hz] at h4
      obtain ⟨cp, hv, hle, hb⟩ := h4
      exact ⟨cp, hv, hle, hb.same (h3 z.1 z.2 hz)⟩
  | pref n i j =>
    intro T d xs hl
    obtain ⟨h1, h2, h3⟩ := hk n _ (by simp [Lf.says]) hl
    obtain ⟨h4, h5, h6, b, o, h7, h8⟩ := h T d xs h1
    exact ⟨h4, h5, h6, b, o, h2.trans h7, (cell_same (h3 b o h7)).trans h8⟩
  | ptr n off =>
    intro ls hl
    obtain ⟨h1, h2, h3⟩ := hk n _ (by simp [Lf.says]) hl
    obtain ⟨b, h4, h5⟩ := h ls h1
    exact ⟨b, h2.trans h4, h5⟩
  | eptr n i j =>
    intro T d xs hl
    obtain ⟨h1, h2, h3⟩ := hk n _ (by simp [Lf.says]) hl
    obtain ⟨h4, b, o, h5, h6⟩ := h T d xs h1
    exact ⟨h4, b, o, h2.trans h5, h6⟩
  | rptr p j =>
    obtain ⟨b, o, hv, hb, hr⟩ := h
    exact ⟨b, o, hv, hR' b hb, ETy.ro_same hR hR' p.T p.x b o (hR b hb) hr⟩
  | fnl f caps =>
    obtain ⟨vs, hv, hc⟩ := h
    refine ⟨vs, hv, All2.mono_mem (fun n v hn hq ls hl => ?_) hc⟩
    obtain ⟨h1, h2, h3⟩ := hk n _ (by simp [Lf.says, (mem_iff caps n).2 hn]) hl
    obtain ⟨b, h4, h5⟩ := hq ls h1
    exact ⟨b, h2.trans h4, h5⟩
  | nilp => exact h
  | dead => trivial
theorem V1.rel_imp {c c' : Cc} {w w' : World} {R R' : Cls} {H H' : Hp} {g : Bool} {ls : List Lf} {v : Value} (hk : ∀ l v, l ∈ ls → l.rel c w R H v → l.rel c' w' R' H' v)
    (h : V1.rel c w R H g ls v) : V1.rel c' w' R' H' g ls v := by
  cases g with
  | false =>
    obtain ⟨l, rfl, h⟩ := h
    exact ⟨l, rfl, hk l v (by simp) h⟩
  | true =>
    obtain ⟨vs, rfl, h⟩ := h
    exact ⟨vs, rfl, All2.mono_mem (fun a b ha hq => hk a b ha hq) h⟩
theorem mem_flatA {l : Lf} : ∀ {vs : List (Bool × List Lf)} {p : Bool × List Lf}, p ∈ vs → l ∈ p.2 → l ∈ flatA vs
  | (g, ls) :: r, p, hp, hl => by
    rcases List.mem_cons.1 hp with rfl | hp
    · exact List.mem_append.2 (.inl hl)
    · exact List.mem_append.2 (.inr (mem_flatA hp hl))
theorem AV.rel_imp {c c' : Cc} {w w' : World} {R R' : Cls} {H H' : Hp} {av : AV} {y : Value} (hk : ∀ l v, l ∈ av.leaves → l.rel c w R H v → l.rel c' w' R' H' v)
    (h : av.rel c w R H y) : av.rel c' w' R' H' y := by
  cases av with
  | v g ls => exact V1.rel_imp (ls := ls) hk h
  | tup ps =>
    obtain ⟨vs, hv, h⟩ := h
    exact ⟨vs, hv, All2.mono_mem (fun p v hp hq => V1.rel_imp (fun l v hl => hk l v (mem_flatA hp hl)) hq) h⟩
  | undef => exact h
theorem rowRo_same {w w' : World} {R R' : Cls} {T : ETy} {b o : Nat} {xs : List T.den} (hR : ∀ b, R b → w'.heap[b]? = w.heap[b]?) (hR' : ∀ b, R b → R' b) (hb : w'.heap[b]? = w.heap[b]?)
    (h : ∀ i x, nth xs i = some x → ETy.ro w R T x b (o + i * T.len)) : ∀ i x, nth xs i = some x → ETy.ro w' R' T x b (o + i * T.len) :=
  fun i x hx => ETy.ro_same hR hR' T x b _ hb (h i x hx)
/-- Memory changes: what is kept, what is new. -/
theorem Rel.change {F : Fr} {c c' : Cc} {w w' : World} {R R' : Cls} {σ : St} {a : Act} {H' : Hp} (h : Rel F c w R σ a) (new : Nat → Prop)
    (hR : ∀ b, R b → w'.heap[b]? = w.heap[b]?) (hR' : ∀ b, R b → R' b) (hl' : ∀ b, R' b → b < w'.heap.size)
    (kept : ∀ n e, look H' n = some e → ¬ new n → look σ.heap n = some e ∧ c'.at_ n = c.at_ n ∧ c'.fp n = c.fp n ∧ ∀ b ∈ c.fp n, w'.heap[b]? = w.heap[b]? ∧ ¬ R' b)
    (fresh : ∀ n e, look H' n = some e → new n → e.rel c' w' R' H' n ∧ (c'.fp n).Nodup ∧ (∀ b ∈ c'.fp n, ¬ R' b ∧ (b ∈ F.W ∨ F.w0.heap.size ≤ b)) ∧ (∀ z, look F.io n = some z → c'.at_ n = z))
    (apart : ∀ n e m e', n ≠ m → look H' n = some e → look H' m = some e' → new n → ∀ b ∈ c'.fp n, b ∉ c'.fp m)
    (says : ∀ l v, σ.has l → (∃ n, new n ∧ l.says n = true) → l.rel c w R σ.heap v → l.rel c' w' R' H' v)
    (sz : w.heap.size ≤ w'.heap.size) (fr : ∀ b, b < F.w0.heap.size → b ∉ F.W → w'.heap[b]? = w.heap[b]?)
    (os : w'.os = w.os) (out : w'.output = w.output) (tape : w'.tape = w.tape) : Rel F c' w' R' ⟨σ.tmps, H'⟩ a := by
  have hleaf : ∀ l v, σ.has l → l.rel c w R σ.heap v → l.rel c' w' R' H' v := by
    intro l v hl hv
    by_cases hn : ∃ n, new n ∧ l.says n = true
    · exact says l v hl hn hv
    · refine Lf.rel_keep hR hR' l v (fun n e' hs he => ?_) hv
      obtain ⟨h1, h2, h3, h4⟩ := kept n e' he (fun hnew => hn ⟨n, hnew, hs⟩)
      refine ⟨h1, h2, fun b o hb => ?_⟩
      have he' := h.hp n e' h1
      have hbf : b ∈ c.fp n := by
        cases e' with
        | box ls =>
          obtain ⟨b', vs, e, h5, h6, _⟩ := he'
          rw [hb] at h5
          cases h5
          rw [h6]; simp
        | row T d xs =>
          cases d with
          | true =>
            simp only [Ent.rel, hb] at he'
            obtain ⟨fr, h6, _⟩ := he'
            rw [h6]; simp
          | false =>
            simp only [Ent.rel, hb] at he'
            rw [he'.1]; simp
      exact (h4 b hbf).1
  have hkept : ∀ n e, look H' n = some e → ¬ new n → e.rel c' w' R' H' n := by
    intro n e he hn
    obtain ⟨h1, h2, h3, h4⟩ := kept n e he hn
    have he' := h.hp n e h1
    cases e with
    | box ls =>
      obtain ⟨b, vs, e, h5, h6, h7, h8⟩ := he'
      refine ⟨b, vs, e, h2.trans h5, h3.trans h6, ?_, All2.mono_mem (fun l v hl hq => hleaf l v (.inr ⟨n, ls, h1, hl⟩) hq) h8⟩
      rw [(h4 b (by rw [h6]; simp)).1]; exact h7
    | row T d xs =>
      cases d with
      | true =>
        simp only [Ent.rel, h2] at he' ⊢
        cases hz : c.at_ n with
        | none => rw [hz] at he'; exact ⟨he'.1, h3.trans he'.2⟩
        | some z =>
          rw [hz] at he'
          obtain ⟨fr, h5, h6, h7⟩ := he'
          have hb := (h4 z.1 (by rw [h5]; simp)).1
          exact ⟨fr, h3.trans h5, h6.same hb, rowOwn_mono (fun x o f hf hq => ETy.own_same T x z.1 o f hb (fun b' hb' => (h4 b' (by rw [h5]; simp [hf b' hb'])).1) hq) h7⟩
      | false =>
        simp only [Ent.rel, h2] at he' ⊢
        cases hz : c.at_ n with
        | none => rw [hz] at he'; exact ⟨he'.1, h3.trans he'.2⟩
        | some z =>
          rw [hz] at he'
          obtain ⟨h5, h6, h7⟩ := he'
          have hb := (h4 z.1 (by rw [h5]; simp)).1
          exact ⟨h3.trans h5, h6.same hb, rowRo_same hR hR' hb h7⟩
  constructor
  · intro t av hl
    obtain ⟨v, h1, h2⟩ := h.tm t av hl
    exact ⟨v, h1, AV.rel_imp (fun l v hm hq => hleaf l v (.inl ⟨t, av, hl, hm⟩) hq) h2⟩
  · intro n e he
    by_cases hn : new n
    · exact (fresh n e he hn).1
    · exact hkept n e he hn
  · intro n e he
    by_cases hn : new n
    · exact (fresh n e he hn).2.1
    · obtain ⟨h1, h2, h3, h4⟩ := kept n e he hn
      rw [h3]; exact h.nd n e h1
  · intro n e m e' hne he hm b hb hb'
    by_cases hn : new n
    · exact apart n e m e' hne he hm hn b hb hb'
    · by_cases hm' : new m
      · exact apart m e' n e (Ne.symm hne) hm he hm' b hb' hb
      · obtain ⟨h1, h2, h3, h4⟩ := kept n e he hn
        obtain ⟨k1, k2, k3, k4⟩ := kept m e' hm hm'
        rw [h3] at hb
        rw [k3] at hb'
        exact h.dj n e m e' hne h1 k1 b hb hb'
  · intro n e he b hb
    by_cases hn : new n
    · exact (fresh n e he hn).2.2.1 b hb
    · obtain ⟨h1, h2, h3, h4⟩ := kept n e he hn
      rw [h3] at hb
      exact ⟨(h4 b hb).2, (h.nr n e h1 b hb).2⟩
  · exact hl'
  · exact Nat.le_trans h.sz sz
  · intro b hb hW
    rw [fr b hb hW]; exact h.fr b hb hW
  · rw [os]; exact h.os
  · rw [out]; exact h.out
  · rw [tape]; exact h.tape
  · exact h.df
  · exact h.nt
  · intro p z hz e he
    by_cases hn : new p
    · exact (fresh p e he hn).2.2.2 z hz
    · obtain ⟨h1, h2, h3, h4⟩ := kept p e he hn
      rw [h2]; exact h.io p z hz e h1
theorem Rel.put {F : Fr} {c : Cc} {w : World} {R : Cls} {σ : St} {a : Act} {dst : Option Nat} {av : AV} {v : Value} (h : Rel F c w R σ a) (hd : dstOk F.nt dst = true) (hv : dst.isSome = true → av.rel c w R σ.heap v) :
    Rel F c w R ⟨σ.put dst av, σ.heap⟩ (a.put dst v) := by
  cases dst with
  | none => exact { h with }
  | some d =>
    have hd' : d < F.nt := by simpa [dstOk, Nat.blt_eq] using hd
    refine { h with tm := ?_, nt := ?_ }
    · intro t av' hl
      simp only [St.put, look_cons] at hl
      by_cases e : t = d
      · simp [e] at hl
        subst hl
        refine ⟨v, ?_, hv rfl⟩
        subst e
        simp [Act.put, h.nt, hd']
      · simp [e] at hl
        obtain ⟨v', h1, h2⟩ := h.tm t av' hl
        refine ⟨v', ?_, h2⟩
        simp only [Act.put]
        rw [Array.getElem?_setIfInBounds_ne (Ne.symm e)]
        exact h1
    · simp [Act.put, h.nt]
end V
end Go.Proofs.Ytchhidcbfladhaa
