/- Proves the row of FnExactEqualZones: for all arguments, what the statement says. Conditions: none. -/
import Derived.Test.YtmcdifdljjkkgaaRows
import Derived.Test.YtmcdifdljjkkgaaVF
import Derived.Test.YtmcdifdljjkkgaaXEqualZonesWalk0
import Derived.Test.YtmcdifdljjkkgaaXEqualZonesPure
import Derived.WalkKit
import Derived.ProofKit
import Derived.OpenShut
import Derived.ShutString
import Derived.ChangeOld
import Derived.Below
import Derived.SizedLaws
namespace Go.Proofs.Ytmcdifdljjkkgaa.fnExactEqualZones
open Go.ChangeShapes Go.WideShapes Go.ChangeAt Go.RowKit Go.Proofs.Ytmcdifdljjkkgaa.V
open Go.ChangeMaps (open_string shut_string)
set_option linter.unusedVariables false
theorem own : ownKnob Try.prog.godebug = none := by kernel_rfl
theorem laid : laidOutB Try.prog = true := by kernel_rfl
abbrev dom : ETy × List (Bool × Nat) := ((.cons (.sl (.cons (.int .i64) (.cons (.int .i64) (.cons (.int .i64) (.cons (.int .i64) (.cons (.int .i64) (.cons (.int .i64) (.cons (.int .i64) (.cons (.int .i64) (.cons (.sl (.cons (.int .i64) .nil)) (.cons (.int .i64) (.cons (.sl (.cons (.int .i64) .nil)) (.cons (.int .i64) (.cons (.int .i64) (.cons (.sl (.cons (.int .i64) .nil)) (.cons (.int .i64) (.cons .bool (.cons (.sl (.cons (.int .i64) (.cons (.int .i64) .nil))) .nil)))))))))))))))))) (.cons (.sl (.cons .str (.cons (.int .i64) (.cons (.int .i64) (.cons (.sl (.cons .str .nil)) .nil))))) (.cons (.sl (.cons (.int .i64) (.cons (.int .i64) (.cons (.int .i64) (.cons (.int .i64) (.cons (.int .i64) (.cons (.int .i64) (.cons (.int .i64) (.cons (.int .i64) (.cons (.sl (.cons (.int .i64) .nil)) (.cons (.int .i64) (.cons (.sl (.cons (.int .i64) .nil)) (.cons (.int .i64) (.cons (.int .i64) (.cons (.sl (.cons (.int .i64) .nil)) (.cons (.int .i64) (.cons .bool (.cons (.sl (.cons (.int .i64) (.cons (.int .i64) .nil))) .nil)))))))))))))))))) (.cons (.sl (.cons .str (.cons (.int .i64) (.cons (.int .i64) (.cons (.sl (.cons .str .nil)) .nil))))) .nil)))), [(true, 2), (true, 2)])
theorem dom_eq : paramsT Try.prog 12 [49, 49] = some dom := by kernel_rfl
theorem rowed : (([49, 49] : List TypeId).all fun t => Try.prog.readableRec t && decide (t < Try.prog.types.size)) = true := by kernel_rfl
theorem run (W : World) (x : dom.1.den) (hwf : dom.1.wf x) (ls : List Value) (hx : All2 (Sg.ro W (below W)) (dom.1.sgs x) ls) :
    Calls Try.prog 5 (packV dom.2 ls).toArray W fun e w' => e = .returned (.bool true) ∧ Below W.heap.size W w' := by
  refine law_run laws_FnExactEqualZones.ok (fun x hw => ?_) hx hwf
  have mx : ∀ {α : Type} {M P : α → Prop} {xs : List α}, (List.length xs ≤ maxLen ∧ ∀ i x, nth xs i = some x → P x) → (∀ x, P x → M x) → MaxS M xs :=
    fun h hM => ⟨Nat.le_trans h.1 (by decide), fun i hi => hM _ (h.2 i _ (List.getElem?_eq_getElem hi))⟩
  have le : ∀ {n : Nat}, n ≤ maxLen → n ≤ 9223372036854775807 := fun h => Nat.le_trans h (by decide)
  exact pure_FnExactEqualZones (x.1, x.2.1) (x.2.2.1, x.2.2.2) ⟨mx hw.1 (fun s hs => ⟨⟨(le hs.2.2.2.2.2.2.2.2.1.1), (le hs.2.2.2.2.2.2.2.2.2.2.1.1), (le hs.2.2.2.2.2.2.2.2.2.2.2.2.2.1.1)⟩, (le hs.2.2.2.2.2.2.2.2.2.2.2.2.2.2.2.2.1)⟩), mx hw.2.1 (fun e he => ⟨le he.1, mx he.2.2.2 (fun s hs => le hs)⟩)⟩ ⟨mx hw.2.2.1 (fun s hs => ⟨⟨(le hs.2.2.2.2.2.2.2.2.1.1), (le hs.2.2.2.2.2.2.2.2.2.2.1.1), (le hs.2.2.2.2.2.2.2.2.2.2.2.2.2.1.1)⟩, (le hs.2.2.2.2.2.2.2.2.2.2.2.2.2.2.2.2.1)⟩), mx hw.2.2.2 (fun e he => ⟨le he.1, mx he.2.2.2 (fun s hs => le hs)⟩)⟩
set_option maxRecDepth 100000 in
theorem lifted (os : Os) (started : os.Started) (H : Type) (enc : TypeId × Value → H) :
    ReturnsInHanded {} Try.checked os 5 .any (Rows.fnExactEqualZonesSpec.pre6 enc Try.prog Try.f5 Rows.fnExactEqualZonesRow.domain false) (Rows.fnExactEqualZonesSpec.post enc Try.prog Try.f5 false true false false) := by
  refine returnsInHanded_of_change_sized (C := Try.checked) own started (by kernel_rfl) Try.func5
    (ChangeSpec.witness6 (enc := enc) (C := Try.checked) false ⟨#[], (packV dom.2 dom.1.zv).toArray, []⟩ 8 (by kernel_rfl) (by kernel_rfl) (by kernel_rfl) (by kernel_rfl)) ?_
  intro W base args ds gs before hval0 hW hcnd hsz0 _
  have hval : ∀ (j : Nat) t v, Try.f5.params[j]? = some t → args[j]? = some v → Value.okWide Try.prog W .any base t v := hval0
  have hW' := hW
  obtain ⟨p, q, hA0, hV, rfl, hfz, hnd⟩ := hW
  have hA : DataW.TrodAll enc Try.prog W 0 (fun _ => true) true Try.f5.params.toList args.toList ds p := hA0
  rw [Try.params5] at hA hval
  have hlt := hA.lt
  have hA2 := hA
  have hA3 := hA
  obtain ⟨x, ls, hx, hwf, hls⟩ := args_vals (b0 := base) (r := .any) 12 (A := dom.1) (ps := dom.2) dom_eq hA (fun j t v h h' => hval j t v (by simpa using h) (by simpa using h'))
  obtain ⟨v0, vs0, d0, ds0, p0, q0, hargs0, rfl, rfl, h0, r0⟩ := trodAll_cons hA3
  obtain ⟨v1, vs1, d1, ds1, p1, q1, hargs1, rfl, rfl, h1, r1⟩ := trodAll_cons r0
  obtain ⟨hvs, rfl, rfl⟩ := trodAll_nil r1
  obtain ⟨rfl, rfl⟩ := trodVars_none hV
  have hargs : args = (packV dom.2 ls).toArray := by rw [← hls]
  subst hargs
  clear hA0 hval0 hsz0
  refine (run W x hwf ls hx).mono fun e W' ⟨he, bel⟩ => ?_
  subst he
  exact ⟨_, rfl, _, _, _, [], _, [], hW', trodAll_mk1 (shut_bool (by kernel_rfl) _), below_trodAll laid bel rowed hlt hA2, rfl, bel.frame _, fun h => by cases h⟩
theorem over : Rows.fnExactEqualZonesRow.holds Try.pinned (OpenSpec.ofChange Rows.fnExactEqualZonesSpec) :=
  OpenClaim.holds_of_wide 5 Try.f5 rfl rfl rfl rfl rfl rfl rfl ⟨rfl, rfl, rfl, rfl, rfl⟩ rfl rfl rfl rfl rfl (by kernel_rfl) Try.func5 (by kernel_rfl)
    (of_decide_eq_true (by kernel_rfl)) (by unfold Func.isWrapper; first | (rw [if_pos (by decide +kernel)]; kernel_rfl) | (rw [if_neg (by decide +kernel)]; exact ⟨rfl, rfl⟩))
    (fun os started H enc _ => lifted os started H enc)
theorem proved : Rows.FnExactEqualZonesSaid := over
#print axioms proved
end Go.Proofs.Ytmcdifdljjkkgaa.fnExactEqualZones
namespace Go.Proofs.Ytmcdifdljjkkgaa
/-- The row, under a short name, for the claim. -/
theorem fnExactEqualZones_holds : Rows.FnExactEqualZonesSaid := fnExactEqualZones.proved
end Go.Proofs.Ytmcdifdljjkkgaa
