/- Proves the row of FnExactBelievedOf: for all arguments, what the statement says. Conditions: none. -/
import Derived.Test.YtbdifkeoiodalaaRows
import Derived.Test.YtbdifkeoiodalaaVF
import Derived.Test.YtbdifkeoiodalaaXBelievedOfWalk0
import Derived.Test.YtbdifkeoiodalaaXBelievedOfPure
import Derived.WalkKit
import Derived.ProofKit
import Derived.OpenShut
import Derived.ShutString
import Derived.ChangeOld
import Derived.Below
import Derived.SizedLaws
import Derived.Test.YtbdifkeoiodalaaVG
namespace Go.Proofs.Ytbdifkeoiodalaa.fnExactBelievedOf
open Go.ChangeShapes Go.WideShapes Go.ChangeAt Go.RowKit Go.Proofs.Ytbdifkeoiodalaa.V
open Go.ChangeMaps (open_string shut_string)
set_option linter.unusedVariables false
theorem own : ownKnob Try.prog.godebug = none := by kernel_rfl
theorem laid : laidOutB Try.prog = true := vg1
theorem f1 : (Rows.fnExactBelievedOfRow.wf (OpenSpec.ofChange Rows.fnExactBelievedOfSpec)) = true := by kernel_rfl
theorem f2 : (Try.f14.params.all (Try.prog.readableRec ·)) = true := by kernel_rfl
theorem f3 : (Rows.fnExactBelievedOfRow.inPlace == Try.prog.inPlace 14) = true := by kernel_rfl
theorem f4 : (Rows.fnExactBelievedOfRow.unfollowed == Try.prog.unfollowed 14) = true := by kernel_rfl
theorem f5 : (Rows.fnExactBelievedOfRow.recurses == Try.prog.recurses 14) = true := by kernel_rfl
theorem f6 : (Rows.fnExactBelievedOfRow.named == Try.prog.varsNamed 14) = true := by kernel_rfl
theorem f7 : (Rows.fnExactBelievedOfRow.maps == (Try.f14.params.toList ++ Rows.fnExactBelievedOfSpec.plain.varTypes Try.prog).any (Try.prog.mapsRec ·)) = true := by kernel_rfl
theorem f8 : (Rows.fnExactBelievedOfRow.ifaces == (Try.f14.params.toList ++ Rows.fnExactBelievedOfSpec.plain.varTypes Try.prog).any (Try.prog.ifacesRec ·)) = true := by kernel_rfl
theorem f9 : (Rows.fnExactBelievedOfRow.loops == (Try.f14.params.toList ++ Rows.fnExactBelievedOfSpec.plain.varTypes Try.prog).any (Try.prog.loopsFrom ·)) = true := by kernel_rfl
theorem f10 : (Rows.fnExactBelievedOfRow.wideKeys == (Try.f14.params.toList ++ Rows.fnExactBelievedOfSpec.plain.varTypes Try.prog ++ Try.f14.resultTypes.toList).any (Try.prog.wideKeysFrom ·)) = true := by kernel_rfl
theorem f11 : (Rows.fnExactBelievedOfRow.veiled == (Try.f14.params.toList ++ Rows.fnExactBelievedOfSpec.plain.varTypes Try.prog ++ Try.f14.resultTypes.toList).any (Try.prog.veiledRec ·)) = true := by kernel_rfl
theorem f12 : (Rows.fnExactBelievedOfRow.veiledFits Try.prog Try.f14.params.toList (Try.f14.params.toList ++ Rows.fnExactBelievedOfSpec.plain.varTypes Try.prog ++ Try.f14.resultTypes.toList)) = true := by kernel_rfl
theorem closed : joinedFacts Try.prog 14 Try.f14 Rows.fnExactBelievedOfSpec Rows.fnExactBelievedOfRow = true := by
  unfold joinedFacts
  exact andT (andT (andT (andT (andT (andT (andT (andT (andT (andT (andT (andT (andT (andT (andT (andT (andT (andT (andT (andT (andT (andT (andT (andT (andT (andT (andT (andT (andT (andT (andT f1 vg1) vg2) f2) (by kernel_rfl)) (by kernel_rfl)) (by kernel_rfl)) (by kernel_rfl)) (by kernel_rfl)) f3) f4) f5) f6) f7) f8) (by kernel_rfl)) f9) f10) (by kernel_rfl)) (by kernel_rfl)) (by kernel_rfl)) (by kernel_rfl)) vg3) (by kernel_rfl)) vg4) vg5) vg6) vg7) (by kernel_rfl)) (by kernel_rfl)) f11) f12
abbrev dom : ETy × List (Bool × Nat) := ((.cons (.sl (.cons (.sl (.cons (.int .i64) (.cons (.int .i64) (.cons (.int .i64) (.cons (.int .i64) (.cons (.int .i64) (.cons (.int .i64) (.cons (.int .i64) (.cons (.int .i64) (.cons (.sl (.cons (.int .i64) .nil)) (.cons (.int .i64) (.cons (.sl (.cons (.int .i64) .nil)) (.cons (.int .i64) (.cons (.int .i64) (.cons (.sl (.cons (.int .i64) .nil)) (.cons (.int .i64) (.cons .bool (.cons (.sl (.cons (.int .i64) (.cons (.int .i64) .nil))) .nil)))))))))))))))))) .nil)) (.cons (.sl (.cons (.int .i64) (.cons (.int .i64) (.cons (.int .i64) (.cons (.int .i64) (.cons (.int .i64) (.cons (.int .i64) (.cons (.int .i64) (.cons (.int .i64) (.cons (.sl (.cons (.int .i64) .nil)) (.cons (.int .i64) (.cons (.sl (.cons (.int .i64) .nil)) (.cons (.int .i64) (.cons (.int .i64) (.cons (.sl (.cons (.int .i64) .nil)) (.cons (.int .i64) (.cons .bool (.cons (.sl (.cons (.int .i64) (.cons (.int .i64) .nil))) (.cons (.int .i64) (.cons (.int .i64) (.cons (.int .i64) (.cons (.int .i64) (.cons (.int .i64) (.cons (.int .i64) (.cons (.int .i64) (.cons (.int .i64) (.cons (.sl (.cons (.int .i64) .nil)) (.cons (.int .i64) (.cons (.sl (.cons (.int .i64) .nil)) (.cons (.int .i64) (.cons (.int .i64) (.cons (.sl (.cons (.int .i64) .nil)) (.cons (.int .i64) (.cons .bool (.cons (.sl (.cons (.int .i64) (.cons (.int .i64) .nil))) (.cons (.int .i64) (.cons (.int .i64) (.cons (.int .i64) (.cons (.int .i64) (.cons (.int .i64) (.cons (.int .i64) (.cons (.int .i64) (.cons (.int .i64) (.cons (.sl (.cons (.int .i64) .nil)) (.cons (.int .i64) (.cons (.sl (.cons (.int .i64) .nil)) (.cons (.int .i64) (.cons (.int .i64) (.cons (.sl (.cons (.int .i64) .nil)) (.cons (.int .i64) (.cons .bool (.cons (.sl (.cons (.int .i64) (.cons (.int .i64) .nil))) .nil)))))))))))))))))))))))))))))))))))))))))))))))))))) (.cons .bool (.cons .str (.cons (.int .i64) (.cons (.int .i64) (.cons (.sl (.cons .str .nil)) (.cons .bool (.cons (.sl (.cons (.int .i64) .nil)) .nil))))))))), [(true, 9)])
theorem dom_eq : paramsT Try.prog 12 [108] = some dom := by kernel_rfl
theorem rowed : (([108] : List TypeId).all fun t => Try.prog.readableRec t && decide (t < Try.prog.types.size)) = true := by kernel_rfl
theorem run (W : World) (x : dom.1.den) (hwf : dom.1.wf x) (ls : List Value) (hx : All2 (Sg.ro W (below W)) (dom.1.sgs x) ls) :
    Calls Try.prog 14 (packV dom.2 ls).toArray W fun e w' => e = .returned (.bool true) ∧ Below W.heap.size W w' := by
  refine law_run laws_FnExactBelievedOf.ok (fun x hw => ?_) hx hwf
  have mx : ∀ {α : Type} {M P : α → Prop} {xs : List α}, (List.length xs ≤ maxLen ∧ ∀ i x, nth xs i = some x → P x) → (∀ x, P x → M x) → MaxS M xs :=
    fun h hM => ⟨Nat.le_trans h.1 (by decide), fun i hi => hM _ (h.2 i _ (List.getElem?_eq_getElem hi))⟩
  have le : ∀ {n : Nat}, n ≤ maxLen → n ≤ 9223372036854775807 := fun h => Nat.le_trans h (by decide)
  exact pure_FnExactBelievedOf x (⟨⟨mx hw.1 (fun _ ha => mx ha (fun _ hb => ⟨⟨le hb.2.2.2.2.2.2.2.2.1.1, le hb.2.2.2.2.2.2.2.2.2.2.1.1, le hb.2.2.2.2.2.2.2.2.2.2.2.2.2.1.1⟩, le hb.2.2.2.2.2.2.2.2.2.2.2.2.2.2.2.2.1⟩)), mx hw.2.1 (fun _ ha => ⟨⟨⟨le ha.2.2.2.2.2.2.2.2.1.1, le ha.2.2.2.2.2.2.2.2.2.2.1.1, le ha.2.2.2.2.2.2.2.2.2.2.2.2.2.1.1⟩, le ha.2.2.2.2.2.2.2.2.2.2.2.2.2.2.2.2.1.1⟩, ⟨⟨le ha.2.2.2.2.2.2.2.2.2.2.2.2.2.2.2.2.2.2.2.2.2.2.2.2.2.1.1, le ha.2.2.2.2.2.2.2.2.2.2.2.2.2.2.2.2.2.2.2.2.2.2.2.2.2.2.2.1.1, le ha.2.2.2.2.2.2.2.2.2.2.2.2.2.2.2.2.2.2.2.2.2.2.2.2.2.2.2.2.2.2.1.1⟩, le ha.2.2.2.2.2.2.2.2.2.2.2.2.2.2.2.2.2.2.2.2.2.2.2.2.2.2.2.2.2.2.2.2.2.1.1⟩, ⟨⟨le ha.2.2.2.2.2.2.2.2.2.2.2.2.2.2.2.2.2.2.2.2.2.2.2.2.2.2.2.2.2.2.2.2.2.2.2.2.2.2.2.2.2.2.1.1, le ha.2.2.2.2.2.2.2.2.2.2.2.2.2.2.2.2.2.2.2.2.2.2.2.2.2.2.2.2.2.2.2.2.2.2.2.2.2.2.2.2.2.2.2.2.1.1, le ha.2.2.2.2.2.2.2.2.2.2.2.2.2.2.2.2.2.2.2.2.2.2.2.2.2.2.2.2.2.2.2.2.2.2.2.2.2.2.2.2.2.2.2.2.2.2.2.1.1⟩, le ha.2.2.2.2.2.2.2.2.2.2.2.2.2.2.2.2.2.2.2.2.2.2.2.2.2.2.2.2.2.2.2.2.2.2.2.2.2.2.2.2.2.2.2.2.2.2.2.2.2.2.1⟩⟩)⟩, ⟨le hw.2.2.2.1, mx hw.2.2.2.2.2.2.1 (fun _ ha => le ha)⟩, le hw.2.2.2.2.2.2.2.2.1⟩)
set_option maxRecDepth 100000 in
theorem lifted (os : Os) (started : os.Started) (H : Type) (enc : TypeId × Value → H) :
    ReturnsInHanded {} Try.checked os 14 .any (Rows.fnExactBelievedOfSpec.pre6 enc Try.prog Try.f14 Rows.fnExactBelievedOfRow.domain false) (Rows.fnExactBelievedOfSpec.post enc Try.prog Try.f14 false true false false) := by
  refine returnsInHanded_of_change_sized (C := Try.checked) own started (by kernel_rfl) Try.func14
    (ChangeSpec.witness6 (enc := enc) (C := Try.checked) false ⟨#[], (packV dom.2 dom.1.zv).toArray, []⟩ 8 (by kernel_rfl) (by kernel_rfl) (by kernel_rfl) (by kernel_rfl)) ?_
  intro W base args ds gs before hval0 hW hcnd hsz0 _
  have hval : ∀ (j : Nat) t v, Try.f14.params[j]? = some t → args[j]? = some v → Value.okWide Try.prog W .any base t v := hval0
  have hW' := hW
  obtain ⟨p, q, hA0, hV, rfl, hfz, hnd⟩ := hW
  have hA : DataW.TrodAll enc Try.prog W 0 (fun _ => true) true Try.f14.params.toList args.toList ds p := hA0
  rw [Try.params14] at hA hval
  have hlt := hA.lt
  have hA2 := hA
  have hA3 := hA
  obtain ⟨x, ls, hx, hwf, hls⟩ := args_vals (b0 := base) (r := .any) 12 (A := dom.1) (ps := dom.2) dom_eq hA (fun j t v h h' => hval j t v (by simpa using h) (by simpa using h'))
  obtain ⟨v0, vs0, d0, ds0, p0, q0, hargs0, rfl, rfl, h0, r0⟩ := trodAll_cons hA3
  obtain ⟨hvs, rfl, rfl⟩ := trodAll_nil r0
  obtain ⟨rfl, rfl⟩ := trodVars_none hV
  have hargs : args = (packV dom.2 ls).toArray := by rw [← hls]
  subst hargs
  clear hA0 hval0 hsz0
  refine (run W x hwf ls hx).mono fun e W' ⟨he, bel⟩ => ?_
  subst he
  exact ⟨_, rfl, _, _, _, [], _, [], hW', trodAll_mk1 (shut_bool (by kernel_rfl) _), below_trodAll laid bel rowed hlt hA2, rfl, bel.frame _, fun h => by cases h⟩
theorem over : Rows.fnExactBelievedOfRow.holds Try.pinned (OpenSpec.ofChange Rows.fnExactBelievedOfSpec) :=
  OpenClaim.holds_of_wide 14 Try.f14 rfl rfl rfl rfl rfl rfl rfl ⟨rfl, rfl, rfl, rfl, rfl⟩ rfl rfl rfl rfl rfl (by kernel_rfl) Try.func14 closed
    (of_decide_eq_true (by kernel_rfl)) (by unfold Func.isWrapper; first | (rw [if_pos (by decide +kernel)]; kernel_rfl) | (rw [if_neg (by decide +kernel)]; exact ⟨rfl, rfl⟩))
    (fun os started H enc _ => lifted os started H enc)
theorem proved : Rows.FnExactBelievedOfSaid := over
#print axioms proved
end Go.Proofs.Ytbdifkeoiodalaa.fnExactBelievedOf
namespace Go.Proofs.Ytbdifkeoiodalaa
/-- The row, under a short name, for the claim. -/
theorem fnExactBelievedOf_holds : Rows.FnExactBelievedOfSaid := fnExactBelievedOf.proved
end Go.Proofs.Ytbdifkeoiodalaa
