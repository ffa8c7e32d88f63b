/- Proves the row of FnExactNameHead: for all arguments, what the statement says. Conditions: none. -/
import Derived.Test.YtbdifkeoiodalaaRows
import Derived.Test.YtbdifkeoiodalaaVF
import Derived.Test.YtbdifkeoiodalaaXNameHeadWalk0
import Derived.Test.YtbdifkeoiodalaaXNameHeadPure
import Derived.WalkKit
import Derived.ProofKit
import Derived.OpenShut
import Derived.ShutString
import Derived.ChangeOld
import Derived.Below
import Derived.SizedLaws
import Derived.Test.YtbdifkeoiodalaaVG
namespace Go.Proofs.Ytbdifkeoiodalaa.fnExactNameHead
open Go.ChangeShapes Go.WideShapes Go.ChangeAt Go.RowKit Go.Proofs.Ytbdifkeoiodalaa.V
open Go.ChangeMaps (open_string shut_string)
set_option linter.unusedVariables false
theorem own : ownKnob Try.prog.godebug = none := by kernel_rfl
theorem laid : laidOutB Try.prog = true := vg1
theorem f1 : (Rows.fnExactNameHeadRow.wf (OpenSpec.ofChange Rows.fnExactNameHeadSpec)) = true := by kernel_rfl
theorem f2 : (Try.f4.params.all (Try.prog.readableRec ·)) = true := by kernel_rfl
theorem f3 : (Rows.fnExactNameHeadRow.inPlace == Try.prog.inPlace 4) = true := by kernel_rfl
theorem f4 : (Rows.fnExactNameHeadRow.unfollowed == Try.prog.unfollowed 4) = true := by kernel_rfl
theorem f5 : (Rows.fnExactNameHeadRow.recurses == Try.prog.recurses 4) = true := by kernel_rfl
theorem f6 : (Rows.fnExactNameHeadRow.named == Try.prog.varsNamed 4) = true := by kernel_rfl
theorem f7 : (Rows.fnExactNameHeadRow.maps == (Try.f4.params.toList ++ Rows.fnExactNameHeadSpec.plain.varTypes Try.prog).any (Try.prog.mapsRec ·)) = true := by kernel_rfl
theorem f8 : (Rows.fnExactNameHeadRow.ifaces == (Try.f4.params.toList ++ Rows.fnExactNameHeadSpec.plain.varTypes Try.prog).any (Try.prog.ifacesRec ·)) = true := by kernel_rfl
theorem f9 : (Rows.fnExactNameHeadRow.loops == (Try.f4.params.toList ++ Rows.fnExactNameHeadSpec.plain.varTypes Try.prog).any (Try.prog.loopsFrom ·)) = true := by kernel_rfl
theorem f10 : (Rows.fnExactNameHeadRow.wideKeys == (Try.f4.params.toList ++ Rows.fnExactNameHeadSpec.plain.varTypes Try.prog ++ Try.f4.resultTypes.toList).any (Try.prog.wideKeysFrom ·)) = true := by kernel_rfl
theorem f11 : (Rows.fnExactNameHeadRow.veiled == (Try.f4.params.toList ++ Rows.fnExactNameHeadSpec.plain.varTypes Try.prog ++ Try.f4.resultTypes.toList).any (Try.prog.veiledRec ·)) = true := by kernel_rfl
theorem f12 : (Rows.fnExactNameHeadRow.veiledFits Try.prog Try.f4.params.toList (Try.f4.params.toList ++ Rows.fnExactNameHeadSpec.plain.varTypes Try.prog ++ Try.f4.resultTypes.toList)) = true := by kernel_rfl
theorem closed : joinedFacts Try.prog 4 Try.f4 Rows.fnExactNameHeadSpec Rows.fnExactNameHeadRow = true := by
  unfold joinedFacts
  exact andT (andT (andT (andT (andT (andT (andT (andT (andT (andT (andT (andT (andT (andT (andT (andT (andT (andT (andT (andT (andT (andT (andT (andT (andT (andT (andT (andT (andT (andT (andT f1 vg1) vg2) f2) (by kernel_rfl)) (by kernel_rfl)) (by kernel_rfl)) (by kernel_rfl)) (by kernel_rfl)) f3) f4) f5) f6) f7) f8) (by kernel_rfl)) f9) f10) (by kernel_rfl)) (by kernel_rfl)) (by kernel_rfl)) (by kernel_rfl)) vg3) (by kernel_rfl)) vg4) vg5) vg6) vg7) (by kernel_rfl)) (by kernel_rfl)) f11) f12
abbrev dom : ETy × List (Bool × Nat) := ((.cons (.int .i64) (.cons (.int .i64) (.cons (.int .i64) (.cons (.int .i64) (.cons (.int .i64) (.cons (.int .i64) (.cons (.int .i64) (.cons (.int .i64) (.cons (.sl (.cons (.int .i64) .nil)) (.cons (.int .i64) (.cons (.sl (.cons (.int .i64) .nil)) (.cons (.int .i64) (.cons (.int .i64) (.cons (.sl (.cons (.int .i64) .nil)) (.cons (.int .i64) (.cons .bool (.cons (.sl (.cons (.int .i64) .nil)) (.cons (.int .i64) (.cons (.int .i64) (.cons (.sl (.cons (.int .i64) .nil)) (.cons (.int .i64) (.cons (.int .i64) (.cons (.int .i64) .nil))))))))))))))))))))))), [(true, 16), (true, 2), (false, 1), (true, 2), (false, 1), (false, 1)])
theorem dom_eq : paramsT Try.prog 12 [26, 24, 3, 24, 3, 3] = some dom := by kernel_rfl
theorem rowed : (([26, 24, 3, 24, 3, 3] : List TypeId).all fun t => Try.prog.readableRec t && decide (t < Try.prog.types.size)) = true := by kernel_rfl
theorem run (W : World) (x : dom.1.den) (hwf : dom.1.wf x) (ls : List Value) (hx : All2 (Sg.ro W (below W)) (dom.1.sgs x) ls) :
    Calls Try.prog 4 (packV dom.2 ls).toArray W fun e w' => e = .returned (.bool true) ∧ Below W.heap.size W w' := by
  refine law_run laws_FnExactNameHead.ok (fun x hw => ?_) hx hwf
  have le : ∀ {n : Nat}, n ≤ maxLen → n ≤ 9223372036854775807 := fun h => Nat.le_trans h (by decide)
  exact pure_FnExactNameHead (x.1, x.2.1, x.2.2.1, x.2.2.2.1, x.2.2.2.2.1, x.2.2.2.2.2.1, x.2.2.2.2.2.2.1, x.2.2.2.2.2.2.2.1, x.2.2.2.2.2.2.2.2.1, x.2.2.2.2.2.2.2.2.2.1, x.2.2.2.2.2.2.2.2.2.2.1, x.2.2.2.2.2.2.2.2.2.2.2.1, x.2.2.2.2.2.2.2.2.2.2.2.2.1, x.2.2.2.2.2.2.2.2.2.2.2.2.2.1, x.2.2.2.2.2.2.2.2.2.2.2.2.2.2.1, x.2.2.2.2.2.2.2.2.2.2.2.2.2.2.2.1) (x.2.2.2.2.2.2.2.2.2.2.2.2.2.2.2.2.1, x.2.2.2.2.2.2.2.2.2.2.2.2.2.2.2.2.2.1) (x.2.2.2.2.2.2.2.2.2.2.2.2.2.2.2.2.2.2.1) (x.2.2.2.2.2.2.2.2.2.2.2.2.2.2.2.2.2.2.2.1, x.2.2.2.2.2.2.2.2.2.2.2.2.2.2.2.2.2.2.2.2.1) (x.2.2.2.2.2.2.2.2.2.2.2.2.2.2.2.2.2.2.2.2.2.1) (x.2.2.2.2.2.2.2.2.2.2.2.2.2.2.2.2.2.2.2.2.2.2) (⟨le hw.2.2.2.2.2.2.2.2.1.1, le hw.2.2.2.2.2.2.2.2.2.2.1.1, le hw.2.2.2.2.2.2.2.2.2.2.2.2.2.1.1⟩) (le hw.2.2.2.2.2.2.2.2.2.2.2.2.2.2.2.2.1.1) (le hw.2.2.2.2.2.2.2.2.2.2.2.2.2.2.2.2.2.2.2.1.1)
set_option maxRecDepth 100000 in
theorem lifted (os : Os) (started : os.Started) (H : Type) (enc : TypeId × Value → H) :
    ReturnsInHanded {} Try.checked os 4 .any (Rows.fnExactNameHeadSpec.pre6 enc Try.prog Try.f4 Rows.fnExactNameHeadRow.domain false) (Rows.fnExactNameHeadSpec.post enc Try.prog Try.f4 false true false false) := by
  refine returnsInHanded_of_change_sized (C := Try.checked) own started (by kernel_rfl) Try.func4
    (ChangeSpec.witness6 (enc := enc) (C := Try.checked) false ⟨#[], (packV dom.2 dom.1.zv).toArray, []⟩ 8 (by kernel_rfl) (by kernel_rfl) (by kernel_rfl) (by kernel_rfl)) ?_
  intro W base args ds gs before hval0 hW hcnd hsz0 _
  have hval : ∀ (j : Nat) t v, Try.f4.params[j]? = some t → args[j]? = some v → Value.okWide Try.prog W .any base t v := hval0
  have hW' := hW
  obtain ⟨p, q, hA0, hV, rfl, hfz, hnd⟩ := hW
  have hA : DataW.TrodAll enc Try.prog W 0 (fun _ => true) true Try.f4.params.toList args.toList ds p := hA0
  rw [Try.params4] at hA hval
  have hlt := hA.lt
  have hA2 := hA
  have hA3 := hA
  obtain ⟨x, ls, hx, hwf, hls⟩ := args_vals (b0 := base) (r := .any) 12 (A := dom.1) (ps := dom.2) dom_eq hA (fun j t v h h' => hval j t v (by simpa using h) (by simpa using h'))
  obtain ⟨v0, vs0, d0, ds0, p0, q0, hargs0, rfl, rfl, h0, r0⟩ := trodAll_cons hA3
  obtain ⟨v1, vs1, d1, ds1, p1, q1, hargs1, rfl, rfl, h1, r1⟩ := trodAll_cons r0
  obtain ⟨v2, vs2, d2, ds2, p2, q2, hargs2, rfl, rfl, h2, r2⟩ := trodAll_cons r1
  obtain ⟨v3, vs3, d3, ds3, p3, q3, hargs3, rfl, rfl, h3, r3⟩ := trodAll_cons r2
  obtain ⟨v4, vs4, d4, ds4, p4, q4, hargs4, rfl, rfl, h4, r4⟩ := trodAll_cons r3
  obtain ⟨v5, vs5, d5, ds5, p5, q5, hargs5, rfl, rfl, h5, r5⟩ := trodAll_cons r4
  obtain ⟨hvs, rfl, rfl⟩ := trodAll_nil r5
  obtain ⟨rfl, rfl⟩ := trodVars_none hV
  have hargs : args = (packV dom.2 ls).toArray := by rw [← hls]
  subst hargs
  clear hA0 hval0 hsz0
  refine (run W x hwf ls hx).mono fun e W' ⟨he, bel⟩ => ?_
  subst he
  exact ⟨_, rfl, _, _, _, [], _, [], hW', trodAll_mk1 (shut_bool (by kernel_rfl) _), below_trodAll laid bel rowed hlt hA2, rfl, bel.frame _, fun h => by cases h⟩
theorem over : Rows.fnExactNameHeadRow.holds Try.pinned (OpenSpec.ofChange Rows.fnExactNameHeadSpec) :=
  OpenClaim.holds_of_wide 4 Try.f4 rfl rfl rfl rfl rfl rfl rfl ⟨rfl, rfl, rfl, rfl, rfl⟩ rfl rfl rfl rfl rfl (by kernel_rfl) Try.func4 closed
    (of_decide_eq_true (by kernel_rfl)) (by unfold Func.isWrapper; first | (rw [if_pos (by decide +kernel)]; kernel_rfl) | (rw [if_neg (by decide +kernel)]; exact ⟨rfl, rfl⟩))
    (fun os started H enc _ => lifted os started H enc)
theorem proved : Rows.FnExactNameHeadSaid := over
#print axioms proved
end Go.Proofs.Ytbdifkeoiodalaa.fnExactNameHead
namespace Go.Proofs.Ytbdifkeoiodalaa
/-- The row, under a short name, for the claim. -/
theorem fnExactNameHead_holds : Rows.FnExactNameHeadSaid := fnExactNameHead.proved
end Go.Proofs.Ytbdifkeoiodalaa
