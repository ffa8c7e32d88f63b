/- Proves the row of FnExactAskAll: for all arguments, what the statement says. Conditions: none. -/
import Derived.Test.YtddgjofdkdmmmaaGreatRows
import Derived.Test.YtddgjofdkdmmmaaGreatVF
import Derived.Test.YtddgjofdkdmmmaaGreatXAskAllWalk1
import Derived.Test.YtddgjofdkdmmmaaGreatXAskAllPure
import Derived.WalkKit
import Derived.ProofKit
import Derived.OpenShut
import Derived.ShutString
import Derived.ChangeOld
import Derived.Below
import Derived.SizedLaws
import Derived.Test.YtddgjofdkdmmmaaGreatVG
namespace Go.Proofs.YtddgjofdkdmmmaaGreat.fnExactAskAll
open Go.ChangeShapes Go.WideShapes Go.ChangeAt Go.RowKit Go.Proofs.YtddgjofdkdmmmaaGreat.V
open Go.ChangeMaps (open_string shut_string)
set_option linter.unusedVariables false
theorem own : ownKnob Tryz.prog.godebug = none := by kernel_rfl
theorem laid : laidOutB Tryz.prog = true := vg1
theorem f1 : (Rows.fnExactAskAllRow.wf (OpenSpec.ofChange Rows.fnExactAskAllSpec)) = true := by kernel_rfl
theorem f2 : (Tryz.f3.params.all (Tryz.prog.readableRec ·)) = true := by kernel_rfl
theorem f3 : (Rows.fnExactAskAllRow.inPlace == Tryz.prog.inPlace 3) = true := by kernel_rfl
theorem f4 : (Rows.fnExactAskAllRow.unfollowed == Tryz.prog.unfollowed 3) = true := by kernel_rfl
theorem f5 : (Rows.fnExactAskAllRow.recurses == Tryz.prog.recurses 3) = true := by kernel_rfl
theorem f6 : (Rows.fnExactAskAllRow.named == Tryz.prog.varsNamed 3) = true := by kernel_rfl
theorem f7 : (Rows.fnExactAskAllRow.maps == (Tryz.f3.params.toList ++ Rows.fnExactAskAllSpec.plain.varTypes Tryz.prog).any (Tryz.prog.mapsRec ·)) = true := by kernel_rfl
theorem f8 : (Rows.fnExactAskAllRow.ifaces == (Tryz.f3.params.toList ++ Rows.fnExactAskAllSpec.plain.varTypes Tryz.prog).any (Tryz.prog.ifacesRec ·)) = true := by kernel_rfl
theorem f9 : (Rows.fnExactAskAllRow.loops == (Tryz.f3.params.toList ++ Rows.fnExactAskAllSpec.plain.varTypes Tryz.prog).any (Tryz.prog.loopsFrom ·)) = true := by kernel_rfl
theorem f10 : (Rows.fnExactAskAllRow.wideKeys == (Tryz.f3.params.toList ++ Rows.fnExactAskAllSpec.plain.varTypes Tryz.prog ++ Tryz.f3.resultTypes.toList).any (Tryz.prog.wideKeysFrom ·)) = true := by kernel_rfl
theorem f11 : (Rows.fnExactAskAllRow.veiled == (Tryz.f3.params.toList ++ Rows.fnExactAskAllSpec.plain.varTypes Tryz.prog ++ Tryz.f3.resultTypes.toList).any (Tryz.prog.veiledRec ·)) = true := by kernel_rfl
theorem f12 : (Rows.fnExactAskAllRow.veiledFits Tryz.prog Tryz.f3.params.toList (Tryz.f3.params.toList ++ Rows.fnExactAskAllSpec.plain.varTypes Tryz.prog ++ Tryz.f3.resultTypes.toList)) = true := by kernel_rfl
theorem closed : joinedFacts Tryz.prog 3 Tryz.f3 Rows.fnExactAskAllSpec Rows.fnExactAskAllRow = true := by
  unfold joinedFacts
  exact andT (andT (andT (andT (andT (andT (andT (andT (andT (andT (andT (andT (andT (andT (andT (andT (andT (andT (andT (andT (andT (andT (andT (andT (andT (andT (andT (andT (andT (andT (andT f1 vg1) vg2) f2) (by kernel_rfl)) (by kernel_rfl)) (by kernel_rfl)) (by kernel_rfl)) (by kernel_rfl)) f3) f4) f5) f6) f7) f8) (by kernel_rfl)) f9) f10) (by kernel_rfl)) (by kernel_rfl)) (by kernel_rfl)) (by kernel_rfl)) vg3) (by kernel_rfl)) vg4) vg5) vg6) vg7) (by kernel_rfl)) (by kernel_rfl)) f11) f12
abbrev dom : ETy × List (Bool × Nat) := ((.cons (.sl (.cons (.sl (.cons (.sl (.cons (.int .i64) (.cons (.int .i64) (.cons (.int .i64) (.cons (.int .i64) (.cons (.int .i64) (.cons (.int .i64) (.cons (.int .i64) (.cons (.int .i64) (.cons (.sl (.cons (.int .i64) .nil)) (.cons (.int .i64) (.cons (.sl (.cons (.int .i64) .nil)) (.cons (.int .i64) (.cons (.int .i64) (.cons (.sl (.cons (.int .i64) .nil)) (.cons (.int .i64) (.cons .bool (.cons (.sl (.cons (.int .i64) (.cons (.int .i64) .nil))) .nil)))))))))))))))))) (.cons (.sl (.cons .str (.cons (.int .i64) (.cons (.int .i64) (.cons (.sl (.cons .str .nil)) .nil))))) .nil))) (.cons (.int .i64) .nil))) (.cons (.int .i64) (.cons .str .nil))), [(false, 1), (false, 1), (false, 1)])
theorem dom_eq : paramsT Tryz.prog 12 [22, 3, 9] = some dom := by kernel_rfl
theorem rowed : (([22, 3, 9] : List TypeId).all fun t => Tryz.prog.readableRec t && decide (t < Tryz.prog.types.size)) = true := by kernel_rfl
theorem run (W : World) (x : dom.1.den) (hwf : dom.1.wf x) (ls : List Value) (hx : All2 (Sg.ro W (below W)) (dom.1.sgs x) ls) :
    Calls Tryz.prog 3 (packV dom.2 ls).toArray W fun e w' => e = .returned (.bool true) ∧ Below W.heap.size W w' := by
  refine law_run Z90.ok (fun x hw => ?_) hx hwf
  have mx : ∀ {α : Type} {M P : α → Prop} {xs : List α}, (List.length xs ≤ maxLen ∧ ∀ i x, nth xs i = some x → P x) → (∀ x, P x → M x) → MaxS M xs :=
    fun h hM => ⟨Nat.le_trans h.1 (by decide), fun i hi => hM _ (h.2 i _ (List.getElem?_eq_getElem hi))⟩
  have le : ∀ {n : Nat}, n ≤ maxLen → n ≤ 9223372036854775807 := fun h => Nat.le_trans h (by decide)
  exact pure_FnExactAskAll (x.1) (x.2.1) (x.2.2) (mx hw.1 (fun _ ha => mx ha.1 (fun _ hb => ⟨mx hb.1 (fun _ hc => ⟨⟨le hc.2.2.2.2.2.2.2.2.1.1, le hc.2.2.2.2.2.2.2.2.2.2.1.1, le hc.2.2.2.2.2.2.2.2.2.2.2.2.2.1.1⟩, le hc.2.2.2.2.2.2.2.2.2.2.2.2.2.2.2.2.1⟩), mx hb.2 (fun _ hc => ⟨le hc.1, mx hc.2.2.2 (fun _ hd => le hd)⟩)⟩))) (le hw.2.2)
set_option maxRecDepth 100000 in
theorem lifted (os : Os) (started : os.Started) (H : Type) (enc : TypeId × Value → H) :
    ReturnsInHanded {} Tryz.checked os 3 .any (Rows.fnExactAskAllSpec.pre6 enc Tryz.prog Tryz.f3 Rows.fnExactAskAllRow.domain false) (Rows.fnExactAskAllSpec.post enc Tryz.prog Tryz.f3 false true false false) := by
  refine returnsInHanded_of_change_sized (C := Tryz.checked) own started (by kernel_rfl) Tryz.func3
    (ChangeSpec.witness6 (enc := enc) (C := Tryz.checked) false ⟨#[], (packV dom.2 dom.1.zv).toArray, []⟩ 8 (by kernel_rfl) (by kernel_rfl) (by kernel_rfl) (by kernel_rfl)) ?_
  intro W base args ds gs before hval0 hW hcnd hsz0 _
  have hval : ∀ (j : Nat) t v, Tryz.f3.params[j]? = some t → args[j]? = some v → Value.okWide Tryz.prog W .any base t v := hval0
  have hW' := hW
  obtain ⟨p, q, hA0, hV, rfl, hfz, hnd⟩ := hW
  have hA : DataW.TrodAll enc Tryz.prog W 0 (fun _ => true) true Tryz.f3.params.toList args.toList ds p := hA0
  rw [Tryz.params3] at hA hval
  have hlt := hA.lt
  have hA2 := hA
  have hA3 := hA
  obtain ⟨x, ls, hx, hwf, hls⟩ := args_vals (b0 := base) (r := .any) 12 (A := dom.1) (ps := dom.2) dom_eq hA (fun j t v h h' => hval j t v (by simpa using h) (by simpa using h'))
  obtain ⟨v0, vs0, d0, ds0, p0, q0, hargs0, rfl, rfl, h0, r0⟩ := trodAll_cons hA3
  obtain ⟨v1, vs1, d1, ds1, p1, q1, hargs1, rfl, rfl, h1, r1⟩ := trodAll_cons r0
  obtain ⟨v2, vs2, d2, ds2, p2, q2, hargs2, rfl, rfl, h2, r2⟩ := trodAll_cons r1
  obtain ⟨hvs, rfl, rfl⟩ := trodAll_nil r2
  obtain ⟨rfl, rfl⟩ := trodVars_none hV
  have hargs : args = (packV dom.2 ls).toArray := by rw [← hls]
  subst hargs
  clear hA0 hval0 hsz0
  refine (run W x hwf ls hx).mono fun e W' ⟨he, bel⟩ => ?_
  subst he
  exact ⟨_, rfl, _, _, _, [], _, [], hW', trodAll_mk1 (shut_bool (by kernel_rfl) _), below_trodAll laid bel rowed hlt hA2, rfl, bel.frame _, fun h => by cases h⟩
theorem over : Rows.fnExactAskAllRow.holds Tryz.pinned (OpenSpec.ofChange Rows.fnExactAskAllSpec) :=
  OpenClaim.holds_of_wide 3 Tryz.f3 rfl rfl rfl rfl rfl rfl rfl ⟨rfl, rfl, rfl, rfl, rfl⟩ rfl rfl rfl rfl rfl (by kernel_rfl) Tryz.func3 closed
    (of_decide_eq_true (by kernel_rfl)) (by unfold Func.isWrapper; first | (rw [if_pos (by decide +kernel)]; kernel_rfl) | (rw [if_neg (by decide +kernel)]; exact ⟨rfl, rfl⟩))
    (fun os started H enc _ => lifted os started H enc)
theorem proved : Rows.FnExactAskAllSaid := over
#print axioms proved
end Go.Proofs.YtddgjofdkdmmmaaGreat.fnExactAskAll
namespace Go.Proofs.YtddgjofdkdmmmaaGreat
/-- The row, under a short name, for the claim. -/
theorem fnExactAskAll_holds : Rows.FnExactAskAllSaid := fnExactAskAll.proved
end Go.Proofs.YtddgjofdkdmmmaaGreat
