/- Proves the row of FnAnswers: for all arguments, what the statement says. Conditions: none. -/
import Derived.Test.YtcbeaoigenjoeaeGreatRows
import Derived.Test.YtcbeaoigenjoeaeGreatVF
import Derived.Test.YtcbeaoigenjoeaeGreatFnAnswersWalk1
import Derived.Test.YtcbeaoigenjoeaeGreatFnAnswersPure
import Derived.WalkKit
import Derived.ProofKit
import Derived.OpenShut
import Derived.ShutString
import Derived.ChangeOld
import Derived.Below
import Derived.SizedLaws
import Derived.Test.YtcbeaoigenjoeaeGreatVG
namespace Go.Proofs.YtcbeaoigenjoeaeGreat.fnAnswers
open Go.ChangeShapes Go.WideShapes Go.ChangeAt Go.RowKit Go.Proofs.YtcbeaoigenjoeaeGreat.V
open Go.ChangeMaps (open_string shut_string)
set_option linter.unusedVariables false
theorem own : ownKnob Tryz.prog.godebug = none := by kernel_rfl
theorem Z7V : laidOutB Tryz.prog = true := vg1
theorem f1 : (Rows.fnAnswersRow.wf (OpenSpec.ofChange Rows.fnAnswersSpec)) = true := by kernel_rfl
theorem f2 : (Tryz.f3.params.all (Tryz.prog.readableRec ·)) = true := by kernel_rfl
theorem f3 : (Rows.fnAnswersRow.inPlace == Tryz.prog.inPlace 3) = true := by kernel_rfl
theorem f4 : (Rows.fnAnswersRow.unfollowed == Tryz.prog.unfollowed 3) = true := by kernel_rfl
theorem f5 : (Rows.fnAnswersRow.recurses == Tryz.prog.recurses 3) = true := by kernel_rfl
theorem f6 : (Rows.fnAnswersRow.named == Tryz.prog.varsNamed 3) = true := by kernel_rfl
theorem f7 : (Rows.fnAnswersRow.maps == (Tryz.f3.params.toList ++ Rows.fnAnswersSpec.plain.varTypes Tryz.prog).any (Tryz.prog.mapsRec ·)) = true := by kernel_rfl
theorem f8 : (Rows.fnAnswersRow.ifaces == (Tryz.f3.params.toList ++ Rows.fnAnswersSpec.plain.varTypes Tryz.prog).any (Tryz.prog.ifacesRec ·)) = true := by kernel_rfl
theorem f9 : (Rows.fnAnswersRow.loops == (Tryz.f3.params.toList ++ Rows.fnAnswersSpec.plain.varTypes Tryz.prog).any (Tryz.prog.loopsFrom ·)) = true := by kernel_rfl
theorem f10 : (Rows.fnAnswersRow.wideKeys == (Tryz.f3.params.toList ++ Rows.fnAnswersSpec.plain.varTypes Tryz.prog ++ Tryz.f3.resultTypes.toList).any (Tryz.prog.wideKeysFrom ·)) = true := by kernel_rfl
theorem f11 : (Rows.fnAnswersRow.veiled == (Tryz.f3.params.toList ++ Rows.fnAnswersSpec.plain.varTypes Tryz.prog ++ Tryz.f3.resultTypes.toList).any (Tryz.prog.veiledRec ·)) = true := by kernel_rfl
theorem f12 : (Rows.fnAnswersRow.veiledFits Tryz.prog Tryz.f3.params.toList (Tryz.f3.params.toList ++ Rows.fnAnswersSpec.plain.varTypes Tryz.prog ++ Tryz.f3.resultTypes.toList)) = true := by kernel_rfl
theorem Z6e : joinedFacts Tryz.prog 3 Tryz.f3 Rows.fnAnswersSpec Rows.fnAnswersRow = true := by
  unfold joinedFacts
  exact andT (andT (andT (andT (andT (andT (andT (andT (andT (andT (andT (andT (andT (andT (andT (andT (andT (andT (andT (andT (andT (andT (andT (andT (andT (andT (andT (andT (andT (andT (andT f1 vg1) vg2) f2) (by kernel_rfl)) (by kernel_rfl)) (by kernel_rfl)) (by kernel_rfl)) (by kernel_rfl)) f3) f4) f5) f6) f7) f8) (by kernel_rfl)) f9) f10) (by kernel_rfl)) (by kernel_rfl)) (by kernel_rfl)) (by kernel_rfl)) vg3) (by kernel_rfl)) vg4) vg5) vg6) vg7) (by kernel_rfl)) (by kernel_rfl)) f11) f12
abbrev QX : ETy × List (Bool × Nat) := ((.cons (.sl (.cons (.int .u8) .nil)) .nil), [(false, 1)])
theorem Z6p : paramsT Tryz.prog 12 [22] = some QX := by kernel_rfl
theorem Z8o : (([22] : List TypeId).all fun t => Tryz.prog.readableRec t && decide (t < Tryz.prog.types.size)) = true := by kernel_rfl
theorem run (W : World) (x : QX.1.den) (hwf : QX.1.wf x) (ls : List Value) (hx : All2 (Sg.ro W (below W)) (QX.1.sgs x) ls) :
    Calls Tryz.prog 3 (packV QX.2 ls).toArray W fun e w' => e = .returned (.bool true) ∧ Below W.heap.size W w' := by
  refine law_run Zk.ok (fun x hw => ?_) hx hwf
  exact pure_FnAnswers x
set_option maxRecDepth 100000 in
theorem lifted (os : Os) (started : os.Started) (H : Type) (enc : TypeId × Value → H) :
    ReturnsInHanded {} Tryz.checked os 3 .any (Rows.fnAnswersSpec.pre6 enc Tryz.prog Tryz.f3 Rows.fnAnswersRow.domain false) (Rows.fnAnswersSpec.post enc Tryz.prog Tryz.f3 false true false false) := by
  refine returnsInHanded_of_change_sized (C := Tryz.checked) own started (by kernel_rfl) Tryz.func3
    (ChangeSpec.witness6 (enc := enc) (C := Tryz.checked) false ⟨#[], (packV QX.2 QX.1.zv).toArray, []⟩ 8 (by kernel_rfl) (by kernel_rfl) (by kernel_rfl) (by kernel_rfl)) ?_
  intro W base args ds gs before hval0 hW hcnd hsz0 _
  have hval : ∀ (j : Nat) t v, Tryz.f3.params[j]? = some t → args[j]? = some v → Value.okWide Tryz.prog W .any base t v := hval0
  have hW' := hW
  obtain ⟨p, q, hA0, hV, rfl, hfz, hnd⟩ := hW
  have hA : DataW.TrodAll enc Tryz.prog W 0 (fun _ => true) true Tryz.f3.params.toList args.toList ds p := hA0
  rw [Tryz.params3] at hA hval
  have hlt := hA.lt
  have hA2 := hA
  have hA3 := hA
  obtain ⟨x, ls, hx, hwf, hls⟩ := args_vals (b0 := base) (r := .any) 12 (A := QX.1) (ps := QX.2) Z6p hA (fun j t v h h' => hval j t v (by simpa using h) (by simpa using h'))
  obtain ⟨v0, vs0, d0, ds0, p0, q0, hargs0, rfl, rfl, h0, r0⟩ := trodAll_cons hA3
  obtain ⟨hvs, rfl, rfl⟩ := trodAll_nil r0
  obtain ⟨rfl, rfl⟩ := trodVars_none hV
  have hargs : args = (packV QX.2 ls).toArray := by rw [← hls]
  subst hargs
  clear hA0 hval0 hsz0
  refine (run W x hwf ls hx).mono fun e W' ⟨he, bel⟩ => ?_
  subst he
  exact ⟨_, rfl, _, _, _, [], _, [], hW', trodAll_mk1 (shut_bool (by kernel_rfl) _), below_trodAll Z7V bel Z8o hlt hA2, rfl, bel.frame _, fun h => by cases h⟩
theorem Z8e : Rows.fnAnswersRow.holds Tryz.pinned (OpenSpec.ofChange Rows.fnAnswersSpec) :=
  OpenClaim.holds_of_wide 3 Tryz.f3 rfl rfl rfl rfl rfl rfl rfl ⟨rfl, rfl, rfl, rfl, rfl⟩ rfl rfl rfl rfl rfl (by kernel_rfl) Tryz.func3 Z6e
    (of_decide_eq_true (by kernel_rfl)) (by unfold Func.isWrapper; first | (rw [if_pos (by decide +kernel)]; kernel_rfl) | (rw [if_neg (by decide +kernel)]; exact ⟨rfl, rfl⟩))
    (fun os started H enc _ => lifted os started H enc)
theorem proved : Rows.FnAnswersSaid := Z8e
#print axioms proved
end Go.Proofs.YtcbeaoigenjoeaeGreat.fnAnswers
namespace Go.Proofs.YtcbeaoigenjoeaeGreat
/-- The row, under a short name, for the claim. -/
theorem fnAnswers_holds : Rows.FnAnswersSaid := fnAnswers.proved
end Go.Proofs.YtcbeaoigenjoeaeGreat
