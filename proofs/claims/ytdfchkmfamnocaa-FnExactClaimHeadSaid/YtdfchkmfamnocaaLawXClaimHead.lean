/- Proves the row of FnExactClaimHead: for all arguments, what the statement says. Conditions: none. -/
import Derived.Test.YtdfchkmfamnocaaRows
import Derived.Test.YtdfchkmfamnocaaVF
import Derived.Test.YtdfchkmfamnocaaXClaimHeadWalk0
import Derived.Test.YtdfchkmfamnocaaXClaimHeadPure
import Derived.WalkKit
import Derived.ProofKit
import Derived.OpenShut
import Derived.ShutString
import Derived.ChangeOld
import Derived.Below
import Derived.SizedLaws
namespace Go.Proofs.Ytdfchkmfamnocaa.fnExactClaimHead
open Go.ChangeShapes Go.WideShapes Go.ChangeAt Go.RowKit Go.Proofs.Ytdfchkmfamnocaa.V
open Go.ChangeMaps (open_string shut_string)
set_option linter.unusedVariables false
theorem own : ownKnob Try.prog.godebug = none := by kernel_rfl
theorem laid : laidOutB Try.prog = true := by kernel_rfl
abbrev dom : ETy × List (Bool × Nat) := ((.cons (.int .i64) (.cons (.int .i64) (.cons (.int .i64) (.cons (.int .i64) (.cons (.int .i64) (.cons (.int .i64) (.cons (.int .i64) (.cons (.int .i64) (.cons (.sl (.cons (.int .i64) .nil)) (.cons (.int .i64) (.cons (.sl (.cons (.int .i64) .nil)) (.cons (.int .i64) (.cons (.int .i64) (.cons (.sl (.cons (.int .i64) .nil)) (.cons (.int .i64) (.cons .bool (.cons (.int .i64) (.cons (.int .i64) .nil)))))))))))))))))), [(true, 16), (false, 1), (false, 1)])
theorem dom_eq : paramsT Try.prog 12 [26, 3, 3] = some dom := by kernel_rfl
theorem rowed : (([26, 3, 3] : List TypeId).all fun t => Try.prog.readableRec t && decide (t < Try.prog.types.size)) = true := by kernel_rfl
theorem run (W : World) (x : dom.1.den) (hwf : dom.1.wf x) (ls : List Value) (hx : All2 (Sg.ro W (below W)) (dom.1.sgs x) ls) :
    Calls Try.prog 10 (packV dom.2 ls).toArray W fun e w' => e = .returned (.bool true) ∧ Below W.heap.size W w' := by
  refine law_run laws_FnExactClaimHead.ok (fun x hw => ?_) hx hwf
  exact pure_FnExactClaimHead (x.1, x.2.1, x.2.2.1, x.2.2.2.1, x.2.2.2.2.1, x.2.2.2.2.2.1, x.2.2.2.2.2.2.1, x.2.2.2.2.2.2.2.1, x.2.2.2.2.2.2.2.2.1, x.2.2.2.2.2.2.2.2.2.1, x.2.2.2.2.2.2.2.2.2.2.1, x.2.2.2.2.2.2.2.2.2.2.2.1, x.2.2.2.2.2.2.2.2.2.2.2.2.1, x.2.2.2.2.2.2.2.2.2.2.2.2.2.1, x.2.2.2.2.2.2.2.2.2.2.2.2.2.2.1, x.2.2.2.2.2.2.2.2.2.2.2.2.2.2.2.1) (x.2.2.2.2.2.2.2.2.2.2.2.2.2.2.2.2.1) (x.2.2.2.2.2.2.2.2.2.2.2.2.2.2.2.2.2) ⟨(Nat.le_trans hw.2.2.2.2.2.2.2.2.1.1 (by decide)), (Nat.le_trans hw.2.2.2.2.2.2.2.2.2.2.1.1 (by decide)), (Nat.le_trans hw.2.2.2.2.2.2.2.2.2.2.2.2.2.1.1 (by decide))⟩
set_option maxRecDepth 100000 in
theorem lifted (os : Os) (started : os.Started) (H : Type) (enc : TypeId × Value → H) :
    ReturnsInHanded {} Try.checked os 10 .any (Rows.fnExactClaimHeadSpec.pre6 enc Try.prog Try.f10 Rows.fnExactClaimHeadRow.domain false) (Rows.fnExactClaimHeadSpec.post enc Try.prog Try.f10 false true false false) := by
  refine returnsInHanded_of_change_sized (C := Try.checked) own started (by kernel_rfl) Try.func10
    (ChangeSpec.witness6 (enc := enc) (C := Try.checked) false ⟨#[], (packV dom.2 dom.1.zv).toArray, []⟩ 8 (by kernel_rfl) (by kernel_rfl) (by kernel_rfl) (by kernel_rfl)) ?_
  intro W base args ds gs before hval0 hW hcnd hsz0 _
  have hval : ∀ (j : Nat) t v, Try.f10.params[j]? = some t → args[j]? = some v → Value.okWide Try.prog W .any base t v := hval0
  have hW' := hW
  obtain ⟨p, q, hA0, hV, rfl, hfz, hnd⟩ := hW
  have hA : DataW.TrodAll enc Try.prog W 0 (fun _ => true) true Try.f10.params.toList args.toList ds p := hA0
  rw [Try.params10] at hA hval
  have hlt := hA.lt
  have hA2 := hA
  have hA3 := hA
  obtain ⟨x, ls, hx, hwf, hls⟩ := args_vals (b0 := base) (r := .any) 12 (A := dom.1) (ps := dom.2) dom_eq hA (fun j t v h h' => hval j t v (by simpa using h) (by simpa using h'))
  obtain ⟨v0, vs0, d0, ds0, p0, q0, hargs0, rfl, rfl, h0, r0⟩ := trodAll_cons hA3
  obtain ⟨v1, vs1, d1, ds1, p1, q1, hargs1, rfl, rfl, h1, r1⟩ := trodAll_cons r0
  obtain ⟨v2, vs2, d2, ds2, p2, q2, hargs2, rfl, rfl, h2, r2⟩ := trodAll_cons r1
  obtain ⟨hvs, rfl, rfl⟩ := trodAll_nil r2
  obtain ⟨rfl, rfl⟩ := trodVars_none hV
  have hargs : args = (packV dom.2 ls).toArray := by rw [← hls]
  subst hargs
  clear hA0 hval0 hsz0
  refine (run W x hwf ls hx).mono fun e W' ⟨he, bel⟩ => ?_
  subst he
  exact ⟨_, rfl, _, _, _, [], _, [], hW', trodAll_mk1 (shut_bool (by kernel_rfl) _), below_trodAll laid bel rowed hlt hA2, rfl, bel.frame _, fun h => by cases h⟩
theorem over : Rows.fnExactClaimHeadRow.holds Try.pinned (OpenSpec.ofChange Rows.fnExactClaimHeadSpec) :=
  OpenClaim.holds_of_wide 10 Try.f10 rfl rfl rfl rfl rfl rfl rfl ⟨rfl, rfl, rfl, rfl, rfl⟩ rfl rfl rfl rfl rfl (by kernel_rfl) Try.func10 (by kernel_rfl)
    (of_decide_eq_true (by kernel_rfl)) (by unfold Func.isWrapper; first | (rw [if_pos (by decide +kernel)]; kernel_rfl) | (rw [if_neg (by decide +kernel)]; exact ⟨rfl, rfl⟩))
    (fun os started H enc _ => lifted os started H enc)
theorem proved : Rows.FnExactClaimHeadSaid := over
#print axioms proved
end Go.Proofs.Ytdfchkmfamnocaa.fnExactClaimHead
namespace Go.Proofs.Ytdfchkmfamnocaa
/-- The row, under a short name, for the claim. -/
theorem fnExactClaimHead_holds : Rows.FnExactClaimHeadSaid := fnExactClaimHead.proved
end Go.Proofs.Ytdfchkmfamnocaa
