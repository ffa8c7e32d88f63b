/- Facts on the program as a whole. -/
import Derived.Test.YtbdifkeoiodalaaRows
import Derived.JoinedOf
import Derived.KernelRfl
namespace Go.Proofs.Ytbdifkeoiodalaa
set_option maxRecDepth 100000
theorem andT {a b : Bool} (ha : a = true) (hb : b = true) : (a && b) = true := by rw [ha, hb]; rfl
theorem vg1 : laidOutB Try.prog = true := by kernel_rfl
theorem vg2 : mapsRowed Try.prog = true := by kernel_rfl
theorem vg3 : (Rows.fnExactEqualKnownRow.plainKeys == Try.prog.plainKeys) = true := by kernel_rfl
theorem vg4 : Try.prog.stopsHeard = true := by kernel_rfl
theorem vg5 : Try.prog.mayEnter = true := by kernel_rfl
theorem vg6 : (Rows.fnExactEqualKnownRow.lifted == Try.prog.liftsFinal) = true := by kernel_rfl
theorem vg7 : (Try.prog.make == some Rows.fnExactEqualKnownRow.make) = true := by kernel_rfl
end Go.Proofs.Ytbdifkeoiodalaa
