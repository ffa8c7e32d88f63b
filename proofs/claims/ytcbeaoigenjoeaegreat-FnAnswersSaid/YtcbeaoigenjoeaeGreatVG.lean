/- Facts on the program as a whole. -/
import Derived.Test.YtcbeaoigenjoeaeGreatRows
import Derived.JoinedOf
import Derived.KernelRfl
namespace Go.Proofs.YtcbeaoigenjoeaeGreat
set_option maxRecDepth 100000
theorem andT {a b : Bool} (ha : a = true) (hb : b = true) : (a && b) = true := by rw [ha, hb]; rfl
theorem vg1 : laidOutB Tryz.prog = true := by kernel_rfl
theorem vg2 : mapsRowed Tryz.prog = true := by kernel_rfl
theorem vg3 : (Rows.fnAnswersRow.plainKeys == Tryz.prog.plainKeys) = true := by kernel_rfl
theorem vg4 : Tryz.prog.stopsHeard = true := by kernel_rfl
theorem vg5 : Tryz.prog.mayEnter = true := by kernel_rfl
theorem vg6 : (Rows.fnAnswersRow.lifted == Tryz.prog.liftsFinal) = true := by kernel_rfl
theorem vg7 : (Tryz.prog.make == some Rows.fnAnswersRow.make) = true := by kernel_rfl
end Go.Proofs.YtcbeaoigenjoeaeGreat
