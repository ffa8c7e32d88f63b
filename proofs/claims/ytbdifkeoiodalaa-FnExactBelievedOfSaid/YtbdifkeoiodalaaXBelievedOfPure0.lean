/- What the functions compute: printed from their code by the evaluator. -/
import Derived.Test.YtbdifkeoiodalaaVE
namespace Go.Proofs.Ytbdifkeoiodalaa
set_option linter.unusedVariables false
abbrev TKeys : Type := List Int × Int
abbrev dKeys : TKeys := ([], (0 : Int))
abbrev THead : Type := Int × Int × Int × Int × Int × Int × Int × Int × List Int × Int × List Int × Int × Int × List Int × Int × Bool
abbrev dHead : THead := ((0 : Int), (0 : Int), (0 : Int), (0 : Int), (0 : Int), (0 : Int), (0 : Int), (0 : Int), [], (0 : Int), [], (0 : Int), (0 : Int), [], (0 : Int), false)
def Head_Zone (x : THead) : Int := x.1
def Head_Epoch (x : THead) : Int := x.2.1
def Head_Kind (x : THead) : Int := x.2.2.1
def Head_Time (x : THead) : Int := x.2.2.2.1
def Head_Until (x : THead) : Int := x.2.2.2.2.1
def Head_Count (x : THead) : Int := x.2.2.2.2.2.1
def Head_Root (x : THead) : Int := x.2.2.2.2.2.2.1
def Head_Prev (x : THead) : Int := x.2.2.2.2.2.2.2.1
def Head_Keys (x : THead) : TKeys := (x.2.2.2.2.2.2.2.2.1, x.2.2.2.2.2.2.2.2.2.1)
def Head_Heirs (x : THead) : TKeys := (x.2.2.2.2.2.2.2.2.2.2.1, x.2.2.2.2.2.2.2.2.2.2.2.1)
def Head_Wait (x : THead) : Int := x.2.2.2.2.2.2.2.2.2.2.2.2.1
def Head_Judge (x : THead) : TKeys := (x.2.2.2.2.2.2.2.2.2.2.2.2.2.1, x.2.2.2.2.2.2.2.2.2.2.2.2.2.2.1)
def Head_Frozen (x : THead) : Bool := x.2.2.2.2.2.2.2.2.2.2.2.2.2.2.2
def Head_mk (a0 : Int) (a1 : Int) (a2 : Int) (a3 : Int) (a4 : Int) (a5 : Int) (a6 : Int) (a7 : Int) (a8 : TKeys) (a9 : TKeys) (a10 : Int) (a11 : TKeys) (a12 : Bool) : THead := (a0, a1, a2, a3, a4, a5, a6, a7, a8.1, a8.2, a9.1, a9.2, a10, a11.1, a11.2, a12)
theorem Head_s : ∀ (a0 : Int) (a1 : Int) (a2 : Int) (a3 : Int) (a4 : Int) (a5 : Int) (a6 : Int) (a7 : Int) (a8 : TKeys) (a9 : TKeys) (a10 : Int) (a11 : TKeys) (a12 : Bool), Head_Zone (Head_mk a0 a1 a2 a3 a4 a5 a6 a7 a8 a9 a10 a11 a12) = a0 ∧ Head_Epoch (Head_mk a0 a1 a2 a3 a4 a5 a6 a7 a8 a9 a10 a11 a12) = a1 ∧ Head_Kind (Head_mk a0 a1 a2 a3 a4 a5 a6 a7 a8 a9 a10 a11 a12) = a2 ∧ Head_Time (Head_mk a0 a1 a2 a3 a4 a5 a6 a7 a8 a9 a10 a11 a12) = a3 ∧ Head_Until (Head_mk a0 a1 a2 a3 a4 a5 a6 a7 a8 a9 a10 a11 a12) = a4 ∧ Head_Count (Head_mk a0 a1 a2 a3 a4 a5 a6 a7 a8 a9 a10 a11 a12) = a5 ∧ Head_Root (Head_mk a0 a1 a2 a3 a4 a5 a6 a7 a8 a9 a10 a11 a12) = a6 ∧ Head_Prev (Head_mk a0 a1 a2 a3 a4 a5 a6 a7 a8 a9 a10 a11 a12) = a7 ∧ Head_Keys (Head_mk a0 a1 a2 a3 a4 a5 a6 a7 a8 a9 a10 a11 a12) = a8 ∧ Head_Heirs (Head_mk a0 a1 a2 a3 a4 a5 a6 a7 a8 a9 a10 a11 a12) = a9 ∧ Head_Wait (Head_mk a0 a1 a2 a3 a4 a5 a6 a7 a8 a9 a10 a11 a12) = a10 ∧ Head_Judge (Head_mk a0 a1 a2 a3 a4 a5 a6 a7 a8 a9 a10 a11 a12) = a11 ∧ Head_Frozen (Head_mk a0 a1 a2 a3 a4 a5 a6 a7 a8 a9 a10 a11 a12) = a12 := fun a0 a1 a2 a3 a4 a5 a6 a7 a8 a9 a10 a11 a12 => ⟨rfl, rfl, rfl, rfl, rfl, rfl, rfl, rfl, rfl, rfl, rfl, rfl, rfl⟩
theorem Head_e (x : THead) : Head_mk (Head_Zone x) (Head_Epoch x) (Head_Kind x) (Head_Time x) (Head_Until x) (Head_Count x) (Head_Root x) (Head_Prev x) (Head_Keys x) (Head_Heirs x) (Head_Wait x) (Head_Judge x) (Head_Frozen x) = x := id rfl
theorem Head_d : Head_Zone dHead = (0 : Int) ∧ Head_Epoch dHead = (0 : Int) ∧ Head_Kind dHead = (0 : Int) ∧ Head_Time dHead = (0 : Int) ∧ Head_Until dHead = (0 : Int) ∧ Head_Count dHead = (0 : Int) ∧ Head_Root dHead = (0 : Int) ∧ Head_Prev dHead = (0 : Int) ∧ Head_Keys dHead = dKeys ∧ Head_Heirs dHead = dKeys ∧ Head_Wait dHead = (0 : Int) ∧ Head_Judge dHead = dKeys ∧ Head_Frozen dHead = false := ⟨rfl, rfl, rfl, rfl, rfl, rfl, rfl, rfl, rfl, rfl, rfl, rfl, rfl⟩
abbrev TSig : Type := Int × Int
abbrev dSig : TSig := ((0 : Int), (0 : Int))
abbrev TSigned : Type := Int × Int × Int × Int × Int × Int × Int × Int × List Int × Int × List Int × Int × Int × List Int × Int × Bool × List TSig
abbrev dSigned : TSigned := ((0 : Int), (0 : Int), (0 : Int), (0 : Int), (0 : Int), (0 : Int), (0 : Int), (0 : Int), [], (0 : Int), [], (0 : Int), (0 : Int), [], (0 : Int), false, [])
def Signed_Head (x : TSigned) : THead := (x.1, x.2.1, x.2.2.1, x.2.2.2.1, x.2.2.2.2.1, x.2.2.2.2.2.1, x.2.2.2.2.2.2.1, x.2.2.2.2.2.2.2.1, x.2.2.2.2.2.2.2.2.1, x.2.2.2.2.2.2.2.2.2.1, x.2.2.2.2.2.2.2.2.2.2.1, x.2.2.2.2.2.2.2.2.2.2.2.1, x.2.2.2.2.2.2.2.2.2.2.2.2.1, x.2.2.2.2.2.2.2.2.2.2.2.2.2.1, x.2.2.2.2.2.2.2.2.2.2.2.2.2.2.1, x.2.2.2.2.2.2.2.2.2.2.2.2.2.2.2.1)
def Signed_Sigs (x : TSigned) : List TSig := x.2.2.2.2.2.2.2.2.2.2.2.2.2.2.2.2
def Signed_mk (a0 : THead) (a1 : List TSig) : TSigned := (a0.1, a0.2.1, a0.2.2.1, a0.2.2.2.1, a0.2.2.2.2.1, a0.2.2.2.2.2.1, a0.2.2.2.2.2.2.1, a0.2.2.2.2.2.2.2.1, a0.2.2.2.2.2.2.2.2.1, a0.2.2.2.2.2.2.2.2.2.1, a0.2.2.2.2.2.2.2.2.2.2.1, a0.2.2.2.2.2.2.2.2.2.2.2.1, a0.2.2.2.2.2.2.2.2.2.2.2.2.1, a0.2.2.2.2.2.2.2.2.2.2.2.2.2.1, a0.2.2.2.2.2.2.2.2.2.2.2.2.2.2.1, a0.2.2.2.2.2.2.2.2.2.2.2.2.2.2.2, a1)
theorem Signed_s : ∀ (a0 : THead) (a1 : List TSig), Signed_Head (Signed_mk a0 a1) = a0 ∧ Signed_Sigs (Signed_mk a0 a1) = a1 := fun a0 a1 => ⟨rfl, rfl⟩
theorem Signed_e (x : TSigned) : Signed_mk (Signed_Head x) (Signed_Sigs x) = x := id rfl
theorem Signed_d : Signed_Head dSigned = dHead ∧ Signed_Sigs dSigned = [] := ⟨rfl, rfl⟩
abbrev TFork : Type := Int × Int × Int × Int × Int × Int × Int × Int × List Int × Int × List Int × Int × Int × List Int × Int × Bool × List TSig × Int × Int × Int × Int × Int × Int × Int × Int × List Int × Int × List Int × Int × Int × List Int × Int × Bool × List TSig × Int × Int × Int × Int × Int × Int × Int × Int × List Int × Int × List Int × Int × Int × List Int × Int × Bool × List TSig
abbrev dFork : TFork := ((0 : Int), (0 : Int), (0 : Int), (0 : Int), (0 : Int), (0 : Int), (0 : Int), (0 : Int), [], (0 : Int), [], (0 : Int), (0 : Int), [], (0 : Int), false, [], (0 : Int), (0 : Int), (0 : Int), (0 : Int), (0 : Int), (0 : Int), (0 : Int), (0 : Int), [], (0 : Int), [], (0 : Int), (0 : Int), [], (0 : Int), false, [], (0 : Int), (0 : Int), (0 : Int), (0 : Int), (0 : Int), (0 : Int), (0 : Int), (0 : Int), [], (0 : Int), [], (0 : Int), (0 : Int), [], (0 : Int), false, [])
def Fork_Before (x : TFork) : TSigned := (x.1, x.2.1, x.2.2.1, x.2.2.2.1, x.2.2.2.2.1, x.2.2.2.2.2.1, x.2.2.2.2.2.2.1, x.2.2.2.2.2.2.2.1, x.2.2.2.2.2.2.2.2.1, x.2.2.2.2.2.2.2.2.2.1, x.2.2.2.2.2.2.2.2.2.2.1, x.2.2.2.2.2.2.2.2.2.2.2.1, x.2.2.2.2.2.2.2.2.2.2.2.2.1, x.2.2.2.2.2.2.2.2.2.2.2.2.2.1, x.2.2.2.2.2.2.2.2.2.2.2.2.2.2.1, x.2.2.2.2.2.2.2.2.2.2.2.2.2.2.2.1, x.2.2.2.2.2.2.2.2.2.2.2.2.2.2.2.2.1)
def Fork_A (x : TFork) : TSigned := (x.2.2.2.2.2.2.2.2.2.2.2.2.2.2.2.2.2.1, x.2.2.2.2.2.2.2.2.2.2.2.2.2.2.2.2.2.2.1, x.2.2.2.2.2.2.2.2.2.2.2.2.2.2.2.2.2.2.2.1, x.2.2.2.2.2.2.2.2.2.2.2.2.2.2.2.2.2.2.2.2.1, x.2.2.2.2.2.2.2.2.2.2.2.2.2.2.2.2.2.2.2.2.2.1, x.2.2.2.2.2.2.2.2.2.2.2.2.2.2.2.2.2.2.2.2.2.2.1, x.2.2.2.2.2.2.2.2.2.2.2.2.2.2.2.2.2.2.2.2.2.2.2.1, x.2.2.2.2.2.2.2.2.2.2.2.2.2.2.2.2.2.2.2.2.2.2.2.2.1, x.2.2.2.2.2.2.2.2.2.2.2.2.2.2.2.2.2.2.2.2.2.2.2.2.2.1, x.2.2.2.2.2.2.2.2.2.2.2.2.2.2.2.2.2.2.2.2.2.2.2.2.2.2.1, x.2.2.2.2.2.2.2.2.2.2.2.2.2.2.2.2.2.2.2.2.2.2.2.2.2.2.2.1, x.2.2.2.2.2.2.2.2.2.2.2.2.2.2.2.2.2.2.2.2.2.2.2.2.2.2.2.2.1, x.2.2.2.2.2.2.2.2.2.2.2.2.2.2.2.2.2.2.2.2.2.2.2.2.2.2.2.2.2.1, x.2.2.2.2.2.2.2.2.2.2.2.2.2.2.2.2.2.2.2.2.2.2.2.2.2.2.2.2.2.2.1, x.2.2.2.2.2.2.2.2.2.2.2.2.2.2.2.2.2.2.2.2.2.2.2.2.2.2.2.2.2.2.2.1, x.2.2.2.2.2.2.2.2.2.2.2.2.2.2.2.2.2.2.2.2.2.2.2.2.2.2.2.2.2.2.2.2.1, x.2.2.2.2.2.2.2.2.2.2.2.2.2.2.2.2.2.2.2.2.2.2.2.2.2.2.2.2.2.2.2.2.2.1)
def Fork_B (x : TFork) : TSigned := (x.2.2.2.2.2.2.2.2.2.2.2.2.2.2.2.2.2.2.2.2.2.2.2.2.2.2.2.2.2.2.2.2.2.2.1, x.2.2.2.2.2.2.2.2.2.2.2.2.2.2.2.2.2.2.2.2.2.2.2.2.2.2.2.2.2.2.2.2.2.2.2.1, x.2.2.2.2.2.2.2.2.2.2.2.2.2.2.2.2.2.2.2.2.2.2.2.2.2.2.2.2.2.2.2.2.2.2.2.2.1, x.2.2.2.2.2.2.2.2.2.2.2.2.2.2.2.2.2.2.2.2.2.2.2.2.2.2.2.2.2.2.2.2.2.2.2.2.2.1, x.2.2.2.2.2.2.2.2.2.2.2.2.2.2.2.2.2.2.2.2.2.2.2.2.2.2.2.2.2.2.2.2.2.2.2.2.2.2.1, x.2.2.2.2.2.2.2.2.2.2.2.2.2.2.2.2.2.2.2.2.2.2.2.2.2.2.2.2.2.2.2.2.2.2.2.2.2.2.2.1, x.2.2.2.2.2.2.2.2.2.2.2.2.2.2.2.2.2.2.2.2.2.2.2.2.2.2.2.2.2.2.2.2.2.2.2.2.2.2.2.2.1, x.2.2.2.2.2.2.2.2.2.2.2.2.2.2.2.2.2.2.2.2.2.2.2.2.2.2.2.2.2.2.2.2.2.2.2.2.2.2.2.2.2.1, x.2.2.2.2.2.2.2.2.2.2.2.2.2.2.2.2.2.2.2.2.2.2.2.2.2.2.2.2.2.2.2.2.2.2.2.2.2.2.2.2.2.2.1, x.2.2.2.2.2.2.2.2.2.2.2.2.2.2.2.2.2.2.2.2.2.2.2.2.2.2.2.2.2.2.2.2.2.2.2.2.2.2.2.2.2.2.2.1, x.2.2.2.2.2.2.2.2.2.2.2.2.2.2.2.2.2.2.2.2.2.2.2.2.2.2.2.2.2.2.2.2.2.2.2.2.2.2.2.2.2.2.2.2.1, x.2.2.2.2.2.2.2.2.2.2.2.2.2.2.2.2.2.2.2.2.2.2.2.2.2.2.2.2.2.2.2.2.2.2.2.2.2.2.2.2.2.2.2.2.2.1, x.2.2.2.2.2.2.2.2.2.2.2.2.2.2.2.2.2.2.2.2.2.2.2.2.2.2.2.2.2.2.2.2.2.2.2.2.2.2.2.2.2.2.2.2.2.2.1, x.2.2.2.2.2.2.2.2.2.2.2.2.2.2.2.2.2.2.2.2.2.2.2.2.2.2.2.2.2.2.2.2.2.2.2.2.2.2.2.2.2.2.2.2.2.2.2.1, x.2.2.2.2.2.2.2.2.2.2.2.2.2.2.2.2.2.2.2.2.2.2.2.2.2.2.2.2.2.2.2.2.2.2.2.2.2.2.2.2.2.2.2.2.2.2.2.2.1, x.2.2.2.2.2.2.2.2.2.2.2.2.2.2.2.2.2.2.2.2.2.2.2.2.2.2.2.2.2.2.2.2.2.2.2.2.2.2.2.2.2.2.2.2.2.2.2.2.2.1, x.2.2.2.2.2.2.2.2.2.2.2.2.2.2.2.2.2.2.2.2.2.2.2.2.2.2.2.2.2.2.2.2.2.2.2.2.2.2.2.2.2.2.2.2.2.2.2.2.2.2)
def Fork_mk (a0 : TSigned) (a1 : TSigned) (a2 : TSigned) : TFork := (a0.1, a0.2.1, a0.2.2.1, a0.2.2.2.1, a0.2.2.2.2.1, a0.2.2.2.2.2.1, a0.2.2.2.2.2.2.1, a0.2.2.2.2.2.2.2.1, a0.2.2.2.2.2.2.2.2.1, a0.2.2.2.2.2.2.2.2.2.1, a0.2.2.2.2.2.2.2.2.2.2.1, a0.2.2.2.2.2.2.2.2.2.2.2.1, a0.2.2.2.2.2.2.2.2.2.2.2.2.1, a0.2.2.2.2.2.2.2.2.2.2.2.2.2.1, a0.2.2.2.2.2.2.2.2.2.2.2.2.2.2.1, a0.2.2.2.2.2.2.2.2.2.2.2.2.2.2.2.1, a0.2.2.2.2.2.2.2.2.2.2.2.2.2.2.2.2, a1.1, a1.2.1, a1.2.2.1, a1.2.2.2.1, a1.2.2.2.2.1, a1.2.2.2.2.2.1, a1.2.2.2.2.2.2.1, a1.2.2.2.2.2.2.2.1, a1.2.2.2.2.2.2.2.2.1, a1.2.2.2.2.2.2.2.2.2.1, a1.2.2.2.2.2.2.2.2.2.2.1, a1.2.2.2.2.2.2.2.2.2.2.2.1, a1.2.2.2.2.2.2.2.2.2.2.2.2.1, a1.2.2.2.2.2.2.2.2.2.2.2.2.2.1, a1.2.2.2.2.2.2.2.2.2.2.2.2.2.2.1, a1.2.2.2.2.2.2.2.2.2.2.2.2.2.2.2.1, a1.2.2.2.2.2.2.2.2.2.2.2.2.2.2.2.2, a2.1, a2.2.1, a2.2.2.1, a2.2.2.2.1, a2.2.2.2.2.1, a2.2.2.2.2.2.1, a2.2.2.2.2.2.2.1, a2.2.2.2.2.2.2.2.1, a2.2.2.2.2.2.2.2.2.1, a2.2.2.2.2.2.2.2.2.2.1, a2.2.2.2.2.2.2.2.2.2.2.1, a2.2.2.2.2.2.2.2.2.2.2.2.1, a2.2.2.2.2.2.2.2.2.2.2.2.2.1, a2.2.2.2.2.2.2.2.2.2.2.2.2.2.1, a2.2.2.2.2.2.2.2.2.2.2.2.2.2.2.1, a2.2.2.2.2.2.2.2.2.2.2.2.2.2.2.2.1, a2.2.2.2.2.2.2.2.2.2.2.2.2.2.2.2.2)
theorem Fork_s : ∀ (a0 : TSigned) (a1 : TSigned) (a2 : TSigned), Fork_Before (Fork_mk a0 a1 a2) = a0 ∧ Fork_A (Fork_mk a0 a1 a2) = a1 ∧ Fork_B (Fork_mk a0 a1 a2) = a2 := fun a0 a1 a2 => ⟨rfl, rfl, rfl⟩
theorem Fork_e (x : TFork) : Fork_mk (Fork_Before x) (Fork_A x) (Fork_B x) = x := id rfl
theorem Fork_d : Fork_Before dFork = dSigned ∧ Fork_A dFork = dSigned ∧ Fork_B dFork = dSigned := ⟨rfl, rfl, rfl⟩
abbrev TKnown : Type := List (List TSigned) × List TFork
abbrev dKnown : TKnown := ([], [])
abbrev TEntry : Type := ByteArray × Int × Int × List ByteArray
abbrev dEntry : TEntry := ((⟨#[]⟩ : ByteArray), (0 : Int), (0 : Int), [])
abbrev TLook : Type := List (List TSigned) × List TFork × Bool × ByteArray × Int × Int × List ByteArray × Bool × List Int
abbrev dLook : TLook := ([], [], false, (⟨#[]⟩ : ByteArray), (0 : Int), (0 : Int), [], false, [])
def Look_Known (x : TLook) : TKnown := (x.1, x.2.1)
def Look_Found (x : TLook) : Bool := x.2.2.1
def Look_Entry (x : TLook) : TEntry := (x.2.2.2.1, x.2.2.2.2.1, x.2.2.2.2.2.1, x.2.2.2.2.2.2.1)
def Look_Done (x : TLook) : Bool := x.2.2.2.2.2.2.2.1
def Look_Codes (x : TLook) : List Int := x.2.2.2.2.2.2.2.2
def Look_mk (a0 : TKnown) (a1 : Bool) (a2 : TEntry) (a3 : Bool) (a4 : List Int) : TLook := (a0.1, a0.2, a1, a2.1, a2.2.1, a2.2.2.1, a2.2.2.2, a3, a4)
theorem Look_s : ∀ (a0 : TKnown) (a1 : Bool) (a2 : TEntry) (a3 : Bool) (a4 : List Int), Look_Known (Look_mk a0 a1 a2 a3 a4) = a0 ∧ Look_Found (Look_mk a0 a1 a2 a3 a4) = a1 ∧ Look_Entry (Look_mk a0 a1 a2 a3 a4) = a2 ∧ Look_Done (Look_mk a0 a1 a2 a3 a4) = a3 ∧ Look_Codes (Look_mk a0 a1 a2 a3 a4) = a4 := fun a0 a1 a2 a3 a4 => ⟨rfl, rfl, rfl, rfl, rfl⟩
theorem Look_e (x : TLook) : Look_mk (Look_Known x) (Look_Found x) (Look_Entry x) (Look_Done x) (Look_Codes x) = x := id rfl
theorem Look_d : Look_Known dLook = dKnown ∧ Look_Found dLook = false ∧ Look_Entry dLook = dEntry ∧ Look_Done dLook = false ∧ Look_Codes dLook = [] := ⟨rfl, rfl, rfl, rfl, rfl⟩
abbrev TREntryBool : Type := ByteArray × Int × Int × List ByteArray × Bool
abbrev dREntryBool : TREntryBool := ((⟨#[]⟩ : ByteArray), (0 : Int), (0 : Int), [], false)
def REntryBool_r0 (x : TREntryBool) : TEntry := (x.1, x.2.1, x.2.2.1, x.2.2.2.1)
def REntryBool_r1 (x : TREntryBool) : Bool := x.2.2.2.2
def REntryBool_mk (a0 : TEntry) (a1 : Bool) : TREntryBool := (a0.1, a0.2.1, a0.2.2.1, a0.2.2.2, a1)
theorem REntryBool_s : ∀ (a0 : TEntry) (a1 : Bool), REntryBool_r0 (REntryBool_mk a0 a1) = a0 ∧ REntryBool_r1 (REntryBool_mk a0 a1) = a1 := fun a0 a1 => ⟨rfl, rfl⟩
theorem REntryBool_e (x : TREntryBool) : REntryBool_mk (REntryBool_r0 x) (REntryBool_r1 x) = x := id rfl
theorem REntryBool_d : REntryBool_r0 dREntryBool = dEntry ∧ REntryBool_r1 dREntryBool = false := ⟨rfl, rfl⟩
noncomputable def laws_szIntS (x0 : List Int) (x1 : Int) : Option Int :=
  bif decide ((IntKind.i64.wrap (x1 - (x0.length : Int))) < (0 : Int)) then
  some (-1 : Int)
else some (IntKind.i64.wrap (x1 - (x0.length : Int)))
noncomputable def laws_szKeys (x0 : TKeys) (x1 : Int) : Option Int :=
  (laws_szIntS x0.1 x1).bind fun y1 =>
  bif decide (y1 < (0 : Int)) then
    some (-1 : Int)
  else some y1
noncomputable def laws_szHead (x0 : THead) (x1 : Int) : Option Int :=
  (laws_szKeys (Head_Keys x0) x1).bind fun y1 =>
  bif decide (y1 < (0 : Int)) then
    some (-1 : Int)
  else
    (laws_szKeys (Head_Heirs x0) y1).bind fun y2 =>
      bif decide (y2 < (0 : Int)) then
        some (-1 : Int)
      else
        (laws_szKeys (Head_Judge x0) y2).bind fun y3 =>
          bif decide (y3 < (0 : Int)) then
            some (-1 : Int)
          else some y3
noncomputable def laws_szSigS (x0 : List TSig) (x1 : Int) : Option Int :=
  bif decide ((IntKind.i64.wrap (x1 - (x0.length : Int))) < (0 : Int)) then
  some (-1 : Int)
else some (IntKind.i64.wrap (x1 - (x0.length : Int)))
noncomputable def laws_szSigned (x0 : TSigned) (x1 : Int) : Option Int :=
  (laws_szHead (Signed_Head x0) x1).bind fun y1 =>
  bif decide (y1 < (0 : Int)) then
    some (-1 : Int)
  else
    (laws_szSigS (Signed_Sigs x0) y1).bind fun y2 =>
      bif decide (y2 < (0 : Int)) then
        some (-1 : Int)
      else some y2
noncomputable abbrev laws_szSignedS.g10 (x0 : List TSigned) (r10 : Int → Int → Option Int) (v10_1 : Int) (v10_2 : Int) : Option Int :=
  bif decide (v10_2 < (x0.length : Int)) then
  bif decide (0 ≤ v10_2) then
    bif decide (v10_2 < (x0.length : Int)) then
      (laws_szSigned (x0.getD v10_2.toNat dSigned) v10_1).bind fun y1 =>
        bif decide (y1 < (0 : Int)) then
          some (-1 : Int)
        else r10 y1 (IntKind.i64.wrap (v10_2 + (1 : Int)))
    else none
  else none
else some v10_1
noncomputable def laws_szSignedS.l10 (x0 : List TSigned) (n : Nat) : Int → Int → Option Int :=
  V.iter (fun (r10 : Int → Int → Option Int) => fun v10_1 v10_2 => laws_szSignedS.g10 x0 r10 v10_1 v10_2) (fun _ _ => none) n
theorem laws_szSignedS.u10 (x0 : List TSigned) (n : Nat) (v10_1 : Int) (v10_2 : Int) : laws_szSignedS.l10 x0 (n + 1) v10_1 v10_2 = laws_szSignedS.g10 x0 (laws_szSignedS.l10 x0 n) v10_1 v10_2 := rfl
noncomputable abbrev laws_szSignedS.b (x0 : List TSigned) (x1 : Int) (L10 : Int → Int → Option Int) : Option Int :=
  bif decide ((IntKind.i64.wrap (x1 - (x0.length : Int))) < (0 : Int)) then
  some (-1 : Int)
else L10 (IntKind.i64.wrap (x1 - (x0.length : Int))) (0 : Int)
noncomputable def laws_szSignedS (x0 : List TSigned) (x1 : Int) : Option Int :=
  laws_szSignedS.b x0 x1 (laws_szSignedS.l10 x0 V.KK)
noncomputable abbrev laws_szSignedSS.g10 (x0 : List (List TSigned)) (r10 : Int → Int → Option Int) (v10_1 : Int) (v10_2 : Int) : Option Int :=
  bif decide (v10_2 < (x0.length : Int)) then
  bif decide (0 ≤ v10_2) then
    bif decide (v10_2 < (x0.length : Int)) then
      (laws_szSignedS (x0.getD v10_2.toNat []) v10_1).bind fun y1 =>
        bif decide (y1 < (0 : Int)) then
          some (-1 : Int)
        else r10 y1 (IntKind.i64.wrap (v10_2 + (1 : Int)))
    else none
  else none
else some v10_1
noncomputable def laws_szSignedSS.l10 (x0 : List (List TSigned)) (n : Nat) : Int → Int → Option Int :=
  V.iter (fun (r10 : Int → Int → Option Int) => fun v10_1 v10_2 => laws_szSignedSS.g10 x0 r10 v10_1 v10_2) (fun _ _ => none) n
theorem laws_szSignedSS.u10 (x0 : List (List TSigned)) (n : Nat) (v10_1 : Int) (v10_2 : Int) : laws_szSignedSS.l10 x0 (n + 1) v10_1 v10_2 = laws_szSignedSS.g10 x0 (laws_szSignedSS.l10 x0 n) v10_1 v10_2 := rfl
noncomputable abbrev laws_szSignedSS.b (x0 : List (List TSigned)) (x1 : Int) (L10 : Int → Int → Option Int) : Option Int :=
  bif decide ((IntKind.i64.wrap (x1 - (x0.length : Int))) < (0 : Int)) then
  some (-1 : Int)
else L10 (IntKind.i64.wrap (x1 - (x0.length : Int))) (0 : Int)
noncomputable def laws_szSignedSS (x0 : List (List TSigned)) (x1 : Int) : Option Int :=
  laws_szSignedSS.b x0 x1 (laws_szSignedSS.l10 x0 V.KK)
noncomputable def laws_szFork (x0 : TFork) (x1 : Int) : Option Int :=
  (laws_szSigned (Fork_Before x0) x1).bind fun y1 =>
  bif decide (y1 < (0 : Int)) then
    some (-1 : Int)
  else
    (laws_szSigned (Fork_A x0) y1).bind fun y2 =>
      bif decide (y2 < (0 : Int)) then
        some (-1 : Int)
      else
        (laws_szSigned (Fork_B x0) y2).bind fun y3 =>
          bif decide (y3 < (0 : Int)) then
            some (-1 : Int)
          else some y3
noncomputable abbrev laws_szForkS.g10 (x0 : List TFork) (r10 : Int → Int → Option Int) (v10_1 : Int) (v10_2 : Int) : Option Int :=
  bif decide (v10_2 < (x0.length : Int)) then
  bif decide (0 ≤ v10_2) then
    bif decide (v10_2 < (x0.length : Int)) then
      (laws_szFork (x0.getD v10_2.toNat dFork) v10_1).bind fun y1 =>
        bif decide (y1 < (0 : Int)) then
          some (-1 : Int)
        else r10 y1 (IntKind.i64.wrap (v10_2 + (1 : Int)))
    else none
  else none
else some v10_1
noncomputable def laws_szForkS.l10 (x0 : List TFork) (n : Nat) : Int → Int → Option Int :=
  V.iter (fun (r10 : Int → Int → Option Int) => fun v10_1 v10_2 => laws_szForkS.g10 x0 r10 v10_1 v10_2) (fun _ _ => none) n
theorem laws_szForkS.u10 (x0 : List TFork) (n : Nat) (v10_1 : Int) (v10_2 : Int) : laws_szForkS.l10 x0 (n + 1) v10_1 v10_2 = laws_szForkS.g10 x0 (laws_szForkS.l10 x0 n) v10_1 v10_2 := rfl
noncomputable abbrev laws_szForkS.b (x0 : List TFork) (x1 : Int) (L10 : Int → Int → Option Int) : Option Int :=
  bif decide ((IntKind.i64.wrap (x1 - (x0.length : Int))) < (0 : Int)) then
  some (-1 : Int)
else L10 (IntKind.i64.wrap (x1 - (x0.length : Int))) (0 : Int)
noncomputable def laws_szForkS (x0 : List TFork) (x1 : Int) : Option Int :=
  laws_szForkS.b x0 x1 (laws_szForkS.l10 x0 V.KK)
noncomputable def laws_szKnown (x0 : TKnown) (x1 : Int) : Option Int :=
  (laws_szSignedSS x0.1 x1).bind fun y1 =>
  bif decide (y1 < (0 : Int)) then
    some (-1 : Int)
  else
    (laws_szForkS x0.2 y1).bind fun y2 =>
      bif decide (y2 < (0 : Int)) then
        some (-1 : Int)
      else some y2
noncomputable abbrev laws_szStringS.g10 (x0 : List ByteArray) (r10 : Int → Int → Option Int) (v10_1 : Int) (v10_2 : Int) : Option Int :=
  bif decide (v10_2 < (x0.length : Int)) then
  bif decide (0 ≤ v10_2) then
    bif decide (v10_2 < (x0.length : Int)) then
      bif decide ((IntKind.i64.wrap (v10_1 - ((x0.getD v10_2.toNat (⟨#[]⟩ : ByteArray)).size : Int))) < (0 : Int)) then
        some (-1 : Int)
      else r10 (IntKind.i64.wrap (v10_1 - ((x0.getD v10_2.toNat (⟨#[]⟩ : ByteArray)).size : Int))) (IntKind.i64.wrap (v10_2 + (1 : Int)))
    else none
  else none
else some v10_1
noncomputable def laws_szStringS.l10 (x0 : List ByteArray) (n : Nat) : Int → Int → Option Int :=
  V.iter (fun (r10 : Int → Int → Option Int) => fun v10_1 v10_2 => laws_szStringS.g10 x0 r10 v10_1 v10_2) (fun _ _ => none) n
theorem laws_szStringS.u10 (x0 : List ByteArray) (n : Nat) (v10_1 : Int) (v10_2 : Int) : laws_szStringS.l10 x0 (n + 1) v10_1 v10_2 = laws_szStringS.g10 x0 (laws_szStringS.l10 x0 n) v10_1 v10_2 := rfl
noncomputable abbrev laws_szStringS.b (x0 : List ByteArray) (x1 : Int) (L10 : Int → Int → Option Int) : Option Int :=
  bif decide ((IntKind.i64.wrap (x1 - (x0.length : Int))) < (0 : Int)) then
  some (-1 : Int)
else L10 (IntKind.i64.wrap (x1 - (x0.length : Int))) (0 : Int)
noncomputable def laws_szStringS (x0 : List ByteArray) (x1 : Int) : Option Int :=
  laws_szStringS.b x0 x1 (laws_szStringS.l10 x0 V.KK)
noncomputable def laws_szEntry (x0 : TEntry) (x1 : Int) : Option Int :=
  bif decide ((IntKind.i64.wrap (x1 - (x0.1.size : Int))) < (0 : Int)) then
  some (-1 : Int)
else
  (laws_szStringS x0.2.2.2 (IntKind.i64.wrap (x1 - (x0.1.size : Int)))).bind fun y1 =>
    bif decide (y1 < (0 : Int)) then
      some (-1 : Int)
    else some y1
noncomputable def laws_szLook (x0 : TLook) (x1 : Int) : Option Int :=
  (laws_szKnown (Look_Known x0) x1).bind fun y1 =>
  bif decide (y1 < (0 : Int)) then
    some (-1 : Int)
  else
    (laws_szEntry (Look_Entry x0) y1).bind fun y2 =>
      bif decide (y2 < (0 : Int)) then
        some (-1 : Int)
      else
        (laws_szIntS (Look_Codes x0) y2).bind fun y3 =>
          bif decide (y3 < (0 : Int)) then
            some (-1 : Int)
          else some y3
noncomputable abbrev laws_toIntS.g6 (x0 : List Int) (r6 : Int → (List Int) → Option (List Int)) (v6_1 : Int) (v6_2 : List Int) : Option (List Int) :=
  bif decide (v6_1 < (x0.length : Int)) then
  bif decide (0 ≤ v6_1) then
    bif decide (v6_1 < (x0.length : Int)) then
      bif decide (0 ≤ v6_1) then
        bif decide (v6_1 < (v6_2.length : Int)) then
          r6 (IntKind.i64.wrap (v6_1 + (1 : Int))) (v6_2.set v6_1.toNat (x0.getD v6_1.toNat (0 : Int)))
        else none
      else none
    else none
  else none
else some v6_2
noncomputable def laws_toIntS.l6 (x0 : List Int) (n : Nat) : Int → (List Int) → Option (List Int) :=
  V.iter (fun (r6 : Int → (List Int) → Option (List Int)) => fun v6_1 v6_2 => laws_toIntS.g6 x0 r6 v6_1 v6_2) (fun _ _ => none) n
theorem laws_toIntS.u6 (x0 : List Int) (n : Nat) (v6_1 : Int) (v6_2 : List Int) : laws_toIntS.l6 x0 (n + 1) v6_1 v6_2 = laws_toIntS.g6 x0 (laws_toIntS.l6 x0 n) v6_1 v6_2 := rfl
noncomputable abbrev laws_toIntS.b (x0 : List Int) (L6 : Int → (List Int) → Option (List Int)) : Option (List Int) :=
  bif ((x0.length : Int) == (x0.length : Int)) then
  bif decide (0 ≤ (x0.length : Int)) then
    bif decide ((x0.length : Int) < (68719476736 : Int)) then
      L6 (0 : Int) (List.replicate ((x0.length : Int).toNat) (0 : Int))
    else none
  else none
else none
noncomputable def laws_toIntS (x0 : List Int) : Option (List Int) :=
  laws_toIntS.b x0 (laws_toIntS.l6 x0 V.KK)
noncomputable def laws_toKeys (x0 : TKeys) : Option TKeys :=
  (laws_toIntS x0.1).bind fun y1 =>
  some (y1, x0.2)
noncomputable def laws_toHead (x0 : THead) : Option THead :=
  (laws_toKeys (Head_Keys x0)).bind fun y1 =>
  (laws_toKeys (Head_Heirs x0)).bind fun y2 =>
    (laws_toKeys (Head_Judge x0)).bind fun y3 =>
      some (Head_mk (Head_Zone x0) (Head_Epoch x0) (Head_Kind x0) (Head_Time x0) (Head_Until x0) (Head_Count x0) (Head_Root x0) (Head_Prev x0) y1 y2 (Head_Wait x0) y3 (Head_Frozen x0))
noncomputable def laws_toSig (x0 : TSig) : Option TSig :=
  some x0
noncomputable abbrev laws_toSigS.g6 (x0 : List TSig) (r6 : Int → (List TSig) → Option (List TSig)) (v6_1 : Int) (v6_2 : List TSig) : Option (List TSig) :=
  bif decide (v6_1 < (x0.length : Int)) then
  bif decide (0 ≤ v6_1) then
    bif decide (v6_1 < (x0.length : Int)) then
      (laws_toSig (x0.getD v6_1.toNat dSig)).bind fun y1 =>
        bif decide (0 ≤ v6_1) then
          bif decide (v6_1 < (v6_2.length : Int)) then
            r6 (IntKind.i64.wrap (v6_1 + (1 : Int))) (v6_2.set v6_1.toNat y1)
          else none
        else none
    else none
  else none
else some v6_2
noncomputable def laws_toSigS.l6 (x0 : List TSig) (n : Nat) : Int → (List TSig) → Option (List TSig) :=
  V.iter (fun (r6 : Int → (List TSig) → Option (List TSig)) => fun v6_1 v6_2 => laws_toSigS.g6 x0 r6 v6_1 v6_2) (fun _ _ => none) n
theorem laws_toSigS.u6 (x0 : List TSig) (n : Nat) (v6_1 : Int) (v6_2 : List TSig) : laws_toSigS.l6 x0 (n + 1) v6_1 v6_2 = laws_toSigS.g6 x0 (laws_toSigS.l6 x0 n) v6_1 v6_2 := rfl
noncomputable abbrev laws_toSigS.b (x0 : List TSig) (L6 : Int → (List TSig) → Option (List TSig)) : Option (List TSig) :=
  bif ((x0.length : Int) == (x0.length : Int)) then
  bif decide (0 ≤ (x0.length : Int)) then
    bif decide ((x0.length : Int) < (68719476736 : Int)) then
      L6 (0 : Int) (List.replicate ((x0.length : Int).toNat) dSig)
    else none
  else none
else none
noncomputable def laws_toSigS (x0 : List TSig) : Option (List TSig) :=
  laws_toSigS.b x0 (laws_toSigS.l6 x0 V.KK)
noncomputable def laws_toSigned (x0 : TSigned) : Option TSigned :=
  (laws_toHead (Signed_Head x0)).bind fun y1 =>
  (laws_toSigS (Signed_Sigs x0)).bind fun y2 =>
    some (Signed_mk y1 y2)
noncomputable abbrev laws_toSignedS.g6 (x0 : List TSigned) (r6 : Int → (List TSigned) → Option (List TSigned)) (v6_1 : Int) (v6_2 : List TSigned) : Option (List TSigned) :=
  bif decide (v6_1 < (x0.length : Int)) then
  bif decide (0 ≤ v6_1) then
    bif decide (v6_1 < (x0.length : Int)) then
      (laws_toSigned (x0.getD v6_1.toNat dSigned)).bind fun y1 =>
        bif decide (0 ≤ v6_1) then
          bif decide (v6_1 < (v6_2.length : Int)) then
            r6 (IntKind.i64.wrap (v6_1 + (1 : Int))) (v6_2.set v6_1.toNat y1)
          else none
        else none
    else none
  else none
else some v6_2
noncomputable def laws_toSignedS.l6 (x0 : List TSigned) (n : Nat) : Int → (List TSigned) → Option (List TSigned) :=
  V.iter (fun (r6 : Int → (List TSigned) → Option (List TSigned)) => fun v6_1 v6_2 => laws_toSignedS.g6 x0 r6 v6_1 v6_2) (fun _ _ => none) n
theorem laws_toSignedS.u6 (x0 : List TSigned) (n : Nat) (v6_1 : Int) (v6_2 : List TSigned) : laws_toSignedS.l6 x0 (n + 1) v6_1 v6_2 = laws_toSignedS.g6 x0 (laws_toSignedS.l6 x0 n) v6_1 v6_2 := rfl
noncomputable abbrev laws_toSignedS.b (x0 : List TSigned) (L6 : Int → (List TSigned) → Option (List TSigned)) : Option (List TSigned) :=
  bif ((x0.length : Int) == (x0.length : Int)) then
  bif decide (0 ≤ (x0.length : Int)) then
    bif decide ((x0.length : Int) < (68719476736 : Int)) then
      L6 (0 : Int) (List.replicate ((x0.length : Int).toNat) dSigned)
    else none
  else none
else none
noncomputable def laws_toSignedS (x0 : List TSigned) : Option (List TSigned) :=
  laws_toSignedS.b x0 (laws_toSignedS.l6 x0 V.KK)
noncomputable abbrev laws_toSignedSS.g6 (x0 : List (List TSigned)) (r6 : Int → (List (List TSigned)) → Option (List (List TSigned))) (v6_1 : Int) (v6_2 : List (List TSigned)) : Option (List (List TSigned)) :=
  bif decide (v6_1 < (x0.length : Int)) then
  bif decide (0 ≤ v6_1) then
    bif decide (v6_1 < (x0.length : Int)) then
      (laws_toSignedS (x0.getD v6_1.toNat [])).bind fun y1 =>
        bif decide (0 ≤ v6_1) then
          bif decide (v6_1 < (v6_2.length : Int)) then
            r6 (IntKind.i64.wrap (v6_1 + (1 : Int))) (v6_2.set v6_1.toNat y1)
          else none
        else none
    else none
  else none
else some v6_2
noncomputable def laws_toSignedSS.l6 (x0 : List (List TSigned)) (n : Nat) : Int → (List (List TSigned)) → Option (List (List TSigned)) :=
  V.iter (fun (r6 : Int → (List (List TSigned)) → Option (List (List TSigned))) => fun v6_1 v6_2 => laws_toSignedSS.g6 x0 r6 v6_1 v6_2) (fun _ _ => none) n
theorem laws_toSignedSS.u6 (x0 : List (List TSigned)) (n : Nat) (v6_1 : Int) (v6_2 : List (List TSigned)) : laws_toSignedSS.l6 x0 (n + 1) v6_1 v6_2 = laws_toSignedSS.g6 x0 (laws_toSignedSS.l6 x0 n) v6_1 v6_2 := rfl
noncomputable abbrev laws_toSignedSS.b (x0 : List (List TSigned)) (L6 : Int → (List (List TSigned)) → Option (List (List TSigned))) : Option (List (List TSigned)) :=
  bif ((x0.length : Int) == (x0.length : Int)) then
  bif decide (0 ≤ (x0.length : Int)) then
    bif decide ((x0.length : Int) < (68719476736 : Int)) then
      L6 (0 : Int) (List.replicate ((x0.length : Int).toNat) [])
    else none
  else none
else none
noncomputable def laws_toSignedSS (x0 : List (List TSigned)) : Option (List (List TSigned)) :=
  laws_toSignedSS.b x0 (laws_toSignedSS.l6 x0 V.KK)
noncomputable def laws_toFork (x0 : TFork) : Option TFork :=
  (laws_toSigned (Fork_Before x0)).bind fun y1 =>
  (laws_toSigned (Fork_A x0)).bind fun y2 =>
    (laws_toSigned (Fork_B x0)).bind fun y3 =>
      some (Fork_mk y1 y2 y3)
noncomputable abbrev laws_toForkS.g6 (x0 : List TFork) (r6 : Int → (List TFork) → Option (List TFork)) (v6_1 : Int) (v6_2 : List TFork) : Option (List TFork) :=
  bif decide (v6_1 < (x0.length : Int)) then
  bif decide (0 ≤ v6_1) then
    bif decide (v6_1 < (x0.length : Int)) then
      (laws_toFork (x0.getD v6_1.toNat dFork)).bind fun y1 =>
        bif decide (0 ≤ v6_1) then
          bif decide (v6_1 < (v6_2.length : Int)) then
            r6 (IntKind.i64.wrap (v6_1 + (1 : Int))) (v6_2.set v6_1.toNat y1)
          else none
        else none
    else none
  else none
else some v6_2
noncomputable def laws_toForkS.l6 (x0 : List TFork) (n : Nat) : Int → (List TFork) → Option (List TFork) :=
  V.iter (fun (r6 : Int → (List TFork) → Option (List TFork)) => fun v6_1 v6_2 => laws_toForkS.g6 x0 r6 v6_1 v6_2) (fun _ _ => none) n
theorem laws_toForkS.u6 (x0 : List TFork) (n : Nat) (v6_1 : Int) (v6_2 : List TFork) : laws_toForkS.l6 x0 (n + 1) v6_1 v6_2 = laws_toForkS.g6 x0 (laws_toForkS.l6 x0 n) v6_1 v6_2 := rfl
noncomputable abbrev laws_toForkS.b (x0 : List TFork) (L6 : Int → (List TFork) → Option (List TFork)) : Option (List TFork) :=
  bif ((x0.length : Int) == (x0.length : Int)) then
  bif decide (0 ≤ (x0.length : Int)) then
    bif decide ((x0.length : Int) < (68719476736 : Int)) then
      L6 (0 : Int) (List.replicate ((x0.length : Int).toNat) dFork)
    else none
  else none
else none
noncomputable def laws_toForkS (x0 : List TFork) : Option (List TFork) :=
  laws_toForkS.b x0 (laws_toForkS.l6 x0 V.KK)
noncomputable def laws_toKnown (x0 : TKnown) : Option TKnown :=
  (laws_toSignedSS x0.1).bind fun y1 =>
  (laws_toForkS x0.2).bind fun y2 =>
    some (y1, y2)
noncomputable abbrev laws_toStringS.g6 (x0 : List ByteArray) (r6 : Int → (List ByteArray) → Option (List ByteArray)) (v6_1 : Int) (v6_2 : List ByteArray) : Option (List ByteArray) :=
  bif decide (v6_1 < (x0.length : Int)) then
  bif decide (0 ≤ v6_1) then
    bif decide (v6_1 < (x0.length : Int)) then
      bif decide (0 ≤ v6_1) then
        bif decide (v6_1 < (v6_2.length : Int)) then
          r6 (IntKind.i64.wrap (v6_1 + (1 : Int))) (v6_2.set v6_1.toNat (x0.getD v6_1.toNat (⟨#[]⟩ : ByteArray)))
        else none
      else none
    else none
  else none
else some v6_2
noncomputable def laws_toStringS.l6 (x0 : List ByteArray) (n : Nat) : Int → (List ByteArray) → Option (List ByteArray) :=
  V.iter (fun (r6 : Int → (List ByteArray) → Option (List ByteArray)) => fun v6_1 v6_2 => laws_toStringS.g6 x0 r6 v6_1 v6_2) (fun _ _ => none) n
theorem laws_toStringS.u6 (x0 : List ByteArray) (n : Nat) (v6_1 : Int) (v6_2 : List ByteArray) : laws_toStringS.l6 x0 (n + 1) v6_1 v6_2 = laws_toStringS.g6 x0 (laws_toStringS.l6 x0 n) v6_1 v6_2 := rfl
noncomputable abbrev laws_toStringS.b (x0 : List ByteArray) (L6 : Int → (List ByteArray) → Option (List ByteArray)) : Option (List ByteArray) :=
  bif ((x0.length : Int) == (x0.length : Int)) then
  bif decide (0 ≤ (x0.length : Int)) then
    bif decide ((x0.length : Int) < (68719476736 : Int)) then
      L6 (0 : Int) (List.replicate ((x0.length : Int).toNat) (⟨#[]⟩ : ByteArray))
    else none
  else none
else none
noncomputable def laws_toStringS (x0 : List ByteArray) : Option (List ByteArray) :=
  laws_toStringS.b x0 (laws_toStringS.l6 x0 V.KK)
noncomputable def laws_toEntry (x0 : TEntry) : Option TEntry :=
  (laws_toStringS x0.2.2.2).bind fun y1 =>
  some (x0.1, x0.2.1, x0.2.2.1, y1)
noncomputable def laws_toLook (x0 : TLook) : Option TLook :=
  (laws_toKnown (Look_Known x0)).bind fun y1 =>
  (laws_toEntry (Look_Entry x0)).bind fun y2 =>
    (laws_toIntS (Look_Codes x0)).bind fun y3 =>
      some (Look_mk y1 (Look_Found x0) y2 (Look_Done x0) y3)
noncomputable def spec_l5Copy (x0 : List ByteArray) : Option (List ByteArray) :=
  bif decide (([] : List ByteArray).length + x0.length < 68719476736) then
  some ([] ++ x0)
else none
noncomputable def spec_l8Copy (x0 : TEntry) : Option TEntry :=
  (spec_l5Copy x0.2.2.2).bind fun y1 =>
  some (x0.1, x0.2.1, x0.2.2.1, y1)
noncomputable abbrev spec_BelievedOf.g5 (x0 : TLook) (v5_0 : Bool) : Option TREntryBool :=
  bif v5_0 then
  some dREntryBool
else
  (spec_l8Copy (Look_Entry x0)).bind fun y1 =>
    some (REntryBool_mk y1 true)
noncomputable def spec_BelievedOf.l5 (x0 : TLook) (v5_0 : Bool) : Option TREntryBool :=
  spec_BelievedOf.g5 x0 v5_0
noncomputable abbrev spec_BelievedOf.b (x0 : TLook) (L5 : Bool → Option TREntryBool) : Option TREntryBool :=
  bif !(Look_Done x0) then
  L5 true
else L5 (!(Look_Found x0))
noncomputable def spec_BelievedOf (x0 : TLook) : Option TREntryBool :=
  spec_BelievedOf.b x0 (spec_BelievedOf.l5 x0)
noncomputable def slices_Clone_string (x0 : List ByteArray) : Option (List ByteArray) :=
  bif x0.isEmpty then
  V.both (some [])
    (bif decide (([] : List ByteArray).length + x0.length < 68719476736) then
      some ([] ++ x0)
    else none)
else
  bif decide (([] : List ByteArray).length + x0.length < 68719476736) then
    some ([] ++ x0)
  else none
noncomputable def impl_copyEntry (x0 : TEntry) : Option TEntry :=
  (slices_Clone_string x0.2.2.2).bind fun y1 =>
  some (x0.1, x0.2.1, x0.2.2.1, y1)
noncomputable abbrev impl_BelievedOf.g5 (x0 : TLook) (v5_0 : Bool) : Option TREntryBool :=
  bif v5_0 then
  some dREntryBool
else
  (impl_copyEntry (Look_Entry x0)).bind fun y1 =>
    some (REntryBool_mk y1 true)
noncomputable def impl_BelievedOf.l5 (x0 : TLook) (v5_0 : Bool) : Option TREntryBool :=
  impl_BelievedOf.g5 x0 v5_0
noncomputable abbrev impl_BelievedOf.b (x0 : TLook) (L5 : Bool → Option TREntryBool) : Option TREntryBool :=
  bif !(Look_Done x0) then
  L5 true
else L5 (!(Look_Found x0))
noncomputable def impl_BelievedOf (x0 : TLook) : Option TREntryBool :=
  impl_BelievedOf.b x0 (impl_BelievedOf.l5 x0)
noncomputable abbrev laws_eqStringS.g8 (x0 : List ByteArray) (x1 : List ByteArray) (r8 : Int → Option Bool) (v8_2 : Int) : Option Bool :=
  bif decide (v8_2 < (x0.length : Int)) then
  bif decide (0 ≤ v8_2) then
    bif decide (v8_2 < (x0.length : Int)) then
      bif decide (0 ≤ v8_2) then
        bif decide (v8_2 < (x1.length : Int)) then
          bif !((x0.getD v8_2.toNat (⟨#[]⟩ : ByteArray)).toList == (x1.getD v8_2.toNat (⟨#[]⟩ : ByteArray)).toList) then
            some false
          else r8 (IntKind.i64.wrap (v8_2 + (1 : Int)))
        else none
      else none
    else none
  else none
else some true
noncomputable def laws_eqStringS.l8 (x0 : List ByteArray) (x1 : List ByteArray) (n : Nat) : Int → Option Bool :=
  V.iter (fun (r8 : Int → Option Bool) => fun v8_2 => laws_eqStringS.g8 x0 x1 r8 v8_2) (fun _ => none) n
theorem laws_eqStringS.u8 (x0 : List ByteArray) (x1 : List ByteArray) (n : Nat) (v8_2 : Int) : laws_eqStringS.l8 x0 x1 (n + 1) v8_2 = laws_eqStringS.g8 x0 x1 (laws_eqStringS.l8 x0 x1 n) v8_2 := rfl
noncomputable abbrev laws_eqStringS.b (x0 : List ByteArray) (x1 : List ByteArray) (L8 : Int → Option Bool) : Option Bool :=
  bif (x0.length : Int) != (x1.length : Int) then
  some false
else L8 (0 : Int)
noncomputable def laws_eqStringS (x0 : List ByteArray) (x1 : List ByteArray) : Option Bool :=
  laws_eqStringS.b x0 x1 (laws_eqStringS.l8 x0 x1 V.KK)
noncomputable def laws_eqEntry (x0 : TEntry) (x1 : TEntry) : Option Bool :=
  bif !(x0.1.toList == x1.1.toList) then
  some false
else
  bif x0.2.1 != x1.2.1 then
    some false
  else
    bif x0.2.2.1 != x1.2.2.1 then
      some false
    else
      (laws_eqStringS x0.2.2.2 x1.2.2.2).bind fun y1 =>
        bif !y1 then
          some false
        else some true
noncomputable abbrev laws_eqIntS.g8 (x0 : List Int) (x1 : List Int) (r8 : Int → Option Bool) (v8_2 : Int) : Option Bool :=
  bif decide (v8_2 < (x0.length : Int)) then
  bif decide (0 ≤ v8_2) then
    bif decide (v8_2 < (x0.length : Int)) then
      bif decide (0 ≤ v8_2) then
        bif decide (v8_2 < (x1.length : Int)) then
          bif (x0.getD v8_2.toNat (0 : Int)) != (x1.getD v8_2.toNat (0 : Int)) then
            some false
          else r8 (IntKind.i64.wrap (v8_2 + (1 : Int)))
        else none
      else none
    else none
  else none
else some true
noncomputable def laws_eqIntS.l8 (x0 : List Int) (x1 : List Int) (n : Nat) : Int → Option Bool :=
  V.iter (fun (r8 : Int → Option Bool) => fun v8_2 => laws_eqIntS.g8 x0 x1 r8 v8_2) (fun _ => none) n
theorem laws_eqIntS.u8 (x0 : List Int) (x1 : List Int) (n : Nat) (v8_2 : Int) : laws_eqIntS.l8 x0 x1 (n + 1) v8_2 = laws_eqIntS.g8 x0 x1 (laws_eqIntS.l8 x0 x1 n) v8_2 := rfl
noncomputable abbrev laws_eqIntS.b (x0 : List Int) (x1 : List Int) (L8 : Int → Option Bool) : Option Bool :=
  bif (x0.length : Int) != (x1.length : Int) then
  some false
else L8 (0 : Int)
noncomputable def laws_eqIntS (x0 : List Int) (x1 : List Int) : Option Bool :=
  laws_eqIntS.b x0 x1 (laws_eqIntS.l8 x0 x1 V.KK)
noncomputable def laws_eqKeys (x0 : TKeys) (x1 : TKeys) : Option Bool :=
  (laws_eqIntS x0.1 x1.1).bind fun y1 =>
  bif !y1 then
    some false
  else
    bif x0.2 != x1.2 then
      some false
    else some true
noncomputable def laws_eqHead (x0 : THead) (x1 : THead) : Option Bool :=
  bif (Head_Zone x0) != (Head_Zone x1) then
  some false
else
  bif (Head_Epoch x0) != (Head_Epoch x1) then
    some false
  else
    bif (Head_Kind x0) != (Head_Kind x1) then
      some false
    else
      bif (Head_Time x0) != (Head_Time x1) then
        some false
      else
        bif (Head_Until x0) != (Head_Until x1) then
          some false
        else
          bif (Head_Count x0) != (Head_Count x1) then
            some false
          else
            bif (Head_Root x0) != (Head_Root x1) then
              some false
            else
              bif (Head_Prev x0) != (Head_Prev x1) then
                some false
              else
                (laws_eqKeys (Head_Keys x0) (Head_Keys x1)).bind fun y1 =>
                  bif !y1 then
                    some false
                  else
                    (laws_eqKeys (Head_Heirs x0) (Head_Heirs x1)).bind fun y2 =>
                      bif !y2 then
                        some false
                      else
                        bif (Head_Wait x0) != (Head_Wait x1) then
                          some false
                        else
                          (laws_eqKeys (Head_Judge x0) (Head_Judge x1)).bind fun y3 =>
                            bif !y3 then
                              some false
                            else
                              bif !((Head_Frozen x0) == (Head_Frozen x1)) then
                                some false
                              else some true
noncomputable def laws_eqSig (x0 : TSig) (x1 : TSig) : Option Bool :=
  bif x0.1 != x1.1 then
  some false
else
  bif x0.2 != x1.2 then
    some false
  else some true
noncomputable abbrev laws_eqSigS.g8 (x0 : List TSig) (x1 : List TSig) (r8 : Int → Option Bool) (v8_2 : Int) : Option Bool :=
  bif decide (v8_2 < (x0.length : Int)) then
  bif decide (0 ≤ v8_2) then
    bif decide (v8_2 < (x0.length : Int)) then
      bif decide (0 ≤ v8_2) then
        bif decide (v8_2 < (x1.length : Int)) then
          (laws_eqSig (x0.getD v8_2.toNat dSig) (x1.getD v8_2.toNat dSig)).bind fun y1 =>
            bif !y1 then
              some false
            else r8 (IntKind.i64.wrap (v8_2 + (1 : Int)))
        else none
      else none
    else none
  else none
else some true
noncomputable def laws_eqSigS.l8 (x0 : List TSig) (x1 : List TSig) (n : Nat) : Int → Option Bool :=
  V.iter (fun (r8 : Int → Option Bool) => fun v8_2 => laws_eqSigS.g8 x0 x1 r8 v8_2) (fun _ => none) n
theorem laws_eqSigS.u8 (x0 : List TSig) (x1 : List TSig) (n : Nat) (v8_2 : Int) : laws_eqSigS.l8 x0 x1 (n + 1) v8_2 = laws_eqSigS.g8 x0 x1 (laws_eqSigS.l8 x0 x1 n) v8_2 := rfl
noncomputable abbrev laws_eqSigS.b (x0 : List TSig) (x1 : List TSig) (L8 : Int → Option Bool) : Option Bool :=
  bif (x0.length : Int) != (x1.length : Int) then
  some false
else L8 (0 : Int)
noncomputable def laws_eqSigS (x0 : List TSig) (x1 : List TSig) : Option Bool :=
  laws_eqSigS.b x0 x1 (laws_eqSigS.l8 x0 x1 V.KK)
noncomputable def laws_eqSigned (x0 : TSigned) (x1 : TSigned) : Option Bool :=
  (laws_eqHead (Signed_Head x0) (Signed_Head x1)).bind fun y1 =>
  bif !y1 then
    some false
  else
    (laws_eqSigS (Signed_Sigs x0) (Signed_Sigs x1)).bind fun y2 =>
      bif !y2 then
        some false
      else some true
noncomputable abbrev laws_eqSignedS.g8 (x0 : List TSigned) (x1 : List TSigned) (r8 : Int → Option Bool) (v8_2 : Int) : Option Bool :=
  bif decide (v8_2 < (x0.length : Int)) then
  bif decide (0 ≤ v8_2) then
    bif decide (v8_2 < (x0.length : Int)) then
      bif decide (0 ≤ v8_2) then
        bif decide (v8_2 < (x1.length : Int)) then
          (laws_eqSigned (x0.getD v8_2.toNat dSigned) (x1.getD v8_2.toNat dSigned)).bind fun y1 =>
            bif !y1 then
              some false
            else r8 (IntKind.i64.wrap (v8_2 + (1 : Int)))
        else none
      else none
    else none
  else none
else some true
noncomputable def laws_eqSignedS.l8 (x0 : List TSigned) (x1 : List TSigned) (n : Nat) : Int → Option Bool :=
  V.iter (fun (r8 : Int → Option Bool) => fun v8_2 => laws_eqSignedS.g8 x0 x1 r8 v8_2) (fun _ => none) n
theorem laws_eqSignedS.u8 (x0 : List TSigned) (x1 : List TSigned) (n : Nat) (v8_2 : Int) : laws_eqSignedS.l8 x0 x1 (n + 1) v8_2 = laws_eqSignedS.g8 x0 x1 (laws_eqSignedS.l8 x0 x1 n) v8_2 := rfl
noncomputable abbrev laws_eqSignedS.b (x0 : List TSigned) (x1 : List TSigned) (L8 : Int → Option Bool) : Option Bool :=
  bif (x0.length : Int) != (x1.length : Int) then
  some false
else L8 (0 : Int)
noncomputable def laws_eqSignedS (x0 : List TSigned) (x1 : List TSigned) : Option Bool :=
  laws_eqSignedS.b x0 x1 (laws_eqSignedS.l8 x0 x1 V.KK)
noncomputable abbrev laws_eqSignedSS.g8 (x0 : List (List TSigned)) (x1 : List (List TSigned)) (r8 : Int → Option Bool) (v8_2 : Int) : Option Bool :=
  bif decide (v8_2 < (x0.length : Int)) then
  bif decide (0 ≤ v8_2) then
    bif decide (v8_2 < (x0.length : Int)) then
      bif decide (0 ≤ v8_2) then
        bif decide (v8_2 < (x1.length : Int)) then
          (laws_eqSignedS (x0.getD v8_2.toNat []) (x1.getD v8_2.toNat [])).bind fun y1 =>
            bif !y1 then
              some false
            else r8 (IntKind.i64.wrap (v8_2 + (1 : Int)))
        else none
      else none
    else none
  else none
else some true
noncomputable def laws_eqSignedSS.l8 (x0 : List (List TSigned)) (x1 : List (List TSigned)) (n : Nat) : Int → Option Bool :=
  V.iter (fun (r8 : Int → Option Bool) => fun v8_2 => laws_eqSignedSS.g8 x0 x1 r8 v8_2) (fun _ => none) n
theorem laws_eqSignedSS.u8 (x0 : List (List TSigned)) (x1 : List (List TSigned)) (n : Nat) (v8_2 : Int) : laws_eqSignedSS.l8 x0 x1 (n + 1) v8_2 = laws_eqSignedSS.g8 x0 x1 (laws_eqSignedSS.l8 x0 x1 n) v8_2 := rfl
noncomputable abbrev laws_eqSignedSS.b (x0 : List (List TSigned)) (x1 : List (List TSigned)) (L8 : Int → Option Bool) : Option Bool :=
  bif (x0.length : Int) != (x1.length : Int) then
  some false
else L8 (0 : Int)
noncomputable def laws_eqSignedSS (x0 : List (List TSigned)) (x1 : List (List TSigned)) : Option Bool :=
  laws_eqSignedSS.b x0 x1 (laws_eqSignedSS.l8 x0 x1 V.KK)
noncomputable def laws_eqFork (x0 : TFork) (x1 : TFork) : Option Bool :=
  (laws_eqSigned (Fork_Before x0) (Fork_Before x1)).bind fun y1 =>
  bif !y1 then
    some false
  else
    (laws_eqSigned (Fork_A x0) (Fork_A x1)).bind fun y2 =>
      bif !y2 then
        some false
      else
        (laws_eqSigned (Fork_B x0) (Fork_B x1)).bind fun y3 =>
          bif !y3 then
            some false
          else some true
noncomputable abbrev laws_eqForkS.g8 (x0 : List TFork) (x1 : List TFork) (r8 : Int → Option Bool) (v8_2 : Int) : Option Bool :=
  bif decide (v8_2 < (x0.length : Int)) then
  bif decide (0 ≤ v8_2) then
    bif decide (v8_2 < (x0.length : Int)) then
      bif decide (0 ≤ v8_2) then
        bif decide (v8_2 < (x1.length : Int)) then
          (laws_eqFork (x0.getD v8_2.toNat dFork) (x1.getD v8_2.toNat dFork)).bind fun y1 =>
            bif !y1 then
              some false
            else r8 (IntKind.i64.wrap (v8_2 + (1 : Int)))
        else none
      else none
    else none
  else none
else some true
noncomputable def laws_eqForkS.l8 (x0 : List TFork) (x1 : List TFork) (n : Nat) : Int → Option Bool :=
  V.iter (fun (r8 : Int → Option Bool) => fun v8_2 => laws_eqForkS.g8 x0 x1 r8 v8_2) (fun _ => none) n
theorem laws_eqForkS.u8 (x0 : List TFork) (x1 : List TFork) (n : Nat) (v8_2 : Int) : laws_eqForkS.l8 x0 x1 (n + 1) v8_2 = laws_eqForkS.g8 x0 x1 (laws_eqForkS.l8 x0 x1 n) v8_2 := rfl
noncomputable abbrev laws_eqForkS.b (x0 : List TFork) (x1 : List TFork) (L8 : Int → Option Bool) : Option Bool :=
  bif (x0.length : Int) != (x1.length : Int) then
  some false
else L8 (0 : Int)
noncomputable def laws_eqForkS (x0 : List TFork) (x1 : List TFork) : Option Bool :=
  laws_eqForkS.b x0 x1 (laws_eqForkS.l8 x0 x1 V.KK)
noncomputable def laws_eqKnown (x0 : TKnown) (x1 : TKnown) : Option Bool :=
  (laws_eqSignedSS x0.1 x1.1).bind fun y1 =>
  bif !y1 then
    some false
  else
    (laws_eqForkS x0.2 x1.2).bind fun y2 =>
      bif !y2 then
        some false
      else some true
noncomputable def laws_eqLook (x0 : TLook) (x1 : TLook) : Option Bool :=
  (laws_eqKnown (Look_Known x0) (Look_Known x1)).bind fun y1 =>
  bif !y1 then
    some false
  else
    bif !((Look_Found x0) == (Look_Found x1)) then
      some false
    else
      (laws_eqEntry (Look_Entry x0) (Look_Entry x1)).bind fun y2 =>
        bif !y2 then
          some false
        else
          bif !((Look_Done x0) == (Look_Done x1)) then
            some false
          else
            (laws_eqIntS (Look_Codes x0) (Look_Codes x1)).bind fun y3 =>
              bif !y3 then
                some false
              else some true
noncomputable abbrev laws_markIntS.g4 (r4 : Int → Int → (List Int) → Option TKeys) (v4_0 : Int) (v4_1 : Int) (v4_2 : List Int) : Option TKeys :=
  bif decide (v4_1 < (v4_2.length : Int)) then
  bif decide (0 ≤ v4_1) then
    bif decide (v4_1 < (v4_2.length : Int)) then
      r4 (IntKind.i64.wrap (v4_0 + (1 : Int))) (IntKind.i64.wrap (v4_1 + (1 : Int))) (v4_2.set v4_1.toNat v4_0)
    else none
  else none
else some (v4_2, v4_0)
noncomputable def laws_markIntS.l4 (n : Nat) : Int → Int → (List Int) → Option TKeys :=
  V.iter (fun (r4 : Int → Int → (List Int) → Option TKeys) => fun v4_0 v4_1 v4_2 => laws_markIntS.g4 r4 v4_0 v4_1 v4_2) (fun _ _ _ => none) n
theorem laws_markIntS.u4 (n : Nat) (v4_0 : Int) (v4_1 : Int) (v4_2 : List Int) : laws_markIntS.l4 (n + 1) v4_0 v4_1 v4_2 = laws_markIntS.g4 (laws_markIntS.l4 n) v4_0 v4_1 v4_2 := rfl
noncomputable abbrev laws_markIntS.b (x0 : List Int) (x1 : Int) (L4 : Int → Int → (List Int) → Option TKeys) : Option TKeys :=
  L4 x1 (0 : Int) x0
noncomputable def laws_markIntS (x0 : List Int) (x1 : Int) : Option TKeys :=
  laws_markIntS.b x0 x1 (laws_markIntS.l4 V.KK)
noncomputable abbrev laws_markSigS.w1 (v4_0 : Int) (v4_1 : Int) (v4_2 : List TSig) : List TSig :=
  V.upd (V.upd v4_2 v4_1.toNat (fun z => (v4_0, z.2))) v4_1.toNat (fun z => (z.1, IntKind.i64.wrap (v4_0 + (1 : Int))))
noncomputable abbrev laws_markSigS.g4 (r4 : Int → Int → (List TSig) → Option (List TSig × Int)) (v4_0 : Int) (v4_1 : Int) (v4_2 : List TSig) : Option (List TSig × Int) :=
  bif decide (v4_1 < (v4_2.length : Int)) then
  bif decide (0 ≤ v4_1) then
    bif decide (v4_1 < (v4_2.length : Int)) then
      bif decide (0 ≤ v4_1) then
        bif decide (v4_1 < (((V.upd v4_2 v4_1.toNat (fun z => (v4_0, z.2))).length) : Int)) then
          r4 (IntKind.i64.wrap ((IntKind.i64.wrap (v4_0 + (1 : Int))) + (1 : Int))) (IntKind.i64.wrap (v4_1 + (1 : Int))) (laws_markSigS.w1 v4_0 v4_1 v4_2)
        else none
      else none
    else none
  else none
else some (v4_2, v4_0)
noncomputable def laws_markSigS.l4 (n : Nat) : Int → Int → (List TSig) → Option (List TSig × Int) :=
  V.iter (fun (r4 : Int → Int → (List TSig) → Option (List TSig × Int)) => fun v4_0 v4_1 v4_2 => laws_markSigS.g4 r4 v4_0 v4_1 v4_2) (fun _ _ _ => none) n
theorem laws_markSigS.u4 (n : Nat) (v4_0 : Int) (v4_1 : Int) (v4_2 : List TSig) : laws_markSigS.l4 (n + 1) v4_0 v4_1 v4_2 = laws_markSigS.g4 (laws_markSigS.l4 n) v4_0 v4_1 v4_2 := rfl
noncomputable abbrev laws_markSigS.b (x0 : List TSig) (x1 : Int) (L4 : Int → Int → (List TSig) → Option (List TSig × Int)) : Option (List TSig × Int) :=
  L4 x1 (0 : Int) x0
noncomputable def laws_markSigS (x0 : List TSig) (x1 : Int) : Option (List TSig × Int) :=
  laws_markSigS.b x0 x1 (laws_markSigS.l4 V.KK)
noncomputable abbrev laws_markSignedS.w1 (v4_0 : Int) (v4_1 : Int) (v4_2 : List TSigned) : List TSigned :=
  V.upd (V.upd v4_2 v4_1.toNat (fun z => (v4_0, z.2))) v4_1.toNat (fun z => (z.1, IntKind.i64.wrap (v4_0 + (1 : Int)), z.2.2))
noncomputable abbrev laws_markSignedS.w2 (v4_0 : Int) (v4_1 : Int) (v4_2 : List TSigned) : List TSigned :=
  V.upd (laws_markSignedS.w1 v4_0 v4_1 v4_2) v4_1.toNat (fun z => (z.1, z.2.1, IntKind.i64.wrap ((IntKind.i64.wrap (v4_0 + (1 : Int))) + (1 : Int)), z.2.2.2))
noncomputable abbrev laws_markSignedS.w3 (v4_0 : Int) (v4_1 : Int) (v4_2 : List TSigned) : List TSigned :=
  V.upd (laws_markSignedS.w2 v4_0 v4_1 v4_2) v4_1.toNat (fun z => (z.1, z.2.1, z.2.2.1, IntKind.i64.wrap ((IntKind.i64.wrap ((IntKind.i64.wrap (v4_0 + (1 : Int))) + (1 : Int))) + (1 : Int)), z.2.2.2.2))
noncomputable abbrev laws_markSignedS.w4 (v4_0 : Int) (v4_1 : Int) (v4_2 : List TSigned) : List TSigned :=
  V.upd (laws_markSignedS.w3 v4_0 v4_1 v4_2) v4_1.toNat (fun z => (z.1, z.2.1, z.2.2.1, z.2.2.2.1, IntKind.i64.wrap ((IntKind.i64.wrap ((IntKind.i64.wrap ((IntKind.i64.wrap (v4_0 + (1 : Int))) + (1 : Int))) + (1 : Int))) + (1 : Int)), z.2.2.2.2.2))
noncomputable abbrev laws_markSignedS.w5 (v4_0 : Int) (v4_1 : Int) (v4_2 : List TSigned) : List TSigned :=
  V.upd (laws_markSignedS.w4 v4_0 v4_1 v4_2) v4_1.toNat (fun z => (z.1, z.2.1, z.2.2.1, z.2.2.2.1, z.2.2.2.2.1, IntKind.i64.wrap ((IntKind.i64.wrap ((IntKind.i64.wrap ((IntKind.i64.wrap ((IntKind.i64.wrap (v4_0 + (1 : Int))) + (1 : Int))) + (1 : Int))) + (1 : Int))) + (1 : Int)), z.2.2.2.2.2.2))
noncomputable abbrev laws_markSignedS.w6 (v4_0 : Int) (v4_1 : Int) (v4_2 : List TSigned) : List TSigned :=
  V.upd (laws_markSignedS.w5 v4_0 v4_1 v4_2) v4_1.toNat (fun z => (z.1, z.2.1, z.2.2.1, z.2.2.2.1, z.2.2.2.2.1, z.2.2.2.2.2.1, IntKind.i64.wrap ((IntKind.i64.wrap ((IntKind.i64.wrap ((IntKind.i64.wrap ((IntKind.i64.wrap ((IntKind.i64.wrap (v4_0 + (1 : Int))) + (1 : Int))) + (1 : Int))) + (1 : Int))) + (1 : Int))) + (1 : Int)), z.2.2.2.2.2.2.2))
noncomputable abbrev laws_markSignedS.w7 (v4_0 : Int) (v4_1 : Int) (v4_2 : List TSigned) : List TSigned :=
  V.upd (laws_markSignedS.w6 v4_0 v4_1 v4_2) v4_1.toNat (fun z => (z.1, z.2.1, z.2.2.1, z.2.2.2.1, z.2.2.2.2.1, z.2.2.2.2.2.1, z.2.2.2.2.2.2.1, IntKind.i64.wrap ((IntKind.i64.wrap ((IntKind.i64.wrap ((IntKind.i64.wrap ((IntKind.i64.wrap ((IntKind.i64.wrap ((IntKind.i64.wrap (v4_0 + (1 : Int))) + (1 : Int))) + (1 : Int))) + (1 : Int))) + (1 : Int))) + (1 : Int))) + (1 : Int)), z.2.2.2.2.2.2.2.2))
noncomputable abbrev laws_markSignedS.w8 (v4_0 : Int) (v4_1 : Int) (v4_2 : List TSigned) (y1 : TKeys) : List TSigned :=
  V.upd (laws_markSignedS.w7 v4_0 v4_1 v4_2) v4_1.toNat (fun z => (z.1, z.2.1, z.2.2.1, z.2.2.2.1, z.2.2.2.2.1, z.2.2.2.2.2.1, z.2.2.2.2.2.2.1, z.2.2.2.2.2.2.2.1, y1.1, z.2.2.2.2.2.2.2.2.2))
noncomputable abbrev laws_markSignedS.w9 (v4_0 : Int) (v4_1 : Int) (v4_2 : List TSigned) (y1 : TKeys) : List TSigned :=
  V.upd (laws_markSignedS.w8 v4_0 v4_1 v4_2 y1) v4_1.toNat (fun z => (z.1, z.2.1, z.2.2.1, z.2.2.2.1, z.2.2.2.2.1, z.2.2.2.2.2.1, z.2.2.2.2.2.2.1, z.2.2.2.2.2.2.2.1, z.2.2.2.2.2.2.2.2.1, y1.2, z.2.2.2.2.2.2.2.2.2.2))
noncomputable abbrev laws_markSignedS.w10 (v4_0 : Int) (v4_1 : Int) (v4_2 : List TSigned) (y1 : TKeys) (y2 : TKeys) : List TSigned :=
  V.upd (laws_markSignedS.w9 v4_0 v4_1 v4_2 y1) v4_1.toNat (fun z => (z.1, z.2.1, z.2.2.1, z.2.2.2.1, z.2.2.2.2.1, z.2.2.2.2.2.1, z.2.2.2.2.2.2.1, z.2.2.2.2.2.2.2.1, z.2.2.2.2.2.2.2.2.1, z.2.2.2.2.2.2.2.2.2.1, y2.1, z.2.2.2.2.2.2.2.2.2.2.2))
noncomputable abbrev laws_markSignedS.w11 (v4_0 : Int) (v4_1 : Int) (v4_2 : List TSigned) (y1 : TKeys) (y2 : TKeys) : List TSigned :=
  V.upd (laws_markSignedS.w10 v4_0 v4_1 v4_2 y1 y2) v4_1.toNat (fun z => (z.1, z.2.1, z.2.2.1, z.2.2.2.1, z.2.2.2.2.1, z.2.2.2.2.2.1, z.2.2.2.2.2.2.1, z.2.2.2.2.2.2.2.1, z.2.2.2.2.2.2.2.2.1, z.2.2.2.2.2.2.2.2.2.1, z.2.2.2.2.2.2.2.2.2.2.1, y2.2, z.2.2.2.2.2.2.2.2.2.2.2.2))
noncomputable abbrev laws_markSignedS.w12 (v4_0 : Int) (v4_1 : Int) (v4_2 : List TSigned) (y1 : TKeys) (y2 : TKeys) : List TSigned :=
  V.upd (laws_markSignedS.w11 v4_0 v4_1 v4_2 y1 y2) v4_1.toNat (fun z => (z.1, z.2.1, z.2.2.1, z.2.2.2.1, z.2.2.2.2.1, z.2.2.2.2.2.1, z.2.2.2.2.2.2.1, z.2.2.2.2.2.2.2.1, z.2.2.2.2.2.2.2.2.1, z.2.2.2.2.2.2.2.2.2.1, z.2.2.2.2.2.2.2.2.2.2.1, z.2.2.2.2.2.2.2.2.2.2.2.1, IntKind.i64.wrap (y2.2 + (1 : Int)), z.2.2.2.2.2.2.2.2.2.2.2.2.2))
noncomputable abbrev laws_markSignedS.w13 (v4_0 : Int) (v4_1 : Int) (v4_2 : List TSigned) (y1 : TKeys) (y2 : TKeys) (y3 : TKeys) : List TSigned :=
  V.upd (laws_markSignedS.w12 v4_0 v4_1 v4_2 y1 y2) v4_1.toNat (fun z => (z.1, z.2.1, z.2.2.1, z.2.2.2.1, z.2.2.2.2.1, z.2.2.2.2.2.1, z.2.2.2.2.2.2.1, z.2.2.2.2.2.2.2.1, z.2.2.2.2.2.2.2.2.1, z.2.2.2.2.2.2.2.2.2.1, z.2.2.2.2.2.2.2.2.2.2.1, z.2.2.2.2.2.2.2.2.2.2.2.1, z.2.2.2.2.2.2.2.2.2.2.2.2.1, y3.1, z.2.2.2.2.2.2.2.2.2.2.2.2.2.2))
noncomputable abbrev laws_markSignedS.w14 (v4_0 : Int) (v4_1 : Int) (v4_2 : List TSigned) (y1 : TKeys) (y2 : TKeys) (y3 : TKeys) : List TSigned :=
  V.upd (laws_markSignedS.w13 v4_0 v4_1 v4_2 y1 y2 y3) v4_1.toNat (fun z => (z.1, z.2.1, z.2.2.1, z.2.2.2.1, z.2.2.2.2.1, z.2.2.2.2.2.1, z.2.2.2.2.2.2.1, z.2.2.2.2.2.2.2.1, z.2.2.2.2.2.2.2.2.1, z.2.2.2.2.2.2.2.2.2.1, z.2.2.2.2.2.2.2.2.2.2.1, z.2.2.2.2.2.2.2.2.2.2.2.1, z.2.2.2.2.2.2.2.2.2.2.2.2.1, z.2.2.2.2.2.2.2.2.2.2.2.2.2.1, y3.2, z.2.2.2.2.2.2.2.2.2.2.2.2.2.2.2))
noncomputable abbrev laws_markSignedS.w15 (v4_0 : Int) (v4_1 : Int) (v4_2 : List TSigned) (y1 : TKeys) (y2 : TKeys) (y3 : TKeys) : List TSigned :=
  V.upd (laws_markSignedS.w14 v4_0 v4_1 v4_2 y1 y2 y3) v4_1.toNat (fun z => (z.1, z.2.1, z.2.2.1, z.2.2.2.1, z.2.2.2.2.1, z.2.2.2.2.2.1, z.2.2.2.2.2.2.1, z.2.2.2.2.2.2.2.1, z.2.2.2.2.2.2.2.2.1, z.2.2.2.2.2.2.2.2.2.1, z.2.2.2.2.2.2.2.2.2.2.1, z.2.2.2.2.2.2.2.2.2.2.2.1, z.2.2.2.2.2.2.2.2.2.2.2.2.1, z.2.2.2.2.2.2.2.2.2.2.2.2.2.1, z.2.2.2.2.2.2.2.2.2.2.2.2.2.2.1, (Int.tmod (IntKind.i64.wrap (y3.2 + (1 : Int))) (3 : Int)) == (0 : Int), z.2.2.2.2.2.2.2.2.2.2.2.2.2.2.2.2))
noncomputable abbrev laws_markSignedS.w16 (v4_0 : Int) (v4_1 : Int) (v4_2 : List TSigned) (y1 : TKeys) (y2 : TKeys) (y3 : TKeys) (y4 : List TSig × Int) : List TSigned :=
  V.upd (laws_markSignedS.w15 v4_0 v4_1 v4_2 y1 y2 y3) v4_1.toNat (fun z => (z.1, z.2.1, z.2.2.1, z.2.2.2.1, z.2.2.2.2.1, z.2.2.2.2.2.1, z.2.2.2.2.2.2.1, z.2.2.2.2.2.2.2.1, z.2.2.2.2.2.2.2.2.1, z.2.2.2.2.2.2.2.2.2.1, z.2.2.2.2.2.2.2.2.2.2.1, z.2.2.2.2.2.2.2.2.2.2.2.1, z.2.2.2.2.2.2.2.2.2.2.2.2.1, z.2.2.2.2.2.2.2.2.2.2.2.2.2.1, z.2.2.2.2.2.2.2.2.2.2.2.2.2.2.1, z.2.2.2.2.2.2.2.2.2.2.2.2.2.2.2.1, y4.1))
noncomputable abbrev laws_markSignedS.g4 (r4 : Int → Int → (List TSigned) → Option (List TSigned × Int)) (v4_0 : Int) (v4_1 : Int) (v4_2 : List TSigned) : Option (List TSigned × Int) :=
  bif decide (v4_1 < (v4_2.length : Int)) then
  bif decide (0 ≤ v4_1) then
    bif decide (v4_1 < (v4_2.length : Int)) then
      bif decide (0 ≤ v4_1) then
        bif decide (v4_1 < (((V.upd v4_2 v4_1.toNat (fun z => (v4_0, z.2))).length) : Int)) then
          bif decide (0 ≤ v4_1) then
            bif decide (v4_1 < (((laws_markSignedS.w1 v4_0 v4_1 v4_2).length) : Int)) then
              bif decide (0 ≤ v4_1) then
                bif decide (v4_1 < (((laws_markSignedS.w2 v4_0 v4_1 v4_2).length) : Int)) then
                  bif decide (0 ≤ v4_1) then
                    bif decide (v4_1 < (((laws_markSignedS.w3 v4_0 v4_1 v4_2).length) : Int)) then
                      bif decide (0 ≤ v4_1) then
                        bif decide (v4_1 < (((laws_markSignedS.w4 v4_0 v4_1 v4_2).length) : Int)) then
                          bif decide (0 ≤ v4_1) then
                            bif decide (v4_1 < (((laws_markSignedS.w5 v4_0 v4_1 v4_2).length) : Int)) then
                              bif decide (0 ≤ v4_1) then
                                bif decide (v4_1 < (((laws_markSignedS.w6 v4_0 v4_1 v4_2).length) : Int)) then
                                  bif decide (0 ≤ v4_1) then
                                    bif decide (v4_1 < (((laws_markSignedS.w7 v4_0 v4_1 v4_2).length) : Int)) then
                                      (laws_markIntS (Head_Keys (Signed_Head ((laws_markSignedS.w7 v4_0 v4_1 v4_2).getD v4_1.toNat dSigned))).1 (IntKind.i64.wrap ((IntKind.i64.wrap ((IntKind.i64.wrap ((IntKind.i64.wrap ((IntKind.i64.wrap ((IntKind.i64.wrap ((IntKind.i64.wrap ((IntKind.i64.wrap (v4_0 + (1 : Int))) + (1 : Int))) + (1 : Int))) + (1 : Int))) + (1 : Int))) + (1 : Int))) + (1 : Int))) + (1 : Int)))).bind fun y1 =>
                                        bif decide (0 ≤ v4_1) then
                                          bif decide (v4_1 < (((laws_markSignedS.w8 v4_0 v4_1 v4_2 y1).length) : Int)) then
                                            bif decide (0 ≤ v4_1) then
                                              bif decide (v4_1 < (((laws_markSignedS.w9 v4_0 v4_1 v4_2 y1).length) : Int)) then
                                                (laws_markIntS (Head_Heirs (Signed_Head ((laws_markSignedS.w9 v4_0 v4_1 v4_2 y1).getD v4_1.toNat dSigned))).1 (IntKind.i64.wrap (y1.2 + (1 : Int)))).bind fun y2 =>
                                                  bif decide (0 ≤ v4_1) then
                                                    bif decide (v4_1 < (((laws_markSignedS.w10 v4_0 v4_1 v4_2 y1 y2).length) : Int)) then
                                                      bif decide (0 ≤ v4_1) then
                                                        bif decide (v4_1 < (((laws_markSignedS.w11 v4_0 v4_1 v4_2 y1 y2).length) : Int)) then
                                                          bif decide (0 ≤ v4_1) then
                                                            bif decide (v4_1 < (((laws_markSignedS.w12 v4_0 v4_1 v4_2 y1 y2).length) : Int)) then
                                                              (laws_markIntS (Head_Judge (Signed_Head ((laws_markSignedS.w12 v4_0 v4_1 v4_2 y1 y2).getD v4_1.toNat dSigned))).1 (IntKind.i64.wrap ((IntKind.i64.wrap (y2.2 + (1 : Int))) + (1 : Int)))).bind fun y3 =>
                                                                bif decide (0 ≤ v4_1) then
                                                                  bif decide (v4_1 < (((laws_markSignedS.w13 v4_0 v4_1 v4_2 y1 y2 y3).length) : Int)) then
                                                                    bif ((3 : Int) == (0 : Int)) then
                                                                      none
                                                                    else
                                                                      bif decide (0 ≤ v4_1) then
                                                                        bif decide (v4_1 < (((laws_markSignedS.w14 v4_0 v4_1 v4_2 y1 y2 y3).length) : Int)) then
                                                                          bif decide (0 ≤ v4_1) then
                                                                            bif decide (v4_1 < (((laws_markSignedS.w15 v4_0 v4_1 v4_2 y1 y2 y3).length) : Int)) then
                                                                              (laws_markSigS (Signed_Sigs ((laws_markSignedS.w15 v4_0 v4_1 v4_2 y1 y2 y3).getD v4_1.toNat dSigned)) (IntKind.i64.wrap ((IntKind.i64.wrap (y3.2 + (1 : Int))) + (1 : Int)))).bind fun y4 =>
                                                                                r4 y4.2 (IntKind.i64.wrap (v4_1 + (1 : Int))) (laws_markSignedS.w16 v4_0 v4_1 v4_2 y1 y2 y3 y4)
                                                                            else none
                                                                          else none
                                                                        else none
                                                                      else none
                                                                  else none
                                                                else none
                                                            else none
                                                          else none
                                                        else none
                                                      else none
                                                    else none
                                                  else none
                                              else none
                                            else none
                                          else none
                                        else none
                                    else none
                                  else none
                                else none
                              else none
                            else none
                          else none
                        else none
                      else none
                    else none
                  else none
                else none
              else none
            else none
          else none
        else none
      else none
    else none
  else none
else some (v4_2, v4_0)
noncomputable def laws_markSignedS.l4 (n : Nat) : Int → Int → (List TSigned) → Option (List TSigned × Int) :=
  V.iter (fun (r4 : Int → Int → (List TSigned) → Option (List TSigned × Int)) => fun v4_0 v4_1 v4_2 => laws_markSignedS.g4 r4 v4_0 v4_1 v4_2) (fun _ _ _ => none) n
theorem laws_markSignedS.u4 (n : Nat) (v4_0 : Int) (v4_1 : Int) (v4_2 : List TSigned) : laws_markSignedS.l4 (n + 1) v4_0 v4_1 v4_2 = laws_markSignedS.g4 (laws_markSignedS.l4 n) v4_0 v4_1 v4_2 := rfl
noncomputable abbrev laws_markSignedS.b (x0 : List TSigned) (x1 : Int) (L4 : Int → Int → (List TSigned) → Option (List TSigned × Int)) : Option (List TSigned × Int) :=
  L4 x1 (0 : Int) x0
noncomputable def laws_markSignedS (x0 : List TSigned) (x1 : Int) : Option (List TSigned × Int) :=
  laws_markSignedS.b x0 x1 (laws_markSignedS.l4 V.KK)
noncomputable abbrev laws_markSignedSS.g4 (r4 : Int → Int → (List (List TSigned)) → Option (List (List TSigned) × Int)) (v4_0 : Int) (v4_1 : Int) (v4_2 : List (List TSigned)) : Option (List (List TSigned) × Int) :=
  bif decide (v4_1 < (v4_2.length : Int)) then
  bif decide (0 ≤ v4_1) then
    bif decide (v4_1 < (v4_2.length : Int)) then
      (laws_markSignedS (v4_2.getD v4_1.toNat []) v4_0).bind fun y1 =>
        r4 y1.2 (IntKind.i64.wrap (v4_1 + (1 : Int))) (V.upd v4_2 v4_1.toNat (fun z => y1.1))
    else none
  else none
else some (v4_2, v4_0)
noncomputable def laws_markSignedSS.l4 (n : Nat) : Int → Int → (List (List TSigned)) → Option (List (List TSigned) × Int) :=
  V.iter (fun (r4 : Int → Int → (List (List TSigned)) → Option (List (List TSigned) × Int)) => fun v4_0 v4_1 v4_2 => laws_markSignedSS.g4 r4 v4_0 v4_1 v4_2) (fun _ _ _ => none) n
theorem laws_markSignedSS.u4 (n : Nat) (v4_0 : Int) (v4_1 : Int) (v4_2 : List (List TSigned)) : laws_markSignedSS.l4 (n + 1) v4_0 v4_1 v4_2 = laws_markSignedSS.g4 (laws_markSignedSS.l4 n) v4_0 v4_1 v4_2 := rfl
noncomputable abbrev laws_markSignedSS.b (x0 : List (List TSigned)) (x1 : Int) (L4 : Int → Int → (List (List TSigned)) → Option (List (List TSigned) × Int)) : Option (List (List TSigned) × Int) :=
  L4 x1 (0 : Int) x0
noncomputable def laws_markSignedSS (x0 : List (List TSigned)) (x1 : Int) : Option (List (List TSigned) × Int) :=
  laws_markSignedSS.b x0 x1 (laws_markSignedSS.l4 V.KK)
noncomputable abbrev laws_markForkS.w1 (v4_0 : Int) (v4_1 : Int) (v4_2 : List TFork) : List TFork :=
  V.upd (V.upd v4_2 v4_1.toNat (fun z => (v4_0, z.2))) v4_1.toNat (fun z => (z.1, IntKind.i64.wrap (v4_0 + (1 : Int)), z.2.2))
noncomputable abbrev laws_markForkS.w2 (v4_0 : Int) (v4_1 : Int) (v4_2 : List TFork) : List TFork :=
  V.upd (laws_markForkS.w1 v4_0 v4_1 v4_2) v4_1.toNat (fun z => (z.1, z.2.1, IntKind.i64.wrap ((IntKind.i64.wrap (v4_0 + (1 : Int))) + (1 : Int)), z.2.2.2))
noncomputable abbrev laws_markForkS.w3 (v4_0 : Int) (v4_1 : Int) (v4_2 : List TFork) : List TFork :=
  V.upd (laws_markForkS.w2 v4_0 v4_1 v4_2) v4_1.toNat (fun z => (z.1, z.2.1, z.2.2.1, IntKind.i64.wrap ((IntKind.i64.wrap ((IntKind.i64.wrap (v4_0 + (1 : Int))) + (1 : Int))) + (1 : Int)), z.2.2.2.2))
noncomputable abbrev laws_markForkS.w4 (v4_0 : Int) (v4_1 : Int) (v4_2 : List TFork) : List TFork :=
  V.upd (laws_markForkS.w3 v4_0 v4_1 v4_2) v4_1.toNat (fun z => (z.1, z.2.1, z.2.2.1, z.2.2.2.1, IntKind.i64.wrap ((IntKind.i64.wrap ((IntKind.i64.wrap ((IntKind.i64.wrap (v4_0 + (1 : Int))) + (1 : Int))) + (1 : Int))) + (1 : Int)), z.2.2.2.2.2))
noncomputable abbrev laws_markForkS.w5 (v4_0 : Int) (v4_1 : Int) (v4_2 : List TFork) : List TFork :=
  V.upd (laws_markForkS.w4 v4_0 v4_1 v4_2) v4_1.toNat (fun z => (z.1, z.2.1, z.2.2.1, z.2.2.2.1, z.2.2.2.2.1, IntKind.i64.wrap ((IntKind.i64.wrap ((IntKind.i64.wrap ((IntKind.i64.wrap ((IntKind.i64.wrap (v4_0 + (1 : Int))) + (1 : Int))) + (1 : Int))) + (1 : Int))) + (1 : Int)), z.2.2.2.2.2.2))
noncomputable abbrev laws_markForkS.w6 (v4_0 : Int) (v4_1 : Int) (v4_2 : List TFork) : List TFork :=
  V.upd (laws_markForkS.w5 v4_0 v4_1 v4_2) v4_1.toNat (fun z => (z.1, z.2.1, z.2.2.1, z.2.2.2.1, z.2.2.2.2.1, z.2.2.2.2.2.1, IntKind.i64.wrap ((IntKind.i64.wrap ((IntKind.i64.wrap ((IntKind.i64.wrap ((IntKind.i64.wrap ((IntKind.i64.wrap (v4_0 + (1 : Int))) + (1 : Int))) + (1 : Int))) + (1 : Int))) + (1 : Int))) + (1 : Int)), z.2.2.2.2.2.2.2))
noncomputable abbrev laws_markForkS.w7 (v4_0 : Int) (v4_1 : Int) (v4_2 : List TFork) : List TFork :=
  V.upd (laws_markForkS.w6 v4_0 v4_1 v4_2) v4_1.toNat (fun z => (z.1, z.2.1, z.2.2.1, z.2.2.2.1, z.2.2.2.2.1, z.2.2.2.2.2.1, z.2.2.2.2.2.2.1, IntKind.i64.wrap ((IntKind.i64.wrap ((IntKind.i64.wrap ((IntKind.i64.wrap ((IntKind.i64.wrap ((IntKind.i64.wrap ((IntKind.i64.wrap (v4_0 + (1 : Int))) + (1 : Int))) + (1 : Int))) + (1 : Int))) + (1 : Int))) + (1 : Int))) + (1 : Int)), z.2.2.2.2.2.2.2.2))
noncomputable abbrev laws_markForkS.w8 (v4_0 : Int) (v4_1 : Int) (v4_2 : List TFork) (y1 : TKeys) : List TFork :=
  V.upd (laws_markForkS.w7 v4_0 v4_1 v4_2) v4_1.toNat (fun z => (z.1, z.2.1, z.2.2.1, z.2.2.2.1, z.2.2.2.2.1, z.2.2.2.2.2.1, z.2.2.2.2.2.2.1, z.2.2.2.2.2.2.2.1, y1.1, z.2.2.2.2.2.2.2.2.2))
noncomputable abbrev laws_markForkS.w9 (v4_0 : Int) (v4_1 : Int) (v4_2 : List TFork) (y1 : TKeys) : List TFork :=
  V.upd (laws_markForkS.w8 v4_0 v4_1 v4_2 y1) v4_1.toNat (fun z => (z.1, z.2.1, z.2.2.1, z.2.2.2.1, z.2.2.2.2.1, z.2.2.2.2.2.1, z.2.2.2.2.2.2.1, z.2.2.2.2.2.2.2.1, z.2.2.2.2.2.2.2.2.1, y1.2, z.2.2.2.2.2.2.2.2.2.2))
noncomputable abbrev laws_markForkS.w10 (v4_0 : Int) (v4_1 : Int) (v4_2 : List TFork) (y1 : TKeys) (y2 : TKeys) : List TFork :=
  V.upd (laws_markForkS.w9 v4_0 v4_1 v4_2 y1) v4_1.toNat (fun z => (z.1, z.2.1, z.2.2.1, z.2.2.2.1, z.2.2.2.2.1, z.2.2.2.2.2.1, z.2.2.2.2.2.2.1, z.2.2.2.2.2.2.2.1, z.2.2.2.2.2.2.2.2.1, z.2.2.2.2.2.2.2.2.2.1, y2.1, z.2.2.2.2.2.2.2.2.2.2.2))
noncomputable abbrev laws_markForkS.w11 (v4_0 : Int) (v4_1 : Int) (v4_2 : List TFork) (y1 : TKeys) (y2 : TKeys) : List TFork :=
  V.upd (laws_markForkS.w10 v4_0 v4_1 v4_2 y1 y2) v4_1.toNat (fun z => (z.1, z.2.1, z.2.2.1, z.2.2.2.1, z.2.2.2.2.1, z.2.2.2.2.2.1, z.2.2.2.2.2.2.1, z.2.2.2.2.2.2.2.1, z.2.2.2.2.2.2.2.2.1, z.2.2.2.2.2.2.2.2.2.1, z.2.2.2.2.2.2.2.2.2.2.1, y2.2, z.2.2.2.2.2.2.2.2.2.2.2.2))
noncomputable abbrev laws_markForkS.w12 (v4_0 : Int) (v4_1 : Int) (v4_2 : List TFork) (y1 : TKeys) (y2 : TKeys) : List TFork :=
  V.upd (laws_markForkS.w11 v4_0 v4_1 v4_2 y1 y2) v4_1.toNat (fun z => (z.1, z.2.1, z.2.2.1, z.2.2.2.1, z.2.2.2.2.1, z.2.2.2.2.2.1, z.2.2.2.2.2.2.1, z.2.2.2.2.2.2.2.1, z.2.2.2.2.2.2.2.2.1, z.2.2.2.2.2.2.2.2.2.1, z.2.2.2.2.2.2.2.2.2.2.1, z.2.2.2.2.2.2.2.2.2.2.2.1, IntKind.i64.wrap (y2.2 + (1 : Int)), z.2.2.2.2.2.2.2.2.2.2.2.2.2))
noncomputable abbrev laws_markForkS.w13 (v4_0 : Int) (v4_1 : Int) (v4_2 : List TFork) (y1 : TKeys) (y2 : TKeys) (y3 : TKeys) : List TFork :=
  V.upd (laws_markForkS.w12 v4_0 v4_1 v4_2 y1 y2) v4_1.toNat (fun z => (z.1, z.2.1, z.2.2.1, z.2.2.2.1, z.2.2.2.2.1, z.2.2.2.2.2.1, z.2.2.2.2.2.2.1, z.2.2.2.2.2.2.2.1, z.2.2.2.2.2.2.2.2.1, z.2.2.2.2.2.2.2.2.2.1, z.2.2.2.2.2.2.2.2.2.2.1, z.2.2.2.2.2.2.2.2.2.2.2.1, z.2.2.2.2.2.2.2.2.2.2.2.2.1, y3.1, z.2.2.2.2.2.2.2.2.2.2.2.2.2.2))
noncomputable abbrev laws_markForkS.w14 (v4_0 : Int) (v4_1 : Int) (v4_2 : List TFork) (y1 : TKeys) (y2 : TKeys) (y3 : TKeys) : List TFork :=
  V.upd (laws_markForkS.w13 v4_0 v4_1 v4_2 y1 y2 y3) v4_1.toNat (fun z => (z.1, z.2.1, z.2.2.1, z.2.2.2.1, z.2.2.2.2.1, z.2.2.2.2.2.1, z.2.2.2.2.2.2.1, z.2.2.2.2.2.2.2.1, z.2.2.2.2.2.2.2.2.1, z.2.2.2.2.2.2.2.2.2.1, z.2.2.2.2.2.2.2.2.2.2.1, z.2.2.2.2.2.2.2.2.2.2.2.1, z.2.2.2.2.2.2.2.2.2.2.2.2.1, z.2.2.2.2.2.2.2.2.2.2.2.2.2.1, y3.2, z.2.2.2.2.2.2.2.2.2.2.2.2.2.2.2))
noncomputable abbrev laws_markForkS.w15 (v4_0 : Int) (v4_1 : Int) (v4_2 : List TFork) (y1 : TKeys) (y2 : TKeys) (y3 : TKeys) : List TFork :=
  V.upd (laws_markForkS.w14 v4_0 v4_1 v4_2 y1 y2 y3) v4_1.toNat (fun z => (z.1, z.2.1, z.2.2.1, z.2.2.2.1, z.2.2.2.2.1, z.2.2.2.2.2.1, z.2.2.2.2.2.2.1, z.2.2.2.2.2.2.2.1, z.2.2.2.2.2.2.2.2.1, z.2.2.2.2.2.2.2.2.2.1, z.2.2.2.2.2.2.2.2.2.2.1, z.2.2.2.2.2.2.2.2.2.2.2.1, z.2.2.2.2.2.2.2.2.2.2.2.2.1, z.2.2.2.2.2.2.2.2.2.2.2.2.2.1, z.2.2.2.2.2.2.2.2.2.2.2.2.2.2.1, (Int.tmod (IntKind.i64.wrap (y3.2 + (1 : Int))) (3 : Int)) == (0 : Int), z.2.2.2.2.2.2.2.2.2.2.2.2.2.2.2.2))
noncomputable abbrev laws_markForkS.w16 (v4_0 : Int) (v4_1 : Int) (v4_2 : List TFork) (y1 : TKeys) (y2 : TKeys) (y3 : TKeys) (y4 : List TSig × Int) : List TFork :=
  V.upd (laws_markForkS.w15 v4_0 v4_1 v4_2 y1 y2 y3) v4_1.toNat (fun z => (z.1, z.2.1, z.2.2.1, z.2.2.2.1, z.2.2.2.2.1, z.2.2.2.2.2.1, z.2.2.2.2.2.2.1, z.2.2.2.2.2.2.2.1, z.2.2.2.2.2.2.2.2.1, z.2.2.2.2.2.2.2.2.2.1, z.2.2.2.2.2.2.2.2.2.2.1, z.2.2.2.2.2.2.2.2.2.2.2.1, z.2.2.2.2.2.2.2.2.2.2.2.2.1, z.2.2.2.2.2.2.2.2.2.2.2.2.2.1, z.2.2.2.2.2.2.2.2.2.2.2.2.2.2.1, z.2.2.2.2.2.2.2.2.2.2.2.2.2.2.2.1, y4.1, z.2.2.2.2.2.2.2.2.2.2.2.2.2.2.2.2.2))
noncomputable abbrev laws_markForkS.w17 (v4_0 : Int) (v4_1 : Int) (v4_2 : List TFork) (y1 : TKeys) (y2 : TKeys) (y3 : TKeys) (y4 : List TSig × Int) : List TFork :=
  V.upd (laws_markForkS.w16 v4_0 v4_1 v4_2 y1 y2 y3 y4) v4_1.toNat (fun z => (z.1, z.2.1, z.2.2.1, z.2.2.2.1, z.2.2.2.2.1, z.2.2.2.2.2.1, z.2.2.2.2.2.2.1, z.2.2.2.2.2.2.2.1, z.2.2.2.2.2.2.2.2.1, z.2.2.2.2.2.2.2.2.2.1, z.2.2.2.2.2.2.2.2.2.2.1, z.2.2.2.2.2.2.2.2.2.2.2.1, z.2.2.2.2.2.2.2.2.2.2.2.2.1, z.2.2.2.2.2.2.2.2.2.2.2.2.2.1, z.2.2.2.2.2.2.2.2.2.2.2.2.2.2.1, z.2.2.2.2.2.2.2.2.2.2.2.2.2.2.2.1, z.2.2.2.2.2.2.2.2.2.2.2.2.2.2.2.2.1, y4.2, z.2.2.2.2.2.2.2.2.2.2.2.2.2.2.2.2.2.2))
noncomputable abbrev laws_markForkS.w18 (v4_0 : Int) (v4_1 : Int) (v4_2 : List TFork) (y1 : TKeys) (y2 : TKeys) (y3 : TKeys) (y4 : List TSig × Int) : List TFork :=
  V.upd (laws_markForkS.w17 v4_0 v4_1 v4_2 y1 y2 y3 y4) v4_1.toNat (fun z => (z.1, z.2.1, z.2.2.1, z.2.2.2.1, z.2.2.2.2.1, z.2.2.2.2.2.1, z.2.2.2.2.2.2.1, z.2.2.2.2.2.2.2.1, z.2.2.2.2.2.2.2.2.1, z.2.2.2.2.2.2.2.2.2.1, z.2.2.2.2.2.2.2.2.2.2.1, z.2.2.2.2.2.2.2.2.2.2.2.1, z.2.2.2.2.2.2.2.2.2.2.2.2.1, z.2.2.2.2.2.2.2.2.2.2.2.2.2.1, z.2.2.2.2.2.2.2.2.2.2.2.2.2.2.1, z.2.2.2.2.2.2.2.2.2.2.2.2.2.2.2.1, z.2.2.2.2.2.2.2.2.2.2.2.2.2.2.2.2.1, z.2.2.2.2.2.2.2.2.2.2.2.2.2.2.2.2.2.1, IntKind.i64.wrap (y4.2 + (1 : Int)), z.2.2.2.2.2.2.2.2.2.2.2.2.2.2.2.2.2.2.2))
noncomputable abbrev laws_markForkS.w19 (v4_0 : Int) (v4_1 : Int) (v4_2 : List TFork) (y1 : TKeys) (y2 : TKeys) (y3 : TKeys) (y4 : List TSig × Int) : List TFork :=
  V.upd (laws_markForkS.w18 v4_0 v4_1 v4_2 y1 y2 y3 y4) v4_1.toNat (fun z => (z.1, z.2.1, z.2.2.1, z.2.2.2.1, z.2.2.2.2.1, z.2.2.2.2.2.1, z.2.2.2.2.2.2.1, z.2.2.2.2.2.2.2.1, z.2.2.2.2.2.2.2.2.1, z.2.2.2.2.2.2.2.2.2.1, z.2.2.2.2.2.2.2.2.2.2.1, z.2.2.2.2.2.2.2.2.2.2.2.1, z.2.2.2.2.2.2.2.2.2.2.2.2.1, z.2.2.2.2.2.2.2.2.2.2.2.2.2.1, z.2.2.2.2.2.2.2.2.2.2.2.2.2.2.1, z.2.2.2.2.2.2.2.2.2.2.2.2.2.2.2.1, z.2.2.2.2.2.2.2.2.2.2.2.2.2.2.2.2.1, z.2.2.2.2.2.2.2.2.2.2.2.2.2.2.2.2.2.1, z.2.2.2.2.2.2.2.2.2.2.2.2.2.2.2.2.2.2.1, IntKind.i64.wrap ((IntKind.i64.wrap (y4.2 + (1 : Int))) + (1 : Int)), z.2.2.2.2.2.2.2.2.2.2.2.2.2.2.2.2.2.2.2.2))
noncomputable abbrev laws_markForkS.w20 (v4_0 : Int) (v4_1 : Int) (v4_2 : List TFork) (y1 : TKeys) (y2 : TKeys) (y3 : TKeys) (y4 : List TSig × Int) : List TFork :=
  V.upd (laws_markForkS.w19 v4_0 v4_1 v4_2 y1 y2 y3 y4) v4_1.toNat (fun z => (z.1, z.2.1, z.2.2.1, z.2.2.2.1, z.2.2.2.2.1, z.2.2.2.2.2.1, z.2.2.2.2.2.2.1, z.2.2.2.2.2.2.2.1, z.2.2.2.2.2.2.2.2.1, z.2.2.2.2.2.2.2.2.2.1, z.2.2.2.2.2.2.2.2.2.2.1, z.2.2.2.2.2.2.2.2.2.2.2.1, z.2.2.2.2.2.2.2.2.2.2.2.2.1, z.2.2.2.2.2.2.2.2.2.2.2.2.2.1, z.2.2.2.2.2.2.2.2.2.2.2.2.2.2.1, z.2.2.2.2.2.2.2.2.2.2.2.2.2.2.2.1, z.2.2.2.2.2.2.2.2.2.2.2.2.2.2.2.2.1, z.2.2.2.2.2.2.2.2.2.2.2.2.2.2.2.2.2.1, z.2.2.2.2.2.2.2.2.2.2.2.2.2.2.2.2.2.2.1, z.2.2.2.2.2.2.2.2.2.2.2.2.2.2.2.2.2.2.2.1, IntKind.i64.wrap ((IntKind.i64.wrap ((IntKind.i64.wrap (y4.2 + (1 : Int))) + (1 : Int))) + (1 : Int)), z.2.2.2.2.2.2.2.2.2.2.2.2.2.2.2.2.2.2.2.2.2))
noncomputable abbrev laws_markForkS.w21 (v4_0 : Int) (v4_1 : Int) (v4_2 : List TFork) (y1 : TKeys) (y2 : TKeys) (y3 : TKeys) (y4 : List TSig × Int) : List TFork :=
  V.upd (laws_markForkS.w20 v4_0 v4_1 v4_2 y1 y2 y3 y4) v4_1.toNat (fun z => (z.1, z.2.1, z.2.2.1, z.2.2.2.1, z.2.2.2.2.1, z.2.2.2.2.2.1, z.2.2.2.2.2.2.1, z.2.2.2.2.2.2.2.1, z.2.2.2.2.2.2.2.2.1, z.2.2.2.2.2.2.2.2.2.1, z.2.2.2.2.2.2.2.2.2.2.1, z.2.2.2.2.2.2.2.2.2.2.2.1, z.2.2.2.2.2.2.2.2.2.2.2.2.1, z.2.2.2.2.2.2.2.2.2.2.2.2.2.1, z.2.2.2.2.2.2.2.2.2.2.2.2.2.2.1, z.2.2.2.2.2.2.2.2.2.2.2.2.2.2.2.1, z.2.2.2.2.2.2.2.2.2.2.2.2.2.2.2.2.1, z.2.2.2.2.2.2.2.2.2.2.2.2.2.2.2.2.2.1, z.2.2.2.2.2.2.2.2.2.2.2.2.2.2.2.2.2.2.1, z.2.2.2.2.2.2.2.2.2.2.2.2.2.2.2.2.2.2.2.1, z.2.2.2.2.2.2.2.2.2.2.2.2.2.2.2.2.2.2.2.2.1, IntKind.i64.wrap ((IntKind.i64.wrap ((IntKind.i64.wrap ((IntKind.i64.wrap (y4.2 + (1 : Int))) + (1 : Int))) + (1 : Int))) + (1 : Int)), z.2.2.2.2.2.2.2.2.2.2.2.2.2.2.2.2.2.2.2.2.2.2))
noncomputable abbrev laws_markForkS.w22 (v4_0 : Int) (v4_1 : Int) (v4_2 : List TFork) (y1 : TKeys) (y2 : TKeys) (y3 : TKeys) (y4 : List TSig × Int) : List TFork :=
  V.upd (laws_markForkS.w21 v4_0 v4_1 v4_2 y1 y2 y3 y4) v4_1.toNat (fun z => (z.1, z.2.1, z.2.2.1, z.2.2.2.1, z.2.2.2.2.1, z.2.2.2.2.2.1, z.2.2.2.2.2.2.1, z.2.2.2.2.2.2.2.1, z.2.2.2.2.2.2.2.2.1, z.2.2.2.2.2.2.2.2.2.1, z.2.2.2.2.2.2.2.2.2.2.1, z.2.2.2.2.2.2.2.2.2.2.2.1, z.2.2.2.2.2.2.2.2.2.2.2.2.1, z.2.2.2.2.2.2.2.2.2.2.2.2.2.1, z.2.2.2.2.2.2.2.2.2.2.2.2.2.2.1, z.2.2.2.2.2.2.2.2.2.2.2.2.2.2.2.1, z.2.2.2.2.2.2.2.2.2.2.2.2.2.2.2.2.1, z.2.2.2.2.2.2.2.2.2.2.2.2.2.2.2.2.2.1, z.2.2.2.2.2.2.2.2.2.2.2.2.2.2.2.2.2.2.1, z.2.2.2.2.2.2.2.2.2.2.2.2.2.2.2.2.2.2.2.1, z.2.2.2.2.2.2.2.2.2.2.2.2.2.2.2.2.2.2.2.2.1, z.2.2.2.2.2.2.2.2.2.2.2.2.2.2.2.2.2.2.2.2.2.1, IntKind.i64.wrap ((IntKind.i64.wrap ((IntKind.i64.wrap ((IntKind.i64.wrap ((IntKind.i64.wrap (y4.2 + (1 : Int))) + (1 : Int))) + (1 : Int))) + (1 : Int))) + (1 : Int)), z.2.2.2.2.2.2.2.2.2.2.2.2.2.2.2.2.2.2.2.2.2.2.2))
noncomputable abbrev laws_markForkS.w23 (v4_0 : Int) (v4_1 : Int) (v4_2 : List TFork) (y1 : TKeys) (y2 : TKeys) (y3 : TKeys) (y4 : List TSig × Int) : List TFork :=
  V.upd (laws_markForkS.w22 v4_0 v4_1 v4_2 y1 y2 y3 y4) v4_1.toNat (fun z => (z.1, z.2.1, z.2.2.1, z.2.2.2.1, z.2.2.2.2.1, z.2.2.2.2.2.1, z.2.2.2.2.2.2.1, z.2.2.2.2.2.2.2.1, z.2.2.2.2.2.2.2.2.1, z.2.2.2.2.2.2.2.2.2.1, z.2.2.2.2.2.2.2.2.2.2.1, z.2.2.2.2.2.2.2.2.2.2.2.1, z.2.2.2.2.2.2.2.2.2.2.2.2.1, z.2.2.2.2.2.2.2.2.2.2.2.2.2.1, z.2.2.2.2.2.2.2.2.2.2.2.2.2.2.1, z.2.2.2.2.2.2.2.2.2.2.2.2.2.2.2.1, z.2.2.2.2.2.2.2.2.2.2.2.2.2.2.2.2.1, z.2.2.2.2.2.2.2.2.2.2.2.2.2.2.2.2.2.1, z.2.2.2.2.2.2.2.2.2.2.2.2.2.2.2.2.2.2.1, z.2.2.2.2.2.2.2.2.2.2.2.2.2.2.2.2.2.2.2.1, z.2.2.2.2.2.2.2.2.2.2.2.2.2.2.2.2.2.2.2.2.1, z.2.2.2.2.2.2.2.2.2.2.2.2.2.2.2.2.2.2.2.2.2.1, z.2.2.2.2.2.2.2.2.2.2.2.2.2.2.2.2.2.2.2.2.2.2.1, IntKind.i64.wrap ((IntKind.i64.wrap ((IntKind.i64.wrap ((IntKind.i64.wrap ((IntKind.i64.wrap ((IntKind.i64.wrap (y4.2 + (1 : Int))) + (1 : Int))) + (1 : Int))) + (1 : Int))) + (1 : Int))) + (1 : Int)), z.2.2.2.2.2.2.2.2.2.2.2.2.2.2.2.2.2.2.2.2.2.2.2.2))
noncomputable abbrev laws_markForkS.w24 (v4_0 : Int) (v4_1 : Int) (v4_2 : List TFork) (y1 : TKeys) (y2 : TKeys) (y3 : TKeys) (y4 : List TSig × Int) : List TFork :=
  V.upd (laws_markForkS.w23 v4_0 v4_1 v4_2 y1 y2 y3 y4) v4_1.toNat (fun z => (z.1, z.2.1, z.2.2.1, z.2.2.2.1, z.2.2.2.2.1, z.2.2.2.2.2.1, z.2.2.2.2.2.2.1, z.2.2.2.2.2.2.2.1, z.2.2.2.2.2.2.2.2.1, z.2.2.2.2.2.2.2.2.2.1, z.2.2.2.2.2.2.2.2.2.2.1, z.2.2.2.2.2.2.2.2.2.2.2.1, z.2.2.2.2.2.2.2.2.2.2.2.2.1, z.2.2.2.2.2.2.2.2.2.2.2.2.2.1, z.2.2.2.2.2.2.2.2.2.2.2.2.2.2.1, z.2.2.2.2.2.2.2.2.2.2.2.2.2.2.2.1, z.2.2.2.2.2.2.2.2.2.2.2.2.2.2.2.2.1, z.2.2.2.2.2.2.2.2.2.2.2.2.2.2.2.2.2.1, z.2.2.2.2.2.2.2.2.2.2.2.2.2.2.2.2.2.2.1, z.2.2.2.2.2.2.2.2.2.2.2.2.2.2.2.2.2.2.2.1, z.2.2.2.2.2.2.2.2.2.2.2.2.2.2.2.2.2.2.2.2.1, z.2.2.2.2.2.2.2.2.2.2.2.2.2.2.2.2.2.2.2.2.2.1, z.2.2.2.2.2.2.2.2.2.2.2.2.2.2.2.2.2.2.2.2.2.2.1, z.2.2.2.2.2.2.2.2.2.2.2.2.2.2.2.2.2.2.2.2.2.2.2.1, IntKind.i64.wrap ((IntKind.i64.wrap ((IntKind.i64.wrap ((IntKind.i64.wrap ((IntKind.i64.wrap ((IntKind.i64.wrap ((IntKind.i64.wrap (y4.2 + (1 : Int))) + (1 : Int))) + (1 : Int))) + (1 : Int))) + (1 : Int))) + (1 : Int))) + (1 : Int)), z.2.2.2.2.2.2.2.2.2.2.2.2.2.2.2.2.2.2.2.2.2.2.2.2.2))
noncomputable abbrev laws_markForkS.w25 (v4_0 : Int) (v4_1 : Int) (v4_2 : List TFork) (y1 : TKeys) (y2 : TKeys) (y3 : TKeys) (y4 : List TSig × Int) (y5 : TKeys) : List TFork :=
  V.upd (laws_markForkS.w24 v4_0 v4_1 v4_2 y1 y2 y3 y4) v4_1.toNat (fun z => (z.1, z.2.1, z.2.2.1, z.2.2.2.1, z.2.2.2.2.1, z.2.2.2.2.2.1, z.2.2.2.2.2.2.1, z.2.2.2.2.2.2.2.1, z.2.2.2.2.2.2.2.2.1, z.2.2.2.2.2.2.2.2.2.1, z.2.2.2.2.2.2.2.2.2.2.1, z.2.2.2.2.2.2.2.2.2.2.2.1, z.2.2.2.2.2.2.2.2.2.2.2.2.1, z.2.2.2.2.2.2.2.2.2.2.2.2.2.1, z.2.2.2.2.2.2.2.2.2.2.2.2.2.2.1, z.2.2.2.2.2.2.2.2.2.2.2.2.2.2.2.1, z.2.2.2.2.2.2.2.2.2.2.2.2.2.2.2.2.1, z.2.2.2.2.2.2.2.2.2.2.2.2.2.2.2.2.2.1, z.2.2.2.2.2.2.2.2.2.2.2.2.2.2.2.2.2.2.1, z.2.2.2.2.2.2.2.2.2.2.2.2.2.2.2.2.2.2.2.1, z.2.2.2.2.2.2.2.2.2.2.2.2.2.2.2.2.2.2.2.2.1, z.2.2.2.2.2.2.2.2.2.2.2.2.2.2.2.2.2.2.2.2.2.1, z.2.2.2.2.2.2.2.2.2.2.2.2.2.2.2.2.2.2.2.2.2.2.1, z.2.2.2.2.2.2.2.2.2.2.2.2.2.2.2.2.2.2.2.2.2.2.2.1, z.2.2.2.2.2.2.2.2.2.2.2.2.2.2.2.2.2.2.2.2.2.2.2.2.1, y5.1, z.2.2.2.2.2.2.2.2.2.2.2.2.2.2.2.2.2.2.2.2.2.2.2.2.2.2))
noncomputable abbrev laws_markForkS.w26 (v4_0 : Int) (v4_1 : Int) (v4_2 : List TFork) (y1 : TKeys) (y2 : TKeys) (y3 : TKeys) (y4 : List TSig × Int) (y5 : TKeys) : List TFork :=
  V.upd (laws_markForkS.w25 v4_0 v4_1 v4_2 y1 y2 y3 y4 y5) v4_1.toNat (fun z => (z.1, z.2.1, z.2.2.1, z.2.2.2.1, z.2.2.2.2.1, z.2.2.2.2.2.1, z.2.2.2.2.2.2.1, z.2.2.2.2.2.2.2.1, z.2.2.2.2.2.2.2.2.1, z.2.2.2.2.2.2.2.2.2.1, z.2.2.2.2.2.2.2.2.2.2.1, z.2.2.2.2.2.2.2.2.2.2.2.1, z.2.2.2.2.2.2.2.2.2.2.2.2.1, z.2.2.2.2.2.2.2.2.2.2.2.2.2.1, z.2.2.2.2.2.2.2.2.2.2.2.2.2.2.1, z.2.2.2.2.2.2.2.2.2.2.2.2.2.2.2.1, z.2.2.2.2.2.2.2.2.2.2.2.2.2.2.2.2.1, z.2.2.2.2.2.2.2.2.2.2.2.2.2.2.2.2.2.1, z.2.2.2.2.2.2.2.2.2.2.2.2.2.2.2.2.2.2.1, z.2.2.2.2.2.2.2.2.2.2.2.2.2.2.2.2.2.2.2.1, z.2.2.2.2.2.2.2.2.2.2.2.2.2.2.2.2.2.2.2.2.1, z.2.2.2.2.2.2.2.2.2.2.2.2.2.2.2.2.2.2.2.2.2.1, z.2.2.2.2.2.2.2.2.2.2.2.2.2.2.2.2.2.2.2.2.2.2.1, z.2.2.2.2.2.2.2.2.2.2.2.2.2.2.2.2.2.2.2.2.2.2.2.1, z.2.2.2.2.2.2.2.2.2.2.2.2.2.2.2.2.2.2.2.2.2.2.2.2.1, z.2.2.2.2.2.2.2.2.2.2.2.2.2.2.2.2.2.2.2.2.2.2.2.2.2.1, y5.2, z.2.2.2.2.2.2.2.2.2.2.2.2.2.2.2.2.2.2.2.2.2.2.2.2.2.2.2))
noncomputable abbrev laws_markForkS.w27 (v4_0 : Int) (v4_1 : Int) (v4_2 : List TFork) (y1 : TKeys) (y2 : TKeys) (y3 : TKeys) (y4 : List TSig × Int) (y5 : TKeys) (y6 : TKeys) : List TFork :=
  V.upd (laws_markForkS.w26 v4_0 v4_1 v4_2 y1 y2 y3 y4 y5) v4_1.toNat (fun z => (z.1, z.2.1, z.2.2.1, z.2.2.2.1, z.2.2.2.2.1, z.2.2.2.2.2.1, z.2.2.2.2.2.2.1, z.2.2.2.2.2.2.2.1, z.2.2.2.2.2.2.2.2.1, z.2.2.2.2.2.2.2.2.2.1, z.2.2.2.2.2.2.2.2.2.2.1, z.2.2.2.2.2.2.2.2.2.2.2.1, z.2.2.2.2.2.2.2.2.2.2.2.2.1, z.2.2.2.2.2.2.2.2.2.2.2.2.2.1, z.2.2.2.2.2.2.2.2.2.2.2.2.2.2.1, z.2.2.2.2.2.2.2.2.2.2.2.2.2.2.2.1, z.2.2.2.2.2.2.2.2.2.2.2.2.2.2.2.2.1, z.2.2.2.2.2.2.2.2.2.2.2.2.2.2.2.2.2.1, z.2.2.2.2.2.2.2.2.2.2.2.2.2.2.2.2.2.2.1, z.2.2.2.2.2.2.2.2.2.2.2.2.2.2.2.2.2.2.2.1, z.2.2.2.2.2.2.2.2.2.2.2.2.2.2.2.2.2.2.2.2.1, z.2.2.2.2.2.2.2.2.2.2.2.2.2.2.2.2.2.2.2.2.2.1, z.2.2.2.2.2.2.2.2.2.2.2.2.2.2.2.2.2.2.2.2.2.2.1, z.2.2.2.2.2.2.2.2.2.2.2.2.2.2.2.2.2.2.2.2.2.2.2.1, z.2.2.2.2.2.2.2.2.2.2.2.2.2.2.2.2.2.2.2.2.2.2.2.2.1, z.2.2.2.2.2.2.2.2.2.2.2.2.2.2.2.2.2.2.2.2.2.2.2.2.2.1, z.2.2.2.2.2.2.2.2.2.2.2.2.2.2.2.2.2.2.2.2.2.2.2.2.2.2.1, y6.1, z.2.2.2.2.2.2.2.2.2.2.2.2.2.2.2.2.2.2.2.2.2.2.2.2.2.2.2.2))
noncomputable abbrev laws_markForkS.w28 (v4_0 : Int) (v4_1 : Int) (v4_2 : List TFork) (y1 : TKeys) (y2 : TKeys) (y3 : TKeys) (y4 : List TSig × Int) (y5 : TKeys) (y6 : TKeys) : List TFork :=
  V.upd (laws_markForkS.w27 v4_0 v4_1 v4_2 y1 y2 y3 y4 y5 y6) v4_1.toNat (fun z => (z.1, z.2.1, z.2.2.1, z.2.2.2.1, z.2.2.2.2.1, z.2.2.2.2.2.1, z.2.2.2.2.2.2.1, z.2.2.2.2.2.2.2.1, z.2.2.2.2.2.2.2.2.1, z.2.2.2.2.2.2.2.2.2.1, z.2.2.2.2.2.2.2.2.2.2.1, z.2.2.2.2.2.2.2.2.2.2.2.1, z.2.2.2.2.2.2.2.2.2.2.2.2.1, z.2.2.2.2.2.2.2.2.2.2.2.2.2.1, z.2.2.2.2.2.2.2.2.2.2.2.2.2.2.1, z.2.2.2.2.2.2.2.2.2.2.2.2.2.2.2.1, z.2.2.2.2.2.2.2.2.2.2.2.2.2.2.2.2.1, z.2.2.2.2.2.2.2.2.2.2.2.2.2.2.2.2.2.1, z.2.2.2.2.2.2.2.2.2.2.2.2.2.2.2.2.2.2.1, z.2.2.2.2.2.2.2.2.2.2.2.2.2.2.2.2.2.2.2.1, z.2.2.2.2.2.2.2.2.2.2.2.2.2.2.2.2.2.2.2.2.1, z.2.2.2.2.2.2.2.2.2.2.2.2.2.2.2.2.2.2.2.2.2.1, z.2.2.2.2.2.2.2.2.2.2.2.2.2.2.2.2.2.2.2.2.2.2.1, z.2.2.2.2.2.2.2.2.2.2.2.2.2.2.2.2.2.2.2.2.2.2.2.1, z.2.2.2.2.2.2.2.2.2.2.2.2.2.2.2.2.2.2.2.2.2.2.2.2.1, z.2.2.2.2.2.2.2.2.2.2.2.2.2.2.2.2.2.2.2.2.2.2.2.2.2.1, z.2.2.2.2.2.2.2.2.2.2.2.2.2.2.2.2.2.2.2.2.2.2.2.2.2.2.1, z.2.2.2.2.2.2.2.2.2.2.2.2.2.2.2.2.2.2.2.2.2.2.2.2.2.2.2.1, y6.2, z.2.2.2.2.2.2.2.2.2.2.2.2.2.2.2.2.2.2.2.2.2.2.2.2.2.2.2.2.2))
noncomputable abbrev laws_markForkS.w29 (v4_0 : Int) (v4_1 : Int) (v4_2 : List TFork) (y1 : TKeys) (y2 : TKeys) (y3 : TKeys) (y4 : List TSig × Int) (y5 : TKeys) (y6 : TKeys) : List TFork :=
  V.upd (laws_markForkS.w28 v4_0 v4_1 v4_2 y1 y2 y3 y4 y5 y6) v4_1.toNat (fun z => (z.1, z.2.1, z.2.2.1, z.2.2.2.1, z.2.2.2.2.1, z.2.2.2.2.2.1, z.2.2.2.2.2.2.1, z.2.2.2.2.2.2.2.1, z.2.2.2.2.2.2.2.2.1, z.2.2.2.2.2.2.2.2.2.1, z.2.2.2.2.2.2.2.2.2.2.1, z.2.2.2.2.2.2.2.2.2.2.2.1, z.2.2.2.2.2.2.2.2.2.2.2.2.1, z.2.2.2.2.2.2.2.2.2.2.2.2.2.1, z.2.2.2.2.2.2.2.2.2.2.2.2.2.2.1, z.2.2.2.2.2.2.2.2.2.2.2.2.2.2.2.1, z.2.2.2.2.2.2.2.2.2.2.2.2.2.2.2.2.1, z.2.2.2.2.2.2.2.2.2.2.2.2.2.2.2.2.2.1, z.2.2.2.2.2.2.2.2.2.2.2.2.2.2.2.2.2.2.1, z.2.2.2.2.2.2.2.2.2.2.2.2.2.2.2.2.2.2.2.1, z.2.2.2.2.2.2.2.2.2.2.2.2.2.2.2.2.2.2.2.2.1, z.2.2.2.2.2.2.2.2.2.2.2.2.2.2.2.2.2.2.2.2.2.1, z.2.2.2.2.2.2.2.2.2.2.2.2.2.2.2.2.2.2.2.2.2.2.1, z.2.2.2.2.2.2.2.2.2.2.2.2.2.2.2.2.2.2.2.2.2.2.2.1, z.2.2.2.2.2.2.2.2.2.2.2.2.2.2.2.2.2.2.2.2.2.2.2.2.1, z.2.2.2.2.2.2.2.2.2.2.2.2.2.2.2.2.2.2.2.2.2.2.2.2.2.1, z.2.2.2.2.2.2.2.2.2.2.2.2.2.2.2.2.2.2.2.2.2.2.2.2.2.2.1, z.2.2.2.2.2.2.2.2.2.2.2.2.2.2.2.2.2.2.2.2.2.2.2.2.2.2.2.1, z.2.2.2.2.2.2.2.2.2.2.2.2.2.2.2.2.2.2.2.2.2.2.2.2.2.2.2.2.1, IntKind.i64.wrap (y6.2 + (1 : Int)), z.2.2.2.2.2.2.2.2.2.2.2.2.2.2.2.2.2.2.2.2.2.2.2.2.2.2.2.2.2.2))
noncomputable abbrev laws_markForkS.w30 (v4_0 : Int) (v4_1 : Int) (v4_2 : List TFork) (y1 : TKeys) (y2 : TKeys) (y3 : TKeys) (y4 : List TSig × Int) (y5 : TKeys) (y6 : TKeys) (y7 : TKeys) : List TFork :=
  V.upd (laws_markForkS.w29 v4_0 v4_1 v4_2 y1 y2 y3 y4 y5 y6) v4_1.toNat (fun z => (z.1, z.2.1, z.2.2.1, z.2.2.2.1, z.2.2.2.2.1, z.2.2.2.2.2.1, z.2.2.2.2.2.2.1, z.2.2.2.2.2.2.2.1, z.2.2.2.2.2.2.2.2.1, z.2.2.2.2.2.2.2.2.2.1, z.2.2.2.2.2.2.2.2.2.2.1, z.2.2.2.2.2.2.2.2.2.2.2.1, z.2.2.2.2.2.2.2.2.2.2.2.2.1, z.2.2.2.2.2.2.2.2.2.2.2.2.2.1, z.2.2.2.2.2.2.2.2.2.2.2.2.2.2.1, z.2.2.2.2.2.2.2.2.2.2.2.2.2.2.2.1, z.2.2.2.2.2.2.2.2.2.2.2.2.2.2.2.2.1, z.2.2.2.2.2.2.2.2.2.2.2.2.2.2.2.2.2.1, z.2.2.2.2.2.2.2.2.2.2.2.2.2.2.2.2.2.2.1, z.2.2.2.2.2.2.2.2.2.2.2.2.2.2.2.2.2.2.2.1, z.2.2.2.2.2.2.2.2.2.2.2.2.2.2.2.2.2.2.2.2.1, z.2.2.2.2.2.2.2.2.2.2.2.2.2.2.2.2.2.2.2.2.2.1, z.2.2.2.2.2.2.2.2.2.2.2.2.2.2.2.2.2.2.2.2.2.2.1, z.2.2.2.2.2.2.2.2.2.2.2.2.2.2.2.2.2.2.2.2.2.2.2.1, z.2.2.2.2.2.2.2.2.2.2.2.2.2.2.2.2.2.2.2.2.2.2.2.2.1, z.2.2.2.2.2.2.2.2.2.2.2.2.2.2.2.2.2.2.2.2.2.2.2.2.2.1, z.2.2.2.2.2.2.2.2.2.2.2.2.2.2.2.2.2.2.2.2.2.2.2.2.2.2.1, z.2.2.2.2.2.2.2.2.2.2.2.2.2.2.2.2.2.2.2.2.2.2.2.2.2.2.2.1, z.2.2.2.2.2.2.2.2.2.2.2.2.2.2.2.2.2.2.2.2.2.2.2.2.2.2.2.2.1, z.2.2.2.2.2.2.2.2.2.2.2.2.2.2.2.2.2.2.2.2.2.2.2.2.2.2.2.2.2.1, y7.1, z.2.2.2.2.2.2.2.2.2.2.2.2.2.2.2.2.2.2.2.2.2.2.2.2.2.2.2.2.2.2.2))
noncomputable abbrev laws_markForkS.w31 (v4_0 : Int) (v4_1 : Int) (v4_2 : List TFork) (y1 : TKeys) (y2 : TKeys) (y3 : TKeys) (y4 : List TSig × Int) (y5 : TKeys) (y6 : TKeys) (y7 : TKeys) : List TFork :=
  V.upd (laws_markForkS.w30 v4_0 v4_1 v4_2 y1 y2 y3 y4 y5 y6 y7) v4_1.toNat (fun z => (z.1, z.2.1, z.2.2.1, z.2.2.2.1, z.2.2.2.2.1, z.2.2.2.2.2.1, z.2.2.2.2.2.2.1, z.2.2.2.2.2.2.2.1, z.2.2.2.2.2.2.2.2.1, z.2.2.2.2.2.2.2.2.2.1, z.2.2.2.2.2.2.2.2.2.2.1, z.2.2.2.2.2.2.2.2.2.2.2.1, z.2.2.2.2.2.2.2.2.2.2.2.2.1, z.2.2.2.2.2.2.2.2.2.2.2.2.2.1, z.2.2.2.2.2.2.2.2.2.2.2.2.2.2.1, z.2.2.2.2.2.2.2.2.2.2.2.2.2.2.2.1, z.2.2.2.2.2.2.2.2.2.2.2.2.2.2.2.2.1, z.2.2.2.2.2.2.2.2.2.2.2.2.2.2.2.2.2.1, z.2.2.2.2.2.2.2.2.2.2.2.2.2.2.2.2.2.2.1, z.2.2.2.2.2.2.2.2.2.2.2.2.2.2.2.2.2.2.2.1, z.2.2.2.2.2.2.2.2.2.2.2.2.2.2.2.2.2.2.2.2.1, z.2.2.2.2.2.2.2.2.2.2.2.2.2.2.2.2.2.2.2.2.2.1, z.2.2.2.2.2.2.2.2.2.2.2.2.2.2.2.2.2.2.2.2.2.2.1, z.2.2.2.2.2.2.2.2.2.2.2.2.2.2.2.2.2.2.2.2.2.2.2.1, z.2.2.2.2.2.2.2.2.2.2.2.2.2.2.2.2.2.2.2.2.2.2.2.2.1, z.2.2.2.2.2.2.2.2.2.2.2.2.2.2.2.2.2.2.2.2.2.2.2.2.2.1, z.2.2.2.2.2.2.2.2.2.2.2.2.2.2.2.2.2.2.2.2.2.2.2.2.2.2.1, z.2.2.2.2.2.2.2.2.2.2.2.2.2.2.2.2.2.2.2.2.2.2.2.2.2.2.2.1, z.2.2.2.2.2.2.2.2.2.2.2.2.2.2.2.2.2.2.2.2.2.2.2.2.2.2.2.2.1, z.2.2.2.2.2.2.2.2.2.2.2.2.2.2.2.2.2.2.2.2.2.2.2.2.2.2.2.2.2.1, z.2.2.2.2.2.2.2.2.2.2.2.2.2.2.2.2.2.2.2.2.2.2.2.2.2.2.2.2.2.2.1, y7.2, z.2.2.2.2.2.2.2.2.2.2.2.2.2.2.2.2.2.2.2.2.2.2.2.2.2.2.2.2.2.2.2.2))
noncomputable abbrev laws_markForkS.w32 (v4_0 : Int) (v4_1 : Int) (v4_2 : List TFork) (y1 : TKeys) (y2 : TKeys) (y3 : TKeys) (y4 : List TSig × Int) (y5 : TKeys) (y6 : TKeys) (y7 : TKeys) : List TFork :=
  V.upd (laws_markForkS.w31 v4_0 v4_1 v4_2 y1 y2 y3 y4 y5 y6 y7) v4_1.toNat (fun z => (z.1, z.2.1, z.2.2.1, z.2.2.2.1, z.2.2.2.2.1, z.2.2.2.2.2.1, z.2.2.2.2.2.2.1, z.2.2.2.2.2.2.2.1, z.2.2.2.2.2.2.2.2.1, z.2.2.2.2.2.2.2.2.2.1, z.2.2.2.2.2.2.2.2.2.2.1, z.2.2.2.2.2.2.2.2.2.2.2.1, z.2.2.2.2.2.2.2.2.2.2.2.2.1, z.2.2.2.2.2.2.2.2.2.2.2.2.2.1, z.2.2.2.2.2.2.2.2.2.2.2.2.2.2.1, z.2.2.2.2.2.2.2.2.2.2.2.2.2.2.2.1, z.2.2.2.2.2.2.2.2.2.2.2.2.2.2.2.2.1, z.2.2.2.2.2.2.2.2.2.2.2.2.2.2.2.2.2.1, z.2.2.2.2.2.2.2.2.2.2.2.2.2.2.2.2.2.2.1, z.2.2.2.2.2.2.2.2.2.2.2.2.2.2.2.2.2.2.2.1, z.2.2.2.2.2.2.2.2.2.2.2.2.2.2.2.2.2.2.2.2.1, z.2.2.2.2.2.2.2.2.2.2.2.2.2.2.2.2.2.2.2.2.2.1, z.2.2.2.2.2.2.2.2.2.2.2.2.2.2.2.2.2.2.2.2.2.2.1, z.2.2.2.2.2.2.2.2.2.2.2.2.2.2.2.2.2.2.2.2.2.2.2.1, z.2.2.2.2.2.2.2.2.2.2.2.2.2.2.2.2.2.2.2.2.2.2.2.2.1, z.2.2.2.2.2.2.2.2.2.2.2.2.2.2.2.2.2.2.2.2.2.2.2.2.2.1, z.2.2.2.2.2.2.2.2.2.2.2.2.2.2.2.2.2.2.2.2.2.2.2.2.2.2.1, z.2.2.2.2.2.2.2.2.2.2.2.2.2.2.2.2.2.2.2.2.2.2.2.2.2.2.2.1, z.2.2.2.2.2.2.2.2.2.2.2.2.2.2.2.2.2.2.2.2.2.2.2.2.2.2.2.2.1, z.2.2.2.2.2.2.2.2.2.2.2.2.2.2.2.2.2.2.2.2.2.2.2.2.2.2.2.2.2.1, z.2.2.2.2.2.2.2.2.2.2.2.2.2.2.2.2.2.2.2.2.2.2.2.2.2.2.2.2.2.2.1, z.2.2.2.2.2.2.2.2.2.2.2.2.2.2.2.2.2.2.2.2.2.2.2.2.2.2.2.2.2.2.2.1, (Int.tmod (IntKind.i64.wrap (y7.2 + (1 : Int))) (3 : Int)) == (0 : Int), z.2.2.2.2.2.2.2.2.2.2.2.2.2.2.2.2.2.2.2.2.2.2.2.2.2.2.2.2.2.2.2.2.2))
noncomputable abbrev laws_markForkS.w33 (v4_0 : Int) (v4_1 : Int) (v4_2 : List TFork) (y1 : TKeys) (y2 : TKeys) (y3 : TKeys) (y4 : List TSig × Int) (y5 : TKeys) (y6 : TKeys) (y7 : TKeys) (y8 : List TSig × Int) : List TFork :=
  V.upd (laws_markForkS.w32 v4_0 v4_1 v4_2 y1 y2 y3 y4 y5 y6 y7) v4_1.toNat (fun z => (z.1, z.2.1, z.2.2.1, z.2.2.2.1, z.2.2.2.2.1, z.2.2.2.2.2.1, z.2.2.2.2.2.2.1, z.2.2.2.2.2.2.2.1, z.2.2.2.2.2.2.2.2.1, z.2.2.2.2.2.2.2.2.2.1, z.2.2.2.2.2.2.2.2.2.2.1, z.2.2.2.2.2.2.2.2.2.2.2.1, z.2.2.2.2.2.2.2.2.2.2.2.2.1, z.2.2.2.2.2.2.2.2.2.2.2.2.2.1, z.2.2.2.2.2.2.2.2.2.2.2.2.2.2.1, z.2.2.2.2.2.2.2.2.2.2.2.2.2.2.2.1, z.2.2.2.2.2.2.2.2.2.2.2.2.2.2.2.2.1, z.2.2.2.2.2.2.2.2.2.2.2.2.2.2.2.2.2.1, z.2.2.2.2.2.2.2.2.2.2.2.2.2.2.2.2.2.2.1, z.2.2.2.2.2.2.2.2.2.2.2.2.2.2.2.2.2.2.2.1, z.2.2.2.2.2.2.2.2.2.2.2.2.2.2.2.2.2.2.2.2.1, z.2.2.2.2.2.2.2.2.2.2.2.2.2.2.2.2.2.2.2.2.2.1, z.2.2.2.2.2.2.2.2.2.2.2.2.2.2.2.2.2.2.2.2.2.2.1, z.2.2.2.2.2.2.2.2.2.2.2.2.2.2.2.2.2.2.2.2.2.2.2.1, z.2.2.2.2.2.2.2.2.2.2.2.2.2.2.2.2.2.2.2.2.2.2.2.2.1, z.2.2.2.2.2.2.2.2.2.2.2.2.2.2.2.2.2.2.2.2.2.2.2.2.2.1, z.2.2.2.2.2.2.2.2.2.2.2.2.2.2.2.2.2.2.2.2.2.2.2.2.2.2.1, z.2.2.2.2.2.2.2.2.2.2.2.2.2.2.2.2.2.2.2.2.2.2.2.2.2.2.2.1, z.2.2.2.2.2.2.2.2.2.2.2.2.2.2.2.2.2.2.2.2.2.2.2.2.2.2.2.2.1, z.2.2.2.2.2.2.2.2.2.2.2.2.2.2.2.2.2.2.2.2.2.2.2.2.2.2.2.2.2.1, z.2.2.2.2.2.2.2.2.2.2.2.2.2.2.2.2.2.2.2.2.2.2.2.2.2.2.2.2.2.2.1, z.2.2.2.2.2.2.2.2.2.2.2.2.2.2.2.2.2.2.2.2.2.2.2.2.2.2.2.2.2.2.2.1, z.2.2.2.2.2.2.2.2.2.2.2.2.2.2.2.2.2.2.2.2.2.2.2.2.2.2.2.2.2.2.2.2.1, y8.1, z.2.2.2.2.2.2.2.2.2.2.2.2.2.2.2.2.2.2.2.2.2.2.2.2.2.2.2.2.2.2.2.2.2.2))
noncomputable abbrev laws_markForkS.w34 (v4_0 : Int) (v4_1 : Int) (v4_2 : List TFork) (y1 : TKeys) (y2 : TKeys) (y3 : TKeys) (y4 : List TSig × Int) (y5 : TKeys) (y6 : TKeys) (y7 : TKeys) (y8 : List TSig × Int) : List TFork :=
  V.upd (laws_markForkS.w33 v4_0 v4_1 v4_2 y1 y2 y3 y4 y5 y6 y7 y8) v4_1.toNat (fun z => (z.1, z.2.1, z.2.2.1, z.2.2.2.1, z.2.2.2.2.1, z.2.2.2.2.2.1, z.2.2.2.2.2.2.1, z.2.2.2.2.2.2.2.1, z.2.2.2.2.2.2.2.2.1, z.2.2.2.2.2.2.2.2.2.1, z.2.2.2.2.2.2.2.2.2.2.1, z.2.2.2.2.2.2.2.2.2.2.2.1, z.2.2.2.2.2.2.2.2.2.2.2.2.1, z.2.2.2.2.2.2.2.2.2.2.2.2.2.1, z.2.2.2.2.2.2.2.2.2.2.2.2.2.2.1, z.2.2.2.2.2.2.2.2.2.2.2.2.2.2.2.1, z.2.2.2.2.2.2.2.2.2.2.2.2.2.2.2.2.1, z.2.2.2.2.2.2.2.2.2.2.2.2.2.2.2.2.2.1, z.2.2.2.2.2.2.2.2.2.2.2.2.2.2.2.2.2.2.1, z.2.2.2.2.2.2.2.2.2.2.2.2.2.2.2.2.2.2.2.1, z.2.2.2.2.2.2.2.2.2.2.2.2.2.2.2.2.2.2.2.2.1, z.2.2.2.2.2.2.2.2.2.2.2.2.2.2.2.2.2.2.2.2.2.1, z.2.2.2.2.2.2.2.2.2.2.2.2.2.2.2.2.2.2.2.2.2.2.1, z.2.2.2.2.2.2.2.2.2.2.2.2.2.2.2.2.2.2.2.2.2.2.2.1, z.2.2.2.2.2.2.2.2.2.2.2.2.2.2.2.2.2.2.2.2.2.2.2.2.1, z.2.2.2.2.2.2.2.2.2.2.2.2.2.2.2.2.2.2.2.2.2.2.2.2.2.1, z.2.2.2.2.2.2.2.2.2.2.2.2.2.2.2.2.2.2.2.2.2.2.2.2.2.2.1, z.2.2.2.2.2.2.2.2.2.2.2.2.2.2.2.2.2.2.2.2.2.2.2.2.2.2.2.1, z.2.2.2.2.2.2.2.2.2.2.2.2.2.2.2.2.2.2.2.2.2.2.2.2.2.2.2.2.1, z.2.2.2.2.2.2.2.2.2.2.2.2.2.2.2.2.2.2.2.2.2.2.2.2.2.2.2.2.2.1, z.2.2.2.2.2.2.2.2.2.2.2.2.2.2.2.2.2.2.2.2.2.2.2.2.2.2.2.2.2.2.1, z.2.2.2.2.2.2.2.2.2.2.2.2.2.2.2.2.2.2.2.2.2.2.2.2.2.2.2.2.2.2.2.1, z.2.2.2.2.2.2.2.2.2.2.2.2.2.2.2.2.2.2.2.2.2.2.2.2.2.2.2.2.2.2.2.2.1, z.2.2.2.2.2.2.2.2.2.2.2.2.2.2.2.2.2.2.2.2.2.2.2.2.2.2.2.2.2.2.2.2.2.1, y8.2, z.2.2.2.2.2.2.2.2.2.2.2.2.2.2.2.2.2.2.2.2.2.2.2.2.2.2.2.2.2.2.2.2.2.2.2))
noncomputable abbrev laws_markForkS.w35 (v4_0 : Int) (v4_1 : Int) (v4_2 : List TFork) (y1 : TKeys) (y2 : TKeys) (y3 : TKeys) (y4 : List TSig × Int) (y5 : TKeys) (y6 : TKeys) (y7 : TKeys) (y8 : List TSig × Int) : List TFork :=
  V.upd (laws_markForkS.w34 v4_0 v4_1 v4_2 y1 y2 y3 y4 y5 y6 y7 y8) v4_1.toNat (fun z => (z.1, z.2.1, z.2.2.1, z.2.2.2.1, z.2.2.2.2.1, z.2.2.2.2.2.1, z.2.2.2.2.2.2.1, z.2.2.2.2.2.2.2.1, z.2.2.2.2.2.2.2.2.1, z.2.2.2.2.2.2.2.2.2.1, z.2.2.2.2.2.2.2.2.2.2.1, z.2.2.2.2.2.2.2.2.2.2.2.1, z.2.2.2.2.2.2.2.2.2.2.2.2.1, z.2.2.2.2.2.2.2.2.2.2.2.2.2.1, z.2.2.2.2.2.2.2.2.2.2.2.2.2.2.1, z.2.2.2.2.2.2.2.2.2.2.2.2.2.2.2.1, z.2.2.2.2.2.2.2.2.2.2.2.2.2.2.2.2.1, z.2.2.2.2.2.2.2.2.2.2.2.2.2.2.2.2.2.1, z.2.2.2.2.2.2.2.2.2.2.2.2.2.2.2.2.2.2.1, z.2.2.2.2.2.2.2.2.2.2.2.2.2.2.2.2.2.2.2.1, z.2.2.2.2.2.2.2.2.2.2.2.2.2.2.2.2.2.2.2.2.1, z.2.2.2.2.2.2.2.2.2.2.2.2.2.2.2.2.2.2.2.2.2.1, z.2.2.2.2.2.2.2.2.2.2.2.2.2.2.2.2.2.2.2.2.2.2.1, z.2.2.2.2.2.2.2.2.2.2.2.2.2.2.2.2.2.2.2.2.2.2.2.1, z.2.2.2.2.2.2.2.2.2.2.2.2.2.2.2.2.2.2.2.2.2.2.2.2.1, z.2.2.2.2.2.2.2.2.2.2.2.2.2.2.2.2.2.2.2.2.2.2.2.2.2.1, z.2.2.2.2.2.2.2.2.2.2.2.2.2.2.2.2.2.2.2.2.2.2.2.2.2.2.1, z.2.2.2.2.2.2.2.2.2.2.2.2.2.2.2.2.2.2.2.2.2.2.2.2.2.2.2.1, z.2.2.2.2.2.2.2.2.2.2.2.2.2.2.2.2.2.2.2.2.2.2.2.2.2.2.2.2.1, z.2.2.2.2.2.2.2.2.2.2.2.2.2.2.2.2.2.2.2.2.2.2.2.2.2.2.2.2.2.1, z.2.2.2.2.2.2.2.2.2.2.2.2.2.2.2.2.2.2.2.2.2.2.2.2.2.2.2.2.2.2.1, z.2.2.2.2.2.2.2.2.2.2.2.2.2.2.2.2.2.2.2.2.2.2.2.2.2.2.2.2.2.2.2.1, z.2.2.2.2.2.2.2.2.2.2.2.2.2.2.2.2.2.2.2.2.2.2.2.2.2.2.2.2.2.2.2.2.1, z.2.2.2.2.2.2.2.2.2.2.2.2.2.2.2.2.2.2.2.2.2.2.2.2.2.2.2.2.2.2.2.2.2.1, z.2.2.2.2.2.2.2.2.2.2.2.2.2.2.2.2.2.2.2.2.2.2.2.2.2.2.2.2.2.2.2.2.2.2.1, IntKind.i64.wrap (y8.2 + (1 : Int)), z.2.2.2.2.2.2.2.2.2.2.2.2.2.2.2.2.2.2.2.2.2.2.2.2.2.2.2.2.2.2.2.2.2.2.2.2))
noncomputable abbrev laws_markForkS.w36 (v4_0 : Int) (v4_1 : Int) (v4_2 : List TFork) (y1 : TKeys) (y2 : TKeys) (y3 : TKeys) (y4 : List TSig × Int) (y5 : TKeys) (y6 : TKeys) (y7 : TKeys) (y8 : List TSig × Int) : List TFork :=
  V.upd (laws_markForkS.w35 v4_0 v4_1 v4_2 y1 y2 y3 y4 y5 y6 y7 y8) v4_1.toNat (fun z => (z.1, z.2.1, z.2.2.1, z.2.2.2.1, z.2.2.2.2.1, z.2.2.2.2.2.1, z.2.2.2.2.2.2.1, z.2.2.2.2.2.2.2.1, z.2.2.2.2.2.2.2.2.1, z.2.2.2.2.2.2.2.2.2.1, z.2.2.2.2.2.2.2.2.2.2.1, z.2.2.2.2.2.2.2.2.2.2.2.1, z.2.2.2.2.2.2.2.2.2.2.2.2.1, z.2.2.2.2.2.2.2.2.2.2.2.2.2.1, z.2.2.2.2.2.2.2.2.2.2.2.2.2.2.1, z.2.2.2.2.2.2.2.2.2.2.2.2.2.2.2.1, z.2.2.2.2.2.2.2.2.2.2.2.2.2.2.2.2.1, z.2.2.2.2.2.2.2.2.2.2.2.2.2.2.2.2.2.1, z.2.2.2.2.2.2.2.2.2.2.2.2.2.2.2.2.2.2.1, z.2.2.2.2.2.2.2.2.2.2.2.2.2.2.2.2.2.2.2.1, z.2.2.2.2.2.2.2.2.2.2.2.2.2.2.2.2.2.2.2.2.1, z.2.2.2.2.2.2.2.2.2.2.2.2.2.2.2.2.2.2.2.2.2.1, z.2.2.2.2.2.2.2.2.2.2.2.2.2.2.2.2.2.2.2.2.2.2.1, z.2.2.2.2.2.2.2.2.2.2.2.2.2.2.2.2.2.2.2.2.2.2.2.1, z.2.2.2.2.2.2.2.2.2.2.2.2.2.2.2.2.2.2.2.2.2.2.2.2.1, z.2.2.2.2.2.2.2.2.2.2.2.2.2.2.2.2.2.2.2.2.2.2.2.2.2.1, z.2.2.2.2.2.2.2.2.2.2.2.2.2.2.2.2.2.2.2.2.2.2.2.2.2.2.1, z.2.2.2.2.2.2.2.2.2.2.2.2.2.2.2.2.2.2.2.2.2.2.2.2.2.2.2.1, z.2.2.2.2.2.2.2.2.2.2.2.2.2.2.2.2.2.2.2.2.2.2.2.2.2.2.2.2.1, z.2.2.2.2.2.2.2.2.2.2.2.2.2.2.2.2.2.2.2.2.2.2.2.2.2.2.2.2.2.1, z.2.2.2.2.2.2.2.2.2.2.2.2.2.2.2.2.2.2.2.2.2.2.2.2.2.2.2.2.2.2.1, z.2.2.2.2.2.2.2.2.2.2.2.2.2.2.2.2.2.2.2.2.2.2.2.2.2.2.2.2.2.2.2.1, z.2.2.2.2.2.2.2.2.2.2.2.2.2.2.2.2.2.2.2.2.2.2.2.2.2.2.2.2.2.2.2.2.1, z.2.2.2.2.2.2.2.2.2.2.2.2.2.2.2.2.2.2.2.2.2.2.2.2.2.2.2.2.2.2.2.2.2.1, z.2.2.2.2.2.2.2.2.2.2.2.2.2.2.2.2.2.2.2.2.2.2.2.2.2.2.2.2.2.2.2.2.2.2.1, z.2.2.2.2.2.2.2.2.2.2.2.2.2.2.2.2.2.2.2.2.2.2.2.2.2.2.2.2.2.2.2.2.2.2.2.1, IntKind.i64.wrap ((IntKind.i64.wrap (y8.2 + (1 : Int))) + (1 : Int)), z.2.2.2.2.2.2.2.2.2.2.2.2.2.2.2.2.2.2.2.2.2.2.2.2.2.2.2.2.2.2.2.2.2.2.2.2.2))
noncomputable abbrev laws_markForkS.w37 (v4_0 : Int) (v4_1 : Int) (v4_2 : List TFork) (y1 : TKeys) (y2 : TKeys) (y3 : TKeys) (y4 : List TSig × Int) (y5 : TKeys) (y6 : TKeys) (y7 : TKeys) (y8 : List TSig × Int) : List TFork :=
  V.upd (laws_markForkS.w36 v4_0 v4_1 v4_2 y1 y2 y3 y4 y5 y6 y7 y8) v4_1.toNat (fun z => (z.1, z.2.1, z.2.2.1, z.2.2.2.1, z.2.2.2.2.1, z.2.2.2.2.2.1, z.2.2.2.2.2.2.1, z.2.2.2.2.2.2.2.1, z.2.2.2.2.2.2.2.2.1, z.2.2.2.2.2.2.2.2.2.1, z.2.2.2.2.2.2.2.2.2.2.1, z.2.2.2.2.2.2.2.2.2.2.2.1, z.2.2.2.2.2.2.2.2.2.2.2.2.1, z.2.2.2.2.2.2.2.2.2.2.2.2.2.1, z.2.2.2.2.2.2.2.2.2.2.2.2.2.2.1, z.2.2.2.2.2.2.2.2.2.2.2.2.2.2.2.1, z.2.2.2.2.2.2.2.2.2.2.2.2.2.2.2.2.1, z.2.2.2.2.2.2.2.2.2.2.2.2.2.2.2.2.2.1, z.2.2.2.2.2.2.2.2.2.2.2.2.2.2.2.2.2.2.1, z.2.2.2.2.2.2.2.2.2.2.2.2.2.2.2.2.2.2.2.1, z.2.2.2.2.2.2.2.2.2.2.2.2.2.2.2.2.2.2.2.2.1, z.2.2.2.2.2.2.2.2.2.2.2.2.2.2.2.2.2.2.2.2.2.1, z.2.2.2.2.2.2.2.2.2.2.2.2.2.2.2.2.2.2.2.2.2.2.1, z.2.2.2.2.2.2.2.2.2.2.2.2.2.2.2.2.2.2.2.2.2.2.2.1, z.2.2.2.2.2.2.2.2.2.2.2.2.2.2.2.2.2.2.2.2.2.2.2.2.1, z.2.2.2.2.2.2.2.2.2.2.2.2.2.2.2.2.2.2.2.2.2.2.2.2.2.1, z.2.2.2.2.2.2.2.2.2.2.2.2.2.2.2.2.2.2.2.2.2.2.2.2.2.2.1, z.2.2.2.2.2.2.2.2.2.2.2.2.2.2.2.2.2.2.2.2.2.2.2.2.2.2.2.1, z.2.2.2.2.2.2.2.2.2.2.2.2.2.2.2.2.2.2.2.2.2.2.2.2.2.2.2.2.1, z.2.2.2.2.2.2.2.2.2.2.2.2.2.2.2.2.2.2.2.2.2.2.2.2.2.2.2.2.2.1, z.2.2.2.2.2.2.2.2.2.2.2.2.2.2.2.2.2.2.2.2.2.2.2.2.2.2.2.2.2.2.1, z.2.2.2.2.2.2.2.2.2.2.2.2.2.2.2.2.2.2.2.2.2.2.2.2.2.2.2.2.2.2.2.1, z.2.2.2.2.2.2.2.2.2.2.2.2.2.2.2.2.2.2.2.2.2.2.2.2.2.2.2.2.2.2.2.2.1, z.2.2.2.2.2.2.2.2.2.2.2.2.2.2.2.2.2.2.2.2.2.2.2.2.2.2.2.2.2.2.2.2.2.1, z.2.2.2.2.2.2.2.2.2.2.2.2.2.2.2.2.2.2.2.2.2.2.2.2.2.2.2.2.2.2.2.2.2.2.1, z.2.2.2.2.2.2.2.2.2.2.2.2.2.2.2.2.2.2.2.2.2.2.2.2.2.2.2.2.2.2.2.2.2.2.2.1, z.2.2.2.2.2.2.2.2.2.2.2.2.2.2.2.2.2.2.2.2.2.2.2.2.2.2.2.2.2.2.2.2.2.2.2.2.1, IntKind.i64.wrap ((IntKind.i64.wrap ((IntKind.i64.wrap (y8.2 + (1 : Int))) + (1 : Int))) + (1 : Int)), z.2.2.2.2.2.2.2.2.2.2.2.2.2.2.2.2.2.2.2.2.2.2.2.2.2.2.2.2.2.2.2.2.2.2.2.2.2.2))
noncomputable abbrev laws_markForkS.w38 (v4_0 : Int) (v4_1 : Int) (v4_2 : List TFork) (y1 : TKeys) (y2 : TKeys) (y3 : TKeys) (y4 : List TSig × Int) (y5 : TKeys) (y6 : TKeys) (y7 : TKeys) (y8 : List TSig × Int) : List TFork :=
  V.upd (laws_markForkS.w37 v4_0 v4_1 v4_2 y1 y2 y3 y4 y5 y6 y7 y8) v4_1.toNat (fun z => (z.1, z.2.1, z.2.2.1, z.2.2.2.1, z.2.2.2.2.1, z.2.2.2.2.2.1, z.2.2.2.2.2.2.1, z.2.2.2.2.2.2.2.1, z.2.2.2.2.2.2.2.2.1, z.2.2.2.2.2.2.2.2.2.1, z.2.2.2.2.2.2.2.2.2.2.1, z.2.2.2.2.2.2.2.2.2.2.2.1, z.2.2.2.2.2.2.2.2.2.2.2.2.1, z.2.2.2.2.2.2.2.2.2.2.2.2.2.1, z.2.2.2.2.2.2.2.2.2.2.2.2.2.2.1, z.2.2.2.2.2.2.2.2.2.2.2.2.2.2.2.1, z.2.2.2.2.2.2.2.2.2.2.2.2.2.2.2.2.1, z.2.2.2.2.2.2.2.2.2.2.2.2.2.2.2.2.2.1, z.2.2.2.2.2.2.2.2.2.2.2.2.2.2.2.2.2.2.1, z.2.2.2.2.2.2.2.2.2.2.2.2.2.2.2.2.2.2.2.1, z.2.2.2.2.2.2.2.2.2.2.2.2.2.2.2.2.2.2.2.2.1, z.2.2.2.2.2.2.2.2.2.2.2.2.2.2.2.2.2.2.2.2.2.1, z.2.2.2.2.2.2.2.2.2.2.2.2.2.2.2.2.2.2.2.2.2.2.1, z.2.2.2.2.2.2.2.2.2.2.2.2.2.2.2.2.2.2.2.2.2.2.2.1, z.2.2.2.2.2.2.2.2.2.2.2.2.2.2.2.2.2.2.2.2.2.2.2.2.1, z.2.2.2.2.2.2.2.2.2.2.2.2.2.2.2.2.2.2.2.2.2.2.2.2.2.1, z.2.2.2.2.2.2.2.2.2.2.2.2.2.2.2.2.2.2.2.2.2.2.2.2.2.2.1, z.2.2.2.2.2.2.2.2.2.2.2.2.2.2.2.2.2.2.2.2.2.2.2.2.2.2.2.1, z.2.2.2.2.2.2.2.2.2.2.2.2.2.2.2.2.2.2.2.2.2.2.2.2.2.2.2.2.1, z.2.2.2.2.2.2.2.2.2.2.2.2.2.2.2.2.2.2.2.2.2.2.2.2.2.2.2.2.2.1, z.2.2.2.2.2.2.2.2.2.2.2.2.2.2.2.2.2.2.2.2.2.2.2.2.2.2.2.2.2.2.1, z.2.2.2.2.2.2.2.2.2.2.2.2.2.2.2.2.2.2.2.2.2.2.2.2.2.2.2.2.2.2.2.1, z.2.2.2.2.2.2.2.2.2.2.2.2.2.2.2.2.2.2.2.2.2.2.2.2.2.2.2.2.2.2.2.2.1, z.2.2.2.2.2.2.2.2.2.2.2.2.2.2.2.2.2.2.2.2.2.2.2.2.2.2.2.2.2.2.2.2.2.1, z.2.2.2.2.2.2.2.2.2.2.2.2.2.2.2.2.2.2.2.2.2.2.2.2.2.2.2.2.2.2.2.2.2.2.1, z.2.2.2.2.2.2.2.2.2.2.2.2.2.2.2.2.2.2.2.2.2.2.2.2.2.2.2.2.2.2.2.2.2.2.2.1, z.2.2.2.2.2.2.2.2.2.2.2.2.2.2.2.2.2.2.2.2.2.2.2.2.2.2.2.2.2.2.2.2.2.2.2.2.1, z.2.2.2.2.2.2.2.2.2.2.2.2.2.2.2.2.2.2.2.2.2.2.2.2.2.2.2.2.2.2.2.2.2.2.2.2.2.1, IntKind.i64.wrap ((IntKind.i64.wrap ((IntKind.i64.wrap ((IntKind.i64.wrap (y8.2 + (1 : Int))) + (1 : Int))) + (1 : Int))) + (1 : Int)), z.2.2.2.2.2.2.2.2.2.2.2.2.2.2.2.2.2.2.2.2.2.2.2.2.2.2.2.2.2.2.2.2.2.2.2.2.2.2.2))
noncomputable abbrev laws_markForkS.w39 (v4_0 : Int) (v4_1 : Int) (v4_2 : List TFork) (y1 : TKeys) (y2 : TKeys) (y3 : TKeys) (y4 : List TSig × Int) (y5 : TKeys) (y6 : TKeys) (y7 : TKeys) (y8 : List TSig × Int) : List TFork :=
  V.upd (laws_markForkS.w38 v4_0 v4_1 v4_2 y1 y2 y3 y4 y5 y6 y7 y8) v4_1.toNat (fun z => (z.1, z.2.1, z.2.2.1, z.2.2.2.1, z.2.2.2.2.1, z.2.2.2.2.2.1, z.2.2.2.2.2.2.1, z.2.2.2.2.2.2.2.1, z.2.2.2.2.2.2.2.2.1, z.2.2.2.2.2.2.2.2.2.1, z.2.2.2.2.2.2.2.2.2.2.1, z.2.2.2.2.2.2.2.2.2.2.2.1, z.2.2.2.2.2.2.2.2.2.2.2.2.1, z.2.2.2.2.2.2.2.2.2.2.2.2.2.1, z.2.2.2.2.2.2.2.2.2.2.2.2.2.2.1, z.2.2.2.2.2.2.2.2.2.2.2.2.2.2.2.1, z.2.2.2.2.2.2.2.2.2.2.2.2.2.2.2.2.1, z.2.2.2.2.2.2.2.2.2.2.2.2.2.2.2.2.2.1, z.2.2.2.2.2.2.2.2.2.2.2.2.2.2.2.2.2.2.1, z.2.2.2.2.2.2.2.2.2.2.2.2.2.2.2.2.2.2.2.1, z.2.2.2.2.2.2.2.2.2.2.2.2.2.2.2.2.2.2.2.2.1, z.2.2.2.2.2.2.2.2.2.2.2.2.2.2.2.2.2.2.2.2.2.1, z.2.2.2.2.2.2.2.2.2.2.2.2.2.2.2.2.2.2.2.2.2.2.1, z.2.2.2.2.2.2.2.2.2.2.2.2.2.2.2.2.2.2.2.2.2.2.2.1, z.2.2.2.2.2.2.2.2.2.2.2.2.2.2.2.2.2.2.2.2.2.2.2.2.1, z.2.2.2.2.2.2.2.2.2.2.2.2.2.2.2.2.2.2.2.2.2.2.2.2.2.1, z.2.2.2.2.2.2.2.2.2.2.2.2.2.2.2.2.2.2.2.2.2.2.2.2.2.2.1, z.2.2.2.2.2.2.2.2.2.2.2.2.2.2.2.2.2.2.2.2.2.2.2.2.2.2.2.1, z.2.2.2.2.2.2.2.2.2.2.2.2.2.2.2.2.2.2.2.2.2.2.2.2.2.2.2.2.1, z.2.2.2.2.2.2.2.2.2.2.2.2.2.2.2.2.2.2.2.2.2.2.2.2.2.2.2.2.2.1, z.2.2.2.2.2.2.2.2.2.2.2.2.2.2.2.2.2.2.2.2.2.2.2.2.2.2.2.2.2.2.1, z.2.2.2.2.2.2.2.2.2.2.2.2.2.2.2.2.2.2.2.2.2.2.2.2.2.2.2.2.2.2.2.1, z.2.2.2.2.2.2.2.2.2.2.2.2.2.2.2.2.2.2.2.2.2.2.2.2.2.2.2.2.2.2.2.2.1, z.2.2.2.2.2.2.2.2.2.2.2.2.2.2.2.2.2.2.2.2.2.2.2.2.2.2.2.2.2.2.2.2.2.1, z.2.2.2.2.2.2.2.2.2.2.2.2.2.2.2.2.2.2.2.2.2.2.2.2.2.2.2.2.2.2.2.2.2.2.1, z.2.2.2.2.2.2.2.2.2.2.2.2.2.2.2.2.2.2.2.2.2.2.2.2.2.2.2.2.2.2.2.2.2.2.2.1, z.2.2.2.2.2.2.2.2.2.2.2.2.2.2.2.2.2.2.2.2.2.2.2.2.2.2.2.2.2.2.2.2.2.2.2.2.1, z.2.2.2.2.2.2.2.2.2.2.2.2.2.2.2.2.2.2.2.2.2.2.2.2.2.2.2.2.2.2.2.2.2.2.2.2.2.1, z.2.2.2.2.2.2.2.2.2.2.2.2.2.2.2.2.2.2.2.2.2.2.2.2.2.2.2.2.2.2.2.2.2.2.2.2.2.2.1, IntKind.i64.wrap ((IntKind.i64.wrap ((IntKind.i64.wrap ((IntKind.i64.wrap ((IntKind.i64.wrap (y8.2 + (1 : Int))) + (1 : Int))) + (1 : Int))) + (1 : Int))) + (1 : Int)), z.2.2.2.2.2.2.2.2.2.2.2.2.2.2.2.2.2.2.2.2.2.2.2.2.2.2.2.2.2.2.2.2.2.2.2.2.2.2.2.2))
noncomputable abbrev laws_markForkS.w40 (v4_0 : Int) (v4_1 : Int) (v4_2 : List TFork) (y1 : TKeys) (y2 : TKeys) (y3 : TKeys) (y4 : List TSig × Int) (y5 : TKeys) (y6 : TKeys) (y7 : TKeys) (y8 : List TSig × Int) : List TFork :=
  V.upd (laws_markForkS.w39 v4_0 v4_1 v4_2 y1 y2 y3 y4 y5 y6 y7 y8) v4_1.toNat (fun z => (z.1, z.2.1, z.2.2.1, z.2.2.2.1, z.2.2.2.2.1, z.2.2.2.2.2.1, z.2.2.2.2.2.2.1, z.2.2.2.2.2.2.2.1, z.2.2.2.2.2.2.2.2.1, z.2.2.2.2.2.2.2.2.2.1, z.2.2.2.2.2.2.2.2.2.2.1, z.2.2.2.2.2.2.2.2.2.2.2.1, z.2.2.2.2.2.2.2.2.2.2.2.2.1, z.2.2.2.2.2.2.2.2.2.2.2.2.2.1, z.2.2.2.2.2.2.2.2.2.2.2.2.2.2.1, z.2.2.2.2.2.2.2.2.2.2.2.2.2.2.2.1, z.2.2.2.2.2.2.2.2.2.2.2.2.2.2.2.2.1, z.2.2.2.2.2.2.2.2.2.2.2.2.2.2.2.2.2.1, z.2.2.2.2.2.2.2.2.2.2.2.2.2.2.2.2.2.2.1, z.2.2.2.2.2.2.2.2.2.2.2.2.2.2.2.2.2.2.2.1, z.2.2.2.2.2.2.2.2.2.2.2.2.2.2.2.2.2.2.2.2.1, z.2.2.2.2.2.2.2.2.2.2.2.2.2.2.2.2.2.2.2.2.2.1, z.2.2.2.2.2.2.2.2.2.2.2.2.2.2.2.2.2.2.2.2.2.2.1, z.2.2.2.2.2.2.2.2.2.2.2.2.2.2.2.2.2.2.2.2.2.2.2.1, z.2.2.2.2.2.2.2.2.2.2.2.2.2.2.2.2.2.2.2.2.2.2.2.2.1, z.2.2.2.2.2.2.2.2.2.2.2.2.2.2.2.2.2.2.2.2.2.2.2.2.2.1, z.2.2.2.2.2.2.2.2.2.2.2.2.2.2.2.2.2.2.2.2.2.2.2.2.2.2.1, z.2.2.2.2.2.2.2.2.2.2.2.2.2.2.2.2.2.2.2.2.2.2.2.2.2.2.2.1, z.2.2.2.2.2.2.2.2.2.2.2.2.2.2.2.2.2.2.2.2.2.2.2.2.2.2.2.2.1, z.2.2.2.2.2.2.2.2.2.2.2.2.2.2.2.2.2.2.2.2.2.2.2.2.2.2.2.2.2.1, z.2.2.2.2.2.2.2.2.2.2.2.2.2.2.2.2.2.2.2.2.2.2.2.2.2.2.2.2.2.2.1, z.2.2.2.2.2.2.2.2.2.2.2.2.2.2.2.2.2.2.2.2.2.2.2.2.2.2.2.2.2.2.2.1, z.2.2.2.2.2.2.2.2.2.2.2.2.2.2.2.2.2.2.2.2.2.2.2.2.2.2.2.2.2.2.2.2.1, z.2.2.2.2.2.2.2.2.2.2.2.2.2.2.2.2.2.2.2.2.2.2.2.2.2.2.2.2.2.2.2.2.2.1, z.2.2.2.2.2.2.2.2.2.2.2.2.2.2.2.2.2.2.2.2.2.2.2.2.2.2.2.2.2.2.2.2.2.2.1, z.2.2.2.2.2.2.2.2.2.2.2.2.2.2.2.2.2.2.2.2.2.2.2.2.2.2.2.2.2.2.2.2.2.2.2.1, z.2.2.2.2.2.2.2.2.2.2.2.2.2.2.2.2.2.2.2.2.2.2.2.2.2.2.2.2.2.2.2.2.2.2.2.2.1, z.2.2.2.2.2.2.2.2.2.2.2.2.2.2.2.2.2.2.2.2.2.2.2.2.2.2.2.2.2.2.2.2.2.2.2.2.2.1, z.2.2.2.2.2.2.2.2.2.2.2.2.2.2.2.2.2.2.2.2.2.2.2.2.2.2.2.2.2.2.2.2.2.2.2.2.2.2.1, z.2.2.2.2.2.2.2.2.2.2.2.2.2.2.2.2.2.2.2.2.2.2.2.2.2.2.2.2.2.2.2.2.2.2.2.2.2.2.2.1, IntKind.i64.wrap ((IntKind.i64.wrap ((IntKind.i64.wrap ((IntKind.i64.wrap ((IntKind.i64.wrap ((IntKind.i64.wrap (y8.2 + (1 : Int))) + (1 : Int))) + (1 : Int))) + (1 : Int))) + (1 : Int))) + (1 : Int)), z.2.2.2.2.2.2.2.2.2.2.2.2.2.2.2.2.2.2.2.2.2.2.2.2.2.2.2.2.2.2.2.2.2.2.2.2.2.2.2.2.2))
noncomputable abbrev laws_markForkS.w41 (v4_0 : Int) (v4_1 : Int) (v4_2 : List TFork) (y1 : TKeys) (y2 : TKeys) (y3 : TKeys) (y4 : List TSig × Int) (y5 : TKeys) (y6 : TKeys) (y7 : TKeys) (y8 : List TSig × Int) : List TFork :=
  V.upd (laws_markForkS.w40 v4_0 v4_1 v4_2 y1 y2 y3 y4 y5 y6 y7 y8) v4_1.toNat (fun z => (z.1, z.2.1, z.2.2.1, z.2.2.2.1, z.2.2.2.2.1, z.2.2.2.2.2.1, z.2.2.2.2.2.2.1, z.2.2.2.2.2.2.2.1, z.2.2.2.2.2.2.2.2.1, z.2.2.2.2.2.2.2.2.2.1, z.2.2.2.2.2.2.2.2.2.2.1, z.2.2.2.2.2.2.2.2.2.2.2.1, z.2.2.2.2.2.2.2.2.2.2.2.2.1, z.2.2.2.2.2.2.2.2.2.2.2.2.2.1, z.2.2.2.2.2.2.2.2.2.2.2.2.2.2.1, z.2.2.2.2.2.2.2.2.2.2.2.2.2.2.2.1, z.2.2.2.2.2.2.2.2.2.2.2.2.2.2.2.2.1, z.2.2.2.2.2.2.2.2.2.2.2.2.2.2.2.2.2.1, z.2.2.2.2.2.2.2.2.2.2.2.2.2.2.2.2.2.2.1, z.2.2.2.2.2.2.2.2.2.2.2.2.2.2.2.2.2.2.2.1, z.2.2.2.2.2.2.2.2.2.2.2.2.2.2.2.2.2.2.2.2.1, z.2.2.2.2.2.2.2.2.2.2.2.2.2.2.2.2.2.2.2.2.2.1, z.2.2.2.2.2.2.2.2.2.2.2.2.2.2.2.2.2.2.2.2.2.2.1, z.2.2.2.2.2.2.2.2.2.2.2.2.2.2.2.2.2.2.2.2.2.2.2.1, z.2.2.2.2.2.2.2.2.2.2.2.2.2.2.2.2.2.2.2.2.2.2.2.2.1, z.2.2.2.2.2.2.2.2.2.2.2.2.2.2.2.2.2.2.2.2.2.2.2.2.2.1, z.2.2.2.2.2.2.2.2.2.2.2.2.2.2.2.2.2.2.2.2.2.2.2.2.2.2.1, z.2.2.2.2.2.2.2.2.2.2.2.2.2.2.2.2.2.2.2.2.2.2.2.2.2.2.2.1, z.2.2.2.2.2.2.2.2.2.2.2.2.2.2.2.2.2.2.2.2.2.2.2.2.2.2.2.2.1, z.2.2.2.2.2.2.2.2.2.2.2.2.2.2.2.2.2.2.2.2.2.2.2.2.2.2.2.2.2.1, z.2.2.2.2.2.2.2.2.2.2.2.2.2.2.2.2.2.2.2.2.2.2.2.2.2.2.2.2.2.2.1, z.2.2.2.2.2.2.2.2.2.2.2.2.2.2.2.2.2.2.2.2.2.2.2.2.2.2.2.2.2.2.2.1, z.2.2.2.2.2.2.2.2.2.2.2.2.2.2.2.2.2.2.2.2.2.2.2.2.2.2.2.2.2.2.2.2.1, z.2.2.2.2.2.2.2.2.2.2.2.2.2.2.2.2.2.2.2.2.2.2.2.2.2.2.2.2.2.2.2.2.2.1, z.2.2.2.2.2.2.2.2.2.2.2.2.2.2.2.2.2.2.2.2.2.2.2.2.2.2.2.2.2.2.2.2.2.2.1, z.2.2.2.2.2.2.2.2.2.2.2.2.2.2.2.2.2.2.2.2.2.2.2.2.2.2.2.2.2.2.2.2.2.2.2.1, z.2.2.2.2.2.2.2.2.2.2.2.2.2.2.2.2.2.2.2.2.2.2.2.2.2.2.2.2.2.2.2.2.2.2.2.2.1, z.2.2.2.2.2.2.2.2.2.2.2.2.2.2.2.2.2.2.2.2.2.2.2.2.2.2.2.2.2.2.2.2.2.2.2.2.2.1, z.2.2.2.2.2.2.2.2.2.2.2.2.2.2.2.2.2.2.2.2.2.2.2.2.2.2.2.2.2.2.2.2.2.2.2.2.2.2.1, z.2.2.2.2.2.2.2.2.2.2.2.2.2.2.2.2.2.2.2.2.2.2.2.2.2.2.2.2.2.2.2.2.2.2.2.2.2.2.2.1, z.2.2.2.2.2.2.2.2.2.2.2.2.2.2.2.2.2.2.2.2.2.2.2.2.2.2.2.2.2.2.2.2.2.2.2.2.2.2.2.2.1, IntKind.i64.wrap ((IntKind.i64.wrap ((IntKind.i64.wrap ((IntKind.i64.wrap ((IntKind.i64.wrap ((IntKind.i64.wrap ((IntKind.i64.wrap (y8.2 + (1 : Int))) + (1 : Int))) + (1 : Int))) + (1 : Int))) + (1 : Int))) + (1 : Int))) + (1 : Int)), z.2.2.2.2.2.2.2.2.2.2.2.2.2.2.2.2.2.2.2.2.2.2.2.2.2.2.2.2.2.2.2.2.2.2.2.2.2.2.2.2.2.2))
noncomputable abbrev laws_markForkS.w42 (v4_0 : Int) (v4_1 : Int) (v4_2 : List TFork) (y1 : TKeys) (y2 : TKeys) (y3 : TKeys) (y4 : List TSig × Int) (y5 : TKeys) (y6 : TKeys) (y7 : TKeys) (y8 : List TSig × Int) (y9 : TKeys) : List TFork :=
  V.upd (laws_markForkS.w41 v4_0 v4_1 v4_2 y1 y2 y3 y4 y5 y6 y7 y8) v4_1.toNat (fun z => (z.1, z.2.1, z.2.2.1, z.2.2.2.1, z.2.2.2.2.1, z.2.2.2.2.2.1, z.2.2.2.2.2.2.1, z.2.2.2.2.2.2.2.1, z.2.2.2.2.2.2.2.2.1, z.2.2.2.2.2.2.2.2.2.1, z.2.2.2.2.2.2.2.2.2.2.1, z.2.2.2.2.2.2.2.2.2.2.2.1, z.2.2.2.2.2.2.2.2.2.2.2.2.1, z.2.2.2.2.2.2.2.2.2.2.2.2.2.1, z.2.2.2.2.2.2.2.2.2.2.2.2.2.2.1, z.2.2.2.2.2.2.2.2.2.2.2.2.2.2.2.1, z.2.2.2.2.2.2.2.2.2.2.2.2.2.2.2.2.1, z.2.2.2.2.2.2.2.2.2.2.2.2.2.2.2.2.2.1, z.2.2.2.2.2.2.2.2.2.2.2.2.2.2.2.2.2.2.1, z.2.2.2.2.2.2.2.2.2.2.2.2.2.2.2.2.2.2.2.1, z.2.2.2.2.2.2.2.2.2.2.2.2.2.2.2.2.2.2.2.2.1, z.2.2.2.2.2.2.2.2.2.2.2.2.2.2.2.2.2.2.2.2.2.1, z.2.2.2.2.2.2.2.2.2.2.2.2.2.2.2.2.2.2.2.2.2.2.1, z.2.2.2.2.2.2.2.2.2.2.2.2.2.2.2.2.2.2.2.2.2.2.2.1, z.2.2.2.2.2.2.2.2.2.2.2.2.2.2.2.2.2.2.2.2.2.2.2.2.1, z.2.2.2.2.2.2.2.2.2.2.2.2.2.2.2.2.2.2.2.2.2.2.2.2.2.1, z.2.2.2.2.2.2.2.2.2.2.2.2.2.2.2.2.2.2.2.2.2.2.2.2.2.2.1, z.2.2.2.2.2.2.2.2.2.2.2.2.2.2.2.2.2.2.2.2.2.2.2.2.2.2.2.1, z.2.2.2.2.2.2.2.2.2.2.2.2.2.2.2.2.2.2.2.2.2.2.2.2.2.2.2.2.1, z.2.2.2.2.2.2.2.2.2.2.2.2.2.2.2.2.2.2.2.2.2.2.2.2.2.2.2.2.2.1, z.2.2.2.2.2.2.2.2.2.2.2.2.2.2.2.2.2.2.2.2.2.2.2.2.2.2.2.2.2.2.1, z.2.2.2.2.2.2.2.2.2.2.2.2.2.2.2.2.2.2.2.2.2.2.2.2.2.2.2.2.2.2.2.1, z.2.2.2.2.2.2.2.2.2.2.2.2.2.2.2.2.2.2.2.2.2.2.2.2.2.2.2.2.2.2.2.2.1, z.2.2.2.2.2.2.2.2.2.2.2.2.2.2.2.2.2.2.2.2.2.2.2.2.2.2.2.2.2.2.2.2.2.1, z.2.2.2.2.2.2.2.2.2.2.2.2.2.2.2.2.2.2.2.2.2.2.2.2.2.2.2.2.2.2.2.2.2.2.1, z.2.2.2.2.2.2.2.2.2.2.2.2.2.2.2.2.2.2.2.2.2.2.2.2.2.2.2.2.2.2.2.2.2.2.2.1, z.2.2.2.2.2.2.2.2.2.2.2.2.2.2.2.2.2.2.2.2.2.2.2.2.2.2.2.2.2.2.2.2.2.2.2.2.1, z.2.2.2.2.2.2.2.2.2.2.2.2.2.2.2.2.2.2.2.2.2.2.2.2.2.2.2.2.2.2.2.2.2.2.2.2.2.1, z.2.2.2.2.2.2.2.2.2.2.2.2.2.2.2.2.2.2.2.2.2.2.2.2.2.2.2.2.2.2.2.2.2.2.2.2.2.2.1, z.2.2.2.2.2.2.2.2.2.2.2.2.2.2.2.2.2.2.2.2.2.2.2.2.2.2.2.2.2.2.2.2.2.2.2.2.2.2.2.1, z.2.2.2.2.2.2.2.2.2.2.2.2.2.2.2.2.2.2.2.2.2.2.2.2.2.2.2.2.2.2.2.2.2.2.2.2.2.2.2.2.1, z.2.2.2.2.2.2.2.2.2.2.2.2.2.2.2.2.2.2.2.2.2.2.2.2.2.2.2.2.2.2.2.2.2.2.2.2.2.2.2.2.2.1, y9.1, z.2.2.2.2.2.2.2.2.2.2.2.2.2.2.2.2.2.2.2.2.2.2.2.2.2.2.2.2.2.2.2.2.2.2.2.2.2.2.2.2.2.2.2))
noncomputable abbrev laws_markForkS.w43 (v4_0 : Int) (v4_1 : Int) (v4_2 : List TFork) (y1 : TKeys) (y2 : TKeys) (y3 : TKeys) (y4 : List TSig × Int) (y5 : TKeys) (y6 : TKeys) (y7 : TKeys) (y8 : List TSig × Int) (y9 : TKeys) : List TFork :=
  V.upd (laws_markForkS.w42 v4_0 v4_1 v4_2 y1 y2 y3 y4 y5 y6 y7 y8 y9) v4_1.toNat (fun z => (z.1, z.2.1, z.2.2.1, z.2.2.2.1, z.2.2.2.2.1, z.2.2.2.2.2.1, z.2.2.2.2.2.2.1, z.2.2.2.2.2.2.2.1, z.2.2.2.2.2.2.2.2.1, z.2.2.2.2.2.2.2.2.2.1, z.2.2.2.2.2.2.2.2.2.2.1, z.2.2.2.2.2.2.2.2.2.2.2.1, z.2.2.2.2.2.2.2.2.2.2.2.2.1, z.2.2.2.2.2.2.2.2.2.2.2.2.2.1, z.2.2.2.2.2.2.2.2.2.2.2.2.2.2.1, z.2.2.2.2.2.2.2.2.2.2.2.2.2.2.2.1, z.2.2.2.2.2.2.2.2.2.2.2.2.2.2.2.2.1, z.2.2.2.2.2.2.2.2.2.2.2.2.2.2.2.2.2.1, z.2.2.2.2.2.2.2.2.2.2.2.2.2.2.2.2.2.2.1, z.2.2.2.2.2.2.2.2.2.2.2.2.2.2.2.2.2.2.2.1, z.2.2.2.2.2.2.2.2.2.2.2.2.2.2.2.2.2.2.2.2.1, z.2.2.2.2.2.2.2.2.2.2.2.2.2.2.2.2.2.2.2.2.2.1, z.2.2.2.2.2.2.2.2.2.2.2.2.2.2.2.2.2.2.2.2.2.2.1, z.2.2.2.2.2.2.2.2.2.2.2.2.2.2.2.2.2.2.2.2.2.2.2.1, z.2.2.2.2.2.2.2.2.2.2.2.2.2.2.2.2.2.2.2.2.2.2.2.2.1, z.2.2.2.2.2.2.2.2.2.2.2.2.2.2.2.2.2.2.2.2.2.2.2.2.2.1, z.2.2.2.2.2.2.2.2.2.2.2.2.2.2.2.2.2.2.2.2.2.2.2.2.2.2.1, z.2.2.2.2.2.2.2.2.2.2.2.2.2.2.2.2.2.2.2.2.2.2.2.2.2.2.2.1, z.2.2.2.2.2.2.2.2.2.2.2.2.2.2.2.2.2.2.2.2.2.2.2.2.2.2.2.2.1, z.2.2.2.2.2.2.2.2.2.2.2.2.2.2.2.2.2.2.2.2.2.2.2.2.2.2.2.2.2.1, z.2.2.2.2.2.2.2.2.2.2.2.2.2.2.2.2.2.2.2.2.2.2.2.2.2.2.2.2.2.2.1, z.2.2.2.2.2.2.2.2.2.2.2.2.2.2.2.2.2.2.2.2.2.2.2.2.2.2.2.2.2.2.2.1, z.2.2.2.2.2.2.2.2.2.2.2.2.2.2.2.2.2.2.2.2.2.2.2.2.2.2.2.2.2.2.2.2.1, z.2.2.2.2.2.2.2.2.2.2.2.2.2.2.2.2.2.2.2.2.2.2.2.2.2.2.2.2.2.2.2.2.2.1, z.2.2.2.2.2.2.2.2.2.2.2.2.2.2.2.2.2.2.2.2.2.2.2.2.2.2.2.2.2.2.2.2.2.2.1, z.2.2.2.2.2.2.2.2.2.2.2.2.2.2.2.2.2.2.2.2.2.2.2.2.2.2.2.2.2.2.2.2.2.2.2.1, z.2.2.2.2.2.2.2.2.2.2.2.2.2.2.2.2.2.2.2.2.2.2.2.2.2.2.2.2.2.2.2.2.2.2.2.2.1, z.2.2.2.2.2.2.2.2.2.2.2.2.2.2.2.2.2.2.2.2.2.2.2.2.2.2.2.2.2.2.2.2.2.2.2.2.2.1, z.2.2.2.2.2.2.2.2.2.2.2.2.2.2.2.2.2.2.2.2.2.2.2.2.2.2.2.2.2.2.2.2.2.2.2.2.2.2.1, z.2.2.2.2.2.2.2.2.2.2.2.2.2.2.2.2.2.2.2.2.2.2.2.2.2.2.2.2.2.2.2.2.2.2.2.2.2.2.2.1, z.2.2.2.2.2.2.2.2.2.2.2.2.2.2.2.2.2.2.2.2.2.2.2.2.2.2.2.2.2.2.2.2.2.2.2.2.2.2.2.2.1, z.2.2.2.2.2.2.2.2.2.2.2.2.2.2.2.2.2.2.2.2.2.2.2.2.2.2.2.2.2.2.2.2.2.2.2.2.2.2.2.2.2.1, z.2.2.2.2.2.2.2.2.2.2.2.2.2.2.2.2.2.2.2.2.2.2.2.2.2.2.2.2.2.2.2.2.2.2.2.2.2.2.2.2.2.2.1, y9.2, z.2.2.2.2.2.2.2.2.2.2.2.2.2.2.2.2.2.2.2.2.2.2.2.2.2.2.2.2.2.2.2.2.2.2.2.2.2.2.2.2.2.2.2.2))
noncomputable abbrev laws_markForkS.w44 (v4_0 : Int) (v4_1 : Int) (v4_2 : List TFork) (y1 : TKeys) (y2 : TKeys) (y3 : TKeys) (y4 : List TSig × Int) (y5 : TKeys) (y6 : TKeys) (y7 : TKeys) (y8 : List TSig × Int) (y9 : TKeys) (y10 : TKeys) : List TFork :=
  V.upd (laws_markForkS.w43 v4_0 v4_1 v4_2 y1 y2 y3 y4 y5 y6 y7 y8 y9) v4_1.toNat (fun z => (z.1, z.2.1, z.2.2.1, z.2.2.2.1, z.2.2.2.2.1, z.2.2.2.2.2.1, z.2.2.2.2.2.2.1, z.2.2.2.2.2.2.2.1, z.2.2.2.2.2.2.2.2.1, z.2.2.2.2.2.2.2.2.2.1, z.2.2.2.2.2.2.2.2.2.2.1, z.2.2.2.2.2.2.2.2.2.2.2.1, z.2.2.2.2.2.2.2.2.2.2.2.2.1, z.2.2.2.2.2.2.2.2.2.2.2.2.2.1, z.2.2.2.2.2.2.2.2.2.2.2.2.2.2.1, z.2.2.2.2.2.2.2.2.2.2.2.2.2.2.2.1, z.2.2.2.2.2.2.2.2.2.2.2.2.2.2.2.2.1, z.2.2.2.2.2.2.2.2.2.2.2.2.2.2.2.2.2.1, z.2.2.2.2.2.2.2.2.2.2.2.2.2.2.2.2.2.2.1, z.2.2.2.2.2.2.2.2.2.2.2.2.2.2.2.2.2.2.2.1, z.2.2.2.2.2.2.2.2.2.2.2.2.2.2.2.2.2.2.2.2.1, z.2.2.2.2.2.2.2.2.2.2.2.2.2.2.2.2.2.2.2.2.2.1, z.2.2.2.2.2.2.2.2.2.2.2.2.2.2.2.2.2.2.2.2.2.2.1, z.2.2.2.2.2.2.2.2.2.2.2.2.2.2.2.2.2.2.2.2.2.2.2.1, z.2.2.2.2.2.2.2.2.2.2.2.2.2.2.2.2.2.2.2.2.2.2.2.2.1, z.2.2.2.2.2.2.2.2.2.2.2.2.2.2.2.2.2.2.2.2.2.2.2.2.2.1, z.2.2.2.2.2.2.2.2.2.2.2.2.2.2.2.2.2.2.2.2.2.2.2.2.2.2.1, z.2.2.2.2.2.2.2.2.2.2.2.2.2.2.2.2.2.2.2.2.2.2.2.2.2.2.2.1, z.2.2.2.2.2.2.2.2.2.2.2.2.2.2.2.2.2.2.2.2.2.2.2.2.2.2.2.2.1, z.2.2.2.2.2.2.2.2.2.2.2.2.2.2.2.2.2.2.2.2.2.2.2.2.2.2.2.2.2.1, z.2.2.2.2.2.2.2.2.2.2.2.2.2.2.2.2.2.2.2.2.2.2.2.2.2.2.2.2.2.2.1, z.2.2.2.2.2.2.2.2.2.2.2.2.2.2.2.2.2.2.2.2.2.2.2.2.2.2.2.2.2.2.2.1, z.2.2.2.2.2.2.2.2.2.2.2.2.2.2.2.2.2.2.2.2.2.2.2.2.2.2.2.2.2.2.2.2.1, z.2.2.2.2.2.2.2.2.2.2.2.2.2.2.2.2.2.2.2.2.2.2.2.2.2.2.2.2.2.2.2.2.2.1, z.2.2.2.2.2.2.2.2.2.2.2.2.2.2.2.2.2.2.2.2.2.2.2.2.2.2.2.2.2.2.2.2.2.2.1, z.2.2.2.2.2.2.2.2.2.2.2.2.2.2.2.2.2.2.2.2.2.2.2.2.2.2.2.2.2.2.2.2.2.2.2.1, z.2.2.2.2.2.2.2.2.2.2.2.2.2.2.2.2.2.2.2.2.2.2.2.2.2.2.2.2.2.2.2.2.2.2.2.2.1, z.2.2.2.2.2.2.2.2.2.2.2.2.2.2.2.2.2.2.2.2.2.2.2.2.2.2.2.2.2.2.2.2.2.2.2.2.2.1, z.2.2.2.2.2.2.2.2.2.2.2.2.2.2.2.2.2.2.2.2.2.2.2.2.2.2.2.2.2.2.2.2.2.2.2.2.2.2.1, z.2.2.2.2.2.2.2.2.2.2.2.2.2.2.2.2.2.2.2.2.2.2.2.2.2.2.2.2.2.2.2.2.2.2.2.2.2.2.2.1, z.2.2.2.2.2.2.2.2.2.2.2.2.2.2.2.2.2.2.2.2.2.2.2.2.2.2.2.2.2.2.2.2.2.2.2.2.2.2.2.2.1, z.2.2.2.2.2.2.2.2.2.2.2.2.2.2.2.2.2.2.2.2.2.2.2.2.2.2.2.2.2.2.2.2.2.2.2.2.2.2.2.2.2.1, z.2.2.2.2.2.2.2.2.2.2.2.2.2.2.2.2.2.2.2.2.2.2.2.2.2.2.2.2.2.2.2.2.2.2.2.2.2.2.2.2.2.2.1, z.2.2.2.2.2.2.2.2.2.2.2.2.2.2.2.2.2.2.2.2.2.2.2.2.2.2.2.2.2.2.2.2.2.2.2.2.2.2.2.2.2.2.2.1, y10.1, z.2.2.2.2.2.2.2.2.2.2.2.2.2.2.2.2.2.2.2.2.2.2.2.2.2.2.2.2.2.2.2.2.2.2.2.2.2.2.2.2.2.2.2.2.2))
noncomputable abbrev laws_markForkS.w45 (v4_0 : Int) (v4_1 : Int) (v4_2 : List TFork) (y1 : TKeys) (y2 : TKeys) (y3 : TKeys) (y4 : List TSig × Int) (y5 : TKeys) (y6 : TKeys) (y7 : TKeys) (y8 : List TSig × Int) (y9 : TKeys) (y10 : TKeys) : List TFork :=
  V.upd (laws_markForkS.w44 v4_0 v4_1 v4_2 y1 y2 y3 y4 y5 y6 y7 y8 y9 y10) v4_1.toNat (fun z => (z.1, z.2.1, z.2.2.1, z.2.2.2.1, z.2.2.2.2.1, z.2.2.2.2.2.1, z.2.2.2.2.2.2.1, z.2.2.2.2.2.2.2.1, z.2.2.2.2.2.2.2.2.1, z.2.2.2.2.2.2.2.2.2.1, z.2.2.2.2.2.2.2.2.2.2.1, z.2.2.2.2.2.2.2.2.2.2.2.1, z.2.2.2.2.2.2.2.2.2.2.2.2.1, z.2.2.2.2.2.2.2.2.2.2.2.2.2.1, z.2.2.2.2.2.2.2.2.2.2.2.2.2.2.1, z.2.2.2.2.2.2.2.2.2.2.2.2.2.2.2.1, z.2.2.2.2.2.2.2.2.2.2.2.2.2.2.2.2.1, z.2.2.2.2.2.2.2.2.2.2.2.2.2.2.2.2.2.1, z.2.2.2.2.2.2.2.2.2.2.2.2.2.2.2.2.2.2.1, z.2.2.2.2.2.2.2.2.2.2.2.2.2.2.2.2.2.2.2.1, z.2.2.2.2.2.2.2.2.2.2.2.2.2.2.2.2.2.2.2.2.1, z.2.2.2.2.2.2.2.2.2.2.2.2.2.2.2.2.2.2.2.2.2.1, z.2.2.2.2.2.2.2.2.2.2.2.2.2.2.2.2.2.2.2.2.2.2.1, z.2.2.2.2.2.2.2.2.2.2.2.2.2.2.2.2.2.2.2.2.2.2.2.1, z.2.2.2.2.2.2.2.2.2.2.2.2.2.2.2.2.2.2.2.2.2.2.2.2.1, z.2.2.2.2.2.2.2.2.2.2.2.2.2.2.2.2.2.2.2.2.2.2.2.2.2.1, z.2.2.2.2.2.2.2.2.2.2.2.2.2.2.2.2.2.2.2.2.2.2.2.2.2.2.1, z.2.2.2.2.2.2.2.2.2.2.2.2.2.2.2.2.2.2.2.2.2.2.2.2.2.2.2.1, z.2.2.2.2.2.2.2.2.2.2.2.2.2.2.2.2.2.2.2.2.2.2.2.2.2.2.2.2.1, z.2.2.2.2.2.2.2.2.2.2.2.2.2.2.2.2.2.2.2.2.2.2.2.2.2.2.2.2.2.1, z.2.2.2.2.2.2.2.2.2.2.2.2.2.2.2.2.2.2.2.2.2.2.2.2.2.2.2.2.2.2.1, z.2.2.2.2.2.2.2.2.2.2.2.2.2.2.2.2.2.2.2.2.2.2.2.2.2.2.2.2.2.2.2.1, z.2.2.2.2.2.2.2.2.2.2.2.2.2.2.2.2.2.2.2.2.2.2.2.2.2.2.2.2.2.2.2.2.1, z.2.2.2.2.2.2.2.2.2.2.2.2.2.2.2.2.2.2.2.2.2.2.2.2.2.2.2.2.2.2.2.2.2.1, z.2.2.2.2.2.2.2.2.2.2.2.2.2.2.2.2.2.2.2.2.2.2.2.2.2.2.2.2.2.2.2.2.2.2.1, z.2.2.2.2.2.2.2.2.2.2.2.2.2.2.2.2.2.2.2.2.2.2.2.2.2.2.2.2.2.2.2.2.2.2.2.1, z.2.2.2.2.2.2.2.2.2.2.2.2.2.2.2.2.2.2.2.2.2.2.2.2.2.2.2.2.2.2.2.2.2.2.2.2.1, z.2.2.2.2.2.2.2.2.2.2.2.2.2.2.2.2.2.2.2.2.2.2.2.2.2.2.2.2.2.2.2.2.2.2.2.2.2.1, z.2.2.2.2.2.2.2.2.2.2.2.2.2.2.2.2.2.2.2.2.2.2.2.2.2.2.2.2.2.2.2.2.2.2.2.2.2.2.1, z.2.2.2.2.2.2.2.2.2.2.2.2.2.2.2.2.2.2.2.2.2.2.2.2.2.2.2.2.2.2.2.2.2.2.2.2.2.2.2.1, z.2.2.2.2.2.2.2.2.2.2.2.2.2.2.2.2.2.2.2.2.2.2.2.2.2.2.2.2.2.2.2.2.2.2.2.2.2.2.2.2.1, z.2.2.2.2.2.2.2.2.2.2.2.2.2.2.2.2.2.2.2.2.2.2.2.2.2.2.2.2.2.2.2.2.2.2.2.2.2.2.2.2.2.1, z.2.2.2.2.2.2.2.2.2.2.2.2.2.2.2.2.2.2.2.2.2.2.2.2.2.2.2.2.2.2.2.2.2.2.2.2.2.2.2.2.2.2.1, z.2.2.2.2.2.2.2.2.2.2.2.2.2.2.2.2.2.2.2.2.2.2.2.2.2.2.2.2.2.2.2.2.2.2.2.2.2.2.2.2.2.2.2.1, z.2.2.2.2.2.2.2.2.2.2.2.2.2.2.2.2.2.2.2.2.2.2.2.2.2.2.2.2.2.2.2.2.2.2.2.2.2.2.2.2.2.2.2.2.1, y10.2, z.2.2.2.2.2.2.2.2.2.2.2.2.2.2.2.2.2.2.2.2.2.2.2.2.2.2.2.2.2.2.2.2.2.2.2.2.2.2.2.2.2.2.2.2.2.2))
noncomputable abbrev laws_markForkS.w46 (v4_0 : Int) (v4_1 : Int) (v4_2 : List TFork) (y1 : TKeys) (y2 : TKeys) (y3 : TKeys) (y4 : List TSig × Int) (y5 : TKeys) (y6 : TKeys) (y7 : TKeys) (y8 : List TSig × Int) (y9 : TKeys) (y10 : TKeys) : List TFork :=
  V.upd (laws_markForkS.w45 v4_0 v4_1 v4_2 y1 y2 y3 y4 y5 y6 y7 y8 y9 y10) v4_1.toNat (fun z => (z.1, z.2.1, z.2.2.1, z.2.2.2.1, z.2.2.2.2.1, z.2.2.2.2.2.1, z.2.2.2.2.2.2.1, z.2.2.2.2.2.2.2.1, z.2.2.2.2.2.2.2.2.1, z.2.2.2.2.2.2.2.2.2.1, z.2.2.2.2.2.2.2.2.2.2.1, z.2.2.2.2.2.2.2.2.2.2.2.1, z.2.2.2.2.2.2.2.2.2.2.2.2.1, z.2.2.2.2.2.2.2.2.2.2.2.2.2.1, z.2.2.2.2.2.2.2.2.2.2.2.2.2.2.1, z.2.2.2.2.2.2.2.2.2.2.2.2.2.2.2.1, z.2.2.2.2.2.2.2.2.2.2.2.2.2.2.2.2.1, z.2.2.2.2.2.2.2.2.2.2.2.2.2.2.2.2.2.1, z.2.2.2.2.2.2.2.2.2.2.2.2.2.2.2.2.2.2.1, z.2.2.2.2.2.2.2.2.2.2.2.2.2.2.2.2.2.2.2.1, z.2.2.2.2.2.2.2.2.2.2.2.2.2.2.2.2.2.2.2.2.1, z.2.2.2.2.2.2.2.2.2.2.2.2.2.2.2.2.2.2.2.2.2.1, z.2.2.2.2.2.2.2.2.2.2.2.2.2.2.2.2.2.2.2.2.2.2.1, z.2.2.2.2.2.2.2.2.2.2.2.2.2.2.2.2.2.2.2.2.2.2.2.1, z.2.2.2.2.2.2.2.2.2.2.2.2.2.2.2.2.2.2.2.2.2.2.2.2.1, z.2.2.2.2.2.2.2.2.2.2.2.2.2.2.2.2.2.2.2.2.2.2.2.2.2.1, z.2.2.2.2.2.2.2.2.2.2.2.2.2.2.2.2.2.2.2.2.2.2.2.2.2.2.1, z.2.2.2.2.2.2.2.2.2.2.2.2.2.2.2.2.2.2.2.2.2.2.2.2.2.2.2.1, z.2.2.2.2.2.2.2.2.2.2.2.2.2.2.2.2.2.2.2.2.2.2.2.2.2.2.2.2.1, z.2.2.2.2.2.2.2.2.2.2.2.2.2.2.2.2.2.2.2.2.2.2.2.2.2.2.2.2.2.1, z.2.2.2.2.2.2.2.2.2.2.2.2.2.2.2.2.2.2.2.2.2.2.2.2.2.2.2.2.2.2.1, z.2.2.2.2.2.2.2.2.2.2.2.2.2.2.2.2.2.2.2.2.2.2.2.2.2.2.2.2.2.2.2.1, z.2.2.2.2.2.2.2.2.2.2.2.2.2.2.2.2.2.2.2.2.2.2.2.2.2.2.2.2.2.2.2.2.1, z.2.2.2.2.2.2.2.2.2.2.2.2.2.2.2.2.2.2.2.2.2.2.2.2.2.2.2.2.2.2.2.2.2.1, z.2.2.2.2.2.2.2.2.2.2.2.2.2.2.2.2.2.2.2.2.2.2.2.2.2.2.2.2.2.2.2.2.2.2.1, z.2.2.2.2.2.2.2.2.2.2.2.2.2.2.2.2.2.2.2.2.2.2.2.2.2.2.2.2.2.2.2.2.2.2.2.1, z.2.2.2.2.2.2.2.2.2.2.2.2.2.2.2.2.2.2.2.2.2.2.2.2.2.2.2.2.2.2.2.2.2.2.2.2.1, z.2.2.2.2.2.2.2.2.2.2.2.2.2.2.2.2.2.2.2.2.2.2.2.2.2.2.2.2.2.2.2.2.2.2.2.2.2.1, z.2.2.2.2.2.2.2.2.2.2.2.2.2.2.2.2.2.2.2.2.2.2.2.2.2.2.2.2.2.2.2.2.2.2.2.2.2.2.1, z.2.2.2.2.2.2.2.2.2.2.2.2.2.2.2.2.2.2.2.2.2.2.2.2.2.2.2.2.2.2.2.2.2.2.2.2.2.2.2.1, z.2.2.2.2.2.2.2.2.2.2.2.2.2.2.2.2.2.2.2.2.2.2.2.2.2.2.2.2.2.2.2.2.2.2.2.2.2.2.2.2.1, z.2.2.2.2.2.2.2.2.2.2.2.2.2.2.2.2.2.2.2.2.2.2.2.2.2.2.2.2.2.2.2.2.2.2.2.2.2.2.2.2.2.1, z.2.2.2.2.2.2.2.2.2.2.2.2.2.2.2.2.2.2.2.2.2.2.2.2.2.2.2.2.2.2.2.2.2.2.2.2.2.2.2.2.2.2.1, z.2.2.2.2.2.2.2.2.2.2.2.2.2.2.2.2.2.2.2.2.2.2.2.2.2.2.2.2.2.2.2.2.2.2.2.2.2.2.2.2.2.2.2.1, z.2.2.2.2.2.2.2.2.2.2.2.2.2.2.2.2.2.2.2.2.2.2.2.2.2.2.2.2.2.2.2.2.2.2.2.2.2.2.2.2.2.2.2.2.1, z.2.2.2.2.2.2.2.2.2.2.2.2.2.2.2.2.2.2.2.2.2.2.2.2.2.2.2.2.2.2.2.2.2.2.2.2.2.2.2.2.2.2.2.2.2.1, IntKind.i64.wrap (y10.2 + (1 : Int)), z.2.2.2.2.2.2.2.2.2.2.2.2.2.2.2.2.2.2.2.2.2.2.2.2.2.2.2.2.2.2.2.2.2.2.2.2.2.2.2.2.2.2.2.2.2.2.2))
noncomputable abbrev laws_markForkS.w47 (v4_0 : Int) (v4_1 : Int) (v4_2 : List TFork) (y1 : TKeys) (y2 : TKeys) (y3 : TKeys) (y4 : List TSig × Int) (y5 : TKeys) (y6 : TKeys) (y7 : TKeys) (y8 : List TSig × Int) (y9 : TKeys) (y10 : TKeys) (y11 : TKeys) : List TFork :=
  V.upd (laws_markForkS.w46 v4_0 v4_1 v4_2 y1 y2 y3 y4 y5 y6 y7 y8 y9 y10) v4_1.toNat (fun z => (z.1, z.2.1, z.2.2.1, z.2.2.2.1, z.2.2.2.2.1, z.2.2.2.2.2.1, z.2.2.2.2.2.2.1, z.2.2.2.2.2.2.2.1, z.2.2.2.2.2.2.2.2.1, z.2.2.2.2.2.2.2.2.2.1, z.2.2.2.2.2.2.2.2.2.2.1, z.2.2.2.2.2.2.2.2.2.2.2.1, z.2.2.2.2.2.2.2.2.2.2.2.2.1, z.2.2.2.2.2.2.2.2.2.2.2.2.2.1, z.2.2.2.2.2.2.2.2.2.2.2.2.2.2.1, z.2.2.2.2.2.2.2.2.2.2.2.2.2.2.2.1, z.2.2.2.2.2.2.2.2.2.2.2.2.2.2.2.2.1, z.2.2.2.2.2.2.2.2.2.2.2.2.2.2.2.2.2.1, z.2.2.2.2.2.2.2.2.2.2.2.2.2.2.2.2.2.2.1, z.2.2.2.2.2.2.2.2.2.2.2.2.2.2.2.2.2.2.2.1, z.2.2.2.2.2.2.2.2.2.2.2.2.2.2.2.2.2.2.2.2.1, z.2.2.2.2.2.2.2.2.2.2.2.2.2.2.2.2.2.2.2.2.2.1, z.2.2.2.2.2.2.2.2.2.2.2.2.2.2.2.2.2.2.2.2.2.2.1, z.2.2.2.2.2.2.2.2.2.2.2.2.2.2.2.2.2.2.2.2.2.2.2.1, z.2.2.2.2.2.2.2.2.2.2.2.2.2.2.2.2.2.2.2.2.2.2.2.2.1, z.2.2.2.2.2.2.2.2.2.2.2.2.2.2.2.2.2.2.2.2.2.2.2.2.2.1, z.2.2.2.2.2.2.2.2.2.2.2.2.2.2.2.2.2.2.2.2.2.2.2.2.2.2.1, z.2.2.2.2.2.2.2.2.2.2.2.2.2.2.2.2.2.2.2.2.2.2.2.2.2.2.2.1, z.2.2.2.2.2.2.2.2.2.2.2.2.2.2.2.2.2.2.2.2.2.2.2.2.2.2.2.2.1, z.2.2.2.2.2.2.2.2.2.2.2.2.2.2.2.2.2.2.2.2.2.2.2.2.2.2.2.2.2.1, z.2.2.2.2.2.2.2.2.2.2.2.2.2.2.2.2.2.2.2.2.2.2.2.2.2.2.2.2.2.2.1, z.2.2.2.2.2.2.2.2.2.2.2.2.2.2.2.2.2.2.2.2.2.2.2.2.2.2.2.2.2.2.2.1, z.2.2.2.2.2.2.2.2.2.2.2.2.2.2.2.2.2.2.2.2.2.2.2.2.2.2.2.2.2.2.2.2.1, z.2.2.2.2.2.2.2.2.2.2.2.2.2.2.2.2.2.2.2.2.2.2.2.2.2.2.2.2.2.2.2.2.2.1, z.2.2.2.2.2.2.2.2.2.2.2.2.2.2.2.2.2.2.2.2.2.2.2.2.2.2.2.2.2.2.2.2.2.2.1, z.2.2.2.2.2.2.2.2.2.2.2.2.2.2.2.2.2.2.2.2.2.2.2.2.2.2.2.2.2.2.2.2.2.2.2.1, z.2.2.2.2.2.2.2.2.2.2.2.2.2.2.2.2.2.2.2.2.2.2.2.2.2.2.2.2.2.2.2.2.2.2.2.2.1, z.2.2.2.2.2.2.2.2.2.2.2.2.2.2.2.2.2.2.2.2.2.2.2.2.2.2.2.2.2.2.2.2.2.2.2.2.2.1, z.2.2.2.2.2.2.2.2.2.2.2.2.2.2.2.2.2.2.2.2.2.2.2.2.2.2.2.2.2.2.2.2.2.2.2.2.2.2.1, z.2.2.2.2.2.2.2.2.2.2.2.2.2.2.2.2.2.2.2.2.2.2.2.2.2.2.2.2.2.2.2.2.2.2.2.2.2.2.2.1, z.2.2.2.2.2.2.2.2.2.2.2.2.2.2.2.2.2.2.2.2.2.2.2.2.2.2.2.2.2.2.2.2.2.2.2.2.2.2.2.2.1, z.2.2.2.2.2.2.2.2.2.2.2.2.2.2.2.2.2.2.2.2.2.2.2.2.2.2.2.2.2.2.2.2.2.2.2.2.2.2.2.2.2.1, z.2.2.2.2.2.2.2.2.2.2.2.2.2.2.2.2.2.2.2.2.2.2.2.2.2.2.2.2.2.2.2.2.2.2.2.2.2.2.2.2.2.2.1, z.2.2.2.2.2.2.2.2.2.2.2.2.2.2.2.2.2.2.2.2.2.2.2.2.2.2.2.2.2.2.2.2.2.2.2.2.2.2.2.2.2.2.2.1, z.2.2.2.2.2.2.2.2.2.2.2.2.2.2.2.2.2.2.2.2.2.2.2.2.2.2.2.2.2.2.2.2.2.2.2.2.2.2.2.2.2.2.2.2.1, z.2.2.2.2.2.2.2.2.2.2.2.2.2.2.2.2.2.2.2.2.2.2.2.2.2.2.2.2.2.2.2.2.2.2.2.2.2.2.2.2.2.2.2.2.2.1, z.2.2.2.2.2.2.2.2.2.2.2.2.2.2.2.2.2.2.2.2.2.2.2.2.2.2.2.2.2.2.2.2.2.2.2.2.2.2.2.2.2.2.2.2.2.2.1, y11.1, z.2.2.2.2.2.2.2.2.2.2.2.2.2.2.2.2.2.2.2.2.2.2.2.2.2.2.2.2.2.2.2.2.2.2.2.2.2.2.2.2.2.2.2.2.2.2.2.2))
noncomputable abbrev laws_markForkS.w48 (v4_0 : Int) (v4_1 : Int) (v4_2 : List TFork) (y1 : TKeys) (y2 : TKeys) (y3 : TKeys) (y4 : List TSig × Int) (y5 : TKeys) (y6 : TKeys) (y7 : TKeys) (y8 : List TSig × Int) (y9 : TKeys) (y10 : TKeys) (y11 : TKeys) : List TFork :=
  V.upd (laws_markForkS.w47 v4_0 v4_1 v4_2 y1 y2 y3 y4 y5 y6 y7 y8 y9 y10 y11) v4_1.toNat (fun z => (z.1, z.2.1, z.2.2.1, z.2.2.2.1, z.2.2.2.2.1, z.2.2.2.2.2.1, z.2.2.2.2.2.2.1, z.2.2.2.2.2.2.2.1, z.2.2.2.2.2.2.2.2.1, z.2.2.2.2.2.2.2.2.2.1, z.2.2.2.2.2.2.2.2.2.2.1, z.2.2.2.2.2.2.2.2.2.2.2.1, z.2.2.2.2.2.2.2.2.2.2.2.2.1, z.2.2.2.2.2.2.2.2.2.2.2.2.2.1, z.2.2.2.2.2.2.2.2.2.2.2.2.2.2.1, z.2.2.2.2.2.2.2.2.2.2.2.2.2.2.2.1, z.2.2.2.2.2.2.2.2.2.2.2.2.2.2.2.2.1, z.2.2.2.2.2.2.2.2.2.2.2.2.2.2.2.2.2.1, z.2.2.2.2.2.2.2.2.2.2.2.2.2.2.2.2.2.2.1, z.2.2.2.2.2.2.2.2.2.2.2.2.2.2.2.2.2.2.2.1, z.2.2.2.2.2.2.2.2.2.2.2.2.2.2.2.2.2.2.2.2.1, z.2.2.2.2.2.2.2.2.2.2.2.2.2.2.2.2.2.2.2.2.2.1, z.2.2.2.2.2.2.2.2.2.2.2.2.2.2.2.2.2.2.2.2.2.2.1, z.2.2.2.2.2.2.2.2.2.2.2.2.2.2.2.2.2.2.2.2.2.2.2.1, z.2.2.2.2.2.2.2.2.2.2.2.2.2.2.2.2.2.2.2.2.2.2.2.2.1, z.2.2.2.2.2.2.2.2.2.2.2.2.2.2.2.2.2.2.2.2.2.2.2.2.2.1, z.2.2.2.2.2.2.2.2.2.2.2.2.2.2.2.2.2.2.2.2.2.2.2.2.2.2.1, z.2.2.2.2.2.2.2.2.2.2.2.2.2.2.2.2.2.2.2.2.2.2.2.2.2.2.2.1, z.2.2.2.2.2.2.2.2.2.2.2.2.2.2.2.2.2.2.2.2.2.2.2.2.2.2.2.2.1, z.2.2.2.2.2.2.2.2.2.2.2.2.2.2.2.2.2.2.2.2.2.2.2.2.2.2.2.2.2.1, z.2.2.2.2.2.2.2.2.2.2.2.2.2.2.2.2.2.2.2.2.2.2.2.2.2.2.2.2.2.2.1, z.2.2.2.2.2.2.2.2.2.2.2.2.2.2.2.2.2.2.2.2.2.2.2.2.2.2.2.2.2.2.2.1, z.2.2.2.2.2.2.2.2.2.2.2.2.2.2.2.2.2.2.2.2.2.2.2.2.2.2.2.2.2.2.2.2.1, z.2.2.2.2.2.2.2.2.2.2.2.2.2.2.2.2.2.2.2.2.2.2.2.2.2.2.2.2.2.2.2.2.2.1, z.2.2.2.2.2.2.2.2.2.2.2.2.2.2.2.2.2.2.2.2.2.2.2.2.2.2.2.2.2.2.2.2.2.2.1, z.2.2.2.2.2.2.2.2.2.2.2.2.2.2.2.2.2.2.2.2.2.2.2.2.2.2.2.2.2.2.2.2.2.2.2.1, z.2.2.2.2.2.2.2.2.2.2.2.2.2.2.2.2.2.2.2.2.2.2.2.2.2.2.2.2.2.2.2.2.2.2.2.2.1, z.2.2.2.2.2.2.2.2.2.2.2.2.2.2.2.2.2.2.2.2.2.2.2.2.2.2.2.2.2.2.2.2.2.2.2.2.2.1, z.2.2.2.2.2.2.2.2.2.2.2.2.2.2.2.2.2.2.2.2.2.2.2.2.2.2.2.2.2.2.2.2.2.2.2.2.2.2.1, z.2.2.2.2.2.2.2.2.2.2.2.2.2.2.2.2.2.2.2.2.2.2.2.2.2.2.2.2.2.2.2.2.2.2.2.2.2.2.2.1, z.2.2.2.2.2.2.2.2.2.2.2.2.2.2.2.2.2.2.2.2.2.2.2.2.2.2.2.2.2.2.2.2.2.2.2.2.2.2.2.2.1, z.2.2.2.2.2.2.2.2.2.2.2.2.2.2.2.2.2.2.2.2.2.2.2.2.2.2.2.2.2.2.2.2.2.2.2.2.2.2.2.2.2.1, z.2.2.2.2.2.2.2.2.2.2.2.2.2.2.2.2.2.2.2.2.2.2.2.2.2.2.2.2.2.2.2.2.2.2.2.2.2.2.2.2.2.2.1, z.2.2.2.2.2.2.2.2.2.2.2.2.2.2.2.2.2.2.2.2.2.2.2.2.2.2.2.2.2.2.2.2.2.2.2.2.2.2.2.2.2.2.2.1, z.2.2.2.2.2.2.2.2.2.2.2.2.2.2.2.2.2.2.2.2.2.2.2.2.2.2.2.2.2.2.2.2.2.2.2.2.2.2.2.2.2.2.2.2.1, z.2.2.2.2.2.2.2.2.2.2.2.2.2.2.2.2.2.2.2.2.2.2.2.2.2.2.2.2.2.2.2.2.2.2.2.2.2.2.2.2.2.2.2.2.2.1, z.2.2.2.2.2.2.2.2.2.2.2.2.2.2.2.2.2.2.2.2.2.2.2.2.2.2.2.2.2.2.2.2.2.2.2.2.2.2.2.2.2.2.2.2.2.2.1, z.2.2.2.2.2.2.2.2.2.2.2.2.2.2.2.2.2.2.2.2.2.2.2.2.2.2.2.2.2.2.2.2.2.2.2.2.2.2.2.2.2.2.2.2.2.2.2.1, y11.2, z.2.2.2.2.2.2.2.2.2.2.2.2.2.2.2.2.2.2.2.2.2.2.2.2.2.2.2.2.2.2.2.2.2.2.2.2.2.2.2.2.2.2.2.2.2.2.2.2.2))
noncomputable abbrev laws_markForkS.w49 (v4_0 : Int) (v4_1 : Int) (v4_2 : List TFork) (y1 : TKeys) (y2 : TKeys) (y3 : TKeys) (y4 : List TSig × Int) (y5 : TKeys) (y6 : TKeys) (y7 : TKeys) (y8 : List TSig × Int) (y9 : TKeys) (y10 : TKeys) (y11 : TKeys) : List TFork :=
  V.upd (laws_markForkS.w48 v4_0 v4_1 v4_2 y1 y2 y3 y4 y5 y6 y7 y8 y9 y10 y11) v4_1.toNat (fun z => (z.1, z.2.1, z.2.2.1, z.2.2.2.1, z.2.2.2.2.1, z.2.2.2.2.2.1, z.2.2.2.2.2.2.1, z.2.2.2.2.2.2.2.1, z.2.2.2.2.2.2.2.2.1, z.2.2.2.2.2.2.2.2.2.1, z.2.2.2.2.2.2.2.2.2.2.1, z.2.2.2.2.2.2.2.2.2.2.2.1, z.2.2.2.2.2.2.2.2.2.2.2.2.1, z.2.2.2.2.2.2.2.2.2.2.2.2.2.1, z.2.2.2.2.2.2.2.2.2.2.2.2.2.2.1, z.2.2.2.2.2.2.2.2.2.2.2.2.2.2.2.1, z.2.2.2.2.2.2.2.2.2.2.2.2.2.2.2.2.1, z.2.2.2.2.2.2.2.2.2.2.2.2.2.2.2.2.2.1, z.2.2.2.2.2.2.2.2.2.2.2.2.2.2.2.2.2.2.1, z.2.2.2.2.2.2.2.2.2.2.2.2.2.2.2.2.2.2.2.1, z.2.2.2.2.2.2.2.2.2.2.2.2.2.2.2.2.2.2.2.2.1, z.2.2.2.2.2.2.2.2.2.2.2.2.2.2.2.2.2.2.2.2.2.1, z.2.2.2.2.2.2.2.2.2.2.2.2.2.2.2.2.2.2.2.2.2.2.1, z.2.2.2.2.2.2.2.2.2.2.2.2.2.2.2.2.2.2.2.2.2.2.2.1, z.2.2.2.2.2.2.2.2.2.2.2.2.2.2.2.2.2.2.2.2.2.2.2.2.1, z.2.2.2.2.2.2.2.2.2.2.2.2.2.2.2.2.2.2.2.2.2.2.2.2.2.1, z.2.2.2.2.2.2.2.2.2.2.2.2.2.2.2.2.2.2.2.2.2.2.2.2.2.2.1, z.2.2.2.2.2.2.2.2.2.2.2.2.2.2.2.2.2.2.2.2.2.2.2.2.2.2.2.1, z.2.2.2.2.2.2.2.2.2.2.2.2.2.2.2.2.2.2.2.2.2.2.2.2.2.2.2.2.1, z.2.2.2.2.2.2.2.2.2.2.2.2.2.2.2.2.2.2.2.2.2.2.2.2.2.2.2.2.2.1, z.2.2.2.2.2.2.2.2.2.2.2.2.2.2.2.2.2.2.2.2.2.2.2.2.2.2.2.2.2.2.1, z.2.2.2.2.2.2.2.2.2.2.2.2.2.2.2.2.2.2.2.2.2.2.2.2.2.2.2.2.2.2.2.1, z.2.2.2.2.2.2.2.2.2.2.2.2.2.2.2.2.2.2.2.2.2.2.2.2.2.2.2.2.2.2.2.2.1, z.2.2.2.2.2.2.2.2.2.2.2.2.2.2.2.2.2.2.2.2.2.2.2.2.2.2.2.2.2.2.2.2.2.1, z.2.2.2.2.2.2.2.2.2.2.2.2.2.2.2.2.2.2.2.2.2.2.2.2.2.2.2.2.2.2.2.2.2.2.1, z.2.2.2.2.2.2.2.2.2.2.2.2.2.2.2.2.2.2.2.2.2.2.2.2.2.2.2.2.2.2.2.2.2.2.2.1, z.2.2.2.2.2.2.2.2.2.2.2.2.2.2.2.2.2.2.2.2.2.2.2.2.2.2.2.2.2.2.2.2.2.2.2.2.1, z.2.2.2.2.2.2.2.2.2.2.2.2.2.2.2.2.2.2.2.2.2.2.2.2.2.2.2.2.2.2.2.2.2.2.2.2.2.1, z.2.2.2.2.2.2.2.2.2.2.2.2.2.2.2.2.2.2.2.2.2.2.2.2.2.2.2.2.2.2.2.2.2.2.2.2.2.2.1, z.2.2.2.2.2.2.2.2.2.2.2.2.2.2.2.2.2.2.2.2.2.2.2.2.2.2.2.2.2.2.2.2.2.2.2.2.2.2.2.1, z.2.2.2.2.2.2.2.2.2.2.2.2.2.2.2.2.2.2.2.2.2.2.2.2.2.2.2.2.2.2.2.2.2.2.2.2.2.2.2.2.1, z.2.2.2.2.2.2.2.2.2.2.2.2.2.2.2.2.2.2.2.2.2.2.2.2.2.2.2.2.2.2.2.2.2.2.2.2.2.2.2.2.2.1, z.2.2.2.2.2.2.2.2.2.2.2.2.2.2.2.2.2.2.2.2.2.2.2.2.2.2.2.2.2.2.2.2.2.2.2.2.2.2.2.2.2.2.1, z.2.2.2.2.2.2.2.2.2.2.2.2.2.2.2.2.2.2.2.2.2.2.2.2.2.2.2.2.2.2.2.2.2.2.2.2.2.2.2.2.2.2.2.1, z.2.2.2.2.2.2.2.2.2.2.2.2.2.2.2.2.2.2.2.2.2.2.2.2.2.2.2.2.2.2.2.2.2.2.2.2.2.2.2.2.2.2.2.2.1, z.2.2.2.2.2.2.2.2.2.2.2.2.2.2.2.2.2.2.2.2.2.2.2.2.2.2.2.2.2.2.2.2.2.2.2.2.2.2.2.2.2.2.2.2.2.1, z.2.2.2.2.2.2.2.2.2.2.2.2.2.2.2.2.2.2.2.2.2.2.2.2.2.2.2.2.2.2.2.2.2.2.2.2.2.2.2.2.2.2.2.2.2.2.1, z.2.2.2.2.2.2.2.2.2.2.2.2.2.2.2.2.2.2.2.2.2.2.2.2.2.2.2.2.2.2.2.2.2.2.2.2.2.2.2.2.2.2.2.2.2.2.2.1, z.2.2.2.2.2.2.2.2.2.2.2.2.2.2.2.2.2.2.2.2.2.2.2.2.2.2.2.2.2.2.2.2.2.2.2.2.2.2.2.2.2.2.2.2.2.2.2.2.1, (Int.tmod (IntKind.i64.wrap (y11.2 + (1 : Int))) (3 : Int)) == (0 : Int), z.2.2.2.2.2.2.2.2.2.2.2.2.2.2.2.2.2.2.2.2.2.2.2.2.2.2.2.2.2.2.2.2.2.2.2.2.2.2.2.2.2.2.2.2.2.2.2.2.2.2))
noncomputable abbrev laws_markForkS.w50 (v4_0 : Int) (v4_1 : Int) (v4_2 : List TFork) (y1 : TKeys) (y2 : TKeys) (y3 : TKeys) (y4 : List TSig × Int) (y5 : TKeys) (y6 : TKeys) (y7 : TKeys) (y8 : List TSig × Int) (y9 : TKeys) (y10 : TKeys) (y11 : TKeys) (y12 : List TSig × Int) : List TFork :=
  V.upd (laws_markForkS.w49 v4_0 v4_1 v4_2 y1 y2 y3 y4 y5 y6 y7 y8 y9 y10 y11) v4_1.toNat (fun z => (z.1, z.2.1, z.2.2.1, z.2.2.2.1, z.2.2.2.2.1, z.2.2.2.2.2.1, z.2.2.2.2.2.2.1, z.2.2.2.2.2.2.2.1, z.2.2.2.2.2.2.2.2.1, z.2.2.2.2.2.2.2.2.2.1, z.2.2.2.2.2.2.2.2.2.2.1, z.2.2.2.2.2.2.2.2.2.2.2.1, z.2.2.2.2.2.2.2.2.2.2.2.2.1, z.2.2.2.2.2.2.2.2.2.2.2.2.2.1, z.2.2.2.2.2.2.2.2.2.2.2.2.2.2.1, z.2.2.2.2.2.2.2.2.2.2.2.2.2.2.2.1, z.2.2.2.2.2.2.2.2.2.2.2.2.2.2.2.2.1, z.2.2.2.2.2.2.2.2.2.2.2.2.2.2.2.2.2.1, z.2.2.2.2.2.2.2.2.2.2.2.2.2.2.2.2.2.2.1, z.2.2.2.2.2.2.2.2.2.2.2.2.2.2.2.2.2.2.2.1, z.2.2.2.2.2.2.2.2.2.2.2.2.2.2.2.2.2.2.2.2.1, z.2.2.2.2.2.2.2.2.2.2.2.2.2.2.2.2.2.2.2.2.2.1, z.2.2.2.2.2.2.2.2.2.2.2.2.2.2.2.2.2.2.2.2.2.2.1, z.2.2.2.2.2.2.2.2.2.2.2.2.2.2.2.2.2.2.2.2.2.2.2.1, z.2.2.2.2.2.2.2.2.2.2.2.2.2.2.2.2.2.2.2.2.2.2.2.2.1, z.2.2.2.2.2.2.2.2.2.2.2.2.2.2.2.2.2.2.2.2.2.2.2.2.2.1, z.2.2.2.2.2.2.2.2.2.2.2.2.2.2.2.2.2.2.2.2.2.2.2.2.2.2.1, z.2.2.2.2.2.2.2.2.2.2.2.2.2.2.2.2.2.2.2.2.2.2.2.2.2.2.2.1, z.2.2.2.2.2.2.2.2.2.2.2.2.2.2.2.2.2.2.2.2.2.2.2.2.2.2.2.2.1, z.2.2.2.2.2.2.2.2.2.2.2.2.2.2.2.2.2.2.2.2.2.2.2.2.2.2.2.2.2.1, z.2.2.2.2.2.2.2.2.2.2.2.2.2.2.2.2.2.2.2.2.2.2.2.2.2.2.2.2.2.2.1, z.2.2.2.2.2.2.2.2.2.2.2.2.2.2.2.2.2.2.2.2.2.2.2.2.2.2.2.2.2.2.2.1, z.2.2.2.2.2.2.2.2.2.2.2.2.2.2.2.2.2.2.2.2.2.2.2.2.2.2.2.2.2.2.2.2.1, z.2.2.2.2.2.2.2.2.2.2.2.2.2.2.2.2.2.2.2.2.2.2.2.2.2.2.2.2.2.2.2.2.2.1, z.2.2.2.2.2.2.2.2.2.2.2.2.2.2.2.2.2.2.2.2.2.2.2.2.2.2.2.2.2.2.2.2.2.2.1, z.2.2.2.2.2.2.2.2.2.2.2.2.2.2.2.2.2.2.2.2.2.2.2.2.2.2.2.2.2.2.2.2.2.2.2.1, z.2.2.2.2.2.2.2.2.2.2.2.2.2.2.2.2.2.2.2.2.2.2.2.2.2.2.2.2.2.2.2.2.2.2.2.2.1, z.2.2.2.2.2.2.2.2.2.2.2.2.2.2.2.2.2.2.2.2.2.2.2.2.2.2.2.2.2.2.2.2.2.2.2.2.2.1, z.2.2.2.2.2.2.2.2.2.2.2.2.2.2.2.2.2.2.2.2.2.2.2.2.2.2.2.2.2.2.2.2.2.2.2.2.2.2.1, z.2.2.2.2.2.2.2.2.2.2.2.2.2.2.2.2.2.2.2.2.2.2.2.2.2.2.2.2.2.2.2.2.2.2.2.2.2.2.2.1, z.2.2.2.2.2.2.2.2.2.2.2.2.2.2.2.2.2.2.2.2.2.2.2.2.2.2.2.2.2.2.2.2.2.2.2.2.2.2.2.2.1, z.2.2.2.2.2.2.2.2.2.2.2.2.2.2.2.2.2.2.2.2.2.2.2.2.2.2.2.2.2.2.2.2.2.2.2.2.2.2.2.2.2.1, z.2.2.2.2.2.2.2.2.2.2.2.2.2.2.2.2.2.2.2.2.2.2.2.2.2.2.2.2.2.2.2.2.2.2.2.2.2.2.2.2.2.2.1, z.2.2.2.2.2.2.2.2.2.2.2.2.2.2.2.2.2.2.2.2.2.2.2.2.2.2.2.2.2.2.2.2.2.2.2.2.2.2.2.2.2.2.2.1, z.2.2.2.2.2.2.2.2.2.2.2.2.2.2.2.2.2.2.2.2.2.2.2.2.2.2.2.2.2.2.2.2.2.2.2.2.2.2.2.2.2.2.2.2.1, z.2.2.2.2.2.2.2.2.2.2.2.2.2.2.2.2.2.2.2.2.2.2.2.2.2.2.2.2.2.2.2.2.2.2.2.2.2.2.2.2.2.2.2.2.2.1, z.2.2.2.2.2.2.2.2.2.2.2.2.2.2.2.2.2.2.2.2.2.2.2.2.2.2.2.2.2.2.2.2.2.2.2.2.2.2.2.2.2.2.2.2.2.2.1, z.2.2.2.2.2.2.2.2.2.2.2.2.2.2.2.2.2.2.2.2.2.2.2.2.2.2.2.2.2.2.2.2.2.2.2.2.2.2.2.2.2.2.2.2.2.2.2.1, z.2.2.2.2.2.2.2.2.2.2.2.2.2.2.2.2.2.2.2.2.2.2.2.2.2.2.2.2.2.2.2.2.2.2.2.2.2.2.2.2.2.2.2.2.2.2.2.2.1, z.2.2.2.2.2.2.2.2.2.2.2.2.2.2.2.2.2.2.2.2.2.2.2.2.2.2.2.2.2.2.2.2.2.2.2.2.2.2.2.2.2.2.2.2.2.2.2.2.2.1, y12.1))
noncomputable abbrev laws_markForkS.g4 (r4 : Int → Int → (List TFork) → Option (List TFork × Int)) (v4_0 : Int) (v4_1 : Int) (v4_2 : List TFork) : Option (List TFork × Int) :=
  bif decide (v4_1 < (v4_2.length : Int)) then
  bif decide (0 ≤ v4_1) then
    bif decide (v4_1 < (v4_2.length : Int)) then
      bif decide (0 ≤ v4_1) then
        bif decide (v4_1 < (((V.upd v4_2 v4_1.toNat (fun z => (v4_0, z.2))).length) : Int)) then
          bif decide (0 ≤ v4_1) then
            bif decide (v4_1 < (((laws_markForkS.w1 v4_0 v4_1 v4_2).length) : Int)) then
              bif decide (0 ≤ v4_1) then
                bif decide (v4_1 < (((laws_markForkS.w2 v4_0 v4_1 v4_2).length) : Int)) then
                  bif decide (0 ≤ v4_1) then
                    bif decide (v4_1 < (((laws_markForkS.w3 v4_0 v4_1 v4_2).length) : Int)) then
                      bif decide (0 ≤ v4_1) then
                        bif decide (v4_1 < (((laws_markForkS.w4 v4_0 v4_1 v4_2).length) : Int)) then
                          bif decide (0 ≤ v4_1) then
                            bif decide (v4_1 < (((laws_markForkS.w5 v4_0 v4_1 v4_2).length) : Int)) then
                              bif decide (0 ≤ v4_1) then
                                bif decide (v4_1 < (((laws_markForkS.w6 v4_0 v4_1 v4_2).length) : Int)) then
                                  bif decide (0 ≤ v4_1) then
                                    bif decide (v4_1 < (((laws_markForkS.w7 v4_0 v4_1 v4_2).length) : Int)) then
                                      (laws_markIntS (Head_Keys (Signed_Head (Fork_Before ((laws_markForkS.w7 v4_0 v4_1 v4_2).getD v4_1.toNat dFork)))).1 (IntKind.i64.wrap ((IntKind.i64.wrap ((IntKind.i64.wrap ((IntKind.i64.wrap ((IntKind.i64.wrap ((IntKind.i64.wrap ((IntKind.i64.wrap ((IntKind.i64.wrap (v4_0 + (1 : Int))) + (1 : Int))) + (1 : Int))) + (1 : Int))) + (1 : Int))) + (1 : Int))) + (1 : Int))) + (1 : Int)))).bind fun y1 =>
                                        bif decide (0 ≤ v4_1) then
                                          bif decide (v4_1 < (((laws_markForkS.w8 v4_0 v4_1 v4_2 y1).length) : Int)) then
                                            bif decide (0 ≤ v4_1) then
                                              bif decide (v4_1 < (((laws_markForkS.w9 v4_0 v4_1 v4_2 y1).length) : Int)) then
                                                (laws_markIntS (Head_Heirs (Signed_Head (Fork_Before ((laws_markForkS.w9 v4_0 v4_1 v4_2 y1).getD v4_1.toNat dFork)))).1 (IntKind.i64.wrap (y1.2 + (1 : Int)))).bind fun y2 =>
                                                  bif decide (0 ≤ v4_1) then
                                                    bif decide (v4_1 < (((laws_markForkS.w10 v4_0 v4_1 v4_2 y1 y2).length) : Int)) then
                                                      bif decide (0 ≤ v4_1) then
                                                        bif decide (v4_1 < (((laws_markForkS.w11 v4_0 v4_1 v4_2 y1 y2).length) : Int)) then
                                                          bif decide (0 ≤ v4_1) then
                                                            bif decide (v4_1 < (((laws_markForkS.w12 v4_0 v4_1 v4_2 y1 y2).length) : Int)) then
                                                              (laws_markIntS (Head_Judge (Signed_Head (Fork_Before ((laws_markForkS.w12 v4_0 v4_1 v4_2 y1 y2).getD v4_1.toNat dFork)))).1 (IntKind.i64.wrap ((IntKind.i64.wrap (y2.2 + (1 : Int))) + (1 : Int)))).bind fun y3 =>
                                                                bif decide (0 ≤ v4_1) then
                                                                  bif decide (v4_1 < (((laws_markForkS.w13 v4_0 v4_1 v4_2 y1 y2 y3).length) : Int)) then
                                                                    bif ((3 : Int) == (0 : Int)) then
                                                                      none
                                                                    else
                                                                      bif decide (0 ≤ v4_1) then
                                                                        bif decide (v4_1 < (((laws_markForkS.w14 v4_0 v4_1 v4_2 y1 y2 y3).length) : Int)) then
                                                                          bif decide (0 ≤ v4_1) then
                                                                            bif decide (v4_1 < (((laws_markForkS.w15 v4_0 v4_1 v4_2 y1 y2 y3).length) : Int)) then
                                                                              (laws_markSigS (Signed_Sigs (Fork_Before ((laws_markForkS.w15 v4_0 v4_1 v4_2 y1 y2 y3).getD v4_1.toNat dFork))) (IntKind.i64.wrap ((IntKind.i64.wrap (y3.2 + (1 : Int))) + (1 : Int)))).bind fun y4 =>
                                                                                bif decide (0 ≤ v4_1) then
                                                                                  bif decide (v4_1 < (((laws_markForkS.w16 v4_0 v4_1 v4_2 y1 y2 y3 y4).length) : Int)) then
                                                                                    bif decide (0 ≤ v4_1) then
                                                                                      bif decide (v4_1 < (((laws_markForkS.w17 v4_0 v4_1 v4_2 y1 y2 y3 y4).length) : Int)) then
                                                                                        bif decide (0 ≤ v4_1) then
                                                                                          bif decide (v4_1 < (((laws_markForkS.w18 v4_0 v4_1 v4_2 y1 y2 y3 y4).length) : Int)) then
                                                                                            bif decide (0 ≤ v4_1) then
                                                                                              bif decide (v4_1 < (((laws_markForkS.w19 v4_0 v4_1 v4_2 y1 y2 y3 y4).length) : Int)) then
                                                                                                bif decide (0 ≤ v4_1) then
                                                                                                  bif decide (v4_1 < (((laws_markForkS.w20 v4_0 v4_1 v4_2 y1 y2 y3 y4).length) : Int)) then
                                                                                                    bif decide (0 ≤ v4_1) then
                                                                                                      bif decide (v4_1 < (((laws_markForkS.w21 v4_0 v4_1 v4_2 y1 y2 y3 y4).length) : Int)) then
                                                                                                        bif decide (0 ≤ v4_1) then
                                                                                                          bif decide (v4_1 < (((laws_markForkS.w22 v4_0 v4_1 v4_2 y1 y2 y3 y4).length) : Int)) then
                                                                                                            bif decide (0 ≤ v4_1) then
                                                                                                              bif decide (v4_1 < (((laws_markForkS.w23 v4_0 v4_1 v4_2 y1 y2 y3 y4).length) : Int)) then
                                                                                                                bif decide (0 ≤ v4_1) then
                                                                                                                  bif decide (v4_1 < (((laws_markForkS.w24 v4_0 v4_1 v4_2 y1 y2 y3 y4).length) : Int)) then
                                                                                                                    (laws_markIntS (Head_Keys (Signed_Head (Fork_A ((laws_markForkS.w24 v4_0 v4_1 v4_2 y1 y2 y3 y4).getD v4_1.toNat dFork)))).1 (IntKind.i64.wrap ((IntKind.i64.wrap ((IntKind.i64.wrap ((IntKind.i64.wrap ((IntKind.i64.wrap ((IntKind.i64.wrap ((IntKind.i64.wrap ((IntKind.i64.wrap (y4.2 + (1 : Int))) + (1 : Int))) + (1 : Int))) + (1 : Int))) + (1 : Int))) + (1 : Int))) + (1 : Int))) + (1 : Int)))).bind fun y5 =>
                                                                                                                      bif decide (0 ≤ v4_1) then
                                                                                                                        bif decide (v4_1 < (((laws_markForkS.w25 v4_0 v4_1 v4_2 y1 y2 y3 y4 y5).length) : Int)) then
                                                                                                                          bif decide (0 ≤ v4_1) then
                                                                                                                            bif decide (v4_1 < (((laws_markForkS.w26 v4_0 v4_1 v4_2 y1 y2 y3 y4 y5).length) : Int)) then
                                                                                                                              (laws_markIntS (Head_Heirs (Signed_Head (Fork_A ((laws_markForkS.w26 v4_0 v4_1 v4_2 y1 y2 y3 y4 y5).getD v4_1.toNat dFork)))).1 (IntKind.i64.wrap (y5.2 + (1 : Int)))).bind fun y6 =>
                                                                                                                                bif decide (0 ≤ v4_1) then
                                                                                                                                  bif decide (v4_1 < (((laws_markForkS.w27 v4_0 v4_1 v4_2 y1 y2 y3 y4 y5 y6).length) : Int)) then
                                                                                                                                    bif decide (0 ≤ v4_1) then
                                                                                                                                      bif decide (v4_1 < (((laws_markForkS.w28 v4_0 v4_1 v4_2 y1 y2 y3 y4 y5 y6).length) : Int)) then
                                                                                                                                        bif decide (0 ≤ v4_1) then
                                                                                                                                          bif decide (v4_1 < (((laws_markForkS.w29 v4_0 v4_1 v4_2 y1 y2 y3 y4 y5 y6).length) : Int)) then
                                                                                                                                            (laws_markIntS (Head_Judge (Signed_Head (Fork_A ((laws_markForkS.w29 v4_0 v4_1 v4_2 y1 y2 y3 y4 y5 y6).getD v4_1.toNat dFork)))).1 (IntKind.i64.wrap ((IntKind.i64.wrap (y6.2 + (1 : Int))) + (1 : Int)))).bind fun y7 =>
                                                                                                                                              bif decide (0 ≤ v4_1) then
                                                                                                                                                bif decide (v4_1 < (((laws_markForkS.w30 v4_0 v4_1 v4_2 y1 y2 y3 y4 y5 y6 y7).length) : Int)) then
                                                                                                                                                  bif ((3 : Int) == (0 : Int)) then
                                                                                                                                                    none
                                                                                                                                                  else
                                                                                                                                                    bif decide (0 ≤ v4_1) then
                                                                                                                                                      bif decide (v4_1 < (((laws_markForkS.w31 v4_0 v4_1 v4_2 y1 y2 y3 y4 y5 y6 y7).length) : Int)) then
                                                                                                                                                        bif decide (0 ≤ v4_1) then
                                                                                                                                                          bif decide (v4_1 < (((laws_markForkS.w32 v4_0 v4_1 v4_2 y1 y2 y3 y4 y5 y6 y7).length) : Int)) then
                                                                                                                                                            (laws_markSigS (Signed_Sigs (Fork_A ((laws_markForkS.w32 v4_0 v4_1 v4_2 y1 y2 y3 y4 y5 y6 y7).getD v4_1.toNat dFork))) (IntKind.i64.wrap ((IntKind.i64.wrap (y7.2 + (1 : Int))) + (1 : Int)))).bind fun y8 =>
                                                                                                                                                              bif decide (0 ≤ v4_1) then
                                                                                                                                                                bif decide (v4_1 < (((laws_markForkS.w33 v4_0 v4_1 v4_2 y1 y2 y3 y4 y5 y6 y7 y8).length) : Int)) then
                                                                                                                                                                  bif decide (0 ≤ v4_1) then
                                                                                                                                                                    bif decide (v4_1 < (((laws_markForkS.w34 v4_0 v4_1 v4_2 y1 y2 y3 y4 y5 y6 y7 y8).length) : Int)) then
                                                                                                                                                                      bif decide (0 ≤ v4_1) then
                                                                                                                                                                        bif decide (v4_1 < (((laws_markForkS.w35 v4_0 v4_1 v4_2 y1 y2 y3 y4 y5 y6 y7 y8).length) : Int)) then
                                                                                                                                                                          bif decide (0 ≤ v4_1) then
                                                                                                                                                                            bif decide (v4_1 < (((laws_markForkS.w36 v4_0 v4_1 v4_2 y1 y2 y3 y4 y5 y6 y7 y8).length) : Int)) then
                                                                                                                                                                              bif decide (0 ≤ v4_1) then
                                                                                                                                                                                bif decide (v4_1 < (((laws_markForkS.w37 v4_0 v4_1 v4_2 y1 y2 y3 y4 y5 y6 y7 y8).length) : Int)) then
                                                                                                                                                                                  bif decide (0 ≤ v4_1) then
                                                                                                                                                                                    bif decide (v4_1 < (((laws_markForkS.w38 v4_0 v4_1 v4_2 y1 y2 y3 y4 y5 y6 y7 y8).length) : Int)) then
                                                                                                                                                                                      bif decide (0 ≤ v4_1) then
                                                                                                                                                                                        bif decide (v4_1 < (((laws_markForkS.w39 v4_0 v4_1 v4_2 y1 y2 y3 y4 y5 y6 y7 y8).length) : Int)) then
                                                                                                                                                                                          bif decide (0 ≤ v4_1) then
                                                                                                                                                                                            bif decide (v4_1 < (((laws_markForkS.w40 v4_0 v4_1 v4_2 y1 y2 y3 y4 y5 y6 y7 y8).length) : Int)) then
                                                                                                                                                                                              bif decide (0 ≤ v4_1) then
                                                                                                                                                                                                bif decide (v4_1 < (((laws_markForkS.w41 v4_0 v4_1 v4_2 y1 y2 y3 y4 y5 y6 y7 y8).length) : Int)) then
                                                                                                                                                                                                  (laws_markIntS (Head_Keys (Signed_Head (Fork_B ((laws_markForkS.w41 v4_0 v4_1 v4_2 y1 y2 y3 y4 y5 y6 y7 y8).getD v4_1.toNat dFork)))).1 (IntKind.i64.wrap ((IntKind.i64.wrap ((IntKind.i64.wrap ((IntKind.i64.wrap ((IntKind.i64.wrap ((IntKind.i64.wrap ((IntKind.i64.wrap ((IntKind.i64.wrap (y8.2 + (1 : Int))) + (1 : Int))) + (1 : Int))) + (1 : Int))) + (1 : Int))) + (1 : Int))) + (1 : Int))) + (1 : Int)))).bind fun y9 =>
                                                                                                                                                                                                    bif decide (0 ≤ v4_1) then
                                                                                                                                                                                                      bif decide (v4_1 < (((laws_markForkS.w42 v4_0 v4_1 v4_2 y1 y2 y3 y4 y5 y6 y7 y8 y9).length) : Int)) then
                                                                                                                                                                                                        bif decide (0 ≤ v4_1) then
                                                                                                                                                                                                          bif decide (v4_1 < (((laws_markForkS.w43 v4_0 v4_1 v4_2 y1 y2 y3 y4 y5 y6 y7 y8 y9).length) : Int)) then
                                                                                                                                                                                                            (laws_markIntS (Head_Heirs (Signed_Head (Fork_B ((laws_markForkS.w43 v4_0 v4_1 v4_2 y1 y2 y3 y4 y5 y6 y7 y8 y9).getD v4_1.toNat dFork)))).1 (IntKind.i64.wrap (y9.2 + (1 : Int)))).bind fun y10 =>
                                                                                                                                                                                                              bif decide (0 ≤ v4_1) then
                                                                                                                                                                                                                bif decide (v4_1 < (((laws_markForkS.w44 v4_0 v4_1 v4_2 y1 y2 y3 y4 y5 y6 y7 y8 y9 y10).length) : Int)) then
                                                                                                                                                                                                                  bif decide (0 ≤ v4_1) then
                                                                                                                                                                                                                    bif decide (v4_1 < (((laws_markForkS.w45 v4_0 v4_1 v4_2 y1 y2 y3 y4 y5 y6 y7 y8 y9 y10).length) : Int)) then
                                                                                                                                                                                                                      bif decide (0 ≤ v4_1) then
                                                                                                                                                                                                                        bif decide (v4_1 < (((laws_markForkS.w46 v4_0 v4_1 v4_2 y1 y2 y3 y4 y5 y6 y7 y8 y9 y10).length) : Int)) then
                                                                                                                                                                                                                          (laws_markIntS (Head_Judge (Signed_Head (Fork_B ((laws_markForkS.w46 v4_0 v4_1 v4_2 y1 y2 y3 y4 y5 y6 y7 y8 y9 y10).getD v4_1.toNat dFork)))).1 (IntKind.i64.wrap ((IntKind.i64.wrap (y10.2 + (1 : Int))) + (1 : Int)))).bind fun y11 =>
                                                                                                                                                                                                                            bif decide (0 ≤ v4_1) then
                                                                                                                                                                                                                              bif decide (v4_1 < (((laws_markForkS.w47 v4_0 v4_1 v4_2 y1 y2 y3 y4 y5 y6 y7 y8 y9 y10 y11).length) : Int)) then
                                                                                                                                                                                                                                bif ((3 : Int) == (0 : Int)) then
                                                                                                                                                                                                                                  none
                                                                                                                                                                                                                                else
                                                                                                                                                                                                                                  bif decide (0 ≤ v4_1) then
                                                                                                                                                                                                                                    bif decide (v4_1 < (((laws_markForkS.w48 v4_0 v4_1 v4_2 y1 y2 y3 y4 y5 y6 y7 y8 y9 y10 y11).length) : Int)) then
                                                                                                                                                                                                                                      bif decide (0 ≤ v4_1) then
                                                                                                                                                                                                                                        bif decide (v4_1 < (((laws_markForkS.w49 v4_0 v4_1 v4_2 y1 y2 y3 y4 y5 y6 y7 y8 y9 y10 y11).length) : Int)) then
                                                                                                                                                                                                                                          (laws_markSigS (Signed_Sigs (Fork_B ((laws_markForkS.w49 v4_0 v4_1 v4_2 y1 y2 y3 y4 y5 y6 y7 y8 y9 y10 y11).getD v4_1.toNat dFork))) (IntKind.i64.wrap ((IntKind.i64.wrap (y11.2 + (1 : Int))) + (1 : Int)))).bind fun y12 =>
                                                                                                                                                                                                                                            r4 y12.2 (IntKind.i64.wrap (v4_1 + (1 : Int))) (laws_markForkS.w50 v4_0 v4_1 v4_2 y1 y2 y3 y4 y5 y6 y7 y8 y9 y10 y11 y12)
                                                                                                                                                                                                                                        else none
                                                                                                                                                                                                                                      else none
                                                                                                                                                                                                                                    else none
                                                                                                                                                                                                                                  else none
                                                                                                                                                                                                                              else none
                                                                                                                                                                                                                            else none
                                                                                                                                                                                                                        else none
                                                                                                                                                                                                                      else none
                                                                                                                                                                                                                    else none
                                                                                                                                                                                                                  else none
                                                                                                                                                                                                                else none
                                                                                                                                                                                                              else none
                                                                                                                                                                                                          else none
                                                                                                                                                                                                        else none
                                                                                                                                                                                                      else none
                                                                                                                                                                                                    else none
                                                                                                                                                                                                else none
                                                                                                                                                                                              else none
                                                                                                                                                                                            else none
                                                                                                                                                                                          else none
                                                                                                                                                                                        else none
                                                                                                                                                                                      else none
                                                                                                                                                                                    else none
                                                                                                                                                                                  else none
                                                                                                                                                                                else none
                                                                                                                                                                              else none
                                                                                                                                                                            else none
                                                                                                                                                                          else none
                                                                                                                                                                        else none
                                                                                                                                                                      else none
                                                                                                                                                                    else none
                                                                                                                                                                  else none
                                                                                                                                                                else none
                                                                                                                                                              else none
                                                                                                                                                          else none
                                                                                                                                                        else none
                                                                                                                                                      else none
                                                                                                                                                    else none
                                                                                                                                                else none
                                                                                                                                              else none
                                                                                                                                          else none
                                                                                                                                        else none
                                                                                                                                      else none
                                                                                                                                    else none
                                                                                                                                  else none
                                                                                                                                else none
                                                                                                                            else none
                                                                                                                          else none
                                                                                                                        else none
                                                                                                                      else none
                                                                                                                  else none
                                                                                                                else none
                                                                                                              else none
                                                                                                            else none
                                                                                                          else none
                                                                                                        else none
                                                                                                      else none
                                                                                                    else none
                                                                                                  else none
                                                                                                else none
                                                                                              else none
                                                                                            else none
                                                                                          else none
                                                                                        else none
                                                                                      else none
                                                                                    else none
                                                                                  else none
                                                                                else none
                                                                            else none
                                                                          else none
                                                                        else none
                                                                      else none
                                                                  else none
                                                                else none
                                                            else none
                                                          else none
                                                        else none
                                                      else none
                                                    else none
                                                  else none
                                              else none
                                            else none
                                          else none
                                        else none
                                    else none
                                  else none
                                else none
                              else none
                            else none
                          else none
                        else none
                      else none
                    else none
                  else none
                else none
              else none
            else none
          else none
        else none
      else none
    else none
  else none
else some (v4_2, v4_0)
noncomputable def laws_markForkS.l4 (n : Nat) : Int → Int → (List TFork) → Option (List TFork × Int) :=
  V.iter (fun (r4 : Int → Int → (List TFork) → Option (List TFork × Int)) => fun v4_0 v4_1 v4_2 => laws_markForkS.g4 r4 v4_0 v4_1 v4_2) (fun _ _ _ => none) n
theorem laws_markForkS.u4 (n : Nat) (v4_0 : Int) (v4_1 : Int) (v4_2 : List TFork) : laws_markForkS.l4 (n + 1) v4_0 v4_1 v4_2 = laws_markForkS.g4 (laws_markForkS.l4 n) v4_0 v4_1 v4_2 := rfl
noncomputable abbrev laws_markForkS.b (x0 : List TFork) (x1 : Int) (L4 : Int → Int → (List TFork) → Option (List TFork × Int)) : Option (List TFork × Int) :=
  L4 x1 (0 : Int) x0
noncomputable def laws_markForkS (x0 : List TFork) (x1 : Int) : Option (List TFork × Int) :=
  laws_markForkS.b x0 x1 (laws_markForkS.l4 V.KK)
noncomputable def laws_markKnown (x0 : TKnown) (x1 : Int) : Option (List (List TSigned) × List TFork × Int) :=
  (laws_markSignedSS x0.1 x1).bind fun y1 =>
  (laws_markForkS x0.2 y1.2).bind fun y2 =>
    some (y1.1, y2.1, y2.2)
noncomputable abbrev laws_markText.g8 (r8 : Int → ByteArray → Option ByteArray) (v8_0 : Int) (v8_1 : ByteArray) : Option ByteArray :=
  bif decide (v8_0 > (0 : Int)) then
  bif ((10 : Int) == (0 : Int)) then
    none
  else
    bif decide ((V.strOf [IntKind.u8.wrap (IntKind.i64.wrap ((48 : Int) + (Int.tmod v8_0 (10 : Int))))]).size + v8_1.size < 281474976710656) then
      bif ((10 : Int) == (0 : Int)) then
        none
      else r8 (IntKind.i64.wrap (Int.tdiv v8_0 (10 : Int))) ((V.strOf [IntKind.u8.wrap (IntKind.i64.wrap ((48 : Int) + (Int.tmod v8_0 (10 : Int))))]) ++ v8_1)
    else none
else
  bif decide ((⟨#[109]⟩ : ByteArray).size + v8_1.size < 281474976710656) then
    some ((⟨#[109]⟩ : ByteArray) ++ v8_1)
  else none
noncomputable def laws_markText.l8 (n : Nat) : Int → ByteArray → Option ByteArray :=
  V.iter (fun (r8 : Int → ByteArray → Option ByteArray) => fun v8_0 v8_1 => laws_markText.g8 r8 v8_0 v8_1) (fun _ _ => none) n
theorem laws_markText.u8 (n : Nat) (v8_0 : Int) (v8_1 : ByteArray) : laws_markText.l8 (n + 1) v8_0 v8_1 = laws_markText.g8 (laws_markText.l8 n) v8_0 v8_1 := rfl
noncomputable abbrev laws_markText.b (x0 : Int) (L8 : Int → ByteArray → Option ByteArray) : Option ByteArray :=
  bif decide (x0 ≤ (0 : Int)) then
  some (⟨#[109, 48]⟩ : ByteArray)
else L8 x0 (⟨#[]⟩ : ByteArray)
noncomputable def laws_markText (x0 : Int) : Option ByteArray :=
  laws_markText.b x0 (laws_markText.l8 V.KK)
noncomputable abbrev laws_markStringS.g4 (r4 : Int → Int → (List ByteArray) → Option (List ByteArray × Int)) (v4_0 : Int) (v4_1 : Int) (v4_2 : List ByteArray) : Option (List ByteArray × Int) :=
  bif decide (v4_1 < (v4_2.length : Int)) then
  (laws_markText v4_0).bind fun y1 =>
    bif decide (0 ≤ v4_1) then
      bif decide (v4_1 < (v4_2.length : Int)) then
        r4 (IntKind.i64.wrap (v4_0 + (1 : Int))) (IntKind.i64.wrap (v4_1 + (1 : Int))) (v4_2.set v4_1.toNat y1)
      else none
    else none
else some (v4_2, v4_0)
noncomputable def laws_markStringS.l4 (n : Nat) : Int → Int → (List ByteArray) → Option (List ByteArray × Int) :=
  V.iter (fun (r4 : Int → Int → (List ByteArray) → Option (List ByteArray × Int)) => fun v4_0 v4_1 v4_2 => laws_markStringS.g4 r4 v4_0 v4_1 v4_2) (fun _ _ _ => none) n
theorem laws_markStringS.u4 (n : Nat) (v4_0 : Int) (v4_1 : Int) (v4_2 : List ByteArray) : laws_markStringS.l4 (n + 1) v4_0 v4_1 v4_2 = laws_markStringS.g4 (laws_markStringS.l4 n) v4_0 v4_1 v4_2 := rfl
noncomputable abbrev laws_markStringS.b (x0 : List ByteArray) (x1 : Int) (L4 : Int → Int → (List ByteArray) → Option (List ByteArray × Int)) : Option (List ByteArray × Int) :=
  L4 x1 (0 : Int) x0
noncomputable def laws_markStringS (x0 : List ByteArray) (x1 : Int) : Option (List ByteArray × Int) :=
  laws_markStringS.b x0 x1 (laws_markStringS.l4 V.KK)
noncomputable def laws_markEntry (x0 : TEntry) (x1 : Int) : Option (List ByteArray × Int) :=
  (laws_markStringS x0.2.2.2 x1).bind fun y1 =>
  some y1
noncomputable def laws_markLook (x0 : TLook) (x1 : Int) : Option (List (List TSigned) × List TFork × List ByteArray × List Int × Int) :=
  (laws_markKnown (Look_Known x0) x1).bind fun y1 =>
  (laws_markEntry (Look_Entry x0) y1.2.2).bind fun y2 =>
    (laws_markIntS (Look_Codes x0) y2.2).bind fun y3 =>
      some (y1.1, y1.2.1, y2.1, y3.1, y3.2)
noncomputable abbrev laws_heldStringS.g4 (x0 : List ByteArray) (r4 : Int → Int → Option Int) (v4_1 : Int) (v4_2 : Int) : Option Int :=
  bif decide (v4_2 < (x0.length : Int)) then
  bif decide (0 ≤ v4_2) then
    bif decide (v4_2 < (x0.length : Int)) then
      (laws_markText v4_1).bind fun y1 =>
        bif !((x0.getD v4_2.toNat (⟨#[]⟩ : ByteArray)).toList == y1.toList) then
          some (-1 : Int)
        else r4 (IntKind.i64.wrap (v4_1 + (1 : Int))) (IntKind.i64.wrap (v4_2 + (1 : Int)))
    else none
  else none
else some v4_1
noncomputable def laws_heldStringS.l4 (x0 : List ByteArray) (n : Nat) : Int → Int → Option Int :=
  V.iter (fun (r4 : Int → Int → Option Int) => fun v4_1 v4_2 => laws_heldStringS.g4 x0 r4 v4_1 v4_2) (fun _ _ => none) n
theorem laws_heldStringS.u4 (x0 : List ByteArray) (n : Nat) (v4_1 : Int) (v4_2 : Int) : laws_heldStringS.l4 x0 (n + 1) v4_1 v4_2 = laws_heldStringS.g4 x0 (laws_heldStringS.l4 x0 n) v4_1 v4_2 := rfl
noncomputable abbrev laws_heldStringS.b (x0 : List ByteArray) (x1 : Int) (L4 : Int → Int → Option Int) : Option Int :=
  L4 x1 (0 : Int)
noncomputable def laws_heldStringS (x0 : List ByteArray) (x1 : Int) : Option Int :=
  laws_heldStringS.b x0 x1 (laws_heldStringS.l4 x0 V.KK)
noncomputable def laws_heldEntry (x0 : TEntry) (x1 : Int) : Option Int :=
  (laws_heldStringS x0.2.2.2 x1).bind fun y1 =>
  bif decide (y1 < (0 : Int)) then
    some (-1 : Int)
  else some y1
noncomputable abbrev laws_FnExactBelievedOf.g55 (y5 : TREntryBool) (y11 : List ByteArray × Int) : Option Bool :=
  (laws_heldEntry ((REntryBool_r0 y5).1, (REntryBool_r0 y5).2.1, (REntryBool_r0 y5).2.2.1, y11.1) (1 : Int)).bind fun y16 =>
  bif decide (y16 < (0 : Int)) then
    some false
  else
    bif y16 != y11.2 then
      some false
    else some true
noncomputable def laws_FnExactBelievedOf.l55 (y5 : TREntryBool) (y11 : List ByteArray × Int) : Option Bool :=
  laws_FnExactBelievedOf.g55 y5 y11
noncomputable abbrev laws_FnExactBelievedOf.g33 (x0 : TLook) (y3 : TREntryBool) (y5 : TREntryBool) (L55 : TREntryBool → (List ByteArray × Int) → Option Bool) : Option Bool :=
  (laws_markEntry (REntryBool_r0 y5) (1 : Int)).bind fun y11 =>
  (laws_heldEntry ((REntryBool_r0 y5).1, (REntryBool_r0 y5).2.1, (REntryBool_r0 y5).2.2.1, y11.1) (1 : Int)).bind fun y12 =>
    bif decide (y12 < (0 : Int)) then
      some false
    else
      bif y12 != y11.2 then
        some false
      else
        (laws_toLook x0).bind fun y13 =>
          (impl_BelievedOf y13).bind fun y14 =>
            (laws_eqEntry (REntryBool_r0 y14) (REntryBool_r0 y3)).bind fun y15 =>
              bif !y15 then
                some false
              else
                bif !((REntryBool_r1 y14) == (REntryBool_r1 y3)) then
                  some false
                else L55 y5 y11
noncomputable def laws_FnExactBelievedOf.l33 (x0 : TLook) (y3 : TREntryBool) (y5 : TREntryBool) : Option Bool :=
  laws_FnExactBelievedOf.g33 x0 y3 y5 (fun y5 y11 => laws_FnExactBelievedOf.l55 y5 y11)
noncomputable abbrev laws_FnExactBelievedOf.g21 (x0 : TLook) (y3 : TREntryBool) (y4 : TLook) (y5 : TREntryBool) (L33 : TREntryBool → TREntryBool → Option Bool) : Option Bool :=
  (laws_toLook x0).bind fun y7 =>
  (laws_eqLook y4 y7).bind fun y8 =>
    bif !y8 then
      some false
    else
      (laws_markLook y4 (1 : Int)).bind fun y9 =>
        bif decide (y9.2.2.2.2 < (0 : Int)) then
          some false
        else
          (laws_eqEntry (REntryBool_r0 y5) (REntryBool_r0 y3)).bind fun y10 =>
            bif !y10 then
              some false
            else
              bif !((REntryBool_r1 y5) == (REntryBool_r1 y3)) then
                some false
              else L33 y3 y5
noncomputable def laws_FnExactBelievedOf.l21 (x0 : TLook) (y3 : TREntryBool) (y4 : TLook) (y5 : TREntryBool) : Option Bool :=
  laws_FnExactBelievedOf.g21 x0 y3 y4 y5 (fun y3 y5 => laws_FnExactBelievedOf.l33 x0 y3 y5)
noncomputable abbrev laws_FnExactBelievedOf.b (x0 : TLook) (L21 : TREntryBool → TLook → TREntryBool → Option Bool) : Option Bool :=
  (laws_szLook x0 (1048576 : Int)).bind fun y1 =>
  bif decide (y1 < (0 : Int)) then
    some true
  else
    (laws_toLook x0).bind fun y2 =>
      (spec_BelievedOf y2).bind fun y3 =>
        (laws_toLook x0).bind fun y4 =>
          (impl_BelievedOf y4).bind fun y5 =>
            (laws_eqEntry (REntryBool_r0 y5) (REntryBool_r0 y3)).bind fun y6 =>
              bif !y6 then
                some false
              else
                bif !((REntryBool_r1 y5) == (REntryBool_r1 y3)) then
                  some false
                else L21 y3 y4 y5
noncomputable def laws_FnExactBelievedOf (x0 : TLook) : Option Bool :=
  laws_FnExactBelievedOf.b x0 (fun y3 y4 y5 => laws_FnExactBelievedOf.l21 x0 y3 y4 y5)
end Go.Proofs.Ytbdifkeoiodalaa
