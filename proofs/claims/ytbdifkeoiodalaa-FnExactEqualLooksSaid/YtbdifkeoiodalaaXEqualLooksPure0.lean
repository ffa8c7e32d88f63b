/- What the functions compute: printed from their code by the evaluator. -/
import Derived.Test.YtbdifkeoiodalaaVE
namespace Go.Proofs.Ytbdifkeoiodalaa
set_option linter.unusedVariables false
abbrev TKeys : Type := List Int × Int
abbrev dKeys : TKeys := ([], (0 : Int))
abbrev THead : Type := Int × Int × Int × Int × Int × Int × Int × Int × List Int × Int × List Int × Int × Int × List Int × Int × Bool
abbrev dHead : THead := ((0 : Int), (0 : Int), (0 : Int), (0 : Int), (0 : Int), (0 : Int), (0 : Int), (0 : Int), [], (0 : Int), [], (0 : Int), (0 : Int), [], (0 : Int), false)
def Head_Zone (x : THead) : Int := x.1
def Head_Epoch (x : THead) : Int := x.2.1
def Head_Kind (x : THead) : Int := x.2.2.1
def Head_Time (x : THead) : Int := x.2.2.2.1
def Head_Until (x : THead) : Int := x.2.2.2.2.1
def Head_Count (x : THead) : Int := x.2.2.2.2.2.1
def Head_Root (x : THead) : Int := x.2.2.2.2.2.2.1
def Head_Prev (x : THead) : Int := x.2.2.2.2.2.2.2.1
def Head_Keys (x : THead) : TKeys := (x.2.2.2.2.2.2.2.2.1, x.2.2.2.2.2.2.2.2.2.1)
def Head_Heirs (x : THead) : TKeys := (x.2.2.2.2.2.2.2.2.2.2.1, x.2.2.2.2.2.2.2.2.2.2.2.1)
def Head_Wait (x : THead) : Int := x.2.2.2.2.2.2.2.2.2.2.2.2.1
def Head_Judge (x : THead) : TKeys := (x.2.2.2.2.2.2.2.2.2.2.2.2.2.1, x.2.2.2.2.2.2.2.2.2.2.2.2.2.2.1)
def Head_Frozen (x : THead) : Bool := x.2.2.2.2.2.2.2.2.2.2.2.2.2.2.2
def Head_mk (a0 : Int) (a1 : Int) (a2 : Int) (a3 : Int) (a4 : Int) (a5 : Int) (a6 : Int) (a7 : Int) (a8 : TKeys) (a9 : TKeys) (a10 : Int) (a11 : TKeys) (a12 : Bool) : THead := (a0, a1, a2, a3, a4, a5, a6, a7, a8.1, a8.2, a9.1, a9.2, a10, a11.1, a11.2, a12)
theorem Head_s : ∀ (a0 : Int) (a1 : Int) (a2 : Int) (a3 : Int) (a4 : Int) (a5 : Int) (a6 : Int) (a7 : Int) (a8 : TKeys) (a9 : TKeys) (a10 : Int) (a11 : TKeys) (a12 : Bool), Head_Zone (Head_mk a0 a1 a2 a3 a4 a5 a6 a7 a8 a9 a10 a11 a12) = a0 ∧ Head_Epoch (Head_mk a0 a1 a2 a3 a4 a5 a6 a7 a8 a9 a10 a11 a12) = a1 ∧ Head_Kind (Head_mk a0 a1 a2 a3 a4 a5 a6 a7 a8 a9 a10 a11 a12) = a2 ∧ Head_Time (Head_mk a0 a1 a2 a3 a4 a5 a6 a7 a8 a9 a10 a11 a12) = a3 ∧ Head_Until (Head_mk a0 a1 a2 a3 a4 a5 a6 a7 a8 a9 a10 a11 a12) = a4 ∧ Head_Count (Head_mk a0 a1 a2 a3 a4 a5 a6 a7 a8 a9 a10 a11 a12) = a5 ∧ Head_Root (Head_mk a0 a1 a2 a3 a4 a5 a6 a7 a8 a9 a10 a11 a12) = a6 ∧ Head_Prev (Head_mk a0 a1 a2 a3 a4 a5 a6 a7 a8 a9 a10 a11 a12) = a7 ∧ Head_Keys (Head_mk a0 a1 a2 a3 a4 a5 a6 a7 a8 a9 a10 a11 a12) = a8 ∧ Head_Heirs (Head_mk a0 a1 a2 a3 a4 a5 a6 a7 a8 a9 a10 a11 a12) = a9 ∧ Head_Wait (Head_mk a0 a1 a2 a3 a4 a5 a6 a7 a8 a9 a10 a11 a12) = a10 ∧ Head_Judge (Head_mk a0 a1 a2 a3 a4 a5 a6 a7 a8 a9 a10 a11 a12) = a11 ∧ Head_Frozen (Head_mk a0 a1 a2 a3 a4 a5 a6 a7 a8 a9 a10 a11 a12) = a12 := fun a0 a1 a2 a3 a4 a5 a6 a7 a8 a9 a10 a11 a12 => ⟨rfl, rfl, rfl, rfl, rfl, rfl, rfl, rfl, rfl, rfl, rfl, rfl, rfl⟩
theorem Head_e (x : THead) : Head_mk (Head_Zone x) (Head_Epoch x) (Head_Kind x) (Head_Time x) (Head_Until x) (Head_Count x) (Head_Root x) (Head_Prev x) (Head_Keys x) (Head_Heirs x) (Head_Wait x) (Head_Judge x) (Head_Frozen x) = x := id rfl
theorem Head_d : Head_Zone dHead = (0 : Int) ∧ Head_Epoch dHead = (0 : Int) ∧ Head_Kind dHead = (0 : Int) ∧ Head_Time dHead = (0 : Int) ∧ Head_Until dHead = (0 : Int) ∧ Head_Count dHead = (0 : Int) ∧ Head_Root dHead = (0 : Int) ∧ Head_Prev dHead = (0 : Int) ∧ Head_Keys dHead = dKeys ∧ Head_Heirs dHead = dKeys ∧ Head_Wait dHead = (0 : Int) ∧ Head_Judge dHead = dKeys ∧ Head_Frozen dHead = false := ⟨rfl, rfl, rfl, rfl, rfl, rfl, rfl, rfl, rfl, rfl, rfl, rfl, rfl⟩
abbrev TSig : Type := Int × Int
abbrev dSig : TSig := ((0 : Int), (0 : Int))
abbrev TSigned : Type := Int × Int × Int × Int × Int × Int × Int × Int × List Int × Int × List Int × Int × Int × List Int × Int × Bool × List TSig
abbrev dSigned : TSigned := ((0 : Int), (0 : Int), (0 : Int), (0 : Int), (0 : Int), (0 : Int), (0 : Int), (0 : Int), [], (0 : Int), [], (0 : Int), (0 : Int), [], (0 : Int), false, [])
def Signed_Head (x : TSigned) : THead := (x.1, x.2.1, x.2.2.1, x.2.2.2.1, x.2.2.2.2.1, x.2.2.2.2.2.1, x.2.2.2.2.2.2.1, x.2.2.2.2.2.2.2.1, x.2.2.2.2.2.2.2.2.1, x.2.2.2.2.2.2.2.2.2.1, x.2.2.2.2.2.2.2.2.2.2.1, x.2.2.2.2.2.2.2.2.2.2.2.1, x.2.2.2.2.2.2.2.2.2.2.2.2.1, x.2.2.2.2.2.2.2.2.2.2.2.2.2.1, x.2.2.2.2.2.2.2.2.2.2.2.2.2.2.1, x.2.2.2.2.2.2.2.2.2.2.2.2.2.2.2.1)
def Signed_Sigs (x : TSigned) : List TSig := x.2.2.2.2.2.2.2.2.2.2.2.2.2.2.2.2
def Signed_mk (a0 : THead) (a1 : List TSig) : TSigned := (a0.1, a0.2.1, a0.2.2.1, a0.2.2.2.1, a0.2.2.2.2.1, a0.2.2.2.2.2.1, a0.2.2.2.2.2.2.1, a0.2.2.2.2.2.2.2.1, a0.2.2.2.2.2.2.2.2.1, a0.2.2.2.2.2.2.2.2.2.1, a0.2.2.2.2.2.2.2.2.2.2.1, a0.2.2.2.2.2.2.2.2.2.2.2.1, a0.2.2.2.2.2.2.2.2.2.2.2.2.1, a0.2.2.2.2.2.2.2.2.2.2.2.2.2.1, a0.2.2.2.2.2.2.2.2.2.2.2.2.2.2.1, a0.2.2.2.2.2.2.2.2.2.2.2.2.2.2.2, a1)
theorem Signed_s : ∀ (a0 : THead) (a1 : List TSig), Signed_Head (Signed_mk a0 a1) = a0 ∧ Signed_Sigs (Signed_mk a0 a1) = a1 := fun a0 a1 => ⟨rfl, rfl⟩
theorem Signed_e (x : TSigned) : Signed_mk (Signed_Head x) (Signed_Sigs x) = x := id rfl
theorem Signed_d : Signed_Head dSigned = dHead ∧ Signed_Sigs dSigned = [] := ⟨rfl, rfl⟩
abbrev TFork : Type := Int × Int × Int × Int × Int × Int × Int × Int × List Int × Int × List Int × Int × Int × List Int × Int × Bool × List TSig × Int × Int × Int × Int × Int × Int × Int × Int × List Int × Int × List Int × Int × Int × List Int × Int × Bool × List TSig × Int × Int × Int × Int × Int × Int × Int × Int × List Int × Int × List Int × Int × Int × List Int × Int × Bool × List TSig
abbrev dFork : TFork := ((0 : Int), (0 : Int), (0 : Int), (0 : Int), (0 : Int), (0 : Int), (0 : Int), (0 : Int), [], (0 : Int), [], (0 : Int), (0 : Int), [], (0 : Int), false, [], (0 : Int), (0 : Int), (0 : Int), (0 : Int), (0 : Int), (0 : Int), (0 : Int), (0 : Int), [], (0 : Int), [], (0 : Int), (0 : Int), [], (0 : Int), false, [], (0 : Int), (0 : Int), (0 : Int), (0 : Int), (0 : Int), (0 : Int), (0 : Int), (0 : Int), [], (0 : Int), [], (0 : Int), (0 : Int), [], (0 : Int), false, [])
def Fork_Before (x : TFork) : TSigned := (x.1, x.2.1, x.2.2.1, x.2.2.2.1, x.2.2.2.2.1, x.2.2.2.2.2.1, x.2.2.2.2.2.2.1, x.2.2.2.2.2.2.2.1, x.2.2.2.2.2.2.2.2.1, x.2.2.2.2.2.2.2.2.2.1, x.2.2.2.2.2.2.2.2.2.2.1, x.2.2.2.2.2.2.2.2.2.2.2.1, x.2.2.2.2.2.2.2.2.2.2.2.2.1, x.2.2.2.2.2.2.2.2.2.2.2.2.2.1, x.2.2.2.2.2.2.2.2.2.2.2.2.2.2.1, x.2.2.2.2.2.2.2.2.2.2.2.2.2.2.2.1, x.2.2.2.2.2.2.2.2.2.2.2.2.2.2.2.2.1)
def Fork_A (x : TFork) : TSigned := (x.2.2.2.2.2.2.2.2.2.2.2.2.2.2.2.2.2.1, x.2.2.2.2.2.2.2.2.2.2.2.2.2.2.2.2.2.2.1, x.2.2.2.2.2.2.2.2.2.2.2.2.2.2.2.2.2.2.2.1, x.2.2.2.2.2.2.2.2.2.2.2.2.2.2.2.2.2.2.2.2.1, x.2.2.2.2.2.2.2.2.2.2.2.2.2.2.2.2.2.2.2.2.2.1, x.2.2.2.2.2.2.2.2.2.2.2.2.2.2.2.2.2.2.2.2.2.2.1, x.2.2.2.2.2.2.2.2.2.2.2.2.2.2.2.2.2.2.2.2.2.2.2.1, x.2.2.2.2.2.2.2.2.2.2.2.2.2.2.2.2.2.2.2.2.2.2.2.2.1, x.2.2.2.2.2.2.2.2.2.2.2.2.2.2.2.2.2.2.2.2.2.2.2.2.2.1, x.2.2.2.2.2.2.2.2.2.2.2.2.2.2.2.2.2.2.2.2.2.2.2.2.2.2.1, x.2.2.2.2.2.2.2.2.2.2.2.2.2.2.2.2.2.2.2.2.2.2.2.2.2.2.2.1, x.2.2.2.2.2.2.2.2.2.2.2.2.2.2.2.2.2.2.2.2.2.2.2.2.2.2.2.2.1, x.2.2.2.2.2.2.2.2.2.2.2.2.2.2.2.2.2.2.2.2.2.2.2.2.2.2.2.2.2.1, x.2.2.2.2.2.2.2.2.2.2.2.2.2.2.2.2.2.2.2.2.2.2.2.2.2.2.2.2.2.2.1, x.2.2.2.2.2.2.2.2.2.2.2.2.2.2.2.2.2.2.2.2.2.2.2.2.2.2.2.2.2.2.2.1, x.2.2.2.2.2.2.2.2.2.2.2.2.2.2.2.2.2.2.2.2.2.2.2.2.2.2.2.2.2.2.2.2.1, x.2.2.2.2.2.2.2.2.2.2.2.2.2.2.2.2.2.2.2.2.2.2.2.2.2.2.2.2.2.2.2.2.2.1)
def Fork_B (x : TFork) : TSigned := (x.2.2.2.2.2.2.2.2.2.2.2.2.2.2.2.2.2.2.2.2.2.2.2.2.2.2.2.2.2.2.2.2.2.2.1, x.2.2.2.2.2.2.2.2.2.2.2.2.2.2.2.2.2.2.2.2.2.2.2.2.2.2.2.2.2.2.2.2.2.2.2.1, x.2.2.2.2.2.2.2.2.2.2.2.2.2.2.2.2.2.2.2.2.2.2.2.2.2.2.2.2.2.2.2.2.2.2.2.2.1, x.2.2.2.2.2.2.2.2.2.2.2.2.2.2.2.2.2.2.2.2.2.2.2.2.2.2.2.2.2.2.2.2.2.2.2.2.2.1, x.2.2.2.2.2.2.2.2.2.2.2.2.2.2.2.2.2.2.2.2.2.2.2.2.2.2.2.2.2.2.2.2.2.2.2.2.2.2.1, x.2.2.2.2.2.2.2.2.2.2.2.2.2.2.2.2.2.2.2.2.2.2.2.2.2.2.2.2.2.2.2.2.2.2.2.2.2.2.2.1, x.2.2.2.2.2.2.2.2.2.2.2.2.2.2.2.2.2.2.2.2.2.2.2.2.2.2.2.2.2.2.2.2.2.2.2.2.2.2.2.2.1, x.2.2.2.2.2.2.2.2.2.2.2.2.2.2.2.2.2.2.2.2.2.2.2.2.2.2.2.2.2.2.2.2.2.2.2.2.2.2.2.2.2.1, x.2.2.2.2.2.2.2.2.2.2.2.2.2.2.2.2.2.2.2.2.2.2.2.2.2.2.2.2.2.2.2.2.2.2.2.2.2.2.2.2.2.2.1, x.2.2.2.2.2.2.2.2.2.2.2.2.2.2.2.2.2.2.2.2.2.2.2.2.2.2.2.2.2.2.2.2.2.2.2.2.2.2.2.2.2.2.2.1, x.2.2.2.2.2.2.2.2.2.2.2.2.2.2.2.2.2.2.2.2.2.2.2.2.2.2.2.2.2.2.2.2.2.2.2.2.2.2.2.2.2.2.2.2.1, x.2.2.2.2.2.2.2.2.2.2.2.2.2.2.2.2.2.2.2.2.2.2.2.2.2.2.2.2.2.2.2.2.2.2.2.2.2.2.2.2.2.2.2.2.2.1, x.2.2.2.2.2.2.2.2.2.2.2.2.2.2.2.2.2.2.2.2.2.2.2.2.2.2.2.2.2.2.2.2.2.2.2.2.2.2.2.2.2.2.2.2.2.2.1, x.2.2.2.2.2.2.2.2.2.2.2.2.2.2.2.2.2.2.2.2.2.2.2.2.2.2.2.2.2.2.2.2.2.2.2.2.2.2.2.2.2.2.2.2.2.2.2.1, x.2.2.2.2.2.2.2.2.2.2.2.2.2.2.2.2.2.2.2.2.2.2.2.2.2.2.2.2.2.2.2.2.2.2.2.2.2.2.2.2.2.2.2.2.2.2.2.2.1, x.2.2.2.2.2.2.2.2.2.2.2.2.2.2.2.2.2.2.2.2.2.2.2.2.2.2.2.2.2.2.2.2.2.2.2.2.2.2.2.2.2.2.2.2.2.2.2.2.2.1, x.2.2.2.2.2.2.2.2.2.2.2.2.2.2.2.2.2.2.2.2.2.2.2.2.2.2.2.2.2.2.2.2.2.2.2.2.2.2.2.2.2.2.2.2.2.2.2.2.2.2)
def Fork_mk (a0 : TSigned) (a1 : TSigned) (a2 : TSigned) : TFork := (a0.1, a0.2.1, a0.2.2.1, a0.2.2.2.1, a0.2.2.2.2.1, a0.2.2.2.2.2.1, a0.2.2.2.2.2.2.1, a0.2.2.2.2.2.2.2.1, a0.2.2.2.2.2.2.2.2.1, a0.2.2.2.2.2.2.2.2.2.1, a0.2.2.2.2.2.2.2.2.2.2.1, a0.2.2.2.2.2.2.2.2.2.2.2.1, a0.2.2.2.2.2.2.2.2.2.2.2.2.1, a0.2.2.2.2.2.2.2.2.2.2.2.2.2.1, a0.2.2.2.2.2.2.2.2.2.2.2.2.2.2.1, a0.2.2.2.2.2.2.2.2.2.2.2.2.2.2.2.1, a0.2.2.2.2.2.2.2.2.2.2.2.2.2.2.2.2, a1.1, a1.2.1, a1.2.2.1, a1.2.2.2.1, a1.2.2.2.2.1, a1.2.2.2.2.2.1, a1.2.2.2.2.2.2.1, a1.2.2.2.2.2.2.2.1, a1.2.2.2.2.2.2.2.2.1, a1.2.2.2.2.2.2.2.2.2.1, a1.2.2.2.2.2.2.2.2.2.2.1, a1.2.2.2.2.2.2.2.2.2.2.2.1, a1.2.2.2.2.2.2.2.2.2.2.2.2.1, a1.2.2.2.2.2.2.2.2.2.2.2.2.2.1, a1.2.2.2.2.2.2.2.2.2.2.2.2.2.2.1, a1.2.2.2.2.2.2.2.2.2.2.2.2.2.2.2.1, a1.2.2.2.2.2.2.2.2.2.2.2.2.2.2.2.2, a2.1, a2.2.1, a2.2.2.1, a2.2.2.2.1, a2.2.2.2.2.1, a2.2.2.2.2.2.1, a2.2.2.2.2.2.2.1, a2.2.2.2.2.2.2.2.1, a2.2.2.2.2.2.2.2.2.1, a2.2.2.2.2.2.2.2.2.2.1, a2.2.2.2.2.2.2.2.2.2.2.1, a2.2.2.2.2.2.2.2.2.2.2.2.1, a2.2.2.2.2.2.2.2.2.2.2.2.2.1, a2.2.2.2.2.2.2.2.2.2.2.2.2.2.1, a2.2.2.2.2.2.2.2.2.2.2.2.2.2.2.1, a2.2.2.2.2.2.2.2.2.2.2.2.2.2.2.2.1, a2.2.2.2.2.2.2.2.2.2.2.2.2.2.2.2.2)
theorem Fork_s : ∀ (a0 : TSigned) (a1 : TSigned) (a2 : TSigned), Fork_Before (Fork_mk a0 a1 a2) = a0 ∧ Fork_A (Fork_mk a0 a1 a2) = a1 ∧ Fork_B (Fork_mk a0 a1 a2) = a2 := fun a0 a1 a2 => ⟨rfl, rfl, rfl⟩
theorem Fork_e (x : TFork) : Fork_mk (Fork_Before x) (Fork_A x) (Fork_B x) = x := id rfl
theorem Fork_d : Fork_Before dFork = dSigned ∧ Fork_A dFork = dSigned ∧ Fork_B dFork = dSigned := ⟨rfl, rfl, rfl⟩
abbrev TKnown : Type := List (List TSigned) × List TFork
abbrev dKnown : TKnown := ([], [])
abbrev TEntry : Type := ByteArray × Int × Int × List ByteArray
abbrev dEntry : TEntry := ((⟨#[]⟩ : ByteArray), (0 : Int), (0 : Int), [])
abbrev TLook : Type := List (List TSigned) × List TFork × Bool × ByteArray × Int × Int × List ByteArray × Bool × List Int
abbrev dLook : TLook := ([], [], false, (⟨#[]⟩ : ByteArray), (0 : Int), (0 : Int), [], false, [])
def Look_Known (x : TLook) : TKnown := (x.1, x.2.1)
def Look_Found (x : TLook) : Bool := x.2.2.1
def Look_Entry (x : TLook) : TEntry := (x.2.2.2.1, x.2.2.2.2.1, x.2.2.2.2.2.1, x.2.2.2.2.2.2.1)
def Look_Done (x : TLook) : Bool := x.2.2.2.2.2.2.2.1
def Look_Codes (x : TLook) : List Int := x.2.2.2.2.2.2.2.2
def Look_mk (a0 : TKnown) (a1 : Bool) (a2 : TEntry) (a3 : Bool) (a4 : List Int) : TLook := (a0.1, a0.2, a1, a2.1, a2.2.1, a2.2.2.1, a2.2.2.2, a3, a4)
theorem Look_s : ∀ (a0 : TKnown) (a1 : Bool) (a2 : TEntry) (a3 : Bool) (a4 : List Int), Look_Known (Look_mk a0 a1 a2 a3 a4) = a0 ∧ Look_Found (Look_mk a0 a1 a2 a3 a4) = a1 ∧ Look_Entry (Look_mk a0 a1 a2 a3 a4) = a2 ∧ Look_Done (Look_mk a0 a1 a2 a3 a4) = a3 ∧ Look_Codes (Look_mk a0 a1 a2 a3 a4) = a4 := fun a0 a1 a2 a3 a4 => ⟨rfl, rfl, rfl, rfl, rfl⟩
theorem Look_e (x : TLook) : Look_mk (Look_Known x) (Look_Found x) (Look_Entry x) (Look_Done x) (Look_Codes x) = x := id rfl
theorem Look_d : Look_Known dLook = dKnown ∧ Look_Found dLook = false ∧ Look_Entry dLook = dEntry ∧ Look_Done dLook = false ∧ Look_Codes dLook = [] := ⟨rfl, rfl, rfl, rfl, rfl⟩
abbrev TZone : Type := List TSigned × List TEntry
abbrev dZone : TZone := ([], [])
noncomputable def laws_szIntS (x0 : List Int) (x1 : Int) : Option Int :=
  bif decide ((IntKind.i64.wrap (x1 - (x0.length : Int))) < (0 : Int)) then
  some (-1 : Int)
else some (IntKind.i64.wrap (x1 - (x0.length : Int)))
noncomputable def laws_szKeys (x0 : TKeys) (x1 : Int) : Option Int :=
  (laws_szIntS x0.1 x1).bind fun y1 =>
  bif decide (y1 < (0 : Int)) then
    some (-1 : Int)
  else some y1
noncomputable def laws_szHead (x0 : THead) (x1 : Int) : Option Int :=
  (laws_szKeys (Head_Keys x0) x1).bind fun y1 =>
  bif decide (y1 < (0 : Int)) then
    some (-1 : Int)
  else
    (laws_szKeys (Head_Heirs x0) y1).bind fun y2 =>
      bif decide (y2 < (0 : Int)) then
        some (-1 : Int)
      else
        (laws_szKeys (Head_Judge x0) y2).bind fun y3 =>
          bif decide (y3 < (0 : Int)) then
            some (-1 : Int)
          else some y3
noncomputable def laws_szSigS (x0 : List TSig) (x1 : Int) : Option Int :=
  bif decide ((IntKind.i64.wrap (x1 - (x0.length : Int))) < (0 : Int)) then
  some (-1 : Int)
else some (IntKind.i64.wrap (x1 - (x0.length : Int)))
noncomputable def laws_szSigned (x0 : TSigned) (x1 : Int) : Option Int :=
  (laws_szHead (Signed_Head x0) x1).bind fun y1 =>
  bif decide (y1 < (0 : Int)) then
    some (-1 : Int)
  else
    (laws_szSigS (Signed_Sigs x0) y1).bind fun y2 =>
      bif decide (y2 < (0 : Int)) then
        some (-1 : Int)
      else some y2
noncomputable abbrev laws_szSignedS.g10 (x0 : List TSigned) (r10 : Int → Int → Option Int) (v10_1 : Int) (v10_2 : Int) : Option Int :=
  bif decide (v10_2 < (x0.length : Int)) then
  bif decide (0 ≤ v10_2) then
    bif decide (v10_2 < (x0.length : Int)) then
      (laws_szSigned (x0.getD v10_2.toNat dSigned) v10_1).bind fun y1 =>
        bif decide (y1 < (0 : Int)) then
          some (-1 : Int)
        else r10 y1 (IntKind.i64.wrap (v10_2 + (1 : Int)))
    else none
  else none
else some v10_1
noncomputable def laws_szSignedS.l10 (x0 : List TSigned) (n : Nat) : Int → Int → Option Int :=
  V.iter (fun (r10 : Int → Int → Option Int) => fun v10_1 v10_2 => laws_szSignedS.g10 x0 r10 v10_1 v10_2) (fun _ _ => none) n
theorem laws_szSignedS.u10 (x0 : List TSigned) (n : Nat) (v10_1 : Int) (v10_2 : Int) : laws_szSignedS.l10 x0 (n + 1) v10_1 v10_2 = laws_szSignedS.g10 x0 (laws_szSignedS.l10 x0 n) v10_1 v10_2 := rfl
noncomputable abbrev laws_szSignedS.b (x0 : List TSigned) (x1 : Int) (L10 : Int → Int → Option Int) : Option Int :=
  bif decide ((IntKind.i64.wrap (x1 - (x0.length : Int))) < (0 : Int)) then
  some (-1 : Int)
else L10 (IntKind.i64.wrap (x1 - (x0.length : Int))) (0 : Int)
noncomputable def laws_szSignedS (x0 : List TSigned) (x1 : Int) : Option Int :=
  laws_szSignedS.b x0 x1 (laws_szSignedS.l10 x0 V.KK)
noncomputable abbrev laws_szSignedSS.g10 (x0 : List (List TSigned)) (r10 : Int → Int → Option Int) (v10_1 : Int) (v10_2 : Int) : Option Int :=
  bif decide (v10_2 < (x0.length : Int)) then
  bif decide (0 ≤ v10_2) then
    bif decide (v10_2 < (x0.length : Int)) then
      (laws_szSignedS (x0.getD v10_2.toNat []) v10_1).bind fun y1 =>
        bif decide (y1 < (0 : Int)) then
          some (-1 : Int)
        else r10 y1 (IntKind.i64.wrap (v10_2 + (1 : Int)))
    else none
  else none
else some v10_1
noncomputable def laws_szSignedSS.l10 (x0 : List (List TSigned)) (n : Nat) : Int → Int → Option Int :=
  V.iter (fun (r10 : Int → Int → Option Int) => fun v10_1 v10_2 => laws_szSignedSS.g10 x0 r10 v10_1 v10_2) (fun _ _ => none) n
theorem laws_szSignedSS.u10 (x0 : List (List TSigned)) (n : Nat) (v10_1 : Int) (v10_2 : Int) : laws_szSignedSS.l10 x0 (n + 1) v10_1 v10_2 = laws_szSignedSS.g10 x0 (laws_szSignedSS.l10 x0 n) v10_1 v10_2 := rfl
noncomputable abbrev laws_szSignedSS.b (x0 : List (List TSigned)) (x1 : Int) (L10 : Int → Int → Option Int) : Option Int :=
  bif decide ((IntKind.i64.wrap (x1 - (x0.length : Int))) < (0 : Int)) then
  some (-1 : Int)
else L10 (IntKind.i64.wrap (x1 - (x0.length : Int))) (0 : Int)
noncomputable def laws_szSignedSS (x0 : List (List TSigned)) (x1 : Int) : Option Int :=
  laws_szSignedSS.b x0 x1 (laws_szSignedSS.l10 x0 V.KK)
noncomputable def laws_szFork (x0 : TFork) (x1 : Int) : Option Int :=
  (laws_szSigned (Fork_Before x0) x1).bind fun y1 =>
  bif decide (y1 < (0 : Int)) then
    some (-1 : Int)
  else
    (laws_szSigned (Fork_A x0) y1).bind fun y2 =>
      bif decide (y2 < (0 : Int)) then
        some (-1 : Int)
      else
        (laws_szSigned (Fork_B x0) y2).bind fun y3 =>
          bif decide (y3 < (0 : Int)) then
            some (-1 : Int)
          else some y3
noncomputable abbrev laws_szForkS.g10 (x0 : List TFork) (r10 : Int → Int → Option Int) (v10_1 : Int) (v10_2 : Int) : Option Int :=
  bif decide (v10_2 < (x0.length : Int)) then
  bif decide (0 ≤ v10_2) then
    bif decide (v10_2 < (x0.length : Int)) then
      (laws_szFork (x0.getD v10_2.toNat dFork) v10_1).bind fun y1 =>
        bif decide (y1 < (0 : Int)) then
          some (-1 : Int)
        else r10 y1 (IntKind.i64.wrap (v10_2 + (1 : Int)))
    else none
  else none
else some v10_1
noncomputable def laws_szForkS.l10 (x0 : List TFork) (n : Nat) : Int → Int → Option Int :=
  V.iter (fun (r10 : Int → Int → Option Int) => fun v10_1 v10_2 => laws_szForkS.g10 x0 r10 v10_1 v10_2) (fun _ _ => none) n
theorem laws_szForkS.u10 (x0 : List TFork) (n : Nat) (v10_1 : Int) (v10_2 : Int) : laws_szForkS.l10 x0 (n + 1) v10_1 v10_2 = laws_szForkS.g10 x0 (laws_szForkS.l10 x0 n) v10_1 v10_2 := rfl
noncomputable abbrev laws_szForkS.b (x0 : List TFork) (x1 : Int) (L10 : Int → Int → Option Int) : Option Int :=
  bif decide ((IntKind.i64.wrap (x1 - (x0.length : Int))) < (0 : Int)) then
  some (-1 : Int)
else L10 (IntKind.i64.wrap (x1 - (x0.length : Int))) (0 : Int)
noncomputable def laws_szForkS (x0 : List TFork) (x1 : Int) : Option Int :=
  laws_szForkS.b x0 x1 (laws_szForkS.l10 x0 V.KK)
noncomputable def laws_szKnown (x0 : TKnown) (x1 : Int) : Option Int :=
  (laws_szSignedSS x0.1 x1).bind fun y1 =>
  bif decide (y1 < (0 : Int)) then
    some (-1 : Int)
  else
    (laws_szForkS x0.2 y1).bind fun y2 =>
      bif decide (y2 < (0 : Int)) then
        some (-1 : Int)
      else some y2
noncomputable abbrev laws_szStringS.g10 (x0 : List ByteArray) (r10 : Int → Int → Option Int) (v10_1 : Int) (v10_2 : Int) : Option Int :=
  bif decide (v10_2 < (x0.length : Int)) then
  bif decide (0 ≤ v10_2) then
    bif decide (v10_2 < (x0.length : Int)) then
      bif decide ((IntKind.i64.wrap (v10_1 - ((x0.getD v10_2.toNat (⟨#[]⟩ : ByteArray)).size : Int))) < (0 : Int)) then
        some (-1 : Int)
      else r10 (IntKind.i64.wrap (v10_1 - ((x0.getD v10_2.toNat (⟨#[]⟩ : ByteArray)).size : Int))) (IntKind.i64.wrap (v10_2 + (1 : Int)))
    else none
  else none
else some v10_1
noncomputable def laws_szStringS.l10 (x0 : List ByteArray) (n : Nat) : Int → Int → Option Int :=
  V.iter (fun (r10 : Int → Int → Option Int) => fun v10_1 v10_2 => laws_szStringS.g10 x0 r10 v10_1 v10_2) (fun _ _ => none) n
theorem laws_szStringS.u10 (x0 : List ByteArray) (n : Nat) (v10_1 : Int) (v10_2 : Int) : laws_szStringS.l10 x0 (n + 1) v10_1 v10_2 = laws_szStringS.g10 x0 (laws_szStringS.l10 x0 n) v10_1 v10_2 := rfl
noncomputable abbrev laws_szStringS.b (x0 : List ByteArray) (x1 : Int) (L10 : Int → Int → Option Int) : Option Int :=
  bif decide ((IntKind.i64.wrap (x1 - (x0.length : Int))) < (0 : Int)) then
  some (-1 : Int)
else L10 (IntKind.i64.wrap (x1 - (x0.length : Int))) (0 : Int)
noncomputable def laws_szStringS (x0 : List ByteArray) (x1 : Int) : Option Int :=
  laws_szStringS.b x0 x1 (laws_szStringS.l10 x0 V.KK)
noncomputable def laws_szEntry (x0 : TEntry) (x1 : Int) : Option Int :=
  bif decide ((IntKind.i64.wrap (x1 - (x0.1.size : Int))) < (0 : Int)) then
  some (-1 : Int)
else
  (laws_szStringS x0.2.2.2 (IntKind.i64.wrap (x1 - (x0.1.size : Int)))).bind fun y1 =>
    bif decide (y1 < (0 : Int)) then
      some (-1 : Int)
    else some y1
noncomputable def laws_szLook (x0 : TLook) (x1 : Int) : Option Int :=
  (laws_szKnown (Look_Known x0) x1).bind fun y1 =>
  bif decide (y1 < (0 : Int)) then
    some (-1 : Int)
  else
    (laws_szEntry (Look_Entry x0) y1).bind fun y2 =>
      bif decide (y2 < (0 : Int)) then
        some (-1 : Int)
      else
        (laws_szIntS (Look_Codes x0) y2).bind fun y3 =>
          bif decide (y3 < (0 : Int)) then
            some (-1 : Int)
          else some y3
noncomputable abbrev laws_toIntS.g6 (x0 : List Int) (r6 : Int → (List Int) → Option (List Int)) (v6_1 : Int) (v6_2 : List Int) : Option (List Int) :=
  bif decide (v6_1 < (x0.length : Int)) then
  bif decide (0 ≤ v6_1) then
    bif decide (v6_1 < (x0.length : Int)) then
      bif decide (0 ≤ v6_1) then
        bif decide (v6_1 < (v6_2.length : Int)) then
          r6 (IntKind.i64.wrap (v6_1 + (1 : Int))) (v6_2.set v6_1.toNat (x0.getD v6_1.toNat (0 : Int)))
        else none
      else none
    else none
  else none
else some v6_2
noncomputable def laws_toIntS.l6 (x0 : List Int) (n : Nat) : Int → (List Int) → Option (List Int) :=
  V.iter (fun (r6 : Int → (List Int) → Option (List Int)) => fun v6_1 v6_2 => laws_toIntS.g6 x0 r6 v6_1 v6_2) (fun _ _ => none) n
theorem laws_toIntS.u6 (x0 : List Int) (n : Nat) (v6_1 : Int) (v6_2 : List Int) : laws_toIntS.l6 x0 (n + 1) v6_1 v6_2 = laws_toIntS.g6 x0 (laws_toIntS.l6 x0 n) v6_1 v6_2 := rfl
noncomputable abbrev laws_toIntS.b (x0 : List Int) (L6 : Int → (List Int) → Option (List Int)) : Option (List Int) :=
  bif ((x0.length : Int) == (x0.length : Int)) then
  bif decide (0 ≤ (x0.length : Int)) then
    bif decide ((x0.length : Int) < (68719476736 : Int)) then
      L6 (0 : Int) (List.replicate ((x0.length : Int).toNat) (0 : Int))
    else none
  else none
else none
noncomputable def laws_toIntS (x0 : List Int) : Option (List Int) :=
  laws_toIntS.b x0 (laws_toIntS.l6 x0 V.KK)
noncomputable def laws_toKeys (x0 : TKeys) : Option TKeys :=
  (laws_toIntS x0.1).bind fun y1 =>
  some (y1, x0.2)
noncomputable def laws_toHead (x0 : THead) : Option THead :=
  (laws_toKeys (Head_Keys x0)).bind fun y1 =>
  (laws_toKeys (Head_Heirs x0)).bind fun y2 =>
    (laws_toKeys (Head_Judge x0)).bind fun y3 =>
      some (Head_mk (Head_Zone x0) (Head_Epoch x0) (Head_Kind x0) (Head_Time x0) (Head_Until x0) (Head_Count x0) (Head_Root x0) (Head_Prev x0) y1 y2 (Head_Wait x0) y3 (Head_Frozen x0))
noncomputable def laws_toSig (x0 : TSig) : Option TSig :=
  some x0
noncomputable abbrev laws_toSigS.g6 (x0 : List TSig) (r6 : Int → (List TSig) → Option (List TSig)) (v6_1 : Int) (v6_2 : List TSig) : Option (List TSig) :=
  bif decide (v6_1 < (x0.length : Int)) then
  bif decide (0 ≤ v6_1) then
    bif decide (v6_1 < (x0.length : Int)) then
      (laws_toSig (x0.getD v6_1.toNat dSig)).bind fun y1 =>
        bif decide (0 ≤ v6_1) then
          bif decide (v6_1 < (v6_2.length : Int)) then
            r6 (IntKind.i64.wrap (v6_1 + (1 : Int))) (v6_2.set v6_1.toNat y1)
          else none
        else none
    else none
  else none
else some v6_2
noncomputable def laws_toSigS.l6 (x0 : List TSig) (n : Nat) : Int → (List TSig) → Option (List TSig) :=
  V.iter (fun (r6 : Int → (List TSig) → Option (List TSig)) => fun v6_1 v6_2 => laws_toSigS.g6 x0 r6 v6_1 v6_2) (fun _ _ => none) n
theorem laws_toSigS.u6 (x0 : List TSig) (n : Nat) (v6_1 : Int) (v6_2 : List TSig) : laws_toSigS.l6 x0 (n + 1) v6_1 v6_2 = laws_toSigS.g6 x0 (laws_toSigS.l6 x0 n) v6_1 v6_2 := rfl
noncomputable abbrev laws_toSigS.b (x0 : List TSig) (L6 : Int → (List TSig) → Option (List TSig)) : Option (List TSig) :=
  bif ((x0.length : Int) == (x0.length : Int)) then
  bif decide (0 ≤ (x0.length : Int)) then
    bif decide ((x0.length : Int) < (68719476736 : Int)) then
      L6 (0 : Int) (List.replicate ((x0.length : Int).toNat) dSig)
    else none
  else none
else none
noncomputable def laws_toSigS (x0 : List TSig) : Option (List TSig) :=
  laws_toSigS.b x0 (laws_toSigS.l6 x0 V.KK)
noncomputable def laws_toSigned (x0 : TSigned) : Option TSigned :=
  (laws_toHead (Signed_Head x0)).bind fun y1 =>
  (laws_toSigS (Signed_Sigs x0)).bind fun y2 =>
    some (Signed_mk y1 y2)
noncomputable abbrev laws_toSignedS.g6 (x0 : List TSigned) (r6 : Int → (List TSigned) → Option (List TSigned)) (v6_1 : Int) (v6_2 : List TSigned) : Option (List TSigned) :=
  bif decide (v6_1 < (x0.length : Int)) then
  bif decide (0 ≤ v6_1) then
    bif decide (v6_1 < (x0.length : Int)) then
      (laws_toSigned (x0.getD v6_1.toNat dSigned)).bind fun y1 =>
        bif decide (0 ≤ v6_1) then
          bif decide (v6_1 < (v6_2.length : Int)) then
            r6 (IntKind.i64.wrap (v6_1 + (1 : Int))) (v6_2.set v6_1.toNat y1)
          else none
        else none
    else none
  else none
else some v6_2
noncomputable def laws_toSignedS.l6 (x0 : List TSigned) (n : Nat) : Int → (List TSigned) → Option (List TSigned) :=
  V.iter (fun (r6 : Int → (List TSigned) → Option (List TSigned)) => fun v6_1 v6_2 => laws_toSignedS.g6 x0 r6 v6_1 v6_2) (fun _ _ => none) n
theorem laws_toSignedS.u6 (x0 : List TSigned) (n : Nat) (v6_1 : Int) (v6_2 : List TSigned) : laws_toSignedS.l6 x0 (n + 1) v6_1 v6_2 = laws_toSignedS.g6 x0 (laws_toSignedS.l6 x0 n) v6_1 v6_2 := rfl
noncomputable abbrev laws_toSignedS.b (x0 : List TSigned) (L6 : Int → (List TSigned) → Option (List TSigned)) : Option (List TSigned) :=
  bif ((x0.length : Int) == (x0.length : Int)) then
  bif decide (0 ≤ (x0.length : Int)) then
    bif decide ((x0.length : Int) < (68719476736 : Int)) then
      L6 (0 : Int) (List.replicate ((x0.length : Int).toNat) dSigned)
    else none
  else none
else none
noncomputable def laws_toSignedS (x0 : List TSigned) : Option (List TSigned) :=
  laws_toSignedS.b x0 (laws_toSignedS.l6 x0 V.KK)
noncomputable abbrev laws_toSignedSS.g6 (x0 : List (List TSigned)) (r6 : Int → (List (List TSigned)) → Option (List (List TSigned))) (v6_1 : Int) (v6_2 : List (List TSigned)) : Option (List (List TSigned)) :=
  bif decide (v6_1 < (x0.length : Int)) then
  bif decide (0 ≤ v6_1) then
    bif decide (v6_1 < (x0.length : Int)) then
      (laws_toSignedS (x0.getD v6_1.toNat [])).bind fun y1 =>
        bif decide (0 ≤ v6_1) then
          bif decide (v6_1 < (v6_2.length : Int)) then
            r6 (IntKind.i64.wrap (v6_1 + (1 : Int))) (v6_2.set v6_1.toNat y1)
          else none
        else none
    else none
  else none
else some v6_2
noncomputable def laws_toSignedSS.l6 (x0 : List (List TSigned)) (n : Nat) : Int → (List (List TSigned)) → Option (List (List TSigned)) :=
  V.iter (fun (r6 : Int → (List (List TSigned)) → Option (List (List TSigned))) => fun v6_1 v6_2 => laws_toSignedSS.g6 x0 r6 v6_1 v6_2) (fun _ _ => none) n
theorem laws_toSignedSS.u6 (x0 : List (List TSigned)) (n : Nat) (v6_1 : Int) (v6_2 : List (List TSigned)) : laws_toSignedSS.l6 x0 (n + 1) v6_1 v6_2 = laws_toSignedSS.g6 x0 (laws_toSignedSS.l6 x0 n) v6_1 v6_2 := rfl
noncomputable abbrev laws_toSignedSS.b (x0 : List (List TSigned)) (L6 : Int → (List (List TSigned)) → Option (List (List TSigned))) : Option (List (List TSigned)) :=
  bif ((x0.length : Int) == (x0.length : Int)) then
  bif decide (0 ≤ (x0.length : Int)) then
    bif decide ((x0.length : Int) < (68719476736 : Int)) then
      L6 (0 : Int) (List.replicate ((x0.length : Int).toNat) [])
    else none
  else none
else none
noncomputable def laws_toSignedSS (x0 : List (List TSigned)) : Option (List (List TSigned)) :=
  laws_toSignedSS.b x0 (laws_toSignedSS.l6 x0 V.KK)
noncomputable def laws_toFork (x0 : TFork) : Option TFork :=
  (laws_toSigned (Fork_Before x0)).bind fun y1 =>
  (laws_toSigned (Fork_A x0)).bind fun y2 =>
    (laws_toSigned (Fork_B x0)).bind fun y3 =>
      some (Fork_mk y1 y2 y3)
noncomputable abbrev laws_toForkS.g6 (x0 : List TFork) (r6 : Int → (List TFork) → Option (List TFork)) (v6_1 : Int) (v6_2 : List TFork) : Option (List TFork) :=
  bif decide (v6_1 < (x0.length : Int)) then
  bif decide (0 ≤ v6_1) then
    bif decide (v6_1 < (x0.length : Int)) then
      (laws_toFork (x0.getD v6_1.toNat dFork)).bind fun y1 =>
        bif decide (0 ≤ v6_1) then
          bif decide (v6_1 < (v6_2.length : Int)) then
            r6 (IntKind.i64.wrap (v6_1 + (1 : Int))) (v6_2.set v6_1.toNat y1)
          else none
        else none
    else none
  else none
else some v6_2
noncomputable def laws_toForkS.l6 (x0 : List TFork) (n : Nat) : Int → (List TFork) → Option (List TFork) :=
  V.iter (fun (r6 : Int → (List TFork) → Option (List TFork)) => fun v6_1 v6_2 => laws_toForkS.g6 x0 r6 v6_1 v6_2) (fun _ _ => none) n
theorem laws_toForkS.u6 (x0 : List TFork) (n : Nat) (v6_1 : Int) (v6_2 : List TFork) : laws_toForkS.l6 x0 (n + 1) v6_1 v6_2 = laws_toForkS.g6 x0 (laws_toForkS.l6 x0 n) v6_1 v6_2 := rfl
noncomputable abbrev laws_toForkS.b (x0 : List TFork) (L6 : Int → (List TFork) → Option (List TFork)) : Option (List TFork) :=
  bif ((x0.length : Int) == (x0.length : Int)) then
  bif decide (0 ≤ (x0.length : Int)) then
    bif decide ((x0.length : Int) < (68719476736 : Int)) then
      L6 (0 : Int) (List.replicate ((x0.length : Int).toNat) dFork)
    else none
  else none
else none
noncomputable def laws_toForkS (x0 : List TFork) : Option (List TFork) :=
  laws_toForkS.b x0 (laws_toForkS.l6 x0 V.KK)
noncomputable def laws_toKnown (x0 : TKnown) : Option TKnown :=
  (laws_toSignedSS x0.1).bind fun y1 =>
  (laws_toForkS x0.2).bind fun y2 =>
    some (y1, y2)
noncomputable abbrev laws_toStringS.g6 (x0 : List ByteArray) (r6 : Int → (List ByteArray) → Option (List ByteArray)) (v6_1 : Int) (v6_2 : List ByteArray) : Option (List ByteArray) :=
  bif decide (v6_1 < (x0.length : Int)) then
  bif decide (0 ≤ v6_1) then
    bif decide (v6_1 < (x0.length : Int)) then
      bif decide (0 ≤ v6_1) then
        bif decide (v6_1 < (v6_2.length : Int)) then
          r6 (IntKind.i64.wrap (v6_1 + (1 : Int))) (v6_2.set v6_1.toNat (x0.getD v6_1.toNat (⟨#[]⟩ : ByteArray)))
        else none
      else none
    else none
  else none
else some v6_2
noncomputable def laws_toStringS.l6 (x0 : List ByteArray) (n : Nat) : Int → (List ByteArray) → Option (List ByteArray) :=
  V.iter (fun (r6 : Int → (List ByteArray) → Option (List ByteArray)) => fun v6_1 v6_2 => laws_toStringS.g6 x0 r6 v6_1 v6_2) (fun _ _ => none) n
theorem laws_toStringS.u6 (x0 : List ByteArray) (n : Nat) (v6_1 : Int) (v6_2 : List ByteArray) : laws_toStringS.l6 x0 (n + 1) v6_1 v6_2 = laws_toStringS.g6 x0 (laws_toStringS.l6 x0 n) v6_1 v6_2 := rfl
noncomputable abbrev laws_toStringS.b (x0 : List ByteArray) (L6 : Int → (List ByteArray) → Option (List ByteArray)) : Option (List ByteArray) :=
  bif ((x0.length : Int) == (x0.length : Int)) then
  bif decide (0 ≤ (x0.length : Int)) then
    bif decide ((x0.length : Int) < (68719476736 : Int)) then
      L6 (0 : Int) (List.replicate ((x0.length : Int).toNat) (⟨#[]⟩ : ByteArray))
    else none
  else none
else none
noncomputable def laws_toStringS (x0 : List ByteArray) : Option (List ByteArray) :=
  laws_toStringS.b x0 (laws_toStringS.l6 x0 V.KK)
noncomputable def laws_toEntry (x0 : TEntry) : Option TEntry :=
  (laws_toStringS x0.2.2.2).bind fun y1 =>
  some (x0.1, x0.2.1, x0.2.2.1, y1)
noncomputable def laws_toLook (x0 : TLook) : Option TLook :=
  (laws_toKnown (Look_Known x0)).bind fun y1 =>
  (laws_toEntry (Look_Entry x0)).bind fun y2 =>
    (laws_toIntS (Look_Codes x0)).bind fun y3 =>
      some (Look_mk y1 (Look_Found x0) y2 (Look_Done x0) y3)
noncomputable abbrev spec_SamePath.g8 (x0 : List ByteArray) (x1 : List ByteArray) (r8 : Int → Option Bool) (v8_2 : Int) : Option Bool :=
  bif decide (v8_2 < (x0.length : Int)) then
  bif decide (0 ≤ v8_2) then
    bif decide (v8_2 < (x0.length : Int)) then
      bif decide (0 ≤ v8_2) then
        bif decide (v8_2 < (x1.length : Int)) then
          bif !((x0.getD v8_2.toNat (⟨#[]⟩ : ByteArray)).toList == (x1.getD v8_2.toNat (⟨#[]⟩ : ByteArray)).toList) then
            some false
          else r8 (IntKind.i64.wrap (v8_2 + (1 : Int)))
        else none
      else none
    else none
  else none
else some true
noncomputable def spec_SamePath.l8 (x0 : List ByteArray) (x1 : List ByteArray) (n : Nat) : Int → Option Bool :=
  V.iter (fun (r8 : Int → Option Bool) => fun v8_2 => spec_SamePath.g8 x0 x1 r8 v8_2) (fun _ => none) n
theorem spec_SamePath.u8 (x0 : List ByteArray) (x1 : List ByteArray) (n : Nat) (v8_2 : Int) : spec_SamePath.l8 x0 x1 (n + 1) v8_2 = spec_SamePath.g8 x0 x1 (spec_SamePath.l8 x0 x1 n) v8_2 := rfl
noncomputable abbrev spec_SamePath.b (x0 : List ByteArray) (x1 : List ByteArray) (L8 : Int → Option Bool) : Option Bool :=
  bif (x0.length : Int) != (x1.length : Int) then
  some false
else L8 (0 : Int)
noncomputable def spec_SamePath (x0 : List ByteArray) (x1 : List ByteArray) : Option Bool :=
  spec_SamePath.b x0 x1 (spec_SamePath.l8 x0 x1 V.KK)
noncomputable def spec_EqualEntries (x0 : TEntry) (x1 : TEntry) : Option Bool :=
  bif x0.1.toList == x1.1.toList then
  bif x0.2.1 == x1.2.1 then
    bif x0.2.2.1 == x1.2.2.1 then
      (spec_SamePath x0.2.2.2 x1.2.2.2).bind fun y1 =>
        some y1
    else some false
  else some false
else some false
noncomputable abbrev spec_SameEntries.g8 (x0 : List TEntry) (x1 : List TEntry) (r8 : Int → Option Bool) (v8_2 : Int) : Option Bool :=
  bif decide (v8_2 < (x0.length : Int)) then
  bif decide (0 ≤ v8_2) then
    bif decide (v8_2 < (x0.length : Int)) then
      bif decide (0 ≤ v8_2) then
        bif decide (v8_2 < (x1.length : Int)) then
          (spec_EqualEntries (x0.getD v8_2.toNat dEntry) (x1.getD v8_2.toNat dEntry)).bind fun y1 =>
            bif !y1 then
              some false
            else r8 (IntKind.i64.wrap (v8_2 + (1 : Int)))
        else none
      else none
    else none
  else none
else some true
noncomputable def spec_SameEntries.l8 (x0 : List TEntry) (x1 : List TEntry) (n : Nat) : Int → Option Bool :=
  V.iter (fun (r8 : Int → Option Bool) => fun v8_2 => spec_SameEntries.g8 x0 x1 r8 v8_2) (fun _ => none) n
theorem spec_SameEntries.u8 (x0 : List TEntry) (x1 : List TEntry) (n : Nat) (v8_2 : Int) : spec_SameEntries.l8 x0 x1 (n + 1) v8_2 = spec_SameEntries.g8 x0 x1 (spec_SameEntries.l8 x0 x1 n) v8_2 := rfl
noncomputable abbrev spec_SameEntries.b (x0 : List TEntry) (x1 : List TEntry) (L8 : Int → Option Bool) : Option Bool :=
  bif (x0.length : Int) != (x1.length : Int) then
  some false
else L8 (0 : Int)
noncomputable def spec_SameEntries (x0 : List TEntry) (x1 : List TEntry) : Option Bool :=
  spec_SameEntries.b x0 x1 (spec_SameEntries.l8 x0 x1 V.KK)
noncomputable def spec_KeysInts (x0 : TKeys) : Option (List Int) :=
  bif decide ([x0.2, (x0.1.length : Int)].length + x0.1.length < 68719476736) then
  some ([x0.2, (x0.1.length : Int)] ++ x0.1)
else none
noncomputable def spec_HeadInts (x0 : THead) : Option (List Int) :=
  (spec_KeysInts (Head_Keys x0)).bind fun y1 =>
  bif decide ([(Head_Zone x0), (Head_Epoch x0), (Head_Kind x0), (Head_Time x0), (Head_Until x0), (Head_Count x0), (Head_Root x0), (Head_Prev x0)].length + y1.length < 68719476736) then
    (spec_KeysInts (Head_Heirs x0)).bind fun y2 =>
      bif decide (([(Head_Zone x0), (Head_Epoch x0), (Head_Kind x0), (Head_Time x0), (Head_Until x0), (Head_Count x0), (Head_Root x0), (Head_Prev x0)] ++ y1).length + y2.length < 68719476736) then
        bif decide ((([(Head_Zone x0), (Head_Epoch x0), (Head_Kind x0), (Head_Time x0), (Head_Until x0), (Head_Count x0), (Head_Root x0), (Head_Prev x0)] ++ y1) ++ y2).length + [(Head_Wait x0)].length < 68719476736) then
          (spec_KeysInts (Head_Judge x0)).bind fun y3 =>
            bif decide (((([(Head_Zone x0), (Head_Epoch x0), (Head_Kind x0), (Head_Time x0), (Head_Until x0), (Head_Count x0), (Head_Root x0), (Head_Prev x0)] ++ y1) ++ y2) ++ [(Head_Wait x0)]).length + y3.length < 68719476736) then
              bif (Head_Frozen x0) then
                bif decide ((((([(Head_Zone x0), (Head_Epoch x0), (Head_Kind x0), (Head_Time x0), (Head_Until x0), (Head_Count x0), (Head_Root x0), (Head_Prev x0)] ++ y1) ++ y2) ++ [(Head_Wait x0)]) ++ y3).length + [(1 : Int)].length < 68719476736) then
                  some ((((([(Head_Zone x0), (Head_Epoch x0), (Head_Kind x0), (Head_Time x0), (Head_Until x0), (Head_Count x0), (Head_Root x0), (Head_Prev x0)] ++ y1) ++ y2) ++ [(Head_Wait x0)]) ++ y3) ++ [(1 : Int)])
                else none
              else
                bif decide ((((([(Head_Zone x0), (Head_Epoch x0), (Head_Kind x0), (Head_Time x0), (Head_Until x0), (Head_Count x0), (Head_Root x0), (Head_Prev x0)] ++ y1) ++ y2) ++ [(Head_Wait x0)]) ++ y3).length + [(0 : Int)].length < 68719476736) then
                  some ((((([(Head_Zone x0), (Head_Epoch x0), (Head_Kind x0), (Head_Time x0), (Head_Until x0), (Head_Count x0), (Head_Root x0), (Head_Prev x0)] ++ y1) ++ y2) ++ [(Head_Wait x0)]) ++ y3) ++ [(0 : Int)])
                else none
            else none
        else none
      else none
  else none
noncomputable abbrev spec_EqualInts.g8 (x0 : List Int) (x1 : List Int) (r8 : Int → Option Bool) (v8_2 : Int) : Option Bool :=
  bif decide (v8_2 < (x0.length : Int)) then
  bif decide (0 ≤ v8_2) then
    bif decide (v8_2 < (x0.length : Int)) then
      bif decide (0 ≤ v8_2) then
        bif decide (v8_2 < (x1.length : Int)) then
          bif (x0.getD v8_2.toNat (0 : Int)) != (x1.getD v8_2.toNat (0 : Int)) then
            some false
          else r8 (IntKind.i64.wrap (v8_2 + (1 : Int)))
        else none
      else none
    else none
  else none
else some true
noncomputable def spec_EqualInts.l8 (x0 : List Int) (x1 : List Int) (n : Nat) : Int → Option Bool :=
  V.iter (fun (r8 : Int → Option Bool) => fun v8_2 => spec_EqualInts.g8 x0 x1 r8 v8_2) (fun _ => none) n
theorem spec_EqualInts.u8 (x0 : List Int) (x1 : List Int) (n : Nat) (v8_2 : Int) : spec_EqualInts.l8 x0 x1 (n + 1) v8_2 = spec_EqualInts.g8 x0 x1 (spec_EqualInts.l8 x0 x1 n) v8_2 := rfl
noncomputable abbrev spec_EqualInts.b (x0 : List Int) (x1 : List Int) (L8 : Int → Option Bool) : Option Bool :=
  bif (x0.length : Int) != (x1.length : Int) then
  some false
else L8 (0 : Int)
noncomputable def spec_EqualInts (x0 : List Int) (x1 : List Int) : Option Bool :=
  spec_EqualInts.b x0 x1 (spec_EqualInts.l8 x0 x1 V.KK)
noncomputable def spec_EqualHeads (x0 : THead) (x1 : THead) : Option Bool :=
  (spec_HeadInts x0).bind fun y1 =>
  (spec_HeadInts x1).bind fun y2 =>
    (spec_EqualInts y1 y2).bind fun y3 =>
      bif y3 then
        some ((Head_Frozen x0) == (Head_Frozen x1))
      else some false
noncomputable abbrev spec_EqualSigned.g8 (x0 : TSigned) (x1 : TSigned) (r8 : Int → Option Bool) (v8_0 : Int) : Option Bool :=
  bif decide (v8_0 < ((Signed_Sigs x0).length : Int)) then
  bif decide (0 ≤ v8_0) then
    bif decide (v8_0 < (((Signed_Sigs x0).length) : Int)) then
      bif decide (0 ≤ v8_0) then
        bif decide (v8_0 < (((Signed_Sigs x1).length) : Int)) then
          bif !((((Signed_Sigs x0).getD v8_0.toNat dSig).1 == ((Signed_Sigs x1).getD v8_0.toNat dSig).1) && ((((Signed_Sigs x0).getD v8_0.toNat dSig).2 == ((Signed_Sigs x1).getD v8_0.toNat dSig).2) && true)) then
            some false
          else r8 (IntKind.i64.wrap (v8_0 + (1 : Int)))
        else none
      else none
    else none
  else none
else some true
noncomputable def spec_EqualSigned.l8 (x0 : TSigned) (x1 : TSigned) (n : Nat) : Int → Option Bool :=
  V.iter (fun (r8 : Int → Option Bool) => fun v8_0 => spec_EqualSigned.g8 x0 x1 r8 v8_0) (fun _ => none) n
theorem spec_EqualSigned.u8 (x0 : TSigned) (x1 : TSigned) (n : Nat) (v8_0 : Int) : spec_EqualSigned.l8 x0 x1 (n + 1) v8_0 = spec_EqualSigned.g8 x0 x1 (spec_EqualSigned.l8 x0 x1 n) v8_0 := rfl
noncomputable abbrev spec_EqualSigned.g7 (x0 : TSigned) (x1 : TSigned) (L8 : Int → Option Bool) : Option Bool :=
  L8 (0 : Int)
noncomputable def spec_EqualSigned.l7 (x0 : TSigned) (x1 : TSigned) : Option Bool :=
  spec_EqualSigned.g7 x0 x1 (spec_EqualSigned.l8 x0 x1 V.KK)
noncomputable abbrev spec_EqualSigned.b (x0 : TSigned) (x1 : TSigned) (L7 : Option Bool) : Option Bool :=
  (spec_EqualHeads (Signed_Head x0) (Signed_Head x1)).bind fun y1 =>
  bif !y1 then
    some false
  else
    bif ((Signed_Sigs x0).length : Int) != ((Signed_Sigs x1).length : Int) then
      some false
    else L7
noncomputable def spec_EqualSigned (x0 : TSigned) (x1 : TSigned) : Option Bool :=
  spec_EqualSigned.b x0 x1 (spec_EqualSigned.l7 x0 x1)
noncomputable abbrev spec_EqualZones.g8 (x0 : TZone) (x1 : TZone) (r8 : Int → Option Bool) (v8_0 : Int) : Option Bool :=
  bif decide (v8_0 < (x0.1.length : Int)) then
  bif decide (0 ≤ v8_0) then
    bif decide (v8_0 < (x0.1.length : Int)) then
      bif decide (0 ≤ v8_0) then
        bif decide (v8_0 < (x1.1.length : Int)) then
          (spec_EqualSigned (x0.1.getD v8_0.toNat dSigned) (x1.1.getD v8_0.toNat dSigned)).bind fun y2 =>
            bif !y2 then
              some false
            else r8 (IntKind.i64.wrap (v8_0 + (1 : Int)))
        else none
      else none
    else none
  else none
else some true
noncomputable def spec_EqualZones.l8 (x0 : TZone) (x1 : TZone) (n : Nat) : Int → Option Bool :=
  V.iter (fun (r8 : Int → Option Bool) => fun v8_0 => spec_EqualZones.g8 x0 x1 r8 v8_0) (fun _ => none) n
theorem spec_EqualZones.u8 (x0 : TZone) (x1 : TZone) (n : Nat) (v8_0 : Int) : spec_EqualZones.l8 x0 x1 (n + 1) v8_0 = spec_EqualZones.g8 x0 x1 (spec_EqualZones.l8 x0 x1 n) v8_0 := rfl
noncomputable abbrev spec_EqualZones.g7 (x0 : TZone) (x1 : TZone) (L8 : Int → Option Bool) : Option Bool :=
  L8 (0 : Int)
noncomputable def spec_EqualZones.l7 (x0 : TZone) (x1 : TZone) : Option Bool :=
  spec_EqualZones.g7 x0 x1 (spec_EqualZones.l8 x0 x1 V.KK)
noncomputable abbrev spec_EqualZones.b (x0 : TZone) (x1 : TZone) (L7 : Option Bool) : Option Bool :=
  bif (x0.1.length : Int) != (x1.1.length : Int) then
  some false
else
  (spec_SameEntries x0.2 x1.2).bind fun y1 =>
    bif !y1 then
      some false
    else L7
noncomputable def spec_EqualZones (x0 : TZone) (x1 : TZone) : Option Bool :=
  spec_EqualZones.b x0 x1 (spec_EqualZones.l7 x0 x1)
noncomputable def spec_EqualForks (x0 : TFork) (x1 : TFork) : Option Bool :=
  (spec_EqualSigned (Fork_Before x0) (Fork_Before x1)).bind fun y1 =>
  bif y1 then
    (spec_EqualSigned (Fork_A x0) (Fork_A x1)).bind fun y2 =>
      bif y2 then
        (spec_EqualSigned (Fork_B x0) (Fork_B x1)).bind fun y3 =>
          some y3
      else some false
  else some false
noncomputable abbrev spec_EqualKnown.g22 (x0 : TKnown) (x1 : TKnown) (r22 : Int → Option Bool) (v22_0 : Int) : Option Bool :=
  bif decide (v22_0 < (x0.2.length : Int)) then
  bif decide (0 ≤ v22_0) then
    bif decide (v22_0 < (x0.2.length : Int)) then
      bif decide (0 ≤ v22_0) then
        bif decide (v22_0 < (x1.2.length : Int)) then
          (spec_EqualForks (x0.2.getD v22_0.toNat dFork) (x1.2.getD v22_0.toNat dFork)).bind fun y2 =>
            bif !y2 then
              some false
            else r22 (IntKind.i64.wrap (v22_0 + (1 : Int)))
        else none
      else none
    else none
  else none
else some true
noncomputable def spec_EqualKnown.l22 (x0 : TKnown) (x1 : TKnown) (n : Nat) : Int → Option Bool :=
  V.iter (fun (r22 : Int → Option Bool) => fun v22_0 => spec_EqualKnown.g22 x0 x1 r22 v22_0) (fun _ => none) n
theorem spec_EqualKnown.u22 (x0 : TKnown) (x1 : TKnown) (n : Nat) (v22_0 : Int) : spec_EqualKnown.l22 x0 x1 (n + 1) v22_0 = spec_EqualKnown.g22 x0 x1 (spec_EqualKnown.l22 x0 x1 n) v22_0 := rfl
noncomputable abbrev spec_EqualKnown.g8 (x0 : TKnown) (x1 : TKnown) (r8 : Int → Option Bool) (L22 : Int → Option Bool) (v8_0 : Int) : Option Bool :=
  bif decide (v8_0 < (x0.1.length : Int)) then
  bif decide (0 ≤ v8_0) then
    bif decide (v8_0 < (x0.1.length : Int)) then
      bif decide (0 ≤ v8_0) then
        bif decide (v8_0 < (x1.1.length : Int)) then
          (spec_EqualZones (x0.1.getD v8_0.toNat [], []) (x1.1.getD v8_0.toNat [], [])).bind fun y1 =>
            bif !y1 then
              some false
            else r8 (IntKind.i64.wrap (v8_0 + (1 : Int)))
        else none
      else none
    else none
  else none
else L22 (0 : Int)
noncomputable def spec_EqualKnown.l8 (x0 : TKnown) (x1 : TKnown) (n : Nat) : Int → Option Bool :=
  V.iter (fun (r8 : Int → Option Bool) => fun v8_0 => spec_EqualKnown.g8 x0 x1 r8 (spec_EqualKnown.l22 x0 x1 V.KK) v8_0) (fun _ => none) n
theorem spec_EqualKnown.u8 (x0 : TKnown) (x1 : TKnown) (n : Nat) (v8_0 : Int) : spec_EqualKnown.l8 x0 x1 (n + 1) v8_0 = spec_EqualKnown.g8 x0 x1 (spec_EqualKnown.l8 x0 x1 n) (spec_EqualKnown.l22 x0 x1 V.KK) v8_0 := rfl
noncomputable abbrev spec_EqualKnown.g7 (x0 : TKnown) (x1 : TKnown) (L8 : Int → Option Bool) : Option Bool :=
  L8 (0 : Int)
noncomputable def spec_EqualKnown.l7 (x0 : TKnown) (x1 : TKnown) : Option Bool :=
  spec_EqualKnown.g7 x0 x1 (spec_EqualKnown.l8 x0 x1 V.KK)
noncomputable abbrev spec_EqualKnown.b (x0 : TKnown) (x1 : TKnown) (L7 : Option Bool) : Option Bool :=
  bif (x0.1.length : Int) != (x1.1.length : Int) then
  some false
else
  bif (x0.2.length : Int) != (x1.2.length : Int) then
    some false
  else L7
noncomputable def spec_EqualKnown (x0 : TKnown) (x1 : TKnown) : Option Bool :=
  spec_EqualKnown.b x0 x1 (spec_EqualKnown.l7 x0 x1)
noncomputable def spec_EqualLooks (x0 : TLook) (x1 : TLook) : Option Bool :=
  (spec_EqualKnown (Look_Known x0) (Look_Known x1)).bind fun y1 =>
  bif y1 then
    bif (Look_Found x0) == (Look_Found x1) then
      (spec_EqualEntries (Look_Entry x0) (Look_Entry x1)).bind fun y2 =>
        bif y2 then
          bif (Look_Done x0) == (Look_Done x1) then
            (spec_EqualInts (Look_Codes x0) (Look_Codes x1)).bind fun y3 =>
              some y3
          else some false
        else some false
    else some false
  else some false
noncomputable abbrev slices_Equal_int.g8 (x0 : List Int) (x1 : List Int) (r8 : Int → Int → Option Bool) (v8_2 : Int) (v8_3 : Int) : Option Bool :=
  bif decide (v8_3 < v8_2) then
  bif decide (0 ≤ v8_3) then
    bif decide (v8_3 < (x0.length : Int)) then
      bif decide (0 ≤ v8_3) then
        bif decide (v8_3 < (x1.length : Int)) then
          bif (x0.getD v8_3.toNat (0 : Int)) != (x1.getD v8_3.toNat (0 : Int)) then
            some false
          else r8 v8_2 (IntKind.i64.wrap (v8_3 + (1 : Int)))
        else none
      else none
    else none
  else none
else some true
noncomputable def slices_Equal_int.l8 (x0 : List Int) (x1 : List Int) (n : Nat) : Int → Int → Option Bool :=
  V.iter (fun (r8 : Int → Int → Option Bool) => fun v8_2 v8_3 => slices_Equal_int.g8 x0 x1 r8 v8_2 v8_3) (fun _ _ => none) n
theorem slices_Equal_int.u8 (x0 : List Int) (x1 : List Int) (n : Nat) (v8_2 : Int) (v8_3 : Int) : slices_Equal_int.l8 x0 x1 (n + 1) v8_2 v8_3 = slices_Equal_int.g8 x0 x1 (slices_Equal_int.l8 x0 x1 n) v8_2 v8_3 := rfl
noncomputable abbrev slices_Equal_int.b (x0 : List Int) (x1 : List Int) (L8 : Int → Int → Option Bool) : Option Bool :=
  bif (x0.length : Int) != (x1.length : Int) then
  some false
else L8 (x0.length : Int) (0 : Int)
noncomputable def slices_Equal_int (x0 : List Int) (x1 : List Int) : Option Bool :=
  slices_Equal_int.b x0 x1 (slices_Equal_int.l8 x0 x1 V.KK)
noncomputable def impl_EqualKeys (x0 : TKeys) (x1 : TKeys) : Option Bool :=
  (slices_Equal_int x0.1 x1.1).bind fun y1 =>
  bif y1 then
    some (x0.2 == x1.2)
  else some false
noncomputable def impl_KeysInts (x0 : TKeys) : Option (List Int) :=
  bif decide ([x0.2, (x0.1.length : Int)].length + x0.1.length < 68719476736) then
  some ([x0.2, (x0.1.length : Int)] ++ x0.1)
else none
noncomputable def impl_bit (x0 : Bool) : Option Int :=
  bif x0 then
  some (1 : Int)
else some (0 : Int)
noncomputable abbrev slices_Grow_int.g7 (x1 : Int) : Option (List Int) :=
  bif decide ((IntKind.i64.wrap (x1 - (IntKind.i64.wrap ((0 : Int) - ((0 : Nat) : Int))))) > (0 : Int)) then
  bif decide (0 ≤ (IntKind.i64.wrap (x1 - (IntKind.i64.wrap ((0 : Int) - ((0 : Nat) : Int)))))) then
    bif decide ((IntKind.i64.wrap (x1 - (IntKind.i64.wrap ((0 : Int) - ((0 : Nat) : Int))))) < (68719476736 : Int)) then
      bif decide (0 ≤ (0 : Int)) then
        bif decide ((0 : Int) ≤ ((0 : Nat) : Int)) then
          bif decide (((0 : Nat) : Int) ≤ (((List.replicate ((IntKind.i64.wrap (x1 - (IntKind.i64.wrap ((0 : Int) - ((0 : Nat) : Int))))).toNat) (0 : Int)).length) : Int)) then
            some ((List.replicate ((IntKind.i64.wrap (x1 - (IntKind.i64.wrap ((0 : Int) - ((0 : Nat) : Int))))).toNat) (0 : Int)).take (((0 : Nat) : Int).toNat))
          else none
        else none
      else none
    else none
  else none
else some []
noncomputable def slices_Grow_int.l7 (x1 : Int) : Option (List Int) :=
  slices_Grow_int.g7 x1
noncomputable abbrev slices_Grow_int.b (x0 : List Int) (x1 : Int) (L7 : Option (List Int)) : Option (List Int) :=
  bif decide (x1 < (0 : Int)) then
  none
else L7
noncomputable def slices_Grow_int (x0 : List Int) (x1 : Int) : Option (List Int) :=
  slices_Grow_int.b x0 x1 (slices_Grow_int.l7 x1)
noncomputable abbrev slices_Concat_int.g22 (x0 : List (List Int)) (r22 : Int → Int → (List Int) → Option (List Int)) (v22_1 : Int) (v22_2 : Int) (v22_3 : List Int) : Option (List Int) :=
  bif decide (v22_2 < v22_1) then
  bif decide (0 ≤ v22_2) then
    bif decide (v22_2 < (x0.length : Int)) then
      bif decide (v22_3.length + (x0.getD v22_2.toNat []).length < 68719476736) then
        r22 v22_1 (IntKind.i64.wrap (v22_2 + (1 : Int))) (v22_3 ++ (x0.getD v22_2.toNat []))
      else none
    else none
  else none
else some v22_3
noncomputable def slices_Concat_int.l22 (x0 : List (List Int)) (n : Nat) : Int → Int → (List Int) → Option (List Int) :=
  V.iter (fun (r22 : Int → Int → (List Int) → Option (List Int)) => fun v22_1 v22_2 v22_3 => slices_Concat_int.g22 x0 r22 v22_1 v22_2 v22_3) (fun _ _ _ => none) n
theorem slices_Concat_int.u22 (x0 : List (List Int)) (n : Nat) (v22_1 : Int) (v22_2 : Int) (v22_3 : List Int) : slices_Concat_int.l22 x0 (n + 1) v22_1 v22_2 v22_3 = slices_Concat_int.g22 x0 (slices_Concat_int.l22 x0 n) v22_1 v22_2 v22_3 := rfl
noncomputable abbrev slices_Concat_int.g6 (x0 : List (List Int)) (r6 : Int → Int → Int → Option (List Int)) (L22 : Int → Int → (List Int) → Option (List Int)) (v6_1 : Int) (v6_3 : Int) (v6_4 : Int) : Option (List Int) :=
  bif decide (v6_4 < v6_3) then
  bif decide (0 ≤ v6_4) then
    bif decide (v6_4 < (x0.length : Int)) then
      bif decide ((IntKind.i64.wrap (v6_1 + ((x0.getD v6_4.toNat []).length : Int))) < (0 : Int)) then
        none
      else r6 (IntKind.i64.wrap (v6_1 + ((x0.getD v6_4.toNat []).length : Int))) v6_3 (IntKind.i64.wrap (v6_4 + (1 : Int)))
    else none
  else none
else
  (slices_Grow_int [] v6_1).bind fun y1 =>
    L22 (x0.length : Int) (0 : Int) y1
noncomputable def slices_Concat_int.l6 (x0 : List (List Int)) (n : Nat) : Int → Int → Int → Option (List Int) :=
  V.iter (fun (r6 : Int → Int → Int → Option (List Int)) => fun v6_1 v6_3 v6_4 => slices_Concat_int.g6 x0 r6 (slices_Concat_int.l22 x0 V.KK) v6_1 v6_3 v6_4) (fun _ _ _ => none) n
theorem slices_Concat_int.u6 (x0 : List (List Int)) (n : Nat) (v6_1 : Int) (v6_3 : Int) (v6_4 : Int) : slices_Concat_int.l6 x0 (n + 1) v6_1 v6_3 v6_4 = slices_Concat_int.g6 x0 (slices_Concat_int.l6 x0 n) (slices_Concat_int.l22 x0 V.KK) v6_1 v6_3 v6_4 := rfl
noncomputable abbrev slices_Concat_int.b (x0 : List (List Int)) (L6 : Int → Int → Int → Option (List Int)) : Option (List Int) :=
  L6 (0 : Int) (x0.length : Int) (0 : Int)
noncomputable def slices_Concat_int (x0 : List (List Int)) : Option (List Int) :=
  slices_Concat_int.b x0 (slices_Concat_int.l6 x0 V.KK)
noncomputable def impl_HeadInts (x0 : THead) : Option (List Int) :=
  (impl_KeysInts (Head_Keys x0)).bind fun y1 =>
  (impl_KeysInts (Head_Heirs x0)).bind fun y2 =>
    (impl_KeysInts (Head_Judge x0)).bind fun y3 =>
      (impl_bit (Head_Frozen x0)).bind fun y4 =>
        (slices_Concat_int [[(Head_Zone x0), (Head_Epoch x0), (Head_Kind x0), (Head_Time x0), (Head_Until x0), (Head_Count x0), (Head_Root x0), (Head_Prev x0)], y1, y2, [(Head_Wait x0)], y3, [y4]]).bind fun y5 =>
          some y5
noncomputable def impl_EqualHeads (x0 : THead) (x1 : THead) : Option Bool :=
  (impl_EqualKeys (Head_Keys x0) (Head_Keys x1)).bind fun y1 =>
  bif y1 then
    (impl_EqualKeys (Head_Heirs x0) (Head_Heirs x1)).bind fun y2 =>
      bif y2 then
        (impl_EqualKeys (Head_Judge x0) (Head_Judge x1)).bind fun y3 =>
          bif y3 then
            (impl_HeadInts x0).bind fun y4 =>
              (impl_HeadInts x1).bind fun y5 =>
                (slices_Equal_int y4 y5).bind fun y6 =>
                  some y6
          else some false
      else some false
  else some false
noncomputable abbrev slices_Equal_impl_Sig.g8 (x0 : List TSig) (x1 : List TSig) (r8 : Int → Int → Option Bool) (v8_2 : Int) (v8_3 : Int) : Option Bool :=
  bif decide (v8_3 < v8_2) then
  bif decide (0 ≤ v8_3) then
    bif decide (v8_3 < (x0.length : Int)) then
      bif decide (0 ≤ v8_3) then
        bif decide (v8_3 < (x1.length : Int)) then
          bif !(((x0.getD v8_3.toNat dSig).1 == (x1.getD v8_3.toNat dSig).1) && (((x0.getD v8_3.toNat dSig).2 == (x1.getD v8_3.toNat dSig).2) && true)) then
            some false
          else r8 v8_2 (IntKind.i64.wrap (v8_3 + (1 : Int)))
        else none
      else none
    else none
  else none
else some true
noncomputable def slices_Equal_impl_Sig.l8 (x0 : List TSig) (x1 : List TSig) (n : Nat) : Int → Int → Option Bool :=
  V.iter (fun (r8 : Int → Int → Option Bool) => fun v8_2 v8_3 => slices_Equal_impl_Sig.g8 x0 x1 r8 v8_2 v8_3) (fun _ _ => none) n
theorem slices_Equal_impl_Sig.u8 (x0 : List TSig) (x1 : List TSig) (n : Nat) (v8_2 : Int) (v8_3 : Int) : slices_Equal_impl_Sig.l8 x0 x1 (n + 1) v8_2 v8_3 = slices_Equal_impl_Sig.g8 x0 x1 (slices_Equal_impl_Sig.l8 x0 x1 n) v8_2 v8_3 := rfl
noncomputable abbrev slices_Equal_impl_Sig.b (x0 : List TSig) (x1 : List TSig) (L8 : Int → Int → Option Bool) : Option Bool :=
  bif (x0.length : Int) != (x1.length : Int) then
  some false
else L8 (x0.length : Int) (0 : Int)
noncomputable def slices_Equal_impl_Sig (x0 : List TSig) (x1 : List TSig) : Option Bool :=
  slices_Equal_impl_Sig.b x0 x1 (slices_Equal_impl_Sig.l8 x0 x1 V.KK)
noncomputable def impl_EqualSigned (x0 : TSigned) (x1 : TSigned) : Option Bool :=
  (impl_EqualHeads (Signed_Head x0) (Signed_Head x1)).bind fun y1 =>
  bif y1 then
    (slices_Equal_impl_Sig (Signed_Sigs x0) (Signed_Sigs x1)).bind fun y2 =>
      some y2
  else some false
noncomputable abbrev slices_EqualFunc_impl_Signed.g8 (x0 : List TSigned) (x1 : List TSigned) (r8 : Int → Int → Option Bool) (v8_2 : Int) (v8_3 : Int) : Option Bool :=
  bif decide (v8_3 < v8_2) then
  bif decide (0 ≤ v8_3) then
    bif decide (v8_3 < (x0.length : Int)) then
      bif decide (0 ≤ v8_3) then
        bif decide (v8_3 < (x1.length : Int)) then
          (impl_EqualSigned (x0.getD v8_3.toNat dSigned) (x1.getD v8_3.toNat dSigned)).bind fun y1 =>
            bif !y1 then
              some false
            else r8 v8_2 (IntKind.i64.wrap (v8_3 + (1 : Int)))
        else none
      else none
    else none
  else none
else some true
noncomputable def slices_EqualFunc_impl_Signed.l8 (x0 : List TSigned) (x1 : List TSigned) (n : Nat) : Int → Int → Option Bool :=
  V.iter (fun (r8 : Int → Int → Option Bool) => fun v8_2 v8_3 => slices_EqualFunc_impl_Signed.g8 x0 x1 r8 v8_2 v8_3) (fun _ _ => none) n
theorem slices_EqualFunc_impl_Signed.u8 (x0 : List TSigned) (x1 : List TSigned) (n : Nat) (v8_2 : Int) (v8_3 : Int) : slices_EqualFunc_impl_Signed.l8 x0 x1 (n + 1) v8_2 v8_3 = slices_EqualFunc_impl_Signed.g8 x0 x1 (slices_EqualFunc_impl_Signed.l8 x0 x1 n) v8_2 v8_3 := rfl
noncomputable abbrev slices_EqualFunc_impl_Signed.b (x0 : List TSigned) (x1 : List TSigned) (x2 : (Unit) × (Unit)) (L8 : Int → Int → Option Bool) : Option Bool :=
  bif (x0.length : Int) != (x1.length : Int) then
  some false
else L8 (x0.length : Int) (0 : Int)
noncomputable def slices_EqualFunc_impl_Signed (x0 : List TSigned) (x1 : List TSigned) (x2 : (Unit) × (Unit)) : Option Bool :=
  slices_EqualFunc_impl_Signed.b x0 x1 x2 (slices_EqualFunc_impl_Signed.l8 x0 x1 V.KK)
noncomputable def impl_sameChain (x0 : List TSigned) (x1 : List TSigned) : Option Bool :=
  (slices_EqualFunc_impl_Signed x0 x1 ((), ())).bind fun y1 =>
  some y1
noncomputable abbrev slices_EqualFunc__impl_Signed.g8 (x0 : List (List TSigned)) (x1 : List (List TSigned)) (r8 : Int → Int → Option Bool) (v8_2 : Int) (v8_3 : Int) : Option Bool :=
  bif decide (v8_3 < v8_2) then
  bif decide (0 ≤ v8_3) then
    bif decide (v8_3 < (x0.length : Int)) then
      bif decide (0 ≤ v8_3) then
        bif decide (v8_3 < (x1.length : Int)) then
          (impl_sameChain (x0.getD v8_3.toNat []) (x1.getD v8_3.toNat [])).bind fun y1 =>
            bif !y1 then
              some false
            else r8 v8_2 (IntKind.i64.wrap (v8_3 + (1 : Int)))
        else none
      else none
    else none
  else none
else some true
noncomputable def slices_EqualFunc__impl_Signed.l8 (x0 : List (List TSigned)) (x1 : List (List TSigned)) (n : Nat) : Int → Int → Option Bool :=
  V.iter (fun (r8 : Int → Int → Option Bool) => fun v8_2 v8_3 => slices_EqualFunc__impl_Signed.g8 x0 x1 r8 v8_2 v8_3) (fun _ _ => none) n
theorem slices_EqualFunc__impl_Signed.u8 (x0 : List (List TSigned)) (x1 : List (List TSigned)) (n : Nat) (v8_2 : Int) (v8_3 : Int) : slices_EqualFunc__impl_Signed.l8 x0 x1 (n + 1) v8_2 v8_3 = slices_EqualFunc__impl_Signed.g8 x0 x1 (slices_EqualFunc__impl_Signed.l8 x0 x1 n) v8_2 v8_3 := rfl
noncomputable abbrev slices_EqualFunc__impl_Signed.b (x0 : List (List TSigned)) (x1 : List (List TSigned)) (x2 : (Unit) × (Unit)) (L8 : Int → Int → Option Bool) : Option Bool :=
  bif (x0.length : Int) != (x1.length : Int) then
  some false
else L8 (x0.length : Int) (0 : Int)
noncomputable def slices_EqualFunc__impl_Signed (x0 : List (List TSigned)) (x1 : List (List TSigned)) (x2 : (Unit) × (Unit)) : Option Bool :=
  slices_EqualFunc__impl_Signed.b x0 x1 x2 (slices_EqualFunc__impl_Signed.l8 x0 x1 V.KK)
noncomputable def impl_EqualForks (x0 : TFork) (x1 : TFork) : Option Bool :=
  (impl_EqualSigned (Fork_Before x0) (Fork_Before x1)).bind fun y1 =>
  bif y1 then
    (impl_EqualSigned (Fork_A x0) (Fork_A x1)).bind fun y2 =>
      bif y2 then
        (impl_EqualSigned (Fork_B x0) (Fork_B x1)).bind fun y3 =>
          some y3
      else some false
  else some false
noncomputable abbrev slices_EqualFunc_impl_Fork.g8 (x0 : List TFork) (x1 : List TFork) (r8 : Int → Int → Option Bool) (v8_2 : Int) (v8_3 : Int) : Option Bool :=
  bif decide (v8_3 < v8_2) then
  bif decide (0 ≤ v8_3) then
    bif decide (v8_3 < (x0.length : Int)) then
      bif decide (0 ≤ v8_3) then
        bif decide (v8_3 < (x1.length : Int)) then
          (impl_EqualForks (x0.getD v8_3.toNat dFork) (x1.getD v8_3.toNat dFork)).bind fun y1 =>
            bif !y1 then
              some false
            else r8 v8_2 (IntKind.i64.wrap (v8_3 + (1 : Int)))
        else none
      else none
    else none
  else none
else some true
noncomputable def slices_EqualFunc_impl_Fork.l8 (x0 : List TFork) (x1 : List TFork) (n : Nat) : Int → Int → Option Bool :=
  V.iter (fun (r8 : Int → Int → Option Bool) => fun v8_2 v8_3 => slices_EqualFunc_impl_Fork.g8 x0 x1 r8 v8_2 v8_3) (fun _ _ => none) n
theorem slices_EqualFunc_impl_Fork.u8 (x0 : List TFork) (x1 : List TFork) (n : Nat) (v8_2 : Int) (v8_3 : Int) : slices_EqualFunc_impl_Fork.l8 x0 x1 (n + 1) v8_2 v8_3 = slices_EqualFunc_impl_Fork.g8 x0 x1 (slices_EqualFunc_impl_Fork.l8 x0 x1 n) v8_2 v8_3 := rfl
noncomputable abbrev slices_EqualFunc_impl_Fork.b (x0 : List TFork) (x1 : List TFork) (x2 : (Unit) × (Unit)) (L8 : Int → Int → Option Bool) : Option Bool :=
  bif (x0.length : Int) != (x1.length : Int) then
  some false
else L8 (x0.length : Int) (0 : Int)
noncomputable def slices_EqualFunc_impl_Fork (x0 : List TFork) (x1 : List TFork) (x2 : (Unit) × (Unit)) : Option Bool :=
  slices_EqualFunc_impl_Fork.b x0 x1 x2 (slices_EqualFunc_impl_Fork.l8 x0 x1 V.KK)
noncomputable def impl_EqualKnown (x0 : TKnown) (x1 : TKnown) : Option Bool :=
  (slices_EqualFunc__impl_Signed x0.1 x1.1 ((), ())).bind fun y1 =>
  bif y1 then
    (slices_EqualFunc_impl_Fork x0.2 x1.2 ((), ())).bind fun y2 =>
      some y2
  else some false
noncomputable abbrev slices_Equal_string.g8 (x0 : List ByteArray) (x1 : List ByteArray) (r8 : Int → Int → Option Bool) (v8_2 : Int) (v8_3 : Int) : Option Bool :=
  bif decide (v8_3 < v8_2) then
  bif decide (0 ≤ v8_3) then
    bif decide (v8_3 < (x0.length : Int)) then
      bif decide (0 ≤ v8_3) then
        bif decide (v8_3 < (x1.length : Int)) then
          bif !((x0.getD v8_3.toNat (⟨#[]⟩ : ByteArray)).toList == (x1.getD v8_3.toNat (⟨#[]⟩ : ByteArray)).toList) then
            some false
          else r8 v8_2 (IntKind.i64.wrap (v8_3 + (1 : Int)))
        else none
      else none
    else none
  else none
else some true
noncomputable def slices_Equal_string.l8 (x0 : List ByteArray) (x1 : List ByteArray) (n : Nat) : Int → Int → Option Bool :=
  V.iter (fun (r8 : Int → Int → Option Bool) => fun v8_2 v8_3 => slices_Equal_string.g8 x0 x1 r8 v8_2 v8_3) (fun _ _ => none) n
theorem slices_Equal_string.u8 (x0 : List ByteArray) (x1 : List ByteArray) (n : Nat) (v8_2 : Int) (v8_3 : Int) : slices_Equal_string.l8 x0 x1 (n + 1) v8_2 v8_3 = slices_Equal_string.g8 x0 x1 (slices_Equal_string.l8 x0 x1 n) v8_2 v8_3 := rfl
noncomputable abbrev slices_Equal_string.b (x0 : List ByteArray) (x1 : List ByteArray) (L8 : Int → Int → Option Bool) : Option Bool :=
  bif (x0.length : Int) != (x1.length : Int) then
  some false
else L8 (x0.length : Int) (0 : Int)
noncomputable def slices_Equal_string (x0 : List ByteArray) (x1 : List ByteArray) : Option Bool :=
  slices_Equal_string.b x0 x1 (slices_Equal_string.l8 x0 x1 V.KK)
noncomputable def impl_EqualEntries (x0 : TEntry) (x1 : TEntry) : Option Bool :=
  bif x0.1.toList == x1.1.toList then
  bif x0.2.1 == x1.2.1 then
    bif x0.2.2.1 == x1.2.2.1 then
      (slices_Equal_string x0.2.2.2 x1.2.2.2).bind fun y1 =>
        some y1
    else some false
  else some false
else some false
noncomputable def impl_EqualLooks (x0 : TLook) (x1 : TLook) : Option Bool :=
  (impl_EqualKnown (Look_Known x0) (Look_Known x1)).bind fun y1 =>
  bif y1 then
    bif (Look_Found x0) == (Look_Found x1) then
      (impl_EqualEntries (Look_Entry x0) (Look_Entry x1)).bind fun y2 =>
        bif y2 then
          bif (Look_Done x0) == (Look_Done x1) then
            (slices_Equal_int (Look_Codes x0) (Look_Codes x1)).bind fun y3 =>
              some y3
          else some false
        else some false
    else some false
  else some false
noncomputable abbrev laws_eqIntS.g8 (x0 : List Int) (x1 : List Int) (r8 : Int → Option Bool) (v8_2 : Int) : Option Bool :=
  bif decide (v8_2 < (x0.length : Int)) then
  bif decide (0 ≤ v8_2) then
    bif decide (v8_2 < (x0.length : Int)) then
      bif decide (0 ≤ v8_2) then
        bif decide (v8_2 < (x1.length : Int)) then
          bif (x0.getD v8_2.toNat (0 : Int)) != (x1.getD v8_2.toNat (0 : Int)) then
            some false
          else r8 (IntKind.i64.wrap (v8_2 + (1 : Int)))
        else none
      else none
    else none
  else none
else some true
noncomputable def laws_eqIntS.l8 (x0 : List Int) (x1 : List Int) (n : Nat) : Int → Option Bool :=
  V.iter (fun (r8 : Int → Option Bool) => fun v8_2 => laws_eqIntS.g8 x0 x1 r8 v8_2) (fun _ => none) n
theorem laws_eqIntS.u8 (x0 : List Int) (x1 : List Int) (n : Nat) (v8_2 : Int) : laws_eqIntS.l8 x0 x1 (n + 1) v8_2 = laws_eqIntS.g8 x0 x1 (laws_eqIntS.l8 x0 x1 n) v8_2 := rfl
noncomputable abbrev laws_eqIntS.b (x0 : List Int) (x1 : List Int) (L8 : Int → Option Bool) : Option Bool :=
  bif (x0.length : Int) != (x1.length : Int) then
  some false
else L8 (0 : Int)
noncomputable def laws_eqIntS (x0 : List Int) (x1 : List Int) : Option Bool :=
  laws_eqIntS.b x0 x1 (laws_eqIntS.l8 x0 x1 V.KK)
noncomputable def laws_eqKeys (x0 : TKeys) (x1 : TKeys) : Option Bool :=
  (laws_eqIntS x0.1 x1.1).bind fun y1 =>
  bif !y1 then
    some false
  else
    bif x0.2 != x1.2 then
      some false
    else some true
noncomputable def laws_eqHead (x0 : THead) (x1 : THead) : Option Bool :=
  bif (Head_Zone x0) != (Head_Zone x1) then
  some false
else
  bif (Head_Epoch x0) != (Head_Epoch x1) then
    some false
  else
    bif (Head_Kind x0) != (Head_Kind x1) then
      some false
    else
      bif (Head_Time x0) != (Head_Time x1) then
        some false
      else
        bif (Head_Until x0) != (Head_Until x1) then
          some false
        else
          bif (Head_Count x0) != (Head_Count x1) then
            some false
          else
            bif (Head_Root x0) != (Head_Root x1) then
              some false
            else
              bif (Head_Prev x0) != (Head_Prev x1) then
                some false
              else
                (laws_eqKeys (Head_Keys x0) (Head_Keys x1)).bind fun y1 =>
                  bif !y1 then
                    some false
                  else
                    (laws_eqKeys (Head_Heirs x0) (Head_Heirs x1)).bind fun y2 =>
                      bif !y2 then
                        some false
                      else
                        bif (Head_Wait x0) != (Head_Wait x1) then
                          some false
                        else
                          (laws_eqKeys (Head_Judge x0) (Head_Judge x1)).bind fun y3 =>
                            bif !y3 then
                              some false
                            else
                              bif !((Head_Frozen x0) == (Head_Frozen x1)) then
                                some false
                              else some true
noncomputable def laws_eqSig (x0 : TSig) (x1 : TSig) : Option Bool :=
  bif x0.1 != x1.1 then
  some false
else
  bif x0.2 != x1.2 then
    some false
  else some true
noncomputable abbrev laws_eqSigS.g8 (x0 : List TSig) (x1 : List TSig) (r8 : Int → Option Bool) (v8_2 : Int) : Option Bool :=
  bif decide (v8_2 < (x0.length : Int)) then
  bif decide (0 ≤ v8_2) then
    bif decide (v8_2 < (x0.length : Int)) then
      bif decide (0 ≤ v8_2) then
        bif decide (v8_2 < (x1.length : Int)) then
          (laws_eqSig (x0.getD v8_2.toNat dSig) (x1.getD v8_2.toNat dSig)).bind fun y1 =>
            bif !y1 then
              some false
            else r8 (IntKind.i64.wrap (v8_2 + (1 : Int)))
        else none
      else none
    else none
  else none
else some true
noncomputable def laws_eqSigS.l8 (x0 : List TSig) (x1 : List TSig) (n : Nat) : Int → Option Bool :=
  V.iter (fun (r8 : Int → Option Bool) => fun v8_2 => laws_eqSigS.g8 x0 x1 r8 v8_2) (fun _ => none) n
theorem laws_eqSigS.u8 (x0 : List TSig) (x1 : List TSig) (n : Nat) (v8_2 : Int) : laws_eqSigS.l8 x0 x1 (n + 1) v8_2 = laws_eqSigS.g8 x0 x1 (laws_eqSigS.l8 x0 x1 n) v8_2 := rfl
noncomputable abbrev laws_eqSigS.b (x0 : List TSig) (x1 : List TSig) (L8 : Int → Option Bool) : Option Bool :=
  bif (x0.length : Int) != (x1.length : Int) then
  some false
else L8 (0 : Int)
noncomputable def laws_eqSigS (x0 : List TSig) (x1 : List TSig) : Option Bool :=
  laws_eqSigS.b x0 x1 (laws_eqSigS.l8 x0 x1 V.KK)
noncomputable def laws_eqSigned (x0 : TSigned) (x1 : TSigned) : Option Bool :=
  (laws_eqHead (Signed_Head x0) (Signed_Head x1)).bind fun y1 =>
  bif !y1 then
    some false
  else
    (laws_eqSigS (Signed_Sigs x0) (Signed_Sigs x1)).bind fun y2 =>
      bif !y2 then
        some false
      else some true
noncomputable abbrev laws_eqSignedS.g8 (x0 : List TSigned) (x1 : List TSigned) (r8 : Int → Option Bool) (v8_2 : Int) : Option Bool :=
  bif decide (v8_2 < (x0.length : Int)) then
  bif decide (0 ≤ v8_2) then
    bif decide (v8_2 < (x0.length : Int)) then
      bif decide (0 ≤ v8_2) then
        bif decide (v8_2 < (x1.length : Int)) then
          (laws_eqSigned (x0.getD v8_2.toNat dSigned) (x1.getD v8_2.toNat dSigned)).bind fun y1 =>
            bif !y1 then
              some false
            else r8 (IntKind.i64.wrap (v8_2 + (1 : Int)))
        else none
      else none
    else none
  else none
else some true
noncomputable def laws_eqSignedS.l8 (x0 : List TSigned) (x1 : List TSigned) (n : Nat) : Int → Option Bool :=
  V.iter (fun (r8 : Int → Option Bool) => fun v8_2 => laws_eqSignedS.g8 x0 x1 r8 v8_2) (fun _ => none) n
theorem laws_eqSignedS.u8 (x0 : List TSigned) (x1 : List TSigned) (n : Nat) (v8_2 : Int) : laws_eqSignedS.l8 x0 x1 (n + 1) v8_2 = laws_eqSignedS.g8 x0 x1 (laws_eqSignedS.l8 x0 x1 n) v8_2 := rfl
noncomputable abbrev laws_eqSignedS.b (x0 : List TSigned) (x1 : List TSigned) (L8 : Int → Option Bool) : Option Bool :=
  bif (x0.length : Int) != (x1.length : Int) then
  some false
else L8 (0 : Int)
noncomputable def laws_eqSignedS (x0 : List TSigned) (x1 : List TSigned) : Option Bool :=
  laws_eqSignedS.b x0 x1 (laws_eqSignedS.l8 x0 x1 V.KK)
noncomputable abbrev laws_eqSignedSS.g8 (x0 : List (List TSigned)) (x1 : List (List TSigned)) (r8 : Int → Option Bool) (v8_2 : Int) : Option Bool :=
  bif decide (v8_2 < (x0.length : Int)) then
  bif decide (0 ≤ v8_2) then
    bif decide (v8_2 < (x0.length : Int)) then
      bif decide (0 ≤ v8_2) then
        bif decide (v8_2 < (x1.length : Int)) then
          (laws_eqSignedS (x0.getD v8_2.toNat []) (x1.getD v8_2.toNat [])).bind fun y1 =>
            bif !y1 then
              some false
            else r8 (IntKind.i64.wrap (v8_2 + (1 : Int)))
        else none
      else none
    else none
  else none
else some true
noncomputable def laws_eqSignedSS.l8 (x0 : List (List TSigned)) (x1 : List (List TSigned)) (n : Nat) : Int → Option Bool :=
  V.iter (fun (r8 : Int → Option Bool) => fun v8_2 => laws_eqSignedSS.g8 x0 x1 r8 v8_2) (fun _ => none) n
theorem laws_eqSignedSS.u8 (x0 : List (List TSigned)) (x1 : List (List TSigned)) (n : Nat) (v8_2 : Int) : laws_eqSignedSS.l8 x0 x1 (n + 1) v8_2 = laws_eqSignedSS.g8 x0 x1 (laws_eqSignedSS.l8 x0 x1 n) v8_2 := rfl
noncomputable abbrev laws_eqSignedSS.b (x0 : List (List TSigned)) (x1 : List (List TSigned)) (L8 : Int → Option Bool) : Option Bool :=
  bif (x0.length : Int) != (x1.length : Int) then
  some false
else L8 (0 : Int)
noncomputable def laws_eqSignedSS (x0 : List (List TSigned)) (x1 : List (List TSigned)) : Option Bool :=
  laws_eqSignedSS.b x0 x1 (laws_eqSignedSS.l8 x0 x1 V.KK)
noncomputable def laws_eqFork (x0 : TFork) (x1 : TFork) : Option Bool :=
  (laws_eqSigned (Fork_Before x0) (Fork_Before x1)).bind fun y1 =>
  bif !y1 then
    some false
  else
    (laws_eqSigned (Fork_A x0) (Fork_A x1)).bind fun y2 =>
      bif !y2 then
        some false
      else
        (laws_eqSigned (Fork_B x0) (Fork_B x1)).bind fun y3 =>
          bif !y3 then
            some false
          else some true
noncomputable abbrev laws_eqForkS.g8 (x0 : List TFork) (x1 : List TFork) (r8 : Int → Option Bool) (v8_2 : Int) : Option Bool :=
  bif decide (v8_2 < (x0.length : Int)) then
  bif decide (0 ≤ v8_2) then
    bif decide (v8_2 < (x0.length : Int)) then
      bif decide (0 ≤ v8_2) then
        bif decide (v8_2 < (x1.length : Int)) then
          (laws_eqFork (x0.getD v8_2.toNat dFork) (x1.getD v8_2.toNat dFork)).bind fun y1 =>
            bif !y1 then
              some false
            else r8 (IntKind.i64.wrap (v8_2 + (1 : Int)))
        else none
      else none
    else none
  else none
else some true
noncomputable def laws_eqForkS.l8 (x0 : List TFork) (x1 : List TFork) (n : Nat) : Int → Option Bool :=
  V.iter (fun (r8 : Int → Option Bool) => fun v8_2 => laws_eqForkS.g8 x0 x1 r8 v8_2) (fun _ => none) n
theorem laws_eqForkS.u8 (x0 : List TFork) (x1 : List TFork) (n : Nat) (v8_2 : Int) : laws_eqForkS.l8 x0 x1 (n + 1) v8_2 = laws_eqForkS.g8 x0 x1 (laws_eqForkS.l8 x0 x1 n) v8_2 := rfl
noncomputable abbrev laws_eqForkS.b (x0 : List TFork) (x1 : List TFork) (L8 : Int → Option Bool) : Option Bool :=
  bif (x0.length : Int) != (x1.length : Int) then
  some false
else L8 (0 : Int)
noncomputable def laws_eqForkS (x0 : List TFork) (x1 : List TFork) : Option Bool :=
  laws_eqForkS.b x0 x1 (laws_eqForkS.l8 x0 x1 V.KK)
noncomputable def laws_eqKnown (x0 : TKnown) (x1 : TKnown) : Option Bool :=
  (laws_eqSignedSS x0.1 x1.1).bind fun y1 =>
  bif !y1 then
    some false
  else
    (laws_eqForkS x0.2 x1.2).bind fun y2 =>
      bif !y2 then
        some false
      else some true
noncomputable abbrev laws_eqStringS.g8 (x0 : List ByteArray) (x1 : List ByteArray) (r8 : Int → Option Bool) (v8_2 : Int) : Option Bool :=
  bif decide (v8_2 < (x0.length : Int)) then
  bif decide (0 ≤ v8_2) then
    bif decide (v8_2 < (x0.length : Int)) then
      bif decide (0 ≤ v8_2) then
        bif decide (v8_2 < (x1.length : Int)) then
          bif !((x0.getD v8_2.toNat (⟨#[]⟩ : ByteArray)).toList == (x1.getD v8_2.toNat (⟨#[]⟩ : ByteArray)).toList) then
            some false
          else r8 (IntKind.i64.wrap (v8_2 + (1 : Int)))
        else none
      else none
    else none
  else none
else some true
noncomputable def laws_eqStringS.l8 (x0 : List ByteArray) (x1 : List ByteArray) (n : Nat) : Int → Option Bool :=
  V.iter (fun (r8 : Int → Option Bool) => fun v8_2 => laws_eqStringS.g8 x0 x1 r8 v8_2) (fun _ => none) n
theorem laws_eqStringS.u8 (x0 : List ByteArray) (x1 : List ByteArray) (n : Nat) (v8_2 : Int) : laws_eqStringS.l8 x0 x1 (n + 1) v8_2 = laws_eqStringS.g8 x0 x1 (laws_eqStringS.l8 x0 x1 n) v8_2 := rfl
noncomputable abbrev laws_eqStringS.b (x0 : List ByteArray) (x1 : List ByteArray) (L8 : Int → Option Bool) : Option Bool :=
  bif (x0.length : Int) != (x1.length : Int) then
  some false
else L8 (0 : Int)
noncomputable def laws_eqStringS (x0 : List ByteArray) (x1 : List ByteArray) : Option Bool :=
  laws_eqStringS.b x0 x1 (laws_eqStringS.l8 x0 x1 V.KK)
noncomputable def laws_eqEntry (x0 : TEntry) (x1 : TEntry) : Option Bool :=
  bif !(x0.1.toList == x1.1.toList) then
  some false
else
  bif x0.2.1 != x1.2.1 then
    some false
  else
    bif x0.2.2.1 != x1.2.2.1 then
      some false
    else
      (laws_eqStringS x0.2.2.2 x1.2.2.2).bind fun y1 =>
        bif !y1 then
          some false
        else some true
noncomputable def laws_eqLook (x0 : TLook) (x1 : TLook) : Option Bool :=
  (laws_eqKnown (Look_Known x0) (Look_Known x1)).bind fun y1 =>
  bif !y1 then
    some false
  else
    bif !((Look_Found x0) == (Look_Found x1)) then
      some false
    else
      (laws_eqEntry (Look_Entry x0) (Look_Entry x1)).bind fun y2 =>
        bif !y2 then
          some false
        else
          bif !((Look_Done x0) == (Look_Done x1)) then
            some false
          else
            (laws_eqIntS (Look_Codes x0) (Look_Codes x1)).bind fun y3 =>
              bif !y3 then
                some false
              else some true
noncomputable def laws_FnExactEqualLooks (x0 : TLook) (x1 : TLook) : Option Bool :=
  (laws_szLook x0 (1048576 : Int)).bind fun y1 =>
  bif decide (y1 < (0 : Int)) then
    some true
  else
    (laws_szLook x1 y1).bind fun y2 =>
      bif decide (y2 < (0 : Int)) then
        some true
      else
        (laws_toLook x0).bind fun y3 =>
          (laws_toLook x1).bind fun y4 =>
            (spec_EqualLooks y3 y4).bind fun y5 =>
              (laws_toLook x0).bind fun y6 =>
                (laws_toLook x1).bind fun y7 =>
                  (impl_EqualLooks y6 y7).bind fun y8 =>
                    bif !(y8 == y5) then
                      some false
                    else
                      (laws_toLook x0).bind fun y9 =>
                        (laws_eqLook y6 y9).bind fun y10 =>
                          bif !y10 then
                            some false
                          else
                            (laws_toLook x1).bind fun y11 =>
                              (laws_eqLook y7 y11).bind fun y12 =>
                                bif !y12 then
                                  some false
                                else some true
end Go.Proofs.Ytbdifkeoiodalaa
