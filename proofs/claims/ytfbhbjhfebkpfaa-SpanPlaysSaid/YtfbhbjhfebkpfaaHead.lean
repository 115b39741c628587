/- The cells of this seat's rows that are read off the translation's head: shown once, over its letters as numbers. -/
import Derived.Test.YtfbhbjhfebkpfaaRows
import Derived.JoinedOf
import Derived.KernelRfl
namespace Go.Proofs.Ytfbhbjhfebkpfaa.Head

def signs : List Char := [104, 97, 114, 110, 101, 115, 115, 32, 53, 102, 52, 50, 101, 50, 102, 56, 57, 50, 50, 53, 51, 100, 48, 100, 56, 101, 102, 48, 101, 55, 101, 100, 49, 48, 54, 101, 50, 100, 53, 98, 52, 98, 52, 102, 54, 52, 55, 102, 55, 49, 57, 57, 51, 52, 57, 55, 56, 99, 100, 55, 51, 54, 56, 52, 57, 48, 100, 101, 52, 55, 99, 100, 32, 99, 117, 116, 32, 97, 116, 32, 119, 101, 108, 108, 115, 112, 114, 105, 110, 103, 47, 119, 101, 108, 108, 115, 112, 114, 105, 110, 103, 108, 97, 119, 48, 49, 46, 70, 105, 101, 108, 100, 76, 97, 119, 115, 32, 119, 101, 108, 108, 115, 112, 114, 105, 110, 103, 47, 119, 101, 108, 108, 115, 112, 114, 105, 110, 103, 108, 97, 119, 48, 49, 46, 70, 105, 101, 108, 100, 83, 113, 117, 97, 114, 101, 115, 32, 119, 101, 108, 108, 115, 112, 114, 105, 110, 103, 47, 119, 101, 108, 108, 115, 112, 114, 105, 110, 103, 108, 97, 119, 48, 49, 46, 70, 105, 101, 108, 100, 84, 117, 114, 110, 115, 32, 119, 101, 108, 108, 115, 112, 114, 105, 110, 103, 47, 119, 101, 108, 108, 115, 112, 114, 105, 110, 103, 108, 97, 119, 48, 49, 46, 70, 105, 101, 108, 100, 80, 111, 119, 101, 114, 115, 32, 119, 101, 108, 108, 115, 112, 114, 105, 110, 103, 47, 119, 101, 108, 108, 115, 112, 114, 105, 110, 103, 108, 97, 119, 48, 49, 46, 70, 105, 101, 108, 100, 84, 101, 108, 108, 115, 32, 119, 101, 108, 108, 115, 112, 114, 105, 110, 103, 47, 119, 101, 108, 108, 115, 112, 114, 105, 110, 103, 108, 97, 119, 48, 56, 46, 80, 114, 101, 84, 101, 108, 108, 115, 32, 119, 101, 108, 108, 115, 112, 114, 105, 110, 103, 47, 119, 101, 108, 108, 115, 112, 114, 105, 110, 103, 108, 97, 119, 48, 56, 46, 80, 114, 101, 79, 119, 110, 32, 119, 101, 108, 108, 115, 112, 114, 105, 110, 103, 47, 119, 101, 108, 108, 115, 112, 114, 105, 110, 103, 108, 97, 119, 48, 50, 46, 82, 111, 119, 76, 97, 119, 115, 32, 119, 101, 108, 108, 115, 112, 114, 105, 110, 103, 47, 119, 101, 108, 108, 115, 112, 114, 105, 110, 103, 108, 97, 119, 48, 50, 46, 82, 111, 119, 79, 119, 110, 32, 119, 101, 108, 108, 115, 112, 114, 105, 110, 103, 47, 119, 101, 108, 108, 115, 112, 114, 105, 110, 103, 108, 97, 119, 48, 50, 46, 82, 111, 119, 84, 101, 108, 108, 115, 32, 119, 101, 108, 108, 115, 112, 114, 105, 110, 103, 47, 119, 101, 108, 108, 115, 112, 114, 105, 110, 103, 108, 97, 119, 48, 50, 46, 82, 111, 119, 68, 111, 116, 115, 32, 119, 101, 108, 108, 115, 112, 114, 105, 110, 103, 47, 119, 101, 108, 108, 115, 112, 114, 105, 110, 103, 108, 97, 119, 48, 51, 46, 77, 97, 116, 82, 101, 100, 117, 99, 101, 100, 32, 119, 101, 108, 108, 115, 112, 114, 105, 110, 103, 47, 119, 101, 108, 108, 115, 112, 114, 105, 110, 103, 108, 97, 119, 48, 51, 46, 77, 97, 116, 84, 117, 114, 110, 101, 100, 32, 119, 101, 108, 108, 115, 112, 114, 105, 110, 103, 47, 119, 101, 108, 108, 115, 112, 114, 105, 110, 103, 108, 97, 119, 48, 51, 46, 77, 97, 116, 69, 118, 101, 110, 32, 119, 101, 108, 108, 115, 112, 114, 105, 110, 103, 47, 119, 101, 108, 108, 115, 112, 114, 105, 110, 103, 108, 97, 119, 48, 56, 46, 80, 114, 101, 68, 101, 110, 115, 101, 32, 119, 101, 108, 108, 115, 112, 114, 105, 110, 103, 47, 119, 101, 108, 108, 115, 112, 114, 105, 110, 103, 108, 97, 119, 48, 51, 46, 77, 97, 116, 83, 111, 108, 118, 101, 115, 32, 119, 101, 108, 108, 115, 112, 114, 105, 110, 103, 47, 119, 101, 108, 108, 115, 112, 114, 105, 110, 103, 108, 97, 119, 48, 56, 46, 80, 114, 101, 82, 97, 110, 107, 32, 119, 101, 108, 108, 115, 112, 114, 105, 110, 103, 47, 119, 101, 108, 108, 115, 112, 114, 105, 110, 103, 108, 97, 119, 48, 52, 46, 83, 112, 97, 110, 79, 114, 100, 101, 114, 32, 119, 101, 108, 108, 115, 112, 114, 105, 110, 103, 47, 119, 101, 108, 108, 115, 112, 114, 105, 110, 103, 108, 97, 119, 48, 52, 46, 83, 112, 97, 110, 80, 108, 97, 121, 115, 32, 119, 101, 108, 108, 115, 112, 114, 105, 110, 103, 47, 119, 101, 108, 108, 115, 112, 114, 105, 110, 103, 108, 97, 119, 48, 52, 46, 83, 112, 97, 110, 82, 101, 115, 116, 32, 119, 101, 108, 108, 115, 112, 114, 105, 110, 103, 47, 119, 101, 108, 108, 115, 112, 114, 105, 110, 103, 108, 97, 119, 48, 52, 46, 83, 112, 97, 110, 65, 112, 97, 114, 116].map Char.ofNat
set_option maxRecDepth 100000 in
theorem head_bytes : Try.progTables.initOrder.toByteArray = List.utf8Encode signs := rfl
set_option maxRecDepth 100000 in
theorem head_eq : Try.progTables.initOrder = String.ofList signs := String.toByteArray_inj.1 head_bytes
theorem tables_eq : Try.prog.toTables = Try.progTables := rfl
theorem head_list : Try.prog.initOrder.toList = signs := by
  rw [tables_eq, head_eq, String.toList_ofList]
def cutW : List Char := [99, 117, 116].map Char.ofNat
def restW : List (List Char) := (behindMainWord (wordsSigns signs)).tail
theorem words_eq : behindMainWord (wordsSigns signs) = cutW :: restW := by kernel_rfl
theorem strip_eq (r : List (List Char)) : stripLifts liftWords (cutW :: r) = ([], cutW :: r) := by kernel_rfl
theorem make_gen (P : Program) (l : List Char) (r : List (List Char)) (h : P.initOrder.toList = l) (hw : behindMainWord (wordsSigns l) = cutW :: r) : P.make = some .cut := by
  unfold Program.make
  rw [h, hw]
  generalize P.headLifts = hl
  kernel_rfl
theorem lifts_gen (P : Program) (l : List Char) (r : List (List Char)) (h : P.initOrder.toList = l) (hw : behindMainWord (wordsSigns l) = cutW :: r) : P.liftsFinal = false := by
  unfold Program.liftsFinal Program.headLifts
  rw [h, hw]
  kernel_rfl
theorem enter_gen (P : Program) (l : List Char) (r : List (List Char)) (h : P.initOrder.toList = l) (hw : behindMainWord (wordsSigns l) = cutW :: r) (h1 : P.laysLater = false) (h2 : P.bearsReflect = false) (h3 : P.doorFits [] = true) : P.mayEnter = true := by
  unfold Program.mayEnter
  rw [h, hw, h1, h2]
  simp only []
  rw [strip_eq]
  simp only []
  rw [h3]
  kernel_rfl
theorem make_eq : Try.prog.make = some .cut := make_gen _ _ _ head_list words_eq
theorem lifts_eq : Try.prog.liftsFinal = false := lifts_gen _ _ _ head_list words_eq
theorem later_eq : Try.prog.laysLater = false := by kernel_rfl
theorem reflect_eq : Try.prog.bearsReflect = false := by kernel_rfl
theorem door_eq : Try.prog.doorFits [] = true := by kernel_rfl
theorem enter_eq : Try.prog.mayEnter = true := enter_gen _ _ _ head_list words_eq later_eq reflect_eq door_eq
end Go.Proofs.Ytfbhbjhfebkpfaa.Head
