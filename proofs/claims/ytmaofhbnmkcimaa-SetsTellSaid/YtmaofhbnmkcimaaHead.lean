/- The cells of this seat's rows that are read off the translation's head: shown once, over its letters as numbers. -/
import Derived.Test.YtmaofhbnmkcimaaRows
import Derived.JoinedOf
import Derived.KernelRfl
namespace Go.Proofs.Ytmaofhbnmkcimaa.Head

def signs : List Char := [104, 97, 114, 110, 101, 115, 115, 32, 54, 49, 51, 49, 52, 51, 99, 50, 51, 51, 51, 54, 52, 97, 51, 100, 97, 98, 53, 55, 57, 98, 98, 102, 97, 54, 51, 52, 53, 50, 102, 52, 57, 98, 51, 48, 55, 53, 56, 52, 101, 49, 57, 57, 100, 57, 49, 100, 101, 101, 57, 102, 102, 49, 98, 56, 57, 100, 102, 51, 53, 54, 98, 48, 32, 99, 117, 116, 32, 97, 116, 32, 119, 101, 108, 108, 115, 112, 114, 105, 110, 103, 47, 119, 101, 108, 108, 115, 112, 114, 105, 110, 103, 108, 97, 119, 50, 52, 46, 80, 108, 97, 110, 101, 83, 112, 111, 116, 115, 32, 119, 101, 108, 108, 115, 112, 114, 105, 110, 103, 47, 119, 101, 108, 108, 115, 112, 114, 105, 110, 103, 108, 97, 119, 50, 52, 46, 80, 108, 97, 110, 101, 83, 113, 117, 97, 114, 101, 115, 32, 119, 101, 108, 108, 115, 112, 114, 105, 110, 103, 47, 119, 101, 108, 108, 115, 112, 114, 105, 110, 103, 108, 97, 119, 50, 52, 46, 80, 108, 97, 110, 101, 84, 101, 108, 108, 115, 32, 119, 101, 108, 108, 115, 112, 114, 105, 110, 103, 47, 119, 101, 108, 108, 115, 112, 114, 105, 110, 103, 108, 97, 119, 50, 52, 46, 80, 108, 97, 110, 101, 83, 116, 101, 112, 115, 32, 119, 101, 108, 108, 115, 112, 114, 105, 110, 103, 47, 119, 101, 108, 108, 115, 112, 114, 105, 110, 103, 108, 97, 119, 50, 52, 46, 80, 108, 97, 110, 101, 84, 117, 114, 110, 115, 32, 119, 101, 108, 108, 115, 112, 114, 105, 110, 103, 47, 119, 101, 108, 108, 115, 112, 114, 105, 110, 103, 108, 97, 119, 50, 54, 46, 83, 101, 116, 115, 84, 101, 108, 108, 32, 119, 101, 108, 108, 115, 112, 114, 105, 110, 103, 47, 119, 101, 108, 108, 115, 112, 114, 105, 110, 103, 108, 97, 119, 50, 54, 46, 67, 111, 117, 110, 116, 65, 100, 100, 115, 32, 119, 101, 108, 108, 115, 112, 114, 105, 110, 103, 47, 119, 101, 108, 108, 115, 112, 114, 105, 110, 103, 108, 97, 119, 50, 54, 46, 65, 108, 108, 82, 105, 115, 101, 32, 119, 101, 108, 108, 115, 112, 114, 105, 110, 103, 47, 119, 101, 108, 108, 115, 112, 114, 105, 110, 103, 108, 97, 119, 50, 54, 46, 65, 108, 108, 69, 114, 114, 111, 114, 115].map Char.ofNat
set_option maxRecDepth 100000 in
theorem head_bytes : Try.progTables.initOrder.toByteArray = List.utf8Encode signs := rfl
set_option maxRecDepth 100000 in
theorem head_eq : Try.progTables.initOrder = String.ofList signs := String.toByteArray_inj.1 head_bytes
theorem tables_eq : Try.prog.toTables = Try.progTables := rfl
theorem head_list : Try.prog.initOrder.toList = signs := by
  rw [tables_eq, head_eq, String.toList_ofList]
def cutW : List Char := [99, 117, 116].map Char.ofNat
def restW : List (List Char) := (behindMainWord (wordsSigns signs)).tail
theorem words_eq : behindMainWord (wordsSigns signs) = cutW :: restW := by kernel_rfl
theorem strip_eq (r : List (List Char)) : stripLifts liftWords (cutW :: r) = ([], cutW :: r) := by kernel_rfl
theorem make_gen (P : Program) (l : List Char) (r : List (List Char)) (h : P.initOrder.toList = l) (hw : behindMainWord (wordsSigns l) = cutW :: r) : P.make = some .cut := by
  unfold Program.make
  rw [h, hw]
  generalize P.headLifts = hl
  kernel_rfl
theorem lifts_gen (P : Program) (l : List Char) (r : List (List Char)) (h : P.initOrder.toList = l) (hw : behindMainWord (wordsSigns l) = cutW :: r) : P.liftsFinal = false := by
  unfold Program.liftsFinal Program.headLifts
  rw [h, hw]
  kernel_rfl
theorem enter_gen (P : Program) (l : List Char) (r : List (List Char)) (h : P.initOrder.toList = l) (hw : behindMainWord (wordsSigns l) = cutW :: r) (h1 : P.laysLater = false) (h2 : P.bearsReflect = false) (h3 : P.doorFits [] = true) : P.mayEnter = true := by
  unfold Program.mayEnter
  rw [h, hw, h1, h2]
  simp only []
  rw [strip_eq]
  simp only []
  rw [h3]
  kernel_rfl
theorem make_eq : Try.prog.make = some .cut := make_gen _ _ _ head_list words_eq
theorem lifts_eq : Try.prog.liftsFinal = false := lifts_gen _ _ _ head_list words_eq
theorem later_eq : Try.prog.laysLater = false := by kernel_rfl
theorem reflect_eq : Try.prog.bearsReflect = false := by kernel_rfl
theorem door_eq : Try.prog.doorFits [] = true := by kernel_rfl
theorem enter_eq : Try.prog.mayEnter = true := enter_gen _ _ _ head_list words_eq later_eq reflect_eq door_eq
end Go.Proofs.Ytmaofhbnmkcimaa.Head
