/- The cells of this seat's rows that are read off the translation's head: shown once, over its letters as numbers. -/
import Derived.Test.YtiaoegdpofpneaaRows
import Derived.JoinedOf
import Derived.KernelRfl
namespace Go.Proofs.Ytiaoegdpofpneaa.Head

def signs : List Char := [104, 97, 114, 110, 101, 115, 115, 32, 101, 99, 51, 48, 99, 99, 54, 99, 54, 102, 49, 56, 48, 56, 101, 50, 101, 101, 102, 48, 48, 99, 97, 54, 57, 97, 99, 48, 56, 97, 51, 50, 56, 48, 99, 55, 102, 98, 99, 100, 56, 101, 49, 97, 98, 56, 49, 57, 99, 101, 101, 99, 49, 99, 57, 51, 98, 54, 101, 55, 53, 57, 48, 55, 32, 99, 117, 116, 32, 97, 116, 32, 119, 101, 108, 108, 115, 112, 114, 105, 110, 103, 47, 119, 101, 108, 108, 115, 112, 114, 105, 110, 103, 108, 97, 119, 48, 53, 46, 68, 114, 97, 119, 83, 117, 109, 115, 32, 119, 101, 108, 108, 115, 112, 114, 105, 110, 103, 47, 119, 101, 108, 108, 115, 112, 114, 105, 110, 103, 108, 97, 119, 48, 53, 46, 68, 114, 97, 119, 84, 101, 108, 108, 115, 32, 119, 101, 108, 108, 115, 112, 114, 105, 110, 103, 47, 119, 101, 108, 108, 115, 112, 114, 105, 110, 103, 108, 97, 119, 48, 53, 46, 68, 114, 97, 119, 66, 101, 108, 111, 119, 32, 119, 101, 108, 108, 115, 112, 114, 105, 110, 103, 47, 119, 101, 108, 108, 115, 112, 114, 105, 110, 103, 108, 97, 119, 48, 53, 46, 68, 114, 97, 119, 65, 112, 97, 114, 116, 32, 119, 101, 108, 108, 115, 112, 114, 105, 110, 103, 47, 119, 101, 108, 108, 115, 112, 114, 105, 110, 103, 108, 97, 119, 48, 54, 46, 84, 97, 98, 108, 101, 82, 105, 115, 101, 115, 32, 119, 101, 108, 108, 115, 112, 114, 105, 110, 103, 47, 119, 101, 108, 108, 115, 112, 114, 105, 110, 103, 108, 97, 119, 48, 54, 46, 68, 101, 103, 114, 101, 101, 83, 104, 97, 114, 101, 115, 32, 119, 101, 108, 108, 115, 112, 114, 105, 110, 103, 47, 119, 101, 108, 108, 115, 112, 114, 105, 110, 103, 108, 97, 119, 48, 54, 46, 84, 97, 98, 108, 101, 84, 101, 108, 108, 115, 32, 119, 101, 108, 108, 115, 112, 114, 105, 110, 103, 47, 119, 101, 108, 108, 115, 112, 114, 105, 110, 103, 108, 97, 119, 48, 54, 46, 68, 114, 97, 119, 79, 110, 99, 101, 32, 119, 101, 108, 108, 115, 112, 114, 105, 110, 103, 47, 119, 101, 108, 108, 115, 112, 114, 105, 110, 103, 108, 97, 119, 48, 55, 46, 83, 111, 109, 101, 84, 101, 108, 108, 115, 32, 119, 101, 108, 108, 115, 112, 114, 105, 110, 103, 47, 119, 101, 108, 108, 115, 112, 114, 105, 110, 103, 108, 97, 119, 48, 55, 46, 83, 111, 109, 101, 83, 101, 116, 115, 32, 119, 101, 108, 108, 115, 112, 114, 105, 110, 103, 47, 119, 101, 108, 108, 115, 112, 114, 105, 110, 103, 108, 97, 119, 48, 55, 46, 83, 111, 109, 101, 77, 111, 114, 101, 32, 119, 101, 108, 108, 115, 112, 114, 105, 110, 103, 47, 119, 101, 108, 108, 115, 112, 114, 105, 110, 103, 108, 97, 119, 48, 55, 46, 83, 111, 109, 101, 68, 114, 97, 119, 115, 32, 119, 101, 108, 108, 115, 112, 114, 105, 110, 103, 47, 119, 101, 108, 108, 115, 112, 114, 105, 110, 103, 108, 97, 119, 48, 57, 46, 76, 116, 84, 101, 108, 108, 115, 32, 119, 101, 108, 108, 115, 112, 114, 105, 110, 103, 47, 119, 101, 108, 108, 115, 112, 114, 105, 110, 103, 108, 97, 119, 48, 57, 46, 76, 116, 82, 111, 119, 115, 32, 119, 101, 108, 108, 115, 112, 114, 105, 110, 103, 47, 119, 101, 108, 108, 115, 112, 114, 105, 110, 103, 108, 97, 119, 48, 57, 46, 76, 116, 83, 105, 122, 101, 32, 119, 101, 108, 108, 115, 112, 114, 105, 110, 103, 47, 119, 101, 108, 108, 115, 112, 114, 105, 110, 103, 108, 97, 119, 48, 57, 46, 76, 116, 84, 117, 114, 110, 101, 100].map Char.ofNat
set_option maxRecDepth 100000 in
theorem head_bytes : Try.progTables.initOrder.toByteArray = List.utf8Encode signs := rfl
set_option maxRecDepth 100000 in
theorem head_eq : Try.progTables.initOrder = String.ofList signs := String.toByteArray_inj.1 head_bytes
theorem tables_eq : Try.prog.toTables = Try.progTables := rfl
theorem head_list : Try.prog.initOrder.toList = signs := by
  rw [tables_eq, head_eq, String.toList_ofList]
def cutW : List Char := [99, 117, 116].map Char.ofNat
def restW : List (List Char) := (behindMainWord (wordsSigns signs)).tail
theorem words_eq : behindMainWord (wordsSigns signs) = cutW :: restW := by kernel_rfl
theorem strip_eq (r : List (List Char)) : stripLifts liftWords (cutW :: r) = ([], cutW :: r) := by kernel_rfl
theorem make_gen (P : Program) (l : List Char) (r : List (List Char)) (h : P.initOrder.toList = l) (hw : behindMainWord (wordsSigns l) = cutW :: r) : P.make = some .cut := by
  unfold Program.make
  rw [h, hw]
  generalize P.headLifts = hl
  kernel_rfl
theorem lifts_gen (P : Program) (l : List Char) (r : List (List Char)) (h : P.initOrder.toList = l) (hw : behindMainWord (wordsSigns l) = cutW :: r) : P.liftsFinal = false := by
  unfold Program.liftsFinal Program.headLifts
  rw [h, hw]
  kernel_rfl
theorem enter_gen (P : Program) (l : List Char) (r : List (List Char)) (h : P.initOrder.toList = l) (hw : behindMainWord (wordsSigns l) = cutW :: r) (h1 : P.laysLater = false) (h2 : P.bearsReflect = false) (h3 : P.doorFits [] = true) : P.mayEnter = true := by
  unfold Program.mayEnter
  rw [h, hw, h1, h2]
  simp only []
  rw [strip_eq]
  simp only []
  rw [h3]
  kernel_rfl
theorem make_eq : Try.prog.make = some .cut := make_gen _ _ _ head_list words_eq
theorem lifts_eq : Try.prog.liftsFinal = false := lifts_gen _ _ _ head_list words_eq
theorem later_eq : Try.prog.laysLater = false := by kernel_rfl
theorem reflect_eq : Try.prog.bearsReflect = false := by kernel_rfl
theorem door_eq : Try.prog.doorFits [] = true := by kernel_rfl
theorem enter_eq : Try.prog.mayEnter = true := enter_gen _ _ _ head_list words_eq later_eq reflect_eq door_eq
end Go.Proofs.Ytiaoegdpofpneaa.Head
