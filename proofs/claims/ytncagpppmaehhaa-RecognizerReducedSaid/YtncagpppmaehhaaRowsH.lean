/- Closed facts on the program of recognition, for its rows; conditions: none. -/
import Derived.Test.YtncagpppmaehhaaRows
import Derived.Test.YtncagpppmaehhaaFxO
import Derived.Test.YtncagpppmaehhaaLawA
namespace Go.Proofs.Ytncagpppmaehhaa
open Go Go.Fx Go.Proofs Go.ChangeShapes Go.WideShapes Go.ChangeAt Go.RowKit
theorem Try.own : ownKnob Try.prog.godebug = none := by kernel_rfl
theorem Try.laidOut : laidOutB Try.prog = true := by kernel_rfl
theorem rd_4 : Try.prog.readableRec 4 = true := by kernel_rfl
theorem rw_4 : 4 < Try.prog.types.size := of_decide_eq_true (by kernel_rfl)
theorem rd_5 : Try.prog.readableRec 5 = true := by kernel_rfl
theorem rw_5 : 5 < Try.prog.types.size := of_decide_eq_true (by kernel_rfl)
theorem rd_25 : Try.prog.readableRec 25 = true := by kernel_rfl
theorem rw_25 : 25 < Try.prog.types.size := of_decide_eq_true (by kernel_rfl)
theorem rd_26 : Try.prog.readableRec 26 = true := by kernel_rfl
theorem rw_26 : 26 < Try.prog.types.size := of_decide_eq_true (by kernel_rfl)
theorem cells_3 : Try.prog.cellsOf 3 = 1 := by kernel_rfl
theorem bytes_3 : Try.prog.bytesOf 3 = 8 := by kernel_rfl
theorem cells_4 : Try.prog.cellsOf 4 = 1 := by kernel_rfl
theorem bytes_4 : Try.prog.bytesOf 4 = 1 := by kernel_rfl
theorem cells_5 : Try.prog.cellsOf 5 = 1 := by kernel_rfl
theorem bytes_5 : Try.prog.bytesOf 5 = 1 := by kernel_rfl
theorem cells_9 : Try.prog.cellsOf 9 = 1 := by kernel_rfl
theorem bytes_9 : Try.prog.bytesOf 9 = 16 := by kernel_rfl
theorem cells_22 : Try.prog.cellsOf 22 = 1 := by kernel_rfl
theorem bytes_22 : Try.prog.bytesOf 22 = 24 := by kernel_rfl
theorem cells_23 : Try.prog.cellsOf 23 = 1 := by kernel_rfl
theorem bytes_23 : Try.prog.bytesOf 23 = 24 := by kernel_rfl
theorem cells_25 : Try.prog.cellsOf 25 = 4 := by kernel_rfl
theorem bytes_25 : Try.prog.bytesOf 25 = 80 := by kernel_rfl
theorem cells_26 : Try.prog.cellsOf 26 = 1 := by kernel_rfl
theorem bytes_26 : Try.prog.bytesOf 26 = 24 := by kernel_rfl
theorem cells_49 : Try.prog.cellsOf 49 = 3 := by kernel_rfl
theorem bytes_49 : Try.prog.bytesOf 49 = 40 := by kernel_rfl
end Go.Proofs.Ytncagpppmaehhaa
