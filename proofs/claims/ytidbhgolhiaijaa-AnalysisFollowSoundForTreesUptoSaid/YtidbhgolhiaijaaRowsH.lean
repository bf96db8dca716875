/- Closed facts on the program of the properties of nonterminals, for its rows; conditions: none. -/
import Derived.Test.YtidbhgolhiaijaaRows
import Derived.Test.YtidbhgolhiaijaaFxO
import Derived.Test.YtidbhgolhiaijaaWalksB
namespace Go.Proofs.Ytidbhgolhiaijaa
open Go Go.Fx Go.Proofs Go.ChangeShapes Go.WideShapes Go.ChangeAt Go.RowKit
theorem Try.own : ownKnob Try.prog.godebug = none := by kernel_rfl
theorem Try.laidOut : laidOutB Try.prog = true := by kernel_rfl
theorem rd_4 : Try.prog.readableRec 4 = true := by kernel_rfl
theorem rw_4 : 4 < Try.prog.types.size := of_decide_eq_true (by kernel_rfl)
theorem rd_25 : Try.prog.readableRec 25 = true := by kernel_rfl
theorem rw_25 : 25 < Try.prog.types.size := of_decide_eq_true (by kernel_rfl)
theorem rd_41 : Try.prog.readableRec 41 = true := by kernel_rfl
theorem rw_41 : 41 < Try.prog.types.size := of_decide_eq_true (by kernel_rfl)
theorem cells_3 : Try.prog.cellsOf 3 = 1 := by kernel_rfl
theorem bytes_3 : Try.prog.bytesOf 3 = 8 := by kernel_rfl
theorem cells_4 : Try.prog.cellsOf 4 = 1 := by kernel_rfl
theorem bytes_4 : Try.prog.bytesOf 4 = 1 := by kernel_rfl
theorem cells_9 : Try.prog.cellsOf 9 = 1 := by kernel_rfl
theorem bytes_9 : Try.prog.bytesOf 9 = 16 := by kernel_rfl
theorem cells_22 : Try.prog.cellsOf 22 = 1 := by kernel_rfl
theorem bytes_22 : Try.prog.bytesOf 22 = 24 := by kernel_rfl
theorem cells_23 : Try.prog.cellsOf 23 = 1 := by kernel_rfl
theorem bytes_23 : Try.prog.bytesOf 23 = 24 := by kernel_rfl
theorem cells_25 : Try.prog.cellsOf 25 = 4 := by kernel_rfl
theorem bytes_25 : Try.prog.bytesOf 25 = 80 := by kernel_rfl
theorem cells_39 : Try.prog.cellsOf 39 = 1 := by kernel_rfl
theorem bytes_39 : Try.prog.bytesOf 39 = 24 := by kernel_rfl
theorem cells_41 : Try.prog.cellsOf 41 = 3 := by kernel_rfl
theorem bytes_41 : Try.prog.bytesOf 41 = 40 := by kernel_rfl
end Go.Proofs.Ytidbhgolhiaijaa
