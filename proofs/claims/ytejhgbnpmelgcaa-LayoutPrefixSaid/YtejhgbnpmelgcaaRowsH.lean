/- Closed facts on the program of the off-side rule, for its rows; conditions: none. -/
import Derived.Test.YtejhgbnpmelgcaaRows
import Derived.Test.YtejhgbnpmelgcaaFxO
import Derived.Test.YtejhgbnpmelgcaaWalksI
namespace Go.Proofs.Ytejhgbnpmelgcaa
open Go Go.Fx Go.Proofs Go.ChangeShapes Go.WideShapes Go.ChangeAt Go.RowKit
theorem Try.own : ownKnob Try.prog.godebug = none := by kernel_rfl
theorem Try.laidOut : laidOutB Try.prog = true := by kernel_rfl
theorem rd_3 : Try.prog.readableRec 3 = true := by kernel_rfl
theorem rw_3 : 3 < Try.prog.types.size := of_decide_eq_true (by kernel_rfl)
theorem rd_4 : Try.prog.readableRec 4 = true := by kernel_rfl
theorem rw_4 : 4 < Try.prog.types.size := of_decide_eq_true (by kernel_rfl)
theorem rd_5 : Try.prog.readableRec 5 = true := by kernel_rfl
theorem rw_5 : 5 < Try.prog.types.size := of_decide_eq_true (by kernel_rfl)
theorem rd_22 : Try.prog.readableRec 22 = true := by kernel_rfl
theorem rw_22 : 22 < Try.prog.types.size := of_decide_eq_true (by kernel_rfl)
theorem rd_24 : Try.prog.readableRec 24 = true := by kernel_rfl
theorem rw_24 : 24 < Try.prog.types.size := of_decide_eq_true (by kernel_rfl)
theorem cells_3 : Try.prog.cellsOf 3 = 1 := by kernel_rfl
theorem bytes_3 : Try.prog.bytesOf 3 = 8 := by kernel_rfl
theorem cells_4 : Try.prog.cellsOf 4 = 1 := by kernel_rfl
theorem bytes_4 : Try.prog.bytesOf 4 = 1 := by kernel_rfl
theorem cells_5 : Try.prog.cellsOf 5 = 1 := by kernel_rfl
theorem bytes_5 : Try.prog.bytesOf 5 = 1 := by kernel_rfl
theorem cells_9 : Try.prog.cellsOf 9 = 1 := by kernel_rfl
theorem bytes_9 : Try.prog.bytesOf 9 = 16 := by kernel_rfl
theorem cells_22 : Try.prog.cellsOf 22 = 1 := by kernel_rfl
theorem bytes_22 : Try.prog.bytesOf 22 = 24 := by kernel_rfl
theorem cells_24 : Try.prog.cellsOf 24 = 3 := by kernel_rfl
theorem bytes_24 : Try.prog.bytesOf 24 = 48 := by kernel_rfl
theorem cells_33 : Try.prog.cellsOf 33 = 4 := by kernel_rfl
theorem bytes_33 : Try.prog.bytesOf 33 = 40 := by kernel_rfl
end Go.Proofs.Ytejhgbnpmelgcaa
