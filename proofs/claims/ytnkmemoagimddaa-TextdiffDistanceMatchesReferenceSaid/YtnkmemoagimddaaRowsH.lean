/- Closed facts on the program of the shortest edit scripts, for its rows; conditions: none. -/
import Derived.Test.YtnkmemoagimddaaRows
import Derived.Test.YtnkmemoagimddaaFxO
import Derived.Test.YtnkmemoagimddaaWalksH
namespace Go.Proofs.Ytnkmemoagimddaa
open Go Go.Fx Go.Proofs Go.ChangeShapes Go.WideShapes Go.ChangeAt Go.RowKit
theorem Try.own : ownKnob Try.prog.godebug = none := by kernel_rfl
theorem Try.laidOut : laidOutB Try.prog = true := by kernel_rfl
theorem rd_4 : Try.prog.readableRec 4 = true := by kernel_rfl
theorem rw_4 : 4 < Try.prog.types.size := of_decide_eq_true (by kernel_rfl)
theorem rd_9 : Try.prog.readableRec 9 = true := by kernel_rfl
theorem rw_9 : 9 < Try.prog.types.size := of_decide_eq_true (by kernel_rfl)
theorem rd_30 : Try.prog.readableRec 30 = true := by kernel_rfl
theorem rw_30 : 30 < Try.prog.types.size := of_decide_eq_true (by kernel_rfl)
theorem cells_3 : Try.prog.cellsOf 3 = 1 := by kernel_rfl
theorem bytes_3 : Try.prog.bytesOf 3 = 8 := by kernel_rfl
theorem cells_4 : Try.prog.cellsOf 4 = 1 := by kernel_rfl
theorem bytes_4 : Try.prog.bytesOf 4 = 1 := by kernel_rfl
theorem cells_9 : Try.prog.cellsOf 9 = 1 := by kernel_rfl
theorem bytes_9 : Try.prog.bytesOf 9 = 16 := by kernel_rfl
theorem cells_30 : Try.prog.cellsOf 30 = 3 := by kernel_rfl
theorem bytes_30 : Try.prog.bytesOf 30 = 32 := by kernel_rfl
end Go.Proofs.Ytnkmemoagimddaa
