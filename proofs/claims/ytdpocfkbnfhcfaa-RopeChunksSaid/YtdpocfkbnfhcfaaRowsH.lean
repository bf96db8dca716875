/- Closed facts on the program of ropes, for its rows; conditions: none. -/
import Derived.Test.YtdpocfkbnfhcfaaRows
import Derived.Test.YtdpocfkbnfhcfaaFxO
import Derived.Test.YtdpocfkbnfhcfaaProg
namespace Go.Proofs.Ytdpocfkbnfhcfaa
open Go Go.Fx Go.Proofs Go.ChangeShapes Go.WideShapes Go.ChangeAt Go.RowKit
theorem Try.own : ownKnob Try.prog.godebug = none := by kernel_rfl
theorem Try.laidOut : laidOutB Try.prog = true := by kernel_rfl
theorem rd_3 : Try.prog.readableRec 3 = true := by kernel_rfl
theorem rw_3 : 3 < Try.prog.types.size := of_decide_eq_true (by kernel_rfl)
theorem rd_4 : Try.prog.readableRec 4 = true := by kernel_rfl
theorem rw_4 : 4 < Try.prog.types.size := of_decide_eq_true (by kernel_rfl)
theorem rd_5 : Try.prog.readableRec 5 = true := by kernel_rfl
theorem rw_5 : 5 < Try.prog.types.size := of_decide_eq_true (by kernel_rfl)
theorem rd_9 : Try.prog.readableRec 9 = true := by kernel_rfl
theorem rw_9 : 9 < Try.prog.types.size := of_decide_eq_true (by kernel_rfl)
theorem rd_32 : Try.prog.readableRec 32 = true := by kernel_rfl
theorem rw_32 : 32 < Try.prog.types.size := of_decide_eq_true (by kernel_rfl)
theorem rd_47 : Try.prog.readableRec 47 = true := by kernel_rfl
theorem rw_47 : 47 < Try.prog.types.size := of_decide_eq_true (by kernel_rfl)
theorem rd_51 : Try.prog.readableRec 51 = true := by kernel_rfl
theorem rw_51 : 51 < Try.prog.types.size := of_decide_eq_true (by kernel_rfl)
theorem cells_3 : Try.prog.cellsOf 3 = 1 := by kernel_rfl
theorem bytes_3 : Try.prog.bytesOf 3 = 8 := by kernel_rfl
theorem cells_4 : Try.prog.cellsOf 4 = 1 := by kernel_rfl
theorem bytes_4 : Try.prog.bytesOf 4 = 1 := by kernel_rfl
theorem cells_5 : Try.prog.cellsOf 5 = 1 := by kernel_rfl
theorem bytes_5 : Try.prog.bytesOf 5 = 1 := by kernel_rfl
theorem cells_9 : Try.prog.cellsOf 9 = 1 := by kernel_rfl
theorem bytes_9 : Try.prog.bytesOf 9 = 16 := by kernel_rfl
theorem cells_32 : Try.prog.cellsOf 32 = 3 := by kernel_rfl
theorem bytes_32 : Try.prog.bytesOf 32 = 32 := by kernel_rfl
theorem cells_47 : Try.prog.cellsOf 47 = 1 := by kernel_rfl
theorem bytes_47 : Try.prog.bytesOf 47 = 24 := by kernel_rfl
theorem cells_51 : Try.prog.cellsOf 51 = 1 := by kernel_rfl
theorem bytes_51 : Try.prog.bytesOf 51 = 24 := by kernel_rfl
end Go.Proofs.Ytdpocfkbnfhcfaa
