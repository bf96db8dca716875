/- Closed facts on the program of the write-ahead log, for its rows; conditions: none. -/
import Derived.Test.YtjpachkjljmljaaRows
import Derived.Test.YtjpachkjljmljaaFxR
import Derived.Test.YtjpachkjljmljaaLawsA
namespace Go.Proofs.Ytjpachkjljmljaa
open Go Go.Fx Go.Proofs Go.ChangeShapes Go.WideShapes Go.ChangeAt Go.RowKit
theorem Try.own : ownKnob Try.prog.godebug = none := by kernel_rfl
theorem Try.laidOut : laidOutB Try.prog = true := by kernel_rfl
theorem rd_5 : Try.prog.readableRec 5 = true := by kernel_rfl
theorem rw_5 : 5 < Try.prog.types.size := of_decide_eq_true (by kernel_rfl)
theorem rd_9 : Try.prog.readableRec 9 = true := by kernel_rfl
theorem rw_9 : 9 < Try.prog.types.size := of_decide_eq_true (by kernel_rfl)
theorem rd_22 : Try.prog.readableRec 22 = true := by kernel_rfl
theorem rw_22 : 22 < Try.prog.types.size := of_decide_eq_true (by kernel_rfl)
theorem rd_32 : Try.prog.readableRec 32 = true := by kernel_rfl
theorem rw_32 : 32 < Try.prog.types.size := of_decide_eq_true (by kernel_rfl)
theorem cells_9 : Try.prog.cellsOf 9 = 1 := by kernel_rfl
theorem bytes_9 : Try.prog.bytesOf 9 = 16 := by kernel_rfl
end Go.Proofs.Ytjpachkjljmljaa
