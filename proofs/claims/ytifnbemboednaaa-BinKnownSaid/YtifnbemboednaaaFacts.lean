/- Closed facts on the program's tables. -/
import Derived.Test.YtifnbemboednaaaRows
import Derived.Test.YtifnbemboednaaaOpt
import Derived.KernelRfl
namespace Go.Proofs
open Go.Eng
theorem Try.bo4 : boB Try.prog 4 = true := by kernel_rfl
theorem Try.cl17 : callable Try.prog 17 = true := by kernel_rfl
theorem Try.cl18 : callable Try.prog 18 = true := by kernel_rfl
theorem Try.cl19 : callable Try.prog 19 = true := by kernel_rfl
theorem Try.cl20 : callable Try.prog 20 = true := by kernel_rfl
theorem Try.cl21 : callable Try.prog 21 = true := by kernel_rfl
theorem Try.cl22 : callable Try.prog 22 = true := by kernel_rfl
theorem Try.cl23 : callable Try.prog 23 = true := by kernel_rfl
theorem Try.cl24 : callable Try.prog 24 = true := by kernel_rfl
theorem Try.cl25 : callable Try.prog 25 = true := by kernel_rfl
theorem Try.cl26 : callable Try.prog 26 = true := by kernel_rfl
theorem Try.cl27 : callable Try.prog 27 = true := by kernel_rfl
theorem Try.cl28 : callable Try.prog 28 = true := by kernel_rfl
theorem Try.cl29 : callable Try.prog 29 = true := by kernel_rfl
theorem Try.cl30 : callable Try.prog 30 = true := by kernel_rfl
theorem Try.cl31 : callable Try.prog 31 = true := by kernel_rfl
theorem Try.cl32 : callable Try.prog 32 = true := by kernel_rfl
theorem Try.cl33 : callable Try.prog 33 = true := by kernel_rfl
theorem Try.cl34 : callable Try.prog 34 = true := by kernel_rfl
theorem Try.cl35 : callable Try.prog 35 = true := by kernel_rfl
theorem Try.it3 : intB Try.prog 3 .i64 = true := by kernel_rfl
theorem Try.it5 : intB Try.prog 5 .u8 = true := by kernel_rfl
theorem Try.sc22 : scB Try.prog 22 = true := by kernel_rfl
theorem Try.sc5 : scB Try.prog 5 = true := by kernel_rfl
theorem Try.sl22 : slB Try.prog 22 5 1 1 = true := by kernel_rfl
theorem Try.sl45 : slB Try.prog 45 22 1 24 = true := by kernel_rfl
theorem Try.sz5 : szB Try.prog 5 1 = true := by kernel_rfl
end Go.Proofs
