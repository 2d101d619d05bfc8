/- Closed facts on the program's tables. -/
import Derived.Test.YtnlpibfdobinoaaRows
import Derived.Test.YtnlpibfdobinoaaSep
import Derived.Test.YtnlpibfdobinoaaDrh
import Derived.Test.YtnlpibfdobinoaaKey
import Derived.KernelRfl
namespace Go.Proofs
open Go.Eng
theorem Try.ag45 : agB Try.prog 45 4 = true := by kernel_rfl
theorem Try.ag62 : agB Try.prog 62 2 = true := by kernel_rfl
theorem Try.ag73 : agB Try.prog 73 2 = true := by kernel_rfl
theorem Try.bld45 : bldB Try.prog 45 [(0, 1), (1, 1), (2, 1), (3, 1)] (fun z => isCells z.toList [.bool false, .slice none 0 0, .int .i64 0, .int .i64 0]) = true := by kernel_rfl
theorem Try.bld56 : bldB Try.prog 56 [(0, 1), (1, 1), (2, 1), (3, 1)] (fun z => isCells z.toList [.bool false, .slice none 0 0, .int .i64 0, .int .i64 0]) = true := by kernel_rfl
theorem Try.bld62 : bldB Try.prog 62 [(0, 1), (1, 1)] (fun z => isCells z.toList [.int .i64 0, .int .i64 0]) = true := by kernel_rfl
theorem Try.bld66 : bldB Try.prog 66 [(0, 1)] (fun z => isCells z.toList [.slice none 0 0]) = true := by kernel_rfl
theorem Try.bld73 : bldB Try.prog 73 [(0, 1), (1, 1)] (fun z => isCells z.toList [.int .i64 0, .int .i64 0]) = true := by kernel_rfl
theorem Try.bo4 : boB Try.prog 4 = true := by kernel_rfl
theorem Try.cl10 : callable Try.prog 10 = true := by kernel_rfl
theorem Try.cl11 : callable Try.prog 11 = true := by kernel_rfl
theorem Try.cl12 : callable Try.prog 12 = true := by kernel_rfl
theorem Try.cl13 : callable Try.prog 13 = true := by kernel_rfl
theorem Try.cl14 : callable Try.prog 14 = true := by kernel_rfl
theorem Try.cl15 : callable Try.prog 15 = true := by kernel_rfl
theorem Try.cl16 : callable Try.prog 16 = true := by kernel_rfl
theorem Try.cl17 : callable Try.prog 17 = true := by kernel_rfl
theorem Try.cl18 : callable Try.prog 18 = true := by kernel_rfl
theorem Try.cl19 : callable Try.prog 19 = true := by kernel_rfl
theorem Try.cl20 : callable Try.prog 20 = true := by kernel_rfl
theorem Try.cl21 : callable Try.prog 21 = true := by kernel_rfl
theorem Try.cl22 : callable Try.prog 22 = true := by kernel_rfl
theorem Try.cl23 : callable Try.prog 23 = true := by kernel_rfl
theorem Try.cl24 : callable Try.prog 24 = true := by kernel_rfl
theorem Try.cl25 : callable Try.prog 25 = true := by kernel_rfl
theorem Try.cl26 : callable Try.prog 26 = true := by kernel_rfl
theorem Try.cl27 : callable Try.prog 27 = true := by kernel_rfl
theorem Try.cl28 : callable Try.prog 28 = true := by kernel_rfl
theorem Try.cl29 : callable Try.prog 29 = true := by kernel_rfl
theorem Try.cl30 : callable Try.prog 30 = true := by kernel_rfl
theorem Try.cl31 : callable Try.prog 31 = true := by kernel_rfl
theorem Try.cl32 : callable Try.prog 32 = true := by kernel_rfl
theorem Try.cl33 : callable Try.prog 33 = true := by kernel_rfl
theorem Try.cl34 : callable Try.prog 34 = true := by kernel_rfl
theorem Try.cl35 : callable Try.prog 35 = true := by kernel_rfl
theorem Try.cl36 : callable Try.prog 36 = true := by kernel_rfl
theorem Try.cl37 : callable Try.prog 37 = true := by kernel_rfl
theorem Try.cl38 : callable Try.prog 38 = true := by kernel_rfl
theorem Try.cl39 : callable Try.prog 39 = true := by kernel_rfl
theorem Try.cl40 : callable Try.prog 40 = true := by kernel_rfl
theorem Try.eg73 : Try.prog.eqGuardType Try.prog.depth 73 = false := by kernel_rfl
theorem Try.fld45_0 : fldB Try.prog 45 0 0 = true := by kernel_rfl
theorem Try.fld45_1 : fldB Try.prog 45 1 1 = true := by kernel_rfl
theorem Try.fld45_2 : fldB Try.prog 45 2 2 = true := by kernel_rfl
theorem Try.fld45_3 : fldB Try.prog 45 3 3 = true := by kernel_rfl
theorem Try.fld56_0 : fldB Try.prog 56 0 0 = true := by kernel_rfl
theorem Try.fld56_1 : fldB Try.prog 56 1 1 = true := by kernel_rfl
theorem Try.fld56_2 : fldB Try.prog 56 2 2 = true := by kernel_rfl
theorem Try.fld56_3 : fldB Try.prog 56 3 3 = true := by kernel_rfl
theorem Try.fld62_0 : fldB Try.prog 62 0 0 = true := by kernel_rfl
theorem Try.fld62_1 : fldB Try.prog 62 1 1 = true := by kernel_rfl
theorem Try.fld66_0 : fldB Try.prog 66 0 0 = true := by kernel_rfl
theorem Try.it3 : intB Try.prog 3 .i64 = true := by kernel_rfl
theorem Try.it5 : intB Try.prog 5 .u8 = true := by kernel_rfl
theorem Try.key62 : keyB Try.prog 6 62 [some .i64, some .i64] = true := by kernel_rfl
theorem Try.key73 : keyB Try.prog 6 73 [some .i64, some .i64] = true := by kernel_rfl
theorem Try.sc22 : scB Try.prog 22 = true := by kernel_rfl
theorem Try.sc23 : scB Try.prog 23 = true := by kernel_rfl
theorem Try.sc3 : scB Try.prog 3 = true := by kernel_rfl
theorem Try.sc33 : scB Try.prog 33 = true := by kernel_rfl
theorem Try.sc4 : scB Try.prog 4 = true := by kernel_rfl
theorem Try.sc5 : scB Try.prog 5 = true := by kernel_rfl
theorem Try.sc59 : scB Try.prog 59 = true := by kernel_rfl
theorem Try.sc60 : scB Try.prog 60 = true := by kernel_rfl
theorem Try.sc64 : scB Try.prog 64 = true := by kernel_rfl
theorem Try.sl22 : slB Try.prog 22 45 4 48 = true := by kernel_rfl
theorem Try.sl23 : slB Try.prog 23 5 1 1 = true := by kernel_rfl
theorem Try.sl29 : slB Try.prog 29 56 4 48 = true := by kernel_rfl
theorem Try.sl33 : slB Try.prog 33 3 1 8 = true := by kernel_rfl
theorem Try.sl64 : slB Try.prog 64 73 2 16 = true := by kernel_rfl
theorem Try.sl69 : slB Try.prog 69 4 1 1 = true := by kernel_rfl
theorem Try.sz23 : szB Try.prog 23 1 = true := by kernel_rfl
theorem Try.sz3 : szB Try.prog 3 1 = true := by kernel_rfl
theorem Try.sz33 : szB Try.prog 33 1 = true := by kernel_rfl
theorem Try.sz4 : szB Try.prog 4 1 = true := by kernel_rfl
theorem Try.sz45 : szB Try.prog 45 4 = true := by kernel_rfl
theorem Try.sz59 : szB Try.prog 59 1 = true := by kernel_rfl
theorem Try.sz60 : szB Try.prog 60 1 = true := by kernel_rfl
theorem Try.sz62 : szB Try.prog 62 2 = true := by kernel_rfl
theorem Try.sz64 : szB Try.prog 64 1 = true := by kernel_rfl
theorem Try.sz73 : szB Try.prog 73 2 = true := by kernel_rfl
end Go.Proofs
