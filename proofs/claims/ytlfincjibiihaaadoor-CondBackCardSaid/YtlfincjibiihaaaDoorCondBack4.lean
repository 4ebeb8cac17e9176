/- Part 4 of the proof of CondBack: the framework of abstract values and the walks over the functions that the law reaches. -/
import Derived.Test.YtlfincjibiihaaaDoorProg
import Derived.Test.YtlfincjibiihaaaDoorCondBack3
section
/- The type facts of the program, each asked of the kernel. Printed by wip/tools/facts.sh. -/
namespace Go.Proofs.YtlfincjibiihaaaDoor
open Go Go.Av Go.Proofs
@[go_sem] theorem ld0 : ldOf Tryd.prog 0 = some (false, 1) := by kernel_rfl
@[go_sem] theorem isIfc0 : isIfc Tryd.prog 0 = false := by kernel_rfl
@[go_sem] theorem by0 : bytesOf Tryd.prog 0 = some 0 := by kernel_rfl
@[go_sem] theorem ld1 : ldOf Tryd.prog 1 = some (false, 1) := by kernel_rfl
@[go_sem] theorem isIfc1 : isIfc Tryd.prog 1 = false := by kernel_rfl
@[go_sem] theorem by1 : bytesOf Tryd.prog 1 = some 8 := by kernel_rfl
attribute [go_sem] Tryd.underlying1
@[go_sem] theorem z1 : zeroPV Tryd.prog 1 = some (.v .nilFunc) := by kernel_rfl
@[go_sem] theorem zc1 : zeroChk Tryd.prog 1 := zeroChk_of z1 (v := (((Tryd.prog).info? 1).bind (·.zero)).getD undef) (by kernel_rfl) (by kernel_rfl) (by kernel_rfl)
@[go_sem] theorem ld2 : ldOf Tryd.prog 2 = some (false, 1) := by kernel_rfl
@[go_sem] theorem ik2 : ikOf Tryd.prog 2 = some .i64 := by kernel_rfl
@[go_sem] theorem isIfc2 : isIfc Tryd.prog 2 = false := by kernel_rfl
@[go_sem] theorem by2 : bytesOf Tryd.prog 2 = some 8 := by kernel_rfl
@[go_sem] theorem z2 : zeroPV Tryd.prog 2 = some (.v (.int .i64 0)) := by kernel_rfl
@[go_sem] theorem zc2 : zeroChk Tryd.prog 2 := zeroChk_of z2 (v := (((Tryd.prog).info? 2).bind (·.zero)).getD undef) (by kernel_rfl) (by kernel_rfl) (by kernel_rfl)
@[go_sem] theorem ld3 : ldOf Tryd.prog 3 = some (false, 1) := by kernel_rfl
@[go_sem] theorem ik3 : ikOf Tryd.prog 3 = some .i64 := by kernel_rfl
@[go_sem] theorem isIfc3 : isIfc Tryd.prog 3 = false := by kernel_rfl
@[go_sem] theorem by3 : bytesOf Tryd.prog 3 = some 8 := by kernel_rfl
@[go_sem] theorem z3 : zeroPV Tryd.prog 3 = some (.v (.int .i64 0)) := by kernel_rfl
@[go_sem] theorem zc3 : zeroChk Tryd.prog 3 := zeroChk_of z3 (v := (((Tryd.prog).info? 3).bind (·.zero)).getD undef) (by kernel_rfl) (by kernel_rfl) (by kernel_rfl)
@[go_sem] theorem ld4 : ldOf Tryd.prog 4 = some (false, 1) := by kernel_rfl
@[go_sem] theorem isIfc4 : isIfc Tryd.prog 4 = false := by kernel_rfl
@[go_sem] theorem by4 : bytesOf Tryd.prog 4 = some 1 := by kernel_rfl
attribute [go_sem] Tryd.underlying4
@[go_sem] theorem z4 : zeroPV Tryd.prog 4 = some (.v (.bool false)) := by kernel_rfl
@[go_sem] theorem zc4 : zeroChk Tryd.prog 4 := zeroChk_of z4 (v := (((Tryd.prog).info? 4).bind (·.zero)).getD undef) (by kernel_rfl) (by kernel_rfl) (by kernel_rfl)
@[go_sem] theorem ld5 : ldOf Tryd.prog 5 = some (false, 1) := by kernel_rfl
@[go_sem] theorem ik5 : ikOf Tryd.prog 5 = some .u8 := by kernel_rfl
@[go_sem] theorem isIfc5 : isIfc Tryd.prog 5 = false := by kernel_rfl
@[go_sem] theorem by5 : bytesOf Tryd.prog 5 = some 1 := by kernel_rfl
@[go_sem] theorem z5 : zeroPV Tryd.prog 5 = some (.v (.int .u8 0)) := by kernel_rfl
@[go_sem] theorem zc5 : zeroChk Tryd.prog 5 := zeroChk_of z5 (v := (((Tryd.prog).info? 5).bind (·.zero)).getD undef) (by kernel_rfl) (by kernel_rfl) (by kernel_rfl)
@[go_sem] theorem ld6 : ldOf Tryd.prog 6 = some (false, 1) := by kernel_rfl
@[go_sem] theorem ik6 : ikOf Tryd.prog 6 = some .u8 := by kernel_rfl
@[go_sem] theorem isIfc6 : isIfc Tryd.prog 6 = false := by kernel_rfl
@[go_sem] theorem by6 : bytesOf Tryd.prog 6 = some 1 := by kernel_rfl
@[go_sem] theorem z6 : zeroPV Tryd.prog 6 = some (.v (.int .u8 0)) := by kernel_rfl
@[go_sem] theorem zc6 : zeroChk Tryd.prog 6 := zeroChk_of z6 (v := (((Tryd.prog).info? 6).bind (·.zero)).getD undef) (by kernel_rfl) (by kernel_rfl) (by kernel_rfl)
@[go_sem] theorem ld7 : ldOf Tryd.prog 7 = some (true, 4) := by kernel_rfl
@[go_sem] theorem fld7_0 : fldOf Tryd.prog 7 0 = some (0, 2) := by kernel_rfl
@[go_sem] theorem fld7_1 : fldOf Tryd.prog 7 1 = some (1, 3) := by kernel_rfl
@[go_sem] theorem fld7_2 : fldOf Tryd.prog 7 2 = some (2, 4) := by kernel_rfl
@[go_sem] theorem fld7_3 : fldOf Tryd.prog 7 3 = some (3, 6) := by kernel_rfl
@[go_sem] theorem isIfc7 : isIfc Tryd.prog 7 = false := by kernel_rfl
@[go_sem] theorem by7 : bytesOf Tryd.prog 7 = some 24 := by kernel_rfl
@[go_sem] theorem z7 : zeroPV Tryd.prog 7 = some (.st [(.v (.int .i64 0)), (.v (.int .i64 0)), (.v (.bool false)), (.v (.int .u8 0))]) := by kernel_rfl
@[go_sem] theorem zc7 : zeroChk Tryd.prog 7 := zeroChk_of z7 (v := (((Tryd.prog).info? 7).bind (·.zero)).getD undef) (by kernel_rfl) (by kernel_rfl) (by kernel_rfl)
@[go_sem] theorem bld7 : bldB Tryd.prog 7 = true := by kernel_rfl
@[go_sem] theorem ld8 : ldOf Tryd.prog 8 = some (true, 4) := by kernel_rfl
@[go_sem] theorem fld8_0 : fldOf Tryd.prog 8 0 = some (0, 2) := by kernel_rfl
@[go_sem] theorem fld8_1 : fldOf Tryd.prog 8 1 = some (1, 3) := by kernel_rfl
@[go_sem] theorem fld8_2 : fldOf Tryd.prog 8 2 = some (2, 4) := by kernel_rfl
@[go_sem] theorem fld8_3 : fldOf Tryd.prog 8 3 = some (3, 6) := by kernel_rfl
@[go_sem] theorem isIfc8 : isIfc Tryd.prog 8 = false := by kernel_rfl
@[go_sem] theorem by8 : bytesOf Tryd.prog 8 = some 24 := by kernel_rfl
@[go_sem] theorem z8 : zeroPV Tryd.prog 8 = some (.st [(.v (.int .i64 0)), (.v (.int .i64 0)), (.v (.bool false)), (.v (.int .u8 0))]) := by kernel_rfl
@[go_sem] theorem zc8 : zeroChk Tryd.prog 8 := zeroChk_of z8 (v := (((Tryd.prog).info? 8).bind (·.zero)).getD undef) (by kernel_rfl) (by kernel_rfl) (by kernel_rfl)
@[go_sem] theorem bld8 : bldB Tryd.prog 8 = true := by kernel_rfl
@[go_sem] theorem ld9 : ldOf Tryd.prog 9 = some (false, 1) := by kernel_rfl
@[go_sem] theorem isStr9 : isStr Tryd.prog 9 = true := by kernel_rfl
@[go_sem] theorem isIfc9 : isIfc Tryd.prog 9 = false := by kernel_rfl
@[go_sem] theorem by9 : bytesOf Tryd.prog 9 = some 16 := by kernel_rfl
@[go_sem] theorem z9 : zeroPV Tryd.prog 9 = some (.v (.string ⟨#[]⟩)) := by kernel_rfl
@[go_sem] theorem zc9 : zeroChk Tryd.prog 9 := zeroChk_of z9 (v := (((Tryd.prog).info? 9).bind (·.zero)).getD undef) (by kernel_rfl) (by kernel_rfl) (by kernel_rfl)
@[go_sem] theorem ld10 : ldOf Tryd.prog 10 = some (false, 1) := by kernel_rfl
@[go_sem] theorem isStr10 : isStr Tryd.prog 10 = true := by kernel_rfl
@[go_sem] theorem isIfc10 : isIfc Tryd.prog 10 = false := by kernel_rfl
@[go_sem] theorem by10 : bytesOf Tryd.prog 10 = some 16 := by kernel_rfl
@[go_sem] theorem z10 : zeroPV Tryd.prog 10 = some (.v (.string ⟨#[]⟩)) := by kernel_rfl
@[go_sem] theorem zc10 : zeroChk Tryd.prog 10 := zeroChk_of z10 (v := (((Tryd.prog).info? 10).bind (·.zero)).getD undef) (by kernel_rfl) (by kernel_rfl) (by kernel_rfl)
@[go_sem] theorem ld11 : ldOf Tryd.prog 11 = some (false, 1) := by kernel_rfl
@[go_sem] theorem isStr11 : isStr Tryd.prog 11 = true := by kernel_rfl
@[go_sem] theorem isIfc11 : isIfc Tryd.prog 11 = false := by kernel_rfl
@[go_sem] theorem by11 : bytesOf Tryd.prog 11 = some 16 := by kernel_rfl
@[go_sem] theorem z11 : zeroPV Tryd.prog 11 = some (.v (.string ⟨#[]⟩)) := by kernel_rfl
@[go_sem] theorem zc11 : zeroChk Tryd.prog 11 := zeroChk_of z11 (v := (((Tryd.prog).info? 11).bind (·.zero)).getD undef) (by kernel_rfl) (by kernel_rfl) (by kernel_rfl)
@[go_sem] theorem ld12 : ldOf Tryd.prog 12 = some (false, 1) := by kernel_rfl
@[go_sem] theorem ik12 : ikOf Tryd.prog 12 = some .u64 := by kernel_rfl
@[go_sem] theorem isIfc12 : isIfc Tryd.prog 12 = false := by kernel_rfl
@[go_sem] theorem by12 : bytesOf Tryd.prog 12 = some 8 := by kernel_rfl
@[go_sem] theorem z12 : zeroPV Tryd.prog 12 = some (.v (.int .u64 0)) := by kernel_rfl
@[go_sem] theorem zc12 : zeroChk Tryd.prog 12 := zeroChk_of z12 (v := (((Tryd.prog).info? 12).bind (·.zero)).getD undef) (by kernel_rfl) (by kernel_rfl) (by kernel_rfl)
@[go_sem] theorem ld13 : ldOf Tryd.prog 13 = some (true, 2) := by kernel_rfl
@[go_sem] theorem fld13_0 : fldOf Tryd.prog 13 0 = some (0, 9) := by kernel_rfl
@[go_sem] theorem fld13_1 : fldOf Tryd.prog 13 1 = some (1, 12) := by kernel_rfl
@[go_sem] theorem isIfc13 : isIfc Tryd.prog 13 = false := by kernel_rfl
@[go_sem] theorem by13 : bytesOf Tryd.prog 13 = some 24 := by kernel_rfl
@[go_sem] theorem z13 : zeroPV Tryd.prog 13 = some (.st [(.v (.string ⟨#[]⟩)), (.v (.int .u64 0))]) := by kernel_rfl
@[go_sem] theorem zc13 : zeroChk Tryd.prog 13 := zeroChk_of z13 (v := (((Tryd.prog).info? 13).bind (·.zero)).getD undef) (by kernel_rfl) (by kernel_rfl) (by kernel_rfl)
@[go_sem] theorem bld13 : bldB Tryd.prog 13 = true := by kernel_rfl
@[go_sem] theorem ld14 : ldOf Tryd.prog 14 = some (true, 2) := by kernel_rfl
@[go_sem] theorem fld14_0 : fldOf Tryd.prog 14 0 = some (0, 9) := by kernel_rfl
@[go_sem] theorem fld14_1 : fldOf Tryd.prog 14 1 = some (1, 12) := by kernel_rfl
@[go_sem] theorem isIfc14 : isIfc Tryd.prog 14 = false := by kernel_rfl
@[go_sem] theorem by14 : bytesOf Tryd.prog 14 = some 24 := by kernel_rfl
@[go_sem] theorem z14 : zeroPV Tryd.prog 14 = some (.st [(.v (.string ⟨#[]⟩)), (.v (.int .u64 0))]) := by kernel_rfl
@[go_sem] theorem zc14 : zeroChk Tryd.prog 14 := zeroChk_of z14 (v := (((Tryd.prog).info? 14).bind (·.zero)).getD undef) (by kernel_rfl) (by kernel_rfl) (by kernel_rfl)
@[go_sem] theorem bld14 : bldB Tryd.prog 14 = true := by kernel_rfl
@[go_sem] theorem ld15 : ldOf Tryd.prog 15 = some (false, 1) := by kernel_rfl
@[go_sem] theorem pt15 : ptOf Tryd.prog 15 = some 216 := by kernel_rfl
@[go_sem] theorem isIfc15 : isIfc Tryd.prog 15 = false := by kernel_rfl
@[go_sem] theorem by15 : bytesOf Tryd.prog 15 = some 8 := by kernel_rfl
attribute [go_sem] Tryd.underlying15
@[go_sem] theorem z15 : zeroPV Tryd.prog 15 = some (.v (.pointer none)) := by kernel_rfl
@[go_sem] theorem zc15 : zeroChk Tryd.prog 15 := zeroChk_of z15 (v := (((Tryd.prog).info? 15).bind (·.zero)).getD undef) (by kernel_rfl) (by kernel_rfl) (by kernel_rfl)
@[go_sem] theorem ld16 : ldOf Tryd.prog 16 = some (false, 1) := by kernel_rfl
@[go_sem] theorem pt16 : ptOf Tryd.prog 16 = some 219 := by kernel_rfl
@[go_sem] theorem isIfc16 : isIfc Tryd.prog 16 = false := by kernel_rfl
@[go_sem] theorem by16 : bytesOf Tryd.prog 16 = some 8 := by kernel_rfl
attribute [go_sem] Tryd.underlying16
@[go_sem] theorem z16 : zeroPV Tryd.prog 16 = some (.v (.pointer none)) := by kernel_rfl
@[go_sem] theorem zc16 : zeroChk Tryd.prog 16 := zeroChk_of z16 (v := (((Tryd.prog).info? 16).bind (·.zero)).getD undef) (by kernel_rfl) (by kernel_rfl) (by kernel_rfl)
@[go_sem] theorem ld17 : ldOf Tryd.prog 17 = some (false, 1) := by kernel_rfl
@[go_sem] theorem pt17 : ptOf Tryd.prog 17 = some 228 := by kernel_rfl
@[go_sem] theorem isIfc17 : isIfc Tryd.prog 17 = false := by kernel_rfl
@[go_sem] theorem by17 : bytesOf Tryd.prog 17 = some 8 := by kernel_rfl
attribute [go_sem] Tryd.underlying17
@[go_sem] theorem z17 : zeroPV Tryd.prog 17 = some (.v (.pointer none)) := by kernel_rfl
@[go_sem] theorem zc17 : zeroChk Tryd.prog 17 := zeroChk_of z17 (v := (((Tryd.prog).info? 17).bind (·.zero)).getD undef) (by kernel_rfl) (by kernel_rfl) (by kernel_rfl)
@[go_sem] theorem ld18 : ldOf Tryd.prog 18 = some (true, 1) := by kernel_rfl
@[go_sem] theorem fld18_0 : fldOf Tryd.prog 18 0 = some (0, 17) := by kernel_rfl
@[go_sem] theorem isIfc18 : isIfc Tryd.prog 18 = false := by kernel_rfl
@[go_sem] theorem by18 : bytesOf Tryd.prog 18 = some 8 := by kernel_rfl
@[go_sem] theorem z18 : zeroPV Tryd.prog 18 = some (.st [(.v (.pointer none))]) := by kernel_rfl
@[go_sem] theorem zc18 : zeroChk Tryd.prog 18 := zeroChk_of z18 (v := (((Tryd.prog).info? 18).bind (·.zero)).getD undef) (by kernel_rfl) (by kernel_rfl) (by kernel_rfl)
@[go_sem] theorem bld18 : bldB Tryd.prog 18 = true := by kernel_rfl
@[go_sem] theorem ld19 : ldOf Tryd.prog 19 = some (true, 1) := by kernel_rfl
@[go_sem] theorem fld19_0 : fldOf Tryd.prog 19 0 = some (0, 17) := by kernel_rfl
@[go_sem] theorem isIfc19 : isIfc Tryd.prog 19 = false := by kernel_rfl
@[go_sem] theorem by19 : bytesOf Tryd.prog 19 = some 8 := by kernel_rfl
@[go_sem] theorem z19 : zeroPV Tryd.prog 19 = some (.st [(.v (.pointer none))]) := by kernel_rfl
@[go_sem] theorem zc19 : zeroChk Tryd.prog 19 := zeroChk_of z19 (v := (((Tryd.prog).info? 19).bind (·.zero)).getD undef) (by kernel_rfl) (by kernel_rfl) (by kernel_rfl)
@[go_sem] theorem bld19 : bldB Tryd.prog 19 = true := by kernel_rfl
@[go_sem] theorem ld20 : ldOf Tryd.prog 20 = some (false, 1) := by kernel_rfl
@[go_sem] theorem isIfc20 : isIfc Tryd.prog 20 = true := by kernel_rfl
@[go_sem] theorem by20 : bytesOf Tryd.prog 20 = some 16 := by kernel_rfl
attribute [go_sem] Tryd.underlying20
@[go_sem] theorem z20 : zeroPV Tryd.prog 20 = some (.v .nilIface) := by kernel_rfl
@[go_sem] theorem zc20 : zeroChk Tryd.prog 20 := zeroChk_of z20 (v := (((Tryd.prog).info? 20).bind (·.zero)).getD undef) (by kernel_rfl) (by kernel_rfl) (by kernel_rfl)
@[go_sem] theorem ld21 : ldOf Tryd.prog 21 = some (false, 1) := by kernel_rfl
@[go_sem] theorem ik21 : ikOf Tryd.prog 21 = some .i32 := by kernel_rfl
@[go_sem] theorem isIfc21 : isIfc Tryd.prog 21 = false := by kernel_rfl
@[go_sem] theorem by21 : bytesOf Tryd.prog 21 = some 4 := by kernel_rfl
@[go_sem] theorem z21 : zeroPV Tryd.prog 21 = some (.v (.int .i32 0)) := by kernel_rfl
@[go_sem] theorem zc21 : zeroChk Tryd.prog 21 := zeroChk_of z21 (v := (((Tryd.prog).info? 21).bind (·.zero)).getD undef) (by kernel_rfl) (by kernel_rfl) (by kernel_rfl)
@[go_sem] theorem ld22 : ldOf Tryd.prog 22 = some (false, 1) := by kernel_rfl
@[go_sem] theorem el22 : elOf Tryd.prog 22 = some 88 := by kernel_rfl
@[go_sem] theorem isIfc22 : isIfc Tryd.prog 22 = false := by kernel_rfl
@[go_sem] theorem by22 : bytesOf Tryd.prog 22 = some 24 := by kernel_rfl
attribute [go_sem] Tryd.underlying22
@[go_sem] theorem z22 : zeroPV Tryd.prog 22 = some (.v (.slice none 0 0)) := by kernel_rfl
@[go_sem] theorem zc22 : zeroChk Tryd.prog 22 := zeroChk_of z22 (v := (((Tryd.prog).info? 22).bind (·.zero)).getD undef) (by kernel_rfl) (by kernel_rfl) (by kernel_rfl)
@[go_sem] theorem ld23 : ldOf Tryd.prog 23 = some (true, 1) := by kernel_rfl
@[go_sem] theorem fld23_0 : fldOf Tryd.prog 23 0 = some (0, 22) := by kernel_rfl
@[go_sem] theorem isIfc23 : isIfc Tryd.prog 23 = false := by kernel_rfl
@[go_sem] theorem by23 : bytesOf Tryd.prog 23 = some 24 := by kernel_rfl
@[go_sem] theorem z23 : zeroPV Tryd.prog 23 = some (.st [(.v (.slice none 0 0))]) := by kernel_rfl
@[go_sem] theorem zc23 : zeroChk Tryd.prog 23 := zeroChk_of z23 (v := (((Tryd.prog).info? 23).bind (·.zero)).getD undef) (by kernel_rfl) (by kernel_rfl) (by kernel_rfl)
@[go_sem] theorem bld23 : bldB Tryd.prog 23 = true := by kernel_rfl
@[go_sem] theorem ld24 : ldOf Tryd.prog 24 = some (true, 1) := by kernel_rfl
@[go_sem] theorem fld24_0 : fldOf Tryd.prog 24 0 = some (0, 22) := by kernel_rfl
@[go_sem] theorem isIfc24 : isIfc Tryd.prog 24 = false := by kernel_rfl
@[go_sem] theorem by24 : bytesOf Tryd.prog 24 = some 24 := by kernel_rfl
@[go_sem] theorem z24 : zeroPV Tryd.prog 24 = some (.st [(.v (.slice none 0 0))]) := by kernel_rfl
@[go_sem] theorem zc24 : zeroChk Tryd.prog 24 := zeroChk_of z24 (v := (((Tryd.prog).info? 24).bind (·.zero)).getD undef) (by kernel_rfl) (by kernel_rfl) (by kernel_rfl)
@[go_sem] theorem bld24 : bldB Tryd.prog 24 = true := by kernel_rfl
@[go_sem] theorem ld25 : ldOf Tryd.prog 25 = some (false, 1) := by kernel_rfl
@[go_sem] theorem el25 : elOf Tryd.prog 25 = some 3 := by kernel_rfl
@[go_sem] theorem isIfc25 : isIfc Tryd.prog 25 = false := by kernel_rfl
@[go_sem] theorem by25 : bytesOf Tryd.prog 25 = some 24 := by kernel_rfl
attribute [go_sem] Tryd.underlying25
@[go_sem] theorem z25 : zeroPV Tryd.prog 25 = some (.v (.slice none 0 0)) := by kernel_rfl
@[go_sem] theorem zc25 : zeroChk Tryd.prog 25 := zeroChk_of z25 (v := (((Tryd.prog).info? 25).bind (·.zero)).getD undef) (by kernel_rfl) (by kernel_rfl) (by kernel_rfl)
@[go_sem] theorem ld26 : ldOf Tryd.prog 26 = some (false, 1) := by kernel_rfl
@[go_sem] theorem el26 : elOf Tryd.prog 26 = some 5 := by kernel_rfl
@[go_sem] theorem isIfc26 : isIfc Tryd.prog 26 = false := by kernel_rfl
@[go_sem] theorem by26 : bytesOf Tryd.prog 26 = some 24 := by kernel_rfl
attribute [go_sem] Tryd.underlying26
@[go_sem] theorem z26 : zeroPV Tryd.prog 26 = some (.v (.slice none 0 0)) := by kernel_rfl
@[go_sem] theorem zc26 : zeroChk Tryd.prog 26 := zeroChk_of z26 (v := (((Tryd.prog).info? 26).bind (·.zero)).getD undef) (by kernel_rfl) (by kernel_rfl) (by kernel_rfl)
@[go_sem] theorem ld27 : ldOf Tryd.prog 27 = some (true, 4) := by kernel_rfl
@[go_sem] theorem fld27_0 : fldOf Tryd.prog 27 0 = some (0, 25) := by kernel_rfl
@[go_sem] theorem fld27_1 : fldOf Tryd.prog 27 1 = some (1, 26) := by kernel_rfl
@[go_sem] theorem fld27_2 : fldOf Tryd.prog 27 2 = some (2, 3) := by kernel_rfl
@[go_sem] theorem fld27_3 : fldOf Tryd.prog 27 3 = some (3, 3) := by kernel_rfl
@[go_sem] theorem isIfc27 : isIfc Tryd.prog 27 = false := by kernel_rfl
@[go_sem] theorem by27 : bytesOf Tryd.prog 27 = some 64 := by kernel_rfl
@[go_sem] theorem z27 : zeroPV Tryd.prog 27 = some (.st [(.v (.slice none 0 0)), (.v (.slice none 0 0)), (.v (.int .i64 0)), (.v (.int .i64 0))]) := by kernel_rfl
@[go_sem] theorem zc27 : zeroChk Tryd.prog 27 := zeroChk_of z27 (v := (((Tryd.prog).info? 27).bind (·.zero)).getD undef) (by kernel_rfl) (by kernel_rfl) (by kernel_rfl)
@[go_sem] theorem bld27 : bldB Tryd.prog 27 = true := by kernel_rfl
@[go_sem] theorem ld28 : ldOf Tryd.prog 28 = some (true, 4) := by kernel_rfl
@[go_sem] theorem fld28_0 : fldOf Tryd.prog 28 0 = some (0, 25) := by kernel_rfl
@[go_sem] theorem fld28_1 : fldOf Tryd.prog 28 1 = some (1, 26) := by kernel_rfl
@[go_sem] theorem fld28_2 : fldOf Tryd.prog 28 2 = some (2, 3) := by kernel_rfl
@[go_sem] theorem fld28_3 : fldOf Tryd.prog 28 3 = some (3, 3) := by kernel_rfl
@[go_sem] theorem isIfc28 : isIfc Tryd.prog 28 = false := by kernel_rfl
@[go_sem] theorem by28 : bytesOf Tryd.prog 28 = some 64 := by kernel_rfl
@[go_sem] theorem z28 : zeroPV Tryd.prog 28 = some (.st [(.v (.slice none 0 0)), (.v (.slice none 0 0)), (.v (.int .i64 0)), (.v (.int .i64 0))]) := by kernel_rfl
@[go_sem] theorem zc28 : zeroChk Tryd.prog 28 := zeroChk_of z28 (v := (((Tryd.prog).info? 28).bind (·.zero)).getD undef) (by kernel_rfl) (by kernel_rfl) (by kernel_rfl)
@[go_sem] theorem bld28 : bldB Tryd.prog 28 = true := by kernel_rfl
@[go_sem] theorem ld29 : ldOf Tryd.prog 29 = some (true, 5) := by kernel_rfl
@[go_sem] theorem fld29_0 : fldOf Tryd.prog 29 0 = some (0, 3) := by kernel_rfl
@[go_sem] theorem fld29_1 : fldOf Tryd.prog 29 1 = some (1, 28) := by kernel_rfl
@[go_sem] theorem isIfc29 : isIfc Tryd.prog 29 = false := by kernel_rfl
@[go_sem] theorem by29 : bytesOf Tryd.prog 29 = some 72 := by kernel_rfl
@[go_sem] theorem z29 : zeroPV Tryd.prog 29 = some (.st [(.v (.int .i64 0)), (.st [(.v (.slice none 0 0)), (.v (.slice none 0 0)), (.v (.int .i64 0)), (.v (.int .i64 0))])]) := by kernel_rfl
@[go_sem] theorem zc29 : zeroChk Tryd.prog 29 := zeroChk_of z29 (v := (((Tryd.prog).info? 29).bind (·.zero)).getD undef) (by kernel_rfl) (by kernel_rfl) (by kernel_rfl)
@[go_sem] theorem bld29 : bldB Tryd.prog 29 = true := by kernel_rfl
@[go_sem] theorem ld30 : ldOf Tryd.prog 30 = some (true, 5) := by kernel_rfl
@[go_sem] theorem fld30_0 : fldOf Tryd.prog 30 0 = some (0, 3) := by kernel_rfl
@[go_sem] theorem fld30_1 : fldOf Tryd.prog 30 1 = some (1, 28) := by kernel_rfl
@[go_sem] theorem isIfc30 : isIfc Tryd.prog 30 = false := by kernel_rfl
@[go_sem] theorem by30 : bytesOf Tryd.prog 30 = some 72 := by kernel_rfl
@[go_sem] theorem z30 : zeroPV Tryd.prog 30 = some (.st [(.v (.int .i64 0)), (.st [(.v (.slice none 0 0)), (.v (.slice none 0 0)), (.v (.int .i64 0)), (.v (.int .i64 0))])]) := by kernel_rfl
@[go_sem] theorem zc30 : zeroChk Tryd.prog 30 := zeroChk_of z30 (v := (((Tryd.prog).info? 30).bind (·.zero)).getD undef) (by kernel_rfl) (by kernel_rfl) (by kernel_rfl)
@[go_sem] theorem bld30 : bldB Tryd.prog 30 = true := by kernel_rfl
@[go_sem] theorem ld31 : ldOf Tryd.prog 31 = some (false, 1) := by kernel_rfl
@[go_sem] theorem isIfc31 : isIfc Tryd.prog 31 = false := by kernel_rfl
@[go_sem] theorem by31 : bytesOf Tryd.prog 31 = some 8 := by kernel_rfl
attribute [go_sem] Tryd.underlying31
@[go_sem] theorem z31 : zeroPV Tryd.prog 31 = some (.v .nilFunc) := by kernel_rfl
@[go_sem] theorem zc31 : zeroChk Tryd.prog 31 := zeroChk_of z31 (v := (((Tryd.prog).info? 31).bind (·.zero)).getD undef) (by kernel_rfl) (by kernel_rfl) (by kernel_rfl)
@[go_sem] theorem ld32 : ldOf Tryd.prog 32 = some (false, 1) := by kernel_rfl
@[go_sem] theorem isIfc32 : isIfc Tryd.prog 32 = false := by kernel_rfl
@[go_sem] theorem by32 : bytesOf Tryd.prog 32 = some 8 := by kernel_rfl
attribute [go_sem] Tryd.underlying32
@[go_sem] theorem z32 : zeroPV Tryd.prog 32 = some (.v .nilFunc) := by kernel_rfl
@[go_sem] theorem zc32 : zeroChk Tryd.prog 32 := zeroChk_of z32 (v := (((Tryd.prog).info? 32).bind (·.zero)).getD undef) (by kernel_rfl) (by kernel_rfl) (by kernel_rfl)
@[go_sem] theorem ld33 : ldOf Tryd.prog 33 = some (false, 1) := by kernel_rfl
@[go_sem] theorem el33 : elOf Tryd.prog 33 = some 89 := by kernel_rfl
@[go_sem] theorem isIfc33 : isIfc Tryd.prog 33 = false := by kernel_rfl
@[go_sem] theorem by33 : bytesOf Tryd.prog 33 = some 24 := by kernel_rfl
attribute [go_sem] Tryd.underlying33
@[go_sem] theorem z33 : zeroPV Tryd.prog 33 = some (.v (.slice none 0 0)) := by kernel_rfl
@[go_sem] theorem zc33 : zeroChk Tryd.prog 33 := zeroChk_of z33 (v := (((Tryd.prog).info? 33).bind (·.zero)).getD undef) (by kernel_rfl) (by kernel_rfl) (by kernel_rfl)
@[go_sem] theorem ld34 : ldOf Tryd.prog 34 = some (true, 1) := by kernel_rfl
@[go_sem] theorem fld34_0 : fldOf Tryd.prog 34 0 = some (0, 33) := by kernel_rfl
@[go_sem] theorem isIfc34 : isIfc Tryd.prog 34 = false := by kernel_rfl
@[go_sem] theorem by34 : bytesOf Tryd.prog 34 = some 24 := by kernel_rfl
@[go_sem] theorem z34 : zeroPV Tryd.prog 34 = some (.st [(.v (.slice none 0 0))]) := by kernel_rfl
@[go_sem] theorem zc34 : zeroChk Tryd.prog 34 := zeroChk_of z34 (v := (((Tryd.prog).info? 34).bind (·.zero)).getD undef) (by kernel_rfl) (by kernel_rfl) (by kernel_rfl)
@[go_sem] theorem bld34 : bldB Tryd.prog 34 = true := by kernel_rfl
@[go_sem] theorem ld35 : ldOf Tryd.prog 35 = some (true, 1) := by kernel_rfl
@[go_sem] theorem fld35_0 : fldOf Tryd.prog 35 0 = some (0, 33) := by kernel_rfl
@[go_sem] theorem isIfc35 : isIfc Tryd.prog 35 = false := by kernel_rfl
@[go_sem] theorem by35 : bytesOf Tryd.prog 35 = some 24 := by kernel_rfl
@[go_sem] theorem z35 : zeroPV Tryd.prog 35 = some (.st [(.v (.slice none 0 0))]) := by kernel_rfl
@[go_sem] theorem zc35 : zeroChk Tryd.prog 35 := zeroChk_of z35 (v := (((Tryd.prog).info? 35).bind (·.zero)).getD undef) (by kernel_rfl) (by kernel_rfl) (by kernel_rfl)
@[go_sem] theorem bld35 : bldB Tryd.prog 35 = true := by kernel_rfl
@[go_sem] theorem ld36 : ldOf Tryd.prog 36 = some (false, 1) := by kernel_rfl
@[go_sem] theorem isIfc36 : isIfc Tryd.prog 36 = false := by kernel_rfl
@[go_sem] theorem by36 : bytesOf Tryd.prog 36 = some 8 := by kernel_rfl
attribute [go_sem] Tryd.underlying36
@[go_sem] theorem z36 : zeroPV Tryd.prog 36 = some (.v .nilFunc) := by kernel_rfl
@[go_sem] theorem zc36 : zeroChk Tryd.prog 36 := zeroChk_of z36 (v := (((Tryd.prog).info? 36).bind (·.zero)).getD undef) (by kernel_rfl) (by kernel_rfl) (by kernel_rfl)
@[go_sem] theorem ld37 : ldOf Tryd.prog 37 = some (false, 1) := by kernel_rfl
@[go_sem] theorem isIfc37 : isIfc Tryd.prog 37 = false := by kernel_rfl
@[go_sem] theorem by37 : bytesOf Tryd.prog 37 = some 8 := by kernel_rfl
attribute [go_sem] Tryd.underlying37
@[go_sem] theorem z37 : zeroPV Tryd.prog 37 = some (.v .nilFunc) := by kernel_rfl
@[go_sem] theorem zc37 : zeroChk Tryd.prog 37 := zeroChk_of z37 (v := (((Tryd.prog).info? 37).bind (·.zero)).getD undef) (by kernel_rfl) (by kernel_rfl) (by kernel_rfl)
@[go_sem] theorem ld38 : ldOf Tryd.prog 38 = some (false, 1) := by kernel_rfl
@[go_sem] theorem isIfc38 : isIfc Tryd.prog 38 = true := by kernel_rfl
@[go_sem] theorem by38 : bytesOf Tryd.prog 38 = some 16 := by kernel_rfl
attribute [go_sem] Tryd.underlying38
@[go_sem] theorem z38 : zeroPV Tryd.prog 38 = some (.v .nilIface) := by kernel_rfl
@[go_sem] theorem zc38 : zeroChk Tryd.prog 38 := zeroChk_of z38 (v := (((Tryd.prog).info? 38).bind (·.zero)).getD undef) (by kernel_rfl) (by kernel_rfl) (by kernel_rfl)
@[go_sem] theorem ld39 : ldOf Tryd.prog 39 = some (false, 1) := by kernel_rfl
@[go_sem] theorem isIfc39 : isIfc Tryd.prog 39 = true := by kernel_rfl
@[go_sem] theorem by39 : bytesOf Tryd.prog 39 = some 16 := by kernel_rfl
attribute [go_sem] Tryd.underlying39
@[go_sem] theorem z39 : zeroPV Tryd.prog 39 = some (.v .nilIface) := by kernel_rfl
@[go_sem] theorem zc39 : zeroChk Tryd.prog 39 := zeroChk_of z39 (v := (((Tryd.prog).info? 39).bind (·.zero)).getD undef) (by kernel_rfl) (by kernel_rfl) (by kernel_rfl)
@[go_sem] theorem ld40 : ldOf Tryd.prog 40 = some (false, 1) := by kernel_rfl
@[go_sem] theorem isIfc40 : isIfc Tryd.prog 40 = false := by kernel_rfl
@[go_sem] theorem by40 : bytesOf Tryd.prog 40 = some 8 := by kernel_rfl
attribute [go_sem] Tryd.underlying40
@[go_sem] theorem z40 : zeroPV Tryd.prog 40 = some (.v .nilFunc) := by kernel_rfl
@[go_sem] theorem zc40 : zeroChk Tryd.prog 40 := zeroChk_of z40 (v := (((Tryd.prog).info? 40).bind (·.zero)).getD undef) (by kernel_rfl) (by kernel_rfl) (by kernel_rfl)
@[go_sem] theorem ld41 : ldOf Tryd.prog 41 = some (true, 4) := by kernel_rfl
@[go_sem] theorem fld41_0 : fldOf Tryd.prog 41 0 = some (0, 25) := by kernel_rfl
@[go_sem] theorem fld41_1 : fldOf Tryd.prog 41 1 = some (1, 26) := by kernel_rfl
@[go_sem] theorem fld41_2 : fldOf Tryd.prog 41 2 = some (2, 3) := by kernel_rfl
@[go_sem] theorem fld41_3 : fldOf Tryd.prog 41 3 = some (3, 3) := by kernel_rfl
@[go_sem] theorem isIfc41 : isIfc Tryd.prog 41 = false := by kernel_rfl
@[go_sem] theorem by41 : bytesOf Tryd.prog 41 = some 64 := by kernel_rfl
@[go_sem] theorem z41 : zeroPV Tryd.prog 41 = some (.st [(.v (.slice none 0 0)), (.v (.slice none 0 0)), (.v (.int .i64 0)), (.v (.int .i64 0))]) := by kernel_rfl
@[go_sem] theorem zc41 : zeroChk Tryd.prog 41 := zeroChk_of z41 (v := (((Tryd.prog).info? 41).bind (·.zero)).getD undef) (by kernel_rfl) (by kernel_rfl) (by kernel_rfl)
@[go_sem] theorem bld41 : bldB Tryd.prog 41 = true := by kernel_rfl
@[go_sem] theorem ld42 : ldOf Tryd.prog 42 = some (false, 1) := by kernel_rfl
@[go_sem] theorem ik42 : ikOf Tryd.prog 42 = some .u64 := by kernel_rfl
@[go_sem] theorem isIfc42 : isIfc Tryd.prog 42 = false := by kernel_rfl
@[go_sem] theorem by42 : bytesOf Tryd.prog 42 = some 8 := by kernel_rfl
@[go_sem] theorem z42 : zeroPV Tryd.prog 42 = some (.v (.int .u64 0)) := by kernel_rfl
@[go_sem] theorem zc42 : zeroChk Tryd.prog 42 := zeroChk_of z42 (v := (((Tryd.prog).info? 42).bind (·.zero)).getD undef) (by kernel_rfl) (by kernel_rfl) (by kernel_rfl)
@[go_sem] theorem ld43 : ldOf Tryd.prog 43 = some (false, 1) := by kernel_rfl
@[go_sem] theorem isIfc43 : isIfc Tryd.prog 43 = false := by kernel_rfl
@[go_sem] theorem by43 : bytesOf Tryd.prog 43 = some 8 := by kernel_rfl
attribute [go_sem] Tryd.underlying43
@[go_sem] theorem z43 : zeroPV Tryd.prog 43 = some (.v .nilFunc) := by kernel_rfl
@[go_sem] theorem zc43 : zeroChk Tryd.prog 43 := zeroChk_of z43 (v := (((Tryd.prog).info? 43).bind (·.zero)).getD undef) (by kernel_rfl) (by kernel_rfl) (by kernel_rfl)
@[go_sem] theorem ld44 : ldOf Tryd.prog 44 = some (false, 1) := by kernel_rfl
@[go_sem] theorem isIfc44 : isIfc Tryd.prog 44 = false := by kernel_rfl
@[go_sem] theorem by44 : bytesOf Tryd.prog 44 = some 8 := by kernel_rfl
attribute [go_sem] Tryd.underlying44
@[go_sem] theorem z44 : zeroPV Tryd.prog 44 = some (.v .nilFunc) := by kernel_rfl
@[go_sem] theorem zc44 : zeroChk Tryd.prog 44 := zeroChk_of z44 (v := (((Tryd.prog).info? 44).bind (·.zero)).getD undef) (by kernel_rfl) (by kernel_rfl) (by kernel_rfl)
@[go_sem] theorem ld45 : ldOf Tryd.prog 45 = some (false, 1) := by kernel_rfl
@[go_sem] theorem isIfc45 : isIfc Tryd.prog 45 = false := by kernel_rfl
@[go_sem] theorem by45 : bytesOf Tryd.prog 45 = some 8 := by kernel_rfl
attribute [go_sem] Tryd.underlying45
@[go_sem] theorem z45 : zeroPV Tryd.prog 45 = some (.v .nilFunc) := by kernel_rfl
@[go_sem] theorem zc45 : zeroChk Tryd.prog 45 := zeroChk_of z45 (v := (((Tryd.prog).info? 45).bind (·.zero)).getD undef) (by kernel_rfl) (by kernel_rfl) (by kernel_rfl)
@[go_sem] theorem ld46 : ldOf Tryd.prog 46 = some (false, 1) := by kernel_rfl
@[go_sem] theorem isIfc46 : isIfc Tryd.prog 46 = false := by kernel_rfl
@[go_sem] theorem by46 : bytesOf Tryd.prog 46 = some 8 := by kernel_rfl
attribute [go_sem] Tryd.underlying46
@[go_sem] theorem z46 : zeroPV Tryd.prog 46 = some (.v .nilFunc) := by kernel_rfl
@[go_sem] theorem zc46 : zeroChk Tryd.prog 46 := zeroChk_of z46 (v := (((Tryd.prog).info? 46).bind (·.zero)).getD undef) (by kernel_rfl) (by kernel_rfl) (by kernel_rfl)
@[go_sem] theorem ld47 : ldOf Tryd.prog 47 = some (false, 1) := by kernel_rfl
@[go_sem] theorem isIfc47 : isIfc Tryd.prog 47 = false := by kernel_rfl
@[go_sem] theorem by47 : bytesOf Tryd.prog 47 = some 8 := by kernel_rfl
attribute [go_sem] Tryd.underlying47
@[go_sem] theorem z47 : zeroPV Tryd.prog 47 = some (.v .nilFunc) := by kernel_rfl
@[go_sem] theorem zc47 : zeroChk Tryd.prog 47 := zeroChk_of z47 (v := (((Tryd.prog).info? 47).bind (·.zero)).getD undef) (by kernel_rfl) (by kernel_rfl) (by kernel_rfl)
@[go_sem] theorem ld48 : ldOf Tryd.prog 48 = some (false, 1) := by kernel_rfl
@[go_sem] theorem isIfc48 : isIfc Tryd.prog 48 = false := by kernel_rfl
@[go_sem] theorem by48 : bytesOf Tryd.prog 48 = some 8 := by kernel_rfl
attribute [go_sem] Tryd.underlying48
@[go_sem] theorem z48 : zeroPV Tryd.prog 48 = some (.v .nilFunc) := by kernel_rfl
@[go_sem] theorem zc48 : zeroChk Tryd.prog 48 := zeroChk_of z48 (v := (((Tryd.prog).info? 48).bind (·.zero)).getD undef) (by kernel_rfl) (by kernel_rfl) (by kernel_rfl)
@[go_sem] theorem ld49 : ldOf Tryd.prog 49 = some (false, 1) := by kernel_rfl
@[go_sem] theorem isIfc49 : isIfc Tryd.prog 49 = false := by kernel_rfl
@[go_sem] theorem by49 : bytesOf Tryd.prog 49 = some 8 := by kernel_rfl
attribute [go_sem] Tryd.underlying49
@[go_sem] theorem z49 : zeroPV Tryd.prog 49 = some (.v .nilFunc) := by kernel_rfl
@[go_sem] theorem zc49 : zeroChk Tryd.prog 49 := zeroChk_of z49 (v := (((Tryd.prog).info? 49).bind (·.zero)).getD undef) (by kernel_rfl) (by kernel_rfl) (by kernel_rfl)
@[go_sem] theorem ld50 : ldOf Tryd.prog 50 = some (false, 1) := by kernel_rfl
@[go_sem] theorem isIfc50 : isIfc Tryd.prog 50 = false := by kernel_rfl
@[go_sem] theorem by50 : bytesOf Tryd.prog 50 = some 8 := by kernel_rfl
attribute [go_sem] Tryd.underlying50
@[go_sem] theorem z50 : zeroPV Tryd.prog 50 = some (.v .nilFunc) := by kernel_rfl
@[go_sem] theorem zc50 : zeroChk Tryd.prog 50 := zeroChk_of z50 (v := (((Tryd.prog).info? 50).bind (·.zero)).getD undef) (by kernel_rfl) (by kernel_rfl) (by kernel_rfl)
@[go_sem] theorem ld51 : ldOf Tryd.prog 51 = some (false, 1) := by kernel_rfl
@[go_sem] theorem isIfc51 : isIfc Tryd.prog 51 = false := by kernel_rfl
@[go_sem] theorem by51 : bytesOf Tryd.prog 51 = some 8 := by kernel_rfl
attribute [go_sem] Tryd.underlying51
@[go_sem] theorem z51 : zeroPV Tryd.prog 51 = some (.v .nilFunc) := by kernel_rfl
@[go_sem] theorem zc51 : zeroChk Tryd.prog 51 := zeroChk_of z51 (v := (((Tryd.prog).info? 51).bind (·.zero)).getD undef) (by kernel_rfl) (by kernel_rfl) (by kernel_rfl)
@[go_sem] theorem ld52 : ldOf Tryd.prog 52 = some (false, 1) := by kernel_rfl
@[go_sem] theorem el52 : elOf Tryd.prog 52 = some 112 := by kernel_rfl
@[go_sem] theorem isIfc52 : isIfc Tryd.prog 52 = false := by kernel_rfl
@[go_sem] theorem by52 : bytesOf Tryd.prog 52 = some 24 := by kernel_rfl
attribute [go_sem] Tryd.underlying52
@[go_sem] theorem z52 : zeroPV Tryd.prog 52 = some (.v (.slice none 0 0)) := by kernel_rfl
@[go_sem] theorem zc52 : zeroChk Tryd.prog 52 := zeroChk_of z52 (v := (((Tryd.prog).info? 52).bind (·.zero)).getD undef) (by kernel_rfl) (by kernel_rfl) (by kernel_rfl)
@[go_sem] theorem ld53 : ldOf Tryd.prog 53 = some (false, 1) := by kernel_rfl
@[go_sem] theorem el53 : elOf Tryd.prog 53 = some 71 := by kernel_rfl
@[go_sem] theorem isIfc53 : isIfc Tryd.prog 53 = false := by kernel_rfl
@[go_sem] theorem by53 : bytesOf Tryd.prog 53 = some 24 := by kernel_rfl
attribute [go_sem] Tryd.underlying53
@[go_sem] theorem z53 : zeroPV Tryd.prog 53 = some (.v (.slice none 0 0)) := by kernel_rfl
@[go_sem] theorem zc53 : zeroChk Tryd.prog 53 := zeroChk_of z53 (v := (((Tryd.prog).info? 53).bind (·.zero)).getD undef) (by kernel_rfl) (by kernel_rfl) (by kernel_rfl)
@[go_sem] theorem ld54 : ldOf Tryd.prog 54 = some (true, 3) := by kernel_rfl
@[go_sem] theorem fld54_0 : fldOf Tryd.prog 54 0 = some (0, 3) := by kernel_rfl
@[go_sem] theorem fld54_1 : fldOf Tryd.prog 54 1 = some (1, 52) := by kernel_rfl
@[go_sem] theorem fld54_2 : fldOf Tryd.prog 54 2 = some (2, 53) := by kernel_rfl
@[go_sem] theorem isIfc54 : isIfc Tryd.prog 54 = false := by kernel_rfl
@[go_sem] theorem by54 : bytesOf Tryd.prog 54 = some 56 := by kernel_rfl
@[go_sem] theorem z54 : zeroPV Tryd.prog 54 = some (.st [(.v (.int .i64 0)), (.v (.slice none 0 0)), (.v (.slice none 0 0))]) := by kernel_rfl
@[go_sem] theorem zc54 : zeroChk Tryd.prog 54 := zeroChk_of z54 (v := (((Tryd.prog).info? 54).bind (·.zero)).getD undef) (by kernel_rfl) (by kernel_rfl) (by kernel_rfl)
@[go_sem] theorem bld54 : bldB Tryd.prog 54 = true := by kernel_rfl
@[go_sem] theorem ld55 : ldOf Tryd.prog 55 = some (true, 3) := by kernel_rfl
@[go_sem] theorem fld55_0 : fldOf Tryd.prog 55 0 = some (0, 3) := by kernel_rfl
@[go_sem] theorem fld55_1 : fldOf Tryd.prog 55 1 = some (1, 52) := by kernel_rfl
@[go_sem] theorem fld55_2 : fldOf Tryd.prog 55 2 = some (2, 53) := by kernel_rfl
@[go_sem] theorem isIfc55 : isIfc Tryd.prog 55 = false := by kernel_rfl
@[go_sem] theorem by55 : bytesOf Tryd.prog 55 = some 56 := by kernel_rfl
@[go_sem] theorem z55 : zeroPV Tryd.prog 55 = some (.st [(.v (.int .i64 0)), (.v (.slice none 0 0)), (.v (.slice none 0 0))]) := by kernel_rfl
@[go_sem] theorem zc55 : zeroChk Tryd.prog 55 := zeroChk_of z55 (v := (((Tryd.prog).info? 55).bind (·.zero)).getD undef) (by kernel_rfl) (by kernel_rfl) (by kernel_rfl)
@[go_sem] theorem bld55 : bldB Tryd.prog 55 = true := by kernel_rfl
@[go_sem] theorem ld56 : ldOf Tryd.prog 56 = some (false, 1) := by kernel_rfl
@[go_sem] theorem isIfc56 : isIfc Tryd.prog 56 = false := by kernel_rfl
@[go_sem] theorem by56 : bytesOf Tryd.prog 56 = some 8 := by kernel_rfl
attribute [go_sem] Tryd.underlying56
@[go_sem] theorem z56 : zeroPV Tryd.prog 56 = some (.v .nilFunc) := by kernel_rfl
@[go_sem] theorem zc56 : zeroChk Tryd.prog 56 := zeroChk_of z56 (v := (((Tryd.prog).info? 56).bind (·.zero)).getD undef) (by kernel_rfl) (by kernel_rfl) (by kernel_rfl)
@[go_sem] theorem ld57 : ldOf Tryd.prog 57 = some (false, 1) := by kernel_rfl
@[go_sem] theorem isIfc57 : isIfc Tryd.prog 57 = false := by kernel_rfl
@[go_sem] theorem by57 : bytesOf Tryd.prog 57 = some 0 := by kernel_rfl
@[go_sem] theorem ld58 : ldOf Tryd.prog 58 = some (false, 1) := by kernel_rfl
@[go_sem] theorem isIfc58 : isIfc Tryd.prog 58 = false := by kernel_rfl
@[go_sem] theorem by58 : bytesOf Tryd.prog 58 = some 8 := by kernel_rfl
attribute [go_sem] Tryd.underlying58
@[go_sem] theorem z58 : zeroPV Tryd.prog 58 = some (.v .nilFunc) := by kernel_rfl
@[go_sem] theorem zc58 : zeroChk Tryd.prog 58 := zeroChk_of z58 (v := (((Tryd.prog).info? 58).bind (·.zero)).getD undef) (by kernel_rfl) (by kernel_rfl) (by kernel_rfl)
@[go_sem] theorem ld59 : ldOf Tryd.prog 59 = some (false, 1) := by kernel_rfl
@[go_sem] theorem el59 : elOf Tryd.prog 59 = some 77 := by kernel_rfl
@[go_sem] theorem isIfc59 : isIfc Tryd.prog 59 = false := by kernel_rfl
@[go_sem] theorem by59 : bytesOf Tryd.prog 59 = some 24 := by kernel_rfl
attribute [go_sem] Tryd.underlying59
@[go_sem] theorem z59 : zeroPV Tryd.prog 59 = some (.v (.slice none 0 0)) := by kernel_rfl
@[go_sem] theorem zc59 : zeroChk Tryd.prog 59 := zeroChk_of z59 (v := (((Tryd.prog).info? 59).bind (·.zero)).getD undef) (by kernel_rfl) (by kernel_rfl) (by kernel_rfl)
@[go_sem] theorem ld60 : ldOf Tryd.prog 60 = some (false, 1) := by kernel_rfl
@[go_sem] theorem el60 : elOf Tryd.prog 60 = some 69 := by kernel_rfl
@[go_sem] theorem isIfc60 : isIfc Tryd.prog 60 = false := by kernel_rfl
@[go_sem] theorem by60 : bytesOf Tryd.prog 60 = some 24 := by kernel_rfl
attribute [go_sem] Tryd.underlying60
@[go_sem] theorem z60 : zeroPV Tryd.prog 60 = some (.v (.slice none 0 0)) := by kernel_rfl
@[go_sem] theorem zc60 : zeroChk Tryd.prog 60 := zeroChk_of z60 (v := (((Tryd.prog).info? 60).bind (·.zero)).getD undef) (by kernel_rfl) (by kernel_rfl) (by kernel_rfl)
@[go_sem] theorem ld61 : ldOf Tryd.prog 61 = some (true, 3) := by kernel_rfl
@[go_sem] theorem fld61_0 : fldOf Tryd.prog 61 0 = some (0, 3) := by kernel_rfl
@[go_sem] theorem fld61_1 : fldOf Tryd.prog 61 1 = some (1, 59) := by kernel_rfl
@[go_sem] theorem fld61_2 : fldOf Tryd.prog 61 2 = some (2, 60) := by kernel_rfl
@[go_sem] theorem isIfc61 : isIfc Tryd.prog 61 = false := by kernel_rfl
@[go_sem] theorem by61 : bytesOf Tryd.prog 61 = some 56 := by kernel_rfl
@[go_sem] theorem z61 : zeroPV Tryd.prog 61 = some (.st [(.v (.int .i64 0)), (.v (.slice none 0 0)), (.v (.slice none 0 0))]) := by kernel_rfl
@[go_sem] theorem zc61 : zeroChk Tryd.prog 61 := zeroChk_of z61 (v := (((Tryd.prog).info? 61).bind (·.zero)).getD undef) (by kernel_rfl) (by kernel_rfl) (by kernel_rfl)
@[go_sem] theorem bld61 : bldB Tryd.prog 61 = true := by kernel_rfl
@[go_sem] theorem ld62 : ldOf Tryd.prog 62 = some (true, 3) := by kernel_rfl
@[go_sem] theorem fld62_0 : fldOf Tryd.prog 62 0 = some (0, 3) := by kernel_rfl
@[go_sem] theorem fld62_1 : fldOf Tryd.prog 62 1 = some (1, 59) := by kernel_rfl
@[go_sem] theorem fld62_2 : fldOf Tryd.prog 62 2 = some (2, 60) := by kernel_rfl
@[go_sem] theorem isIfc62 : isIfc Tryd.prog 62 = false := by kernel_rfl
@[go_sem] theorem by62 : bytesOf Tryd.prog 62 = some 56 := by kernel_rfl
@[go_sem] theorem z62 : zeroPV Tryd.prog 62 = some (.st [(.v (.int .i64 0)), (.v (.slice none 0 0)), (.v (.slice none 0 0))]) := by kernel_rfl
@[go_sem] theorem zc62 : zeroChk Tryd.prog 62 := zeroChk_of z62 (v := (((Tryd.prog).info? 62).bind (·.zero)).getD undef) (by kernel_rfl) (by kernel_rfl) (by kernel_rfl)
@[go_sem] theorem bld62 : bldB Tryd.prog 62 = true := by kernel_rfl
@[go_sem] theorem ld63 : ldOf Tryd.prog 63 = some (false, 1) := by kernel_rfl
@[go_sem] theorem isIfc63 : isIfc Tryd.prog 63 = false := by kernel_rfl
@[go_sem] theorem by63 : bytesOf Tryd.prog 63 = some 8 := by kernel_rfl
attribute [go_sem] Tryd.underlying63
@[go_sem] theorem z63 : zeroPV Tryd.prog 63 = some (.v .nilFunc) := by kernel_rfl
@[go_sem] theorem zc63 : zeroChk Tryd.prog 63 := zeroChk_of z63 (v := (((Tryd.prog).info? 63).bind (·.zero)).getD undef) (by kernel_rfl) (by kernel_rfl) (by kernel_rfl)
@[go_sem] theorem ld64 : ldOf Tryd.prog 64 = some (false, 1) := by kernel_rfl
@[go_sem] theorem isIfc64 : isIfc Tryd.prog 64 = false := by kernel_rfl
@[go_sem] theorem by64 : bytesOf Tryd.prog 64 = some 0 := by kernel_rfl
@[go_sem] theorem ld65 : ldOf Tryd.prog 65 = some (false, 1) := by kernel_rfl
@[go_sem] theorem isIfc65 : isIfc Tryd.prog 65 = false := by kernel_rfl
@[go_sem] theorem by65 : bytesOf Tryd.prog 65 = some 8 := by kernel_rfl
attribute [go_sem] Tryd.underlying65
@[go_sem] theorem z65 : zeroPV Tryd.prog 65 = some (.v .nilFunc) := by kernel_rfl
@[go_sem] theorem zc65 : zeroChk Tryd.prog 65 := zeroChk_of z65 (v := (((Tryd.prog).info? 65).bind (·.zero)).getD undef) (by kernel_rfl) (by kernel_rfl) (by kernel_rfl)
@[go_sem] theorem ld66 : ldOf Tryd.prog 66 = some (false, 1) := by kernel_rfl
@[go_sem] theorem isIfc66 : isIfc Tryd.prog 66 = false := by kernel_rfl
@[go_sem] theorem by66 : bytesOf Tryd.prog 66 = some 8 := by kernel_rfl
attribute [go_sem] Tryd.underlying66
@[go_sem] theorem z66 : zeroPV Tryd.prog 66 = some (.v .nilFunc) := by kernel_rfl
@[go_sem] theorem zc66 : zeroChk Tryd.prog 66 := zeroChk_of z66 (v := (((Tryd.prog).info? 66).bind (·.zero)).getD undef) (by kernel_rfl) (by kernel_rfl) (by kernel_rfl)
@[go_sem] theorem ld67 : ldOf Tryd.prog 67 = some (false, 1) := by kernel_rfl
@[go_sem] theorem isIfc67 : isIfc Tryd.prog 67 = false := by kernel_rfl
@[go_sem] theorem by67 : bytesOf Tryd.prog 67 = some 8 := by kernel_rfl
attribute [go_sem] Tryd.underlying67
@[go_sem] theorem z67 : zeroPV Tryd.prog 67 = some (.v .nilFunc) := by kernel_rfl
@[go_sem] theorem zc67 : zeroChk Tryd.prog 67 := zeroChk_of z67 (v := (((Tryd.prog).info? 67).bind (·.zero)).getD undef) (by kernel_rfl) (by kernel_rfl) (by kernel_rfl)
@[go_sem] theorem ld68 : ldOf Tryd.prog 68 = some (true, 2) := by kernel_rfl
@[go_sem] theorem fld68_0 : fldOf Tryd.prog 68 0 = some (0, 3) := by kernel_rfl
@[go_sem] theorem fld68_1 : fldOf Tryd.prog 68 1 = some (1, 35) := by kernel_rfl
@[go_sem] theorem isIfc68 : isIfc Tryd.prog 68 = false := by kernel_rfl
@[go_sem] theorem by68 : bytesOf Tryd.prog 68 = some 32 := by kernel_rfl
@[go_sem] theorem z68 : zeroPV Tryd.prog 68 = some (.st [(.v (.int .i64 0)), (.st [(.v (.slice none 0 0))])]) := by kernel_rfl
@[go_sem] theorem zc68 : zeroChk Tryd.prog 68 := zeroChk_of z68 (v := (((Tryd.prog).info? 68).bind (·.zero)).getD undef) (by kernel_rfl) (by kernel_rfl) (by kernel_rfl)
@[go_sem] theorem bld68 : bldB Tryd.prog 68 = true := by kernel_rfl
@[go_sem] theorem ld69 : ldOf Tryd.prog 69 = some (true, 2) := by kernel_rfl
@[go_sem] theorem fld69_0 : fldOf Tryd.prog 69 0 = some (0, 3) := by kernel_rfl
@[go_sem] theorem fld69_1 : fldOf Tryd.prog 69 1 = some (1, 35) := by kernel_rfl
@[go_sem] theorem isIfc69 : isIfc Tryd.prog 69 = false := by kernel_rfl
@[go_sem] theorem by69 : bytesOf Tryd.prog 69 = some 32 := by kernel_rfl
@[go_sem] theorem z69 : zeroPV Tryd.prog 69 = some (.st [(.v (.int .i64 0)), (.st [(.v (.slice none 0 0))])]) := by kernel_rfl
@[go_sem] theorem zc69 : zeroChk Tryd.prog 69 := zeroChk_of z69 (v := (((Tryd.prog).info? 69).bind (·.zero)).getD undef) (by kernel_rfl) (by kernel_rfl) (by kernel_rfl)
@[go_sem] theorem bld69 : bldB Tryd.prog 69 = true := by kernel_rfl
@[go_sem] theorem ld70 : ldOf Tryd.prog 70 = some (true, 2) := by kernel_rfl
@[go_sem] theorem fld70_0 : fldOf Tryd.prog 70 0 = some (0, 3) := by kernel_rfl
@[go_sem] theorem fld70_1 : fldOf Tryd.prog 70 1 = some (1, 24) := by kernel_rfl
@[go_sem] theorem isIfc70 : isIfc Tryd.prog 70 = false := by kernel_rfl
@[go_sem] theorem by70 : bytesOf Tryd.prog 70 = some 32 := by kernel_rfl
@[go_sem] theorem z70 : zeroPV Tryd.prog 70 = some (.st [(.v (.int .i64 0)), (.st [(.v (.slice none 0 0))])]) := by kernel_rfl
@[go_sem] theorem zc70 : zeroChk Tryd.prog 70 := zeroChk_of z70 (v := (((Tryd.prog).info? 70).bind (·.zero)).getD undef) (by kernel_rfl) (by kernel_rfl) (by kernel_rfl)
@[go_sem] theorem bld70 : bldB Tryd.prog 70 = true := by kernel_rfl
@[go_sem] theorem ld71 : ldOf Tryd.prog 71 = some (true, 2) := by kernel_rfl
@[go_sem] theorem fld71_0 : fldOf Tryd.prog 71 0 = some (0, 3) := by kernel_rfl
@[go_sem] theorem fld71_1 : fldOf Tryd.prog 71 1 = some (1, 24) := by kernel_rfl
@[go_sem] theorem isIfc71 : isIfc Tryd.prog 71 = false := by kernel_rfl
@[go_sem] theorem by71 : bytesOf Tryd.prog 71 = some 32 := by kernel_rfl
@[go_sem] theorem z71 : zeroPV Tryd.prog 71 = some (.st [(.v (.int .i64 0)), (.st [(.v (.slice none 0 0))])]) := by kernel_rfl
@[go_sem] theorem zc71 : zeroChk Tryd.prog 71 := zeroChk_of z71 (v := (((Tryd.prog).info? 71).bind (·.zero)).getD undef) (by kernel_rfl) (by kernel_rfl) (by kernel_rfl)
@[go_sem] theorem bld71 : bldB Tryd.prog 71 = true := by kernel_rfl
@[go_sem] theorem ld72 : ldOf Tryd.prog 72 = some (true, 32) := by kernel_rfl
@[go_sem] theorem ar72 : arOf Tryd.prog 72 = some (32, 5) := by kernel_rfl
@[go_sem] theorem isIfc72 : isIfc Tryd.prog 72 = false := by kernel_rfl
@[go_sem] theorem by72 : bytesOf Tryd.prog 72 = some 32 := by kernel_rfl
@[go_sem] theorem z72 : zeroPV Tryd.prog 72 = some (.ints .u8 32 (List.replicate 32 0)) := by kernel_rfl
@[go_sem] theorem zc72 : zeroChk Tryd.prog 72 := zeroChk_of z72 (v := (((Tryd.prog).info? 72).bind (·.zero)).getD undef) (by kernel_rfl) (by kernel_rfl) (by kernel_rfl)
@[go_sem] theorem bld72 : bldB Tryd.prog 72 = true := by kernel_rfl
@[go_sem] theorem ld73 : ldOf Tryd.prog 73 = some (true, 32) := by kernel_rfl
@[go_sem] theorem ar73 : arOf Tryd.prog 73 = some (32, 5) := by kernel_rfl
@[go_sem] theorem isIfc73 : isIfc Tryd.prog 73 = false := by kernel_rfl
@[go_sem] theorem by73 : bytesOf Tryd.prog 73 = some 32 := by kernel_rfl
@[go_sem] theorem z73 : zeroPV Tryd.prog 73 = some (.ints .u8 32 (List.replicate 32 0)) := by kernel_rfl
@[go_sem] theorem zc73 : zeroChk Tryd.prog 73 := zeroChk_of z73 (v := (((Tryd.prog).info? 73).bind (·.zero)).getD undef) (by kernel_rfl) (by kernel_rfl) (by kernel_rfl)
@[go_sem] theorem bld73 : bldB Tryd.prog 73 = true := by kernel_rfl
@[go_sem] theorem ld74 : ldOf Tryd.prog 74 = some (true, 33) := by kernel_rfl
@[go_sem] theorem fld74_0 : fldOf Tryd.prog 74 0 = some (0, 73) := by kernel_rfl
@[go_sem] theorem fld74_1 : fldOf Tryd.prog 74 1 = some (32, 3) := by kernel_rfl
@[go_sem] theorem isIfc74 : isIfc Tryd.prog 74 = false := by kernel_rfl
@[go_sem] theorem by74 : bytesOf Tryd.prog 74 = some 40 := by kernel_rfl
@[go_sem] theorem z74 : zeroPV Tryd.prog 74 = some (.st [(.ints .u8 32 (List.replicate 32 0)), (.v (.int .i64 0))]) := by kernel_rfl
@[go_sem] theorem zc74 : zeroChk Tryd.prog 74 := zeroChk_of z74 (v := (((Tryd.prog).info? 74).bind (·.zero)).getD undef) (by kernel_rfl) (by kernel_rfl) (by kernel_rfl)
@[go_sem] theorem bld74 : bldB Tryd.prog 74 = true := by kernel_rfl
@[go_sem] theorem ld75 : ldOf Tryd.prog 75 = some (true, 33) := by kernel_rfl
@[go_sem] theorem fld75_0 : fldOf Tryd.prog 75 0 = some (0, 73) := by kernel_rfl
@[go_sem] theorem fld75_1 : fldOf Tryd.prog 75 1 = some (32, 3) := by kernel_rfl
@[go_sem] theorem isIfc75 : isIfc Tryd.prog 75 = false := by kernel_rfl
@[go_sem] theorem by75 : bytesOf Tryd.prog 75 = some 40 := by kernel_rfl
@[go_sem] theorem z75 : zeroPV Tryd.prog 75 = some (.st [(.ints .u8 32 (List.replicate 32 0)), (.v (.int .i64 0))]) := by kernel_rfl
@[go_sem] theorem zc75 : zeroChk Tryd.prog 75 := zeroChk_of z75 (v := (((Tryd.prog).info? 75).bind (·.zero)).getD undef) (by kernel_rfl) (by kernel_rfl) (by kernel_rfl)
@[go_sem] theorem bld75 : bldB Tryd.prog 75 = true := by kernel_rfl
@[go_sem] theorem ld76 : ldOf Tryd.prog 76 = some (true, 35) := by kernel_rfl
@[go_sem] theorem fld76_0 : fldOf Tryd.prog 76 0 = some (0, 75) := by kernel_rfl
@[go_sem] theorem fld76_1 : fldOf Tryd.prog 76 1 = some (33, 3) := by kernel_rfl
@[go_sem] theorem fld76_2 : fldOf Tryd.prog 76 2 = some (34, 26) := by kernel_rfl
@[go_sem] theorem isIfc76 : isIfc Tryd.prog 76 = false := by kernel_rfl
@[go_sem] theorem by76 : bytesOf Tryd.prog 76 = some 72 := by kernel_rfl
@[go_sem] theorem z76 : zeroPV Tryd.prog 76 = some (.st [(.st [(.ints .u8 32 (List.replicate 32 0)), (.v (.int .i64 0))]), (.v (.int .i64 0)), (.v (.slice none 0 0))]) := by kernel_rfl
@[go_sem] theorem zc76 : zeroChk Tryd.prog 76 := zeroChk_of z76 (v := (((Tryd.prog).info? 76).bind (·.zero)).getD undef) (by kernel_rfl) (by kernel_rfl) (by kernel_rfl)
@[go_sem] theorem bld76 : bldB Tryd.prog 76 = true := by kernel_rfl
@[go_sem] theorem ld77 : ldOf Tryd.prog 77 = some (true, 35) := by kernel_rfl
@[go_sem] theorem fld77_0 : fldOf Tryd.prog 77 0 = some (0, 75) := by kernel_rfl
@[go_sem] theorem fld77_1 : fldOf Tryd.prog 77 1 = some (33, 3) := by kernel_rfl
@[go_sem] theorem fld77_2 : fldOf Tryd.prog 77 2 = some (34, 26) := by kernel_rfl
@[go_sem] theorem isIfc77 : isIfc Tryd.prog 77 = false := by kernel_rfl
@[go_sem] theorem by77 : bytesOf Tryd.prog 77 = some 72 := by kernel_rfl
@[go_sem] theorem z77 : zeroPV Tryd.prog 77 = some (.st [(.st [(.ints .u8 32 (List.replicate 32 0)), (.v (.int .i64 0))]), (.v (.int .i64 0)), (.v (.slice none 0 0))]) := by kernel_rfl
@[go_sem] theorem zc77 : zeroChk Tryd.prog 77 := zeroChk_of z77 (v := (((Tryd.prog).info? 77).bind (·.zero)).getD undef) (by kernel_rfl) (by kernel_rfl) (by kernel_rfl)
@[go_sem] theorem bld77 : bldB Tryd.prog 77 = true := by kernel_rfl
@[go_sem] theorem ld78 : ldOf Tryd.prog 78 = some (false, 1) := by kernel_rfl
@[go_sem] theorem isIfc78 : isIfc Tryd.prog 78 = false := by kernel_rfl
@[go_sem] theorem by78 : bytesOf Tryd.prog 78 = some 8 := by kernel_rfl
attribute [go_sem] Tryd.underlying78
@[go_sem] theorem z78 : zeroPV Tryd.prog 78 = some (.v .nilFunc) := by kernel_rfl
@[go_sem] theorem zc78 : zeroChk Tryd.prog 78 := zeroChk_of z78 (v := (((Tryd.prog).info? 78).bind (·.zero)).getD undef) (by kernel_rfl) (by kernel_rfl) (by kernel_rfl)
@[go_sem] theorem ld79 : ldOf Tryd.prog 79 = some (false, 1) := by kernel_rfl
@[go_sem] theorem isIfc79 : isIfc Tryd.prog 79 = false := by kernel_rfl
@[go_sem] theorem by79 : bytesOf Tryd.prog 79 = some 8 := by kernel_rfl
attribute [go_sem] Tryd.underlying79
@[go_sem] theorem z79 : zeroPV Tryd.prog 79 = some (.v .nilFunc) := by kernel_rfl
@[go_sem] theorem zc79 : zeroChk Tryd.prog 79 := zeroChk_of z79 (v := (((Tryd.prog).info? 79).bind (·.zero)).getD undef) (by kernel_rfl) (by kernel_rfl) (by kernel_rfl)
@[go_sem] theorem ld80 : ldOf Tryd.prog 80 = some (false, 1) := by kernel_rfl
@[go_sem] theorem isIfc80 : isIfc Tryd.prog 80 = false := by kernel_rfl
@[go_sem] theorem by80 : bytesOf Tryd.prog 80 = some 8 := by kernel_rfl
attribute [go_sem] Tryd.underlying80
@[go_sem] theorem z80 : zeroPV Tryd.prog 80 = some (.v .nilFunc) := by kernel_rfl
@[go_sem] theorem zc80 : zeroChk Tryd.prog 80 := zeroChk_of z80 (v := (((Tryd.prog).info? 80).bind (·.zero)).getD undef) (by kernel_rfl) (by kernel_rfl) (by kernel_rfl)
@[go_sem] theorem ld81 : ldOf Tryd.prog 81 = some (true, 33) := by kernel_rfl
@[go_sem] theorem fld81_0 : fldOf Tryd.prog 81 0 = some (0, 73) := by kernel_rfl
@[go_sem] theorem fld81_1 : fldOf Tryd.prog 81 1 = some (32, 3) := by kernel_rfl
@[go_sem] theorem isIfc81 : isIfc Tryd.prog 81 = false := by kernel_rfl
@[go_sem] theorem by81 : bytesOf Tryd.prog 81 = some 40 := by kernel_rfl
@[go_sem] theorem z81 : zeroPV Tryd.prog 81 = some (.st [(.ints .u8 32 (List.replicate 32 0)), (.v (.int .i64 0))]) := by kernel_rfl
@[go_sem] theorem zc81 : zeroChk Tryd.prog 81 := zeroChk_of z81 (v := (((Tryd.prog).info? 81).bind (·.zero)).getD undef) (by kernel_rfl) (by kernel_rfl) (by kernel_rfl)
@[go_sem] theorem bld81 : bldB Tryd.prog 81 = true := by kernel_rfl
@[go_sem] theorem ld82 : ldOf Tryd.prog 82 = some (false, 1) := by kernel_rfl
@[go_sem] theorem isIfc82 : isIfc Tryd.prog 82 = false := by kernel_rfl
@[go_sem] theorem by82 : bytesOf Tryd.prog 82 = some 8 := by kernel_rfl
attribute [go_sem] Tryd.underlying82
@[go_sem] theorem z82 : zeroPV Tryd.prog 82 = some (.v .nilFunc) := by kernel_rfl
@[go_sem] theorem zc82 : zeroChk Tryd.prog 82 := zeroChk_of z82 (v := (((Tryd.prog).info? 82).bind (·.zero)).getD undef) (by kernel_rfl) (by kernel_rfl) (by kernel_rfl)
@[go_sem] theorem ld83 : ldOf Tryd.prog 83 = some (false, 1) := by kernel_rfl
@[go_sem] theorem isIfc83 : isIfc Tryd.prog 83 = false := by kernel_rfl
@[go_sem] theorem by83 : bytesOf Tryd.prog 83 = some 8 := by kernel_rfl
attribute [go_sem] Tryd.underlying83
@[go_sem] theorem z83 : zeroPV Tryd.prog 83 = some (.v .nilFunc) := by kernel_rfl
@[go_sem] theorem zc83 : zeroChk Tryd.prog 83 := zeroChk_of z83 (v := (((Tryd.prog).info? 83).bind (·.zero)).getD undef) (by kernel_rfl) (by kernel_rfl) (by kernel_rfl)
@[go_sem] theorem ld84 : ldOf Tryd.prog 84 = some (false, 1) := by kernel_rfl
@[go_sem] theorem isIfc84 : isIfc Tryd.prog 84 = false := by kernel_rfl
@[go_sem] theorem by84 : bytesOf Tryd.prog 84 = some 0 := by kernel_rfl
@[go_sem] theorem ld85 : ldOf Tryd.prog 85 = some (false, 1) := by kernel_rfl
@[go_sem] theorem isIfc85 : isIfc Tryd.prog 85 = false := by kernel_rfl
@[go_sem] theorem by85 : bytesOf Tryd.prog 85 = some 8 := by kernel_rfl
attribute [go_sem] Tryd.underlying85
@[go_sem] theorem z85 : zeroPV Tryd.prog 85 = some (.v .nilFunc) := by kernel_rfl
@[go_sem] theorem zc85 : zeroChk Tryd.prog 85 := zeroChk_of z85 (v := (((Tryd.prog).info? 85).bind (·.zero)).getD undef) (by kernel_rfl) (by kernel_rfl) (by kernel_rfl)
@[go_sem] theorem ld86 : ldOf Tryd.prog 86 = some (false, 1) := by kernel_rfl
@[go_sem] theorem isIfc86 : isIfc Tryd.prog 86 = false := by kernel_rfl
@[go_sem] theorem by86 : bytesOf Tryd.prog 86 = some 8 := by kernel_rfl
attribute [go_sem] Tryd.underlying86
@[go_sem] theorem z86 : zeroPV Tryd.prog 86 = some (.v .nilFunc) := by kernel_rfl
@[go_sem] theorem zc86 : zeroChk Tryd.prog 86 := zeroChk_of z86 (v := (((Tryd.prog).info? 86).bind (·.zero)).getD undef) (by kernel_rfl) (by kernel_rfl) (by kernel_rfl)
@[go_sem] theorem ld87 : ldOf Tryd.prog 87 = some (true, 35) := by kernel_rfl
@[go_sem] theorem fld87_0 : fldOf Tryd.prog 87 0 = some (0, 25) := by kernel_rfl
@[go_sem] theorem fld87_1 : fldOf Tryd.prog 87 1 = some (1, 73) := by kernel_rfl
@[go_sem] theorem fld87_2 : fldOf Tryd.prog 87 2 = some (33, 3) := by kernel_rfl
@[go_sem] theorem fld87_3 : fldOf Tryd.prog 87 3 = some (34, 3) := by kernel_rfl
@[go_sem] theorem isIfc87 : isIfc Tryd.prog 87 = false := by kernel_rfl
@[go_sem] theorem by87 : bytesOf Tryd.prog 87 = some 72 := by kernel_rfl
@[go_sem] theorem z87 : zeroPV Tryd.prog 87 = some (.st [(.v (.slice none 0 0)), (.ints .u8 32 (List.replicate 32 0)), (.v (.int .i64 0)), (.v (.int .i64 0))]) := by kernel_rfl
@[go_sem] theorem zc87 : zeroChk Tryd.prog 87 := zeroChk_of z87 (v := (((Tryd.prog).info? 87).bind (·.zero)).getD undef) (by kernel_rfl) (by kernel_rfl) (by kernel_rfl)
@[go_sem] theorem bld87 : bldB Tryd.prog 87 = true := by kernel_rfl
@[go_sem] theorem ld88 : ldOf Tryd.prog 88 = some (true, 35) := by kernel_rfl
@[go_sem] theorem fld88_0 : fldOf Tryd.prog 88 0 = some (0, 25) := by kernel_rfl
@[go_sem] theorem fld88_1 : fldOf Tryd.prog 88 1 = some (1, 73) := by kernel_rfl
@[go_sem] theorem fld88_2 : fldOf Tryd.prog 88 2 = some (33, 3) := by kernel_rfl
@[go_sem] theorem fld88_3 : fldOf Tryd.prog 88 3 = some (34, 3) := by kernel_rfl
@[go_sem] theorem isIfc88 : isIfc Tryd.prog 88 = false := by kernel_rfl
@[go_sem] theorem by88 : bytesOf Tryd.prog 88 = some 72 := by kernel_rfl
@[go_sem] theorem z88 : zeroPV Tryd.prog 88 = some (.st [(.v (.slice none 0 0)), (.ints .u8 32 (List.replicate 32 0)), (.v (.int .i64 0)), (.v (.int .i64 0))]) := by kernel_rfl
@[go_sem] theorem zc88 : zeroChk Tryd.prog 88 := zeroChk_of z88 (v := (((Tryd.prog).info? 88).bind (·.zero)).getD undef) (by kernel_rfl) (by kernel_rfl) (by kernel_rfl)
@[go_sem] theorem bld88 : bldB Tryd.prog 88 = true := by kernel_rfl
@[go_sem] theorem ld89 : ldOf Tryd.prog 89 = some (true, 35) := by kernel_rfl
@[go_sem] theorem fld89_0 : fldOf Tryd.prog 89 0 = some (0, 25) := by kernel_rfl
@[go_sem] theorem fld89_1 : fldOf Tryd.prog 89 1 = some (1, 73) := by kernel_rfl
@[go_sem] theorem fld89_2 : fldOf Tryd.prog 89 2 = some (33, 3) := by kernel_rfl
@[go_sem] theorem fld89_3 : fldOf Tryd.prog 89 3 = some (34, 3) := by kernel_rfl
@[go_sem] theorem isIfc89 : isIfc Tryd.prog 89 = false := by kernel_rfl
@[go_sem] theorem by89 : bytesOf Tryd.prog 89 = some 72 := by kernel_rfl
@[go_sem] theorem z89 : zeroPV Tryd.prog 89 = some (.st [(.v (.slice none 0 0)), (.ints .u8 32 (List.replicate 32 0)), (.v (.int .i64 0)), (.v (.int .i64 0))]) := by kernel_rfl
@[go_sem] theorem zc89 : zeroChk Tryd.prog 89 := zeroChk_of z89 (v := (((Tryd.prog).info? 89).bind (·.zero)).getD undef) (by kernel_rfl) (by kernel_rfl) (by kernel_rfl)
@[go_sem] theorem bld89 : bldB Tryd.prog 89 = true := by kernel_rfl
@[go_sem] theorem ld90 : ldOf Tryd.prog 90 = some (false, 1) := by kernel_rfl
@[go_sem] theorem isIfc90 : isIfc Tryd.prog 90 = false := by kernel_rfl
@[go_sem] theorem by90 : bytesOf Tryd.prog 90 = some 8 := by kernel_rfl
attribute [go_sem] Tryd.underlying90
@[go_sem] theorem z90 : zeroPV Tryd.prog 90 = some (.v .nilFunc) := by kernel_rfl
@[go_sem] theorem zc90 : zeroChk Tryd.prog 90 := zeroChk_of z90 (v := (((Tryd.prog).info? 90).bind (·.zero)).getD undef) (by kernel_rfl) (by kernel_rfl) (by kernel_rfl)
@[go_sem] theorem ld91 : ldOf Tryd.prog 91 = some (false, 1) := by kernel_rfl
@[go_sem] theorem isIfc91 : isIfc Tryd.prog 91 = false := by kernel_rfl
@[go_sem] theorem by91 : bytesOf Tryd.prog 91 = some 8 := by kernel_rfl
attribute [go_sem] Tryd.underlying91
@[go_sem] theorem z91 : zeroPV Tryd.prog 91 = some (.v .nilFunc) := by kernel_rfl
@[go_sem] theorem zc91 : zeroChk Tryd.prog 91 := zeroChk_of z91 (v := (((Tryd.prog).info? 91).bind (·.zero)).getD undef) (by kernel_rfl) (by kernel_rfl) (by kernel_rfl)
@[go_sem] theorem ld92 : ldOf Tryd.prog 92 = some (false, 1) := by kernel_rfl
@[go_sem] theorem isIfc92 : isIfc Tryd.prog 92 = false := by kernel_rfl
@[go_sem] theorem by92 : bytesOf Tryd.prog 92 = some 8 := by kernel_rfl
attribute [go_sem] Tryd.underlying92
@[go_sem] theorem z92 : zeroPV Tryd.prog 92 = some (.v .nilFunc) := by kernel_rfl
@[go_sem] theorem zc92 : zeroChk Tryd.prog 92 := zeroChk_of z92 (v := (((Tryd.prog).info? 92).bind (·.zero)).getD undef) (by kernel_rfl) (by kernel_rfl) (by kernel_rfl)
@[go_sem] theorem ld93 : ldOf Tryd.prog 93 = some (false, 1) := by kernel_rfl
@[go_sem] theorem ik93 : ikOf Tryd.prog 93 = some .i64 := by kernel_rfl
@[go_sem] theorem isIfc93 : isIfc Tryd.prog 93 = false := by kernel_rfl
@[go_sem] theorem by93 : bytesOf Tryd.prog 93 = some 8 := by kernel_rfl
@[go_sem] theorem z93 : zeroPV Tryd.prog 93 = some (.v (.int .i64 0)) := by kernel_rfl
@[go_sem] theorem zc93 : zeroChk Tryd.prog 93 := zeroChk_of z93 (v := (((Tryd.prog).info? 93).bind (·.zero)).getD undef) (by kernel_rfl) (by kernel_rfl) (by kernel_rfl)
@[go_sem] theorem ld94 : ldOf Tryd.prog 94 = some (false, 1) := by kernel_rfl
@[go_sem] theorem isIfc94 : isIfc Tryd.prog 94 = false := by kernel_rfl
@[go_sem] theorem by94 : bytesOf Tryd.prog 94 = some 8 := by kernel_rfl
attribute [go_sem] Tryd.underlying94
@[go_sem] theorem z94 : zeroPV Tryd.prog 94 = some (.v .nilFunc) := by kernel_rfl
@[go_sem] theorem zc94 : zeroChk Tryd.prog 94 := zeroChk_of z94 (v := (((Tryd.prog).info? 94).bind (·.zero)).getD undef) (by kernel_rfl) (by kernel_rfl) (by kernel_rfl)
@[go_sem] theorem ld95 : ldOf Tryd.prog 95 = some (false, 1) := by kernel_rfl
@[go_sem] theorem pt95 : ptOf Tryd.prog 95 = some 93 := by kernel_rfl
@[go_sem] theorem isIfc95 : isIfc Tryd.prog 95 = false := by kernel_rfl
@[go_sem] theorem by95 : bytesOf Tryd.prog 95 = some 8 := by kernel_rfl
attribute [go_sem] Tryd.underlying95
@[go_sem] theorem z95 : zeroPV Tryd.prog 95 = some (.v (.pointer none)) := by kernel_rfl
@[go_sem] theorem zc95 : zeroChk Tryd.prog 95 := zeroChk_of z95 (v := (((Tryd.prog).info? 95).bind (·.zero)).getD undef) (by kernel_rfl) (by kernel_rfl) (by kernel_rfl)
@[go_sem] theorem ld96 : ldOf Tryd.prog 96 = some (false, 1) := by kernel_rfl
@[go_sem] theorem isIfc96 : isIfc Tryd.prog 96 = false := by kernel_rfl
@[go_sem] theorem by96 : bytesOf Tryd.prog 96 = some 8 := by kernel_rfl
attribute [go_sem] Tryd.underlying96
@[go_sem] theorem z96 : zeroPV Tryd.prog 96 = some (.v .nilFunc) := by kernel_rfl
@[go_sem] theorem zc96 : zeroChk Tryd.prog 96 := zeroChk_of z96 (v := (((Tryd.prog).info? 96).bind (·.zero)).getD undef) (by kernel_rfl) (by kernel_rfl) (by kernel_rfl)
@[go_sem] theorem ld97 : ldOf Tryd.prog 97 = some (false, 1) := by kernel_rfl
@[go_sem] theorem isIfc97 : isIfc Tryd.prog 97 = false := by kernel_rfl
@[go_sem] theorem by97 : bytesOf Tryd.prog 97 = some 8 := by kernel_rfl
attribute [go_sem] Tryd.underlying97
@[go_sem] theorem z97 : zeroPV Tryd.prog 97 = some (.v .nilFunc) := by kernel_rfl
@[go_sem] theorem zc97 : zeroChk Tryd.prog 97 := zeroChk_of z97 (v := (((Tryd.prog).info? 97).bind (·.zero)).getD undef) (by kernel_rfl) (by kernel_rfl) (by kernel_rfl)
@[go_sem] theorem ld98 : ldOf Tryd.prog 98 = some (false, 1) := by kernel_rfl
@[go_sem] theorem isIfc98 : isIfc Tryd.prog 98 = false := by kernel_rfl
@[go_sem] theorem by98 : bytesOf Tryd.prog 98 = some 8 := by kernel_rfl
attribute [go_sem] Tryd.underlying98
@[go_sem] theorem z98 : zeroPV Tryd.prog 98 = some (.v .nilFunc) := by kernel_rfl
@[go_sem] theorem zc98 : zeroChk Tryd.prog 98 := zeroChk_of z98 (v := (((Tryd.prog).info? 98).bind (·.zero)).getD undef) (by kernel_rfl) (by kernel_rfl) (by kernel_rfl)
@[go_sem] theorem ld99 : ldOf Tryd.prog 99 = some (false, 1) := by kernel_rfl
@[go_sem] theorem isIfc99 : isIfc Tryd.prog 99 = false := by kernel_rfl
@[go_sem] theorem by99 : bytesOf Tryd.prog 99 = some 8 := by kernel_rfl
attribute [go_sem] Tryd.underlying99
@[go_sem] theorem z99 : zeroPV Tryd.prog 99 = some (.v .nilFunc) := by kernel_rfl
@[go_sem] theorem zc99 : zeroChk Tryd.prog 99 := zeroChk_of z99 (v := (((Tryd.prog).info? 99).bind (·.zero)).getD undef) (by kernel_rfl) (by kernel_rfl) (by kernel_rfl)
@[go_sem] theorem ld100 : ldOf Tryd.prog 100 = some (false, 1) := by kernel_rfl
@[go_sem] theorem isIfc100 : isIfc Tryd.prog 100 = false := by kernel_rfl
@[go_sem] theorem by100 : bytesOf Tryd.prog 100 = some 8 := by kernel_rfl
attribute [go_sem] Tryd.underlying100
@[go_sem] theorem z100 : zeroPV Tryd.prog 100 = some (.v .nilFunc) := by kernel_rfl
@[go_sem] theorem zc100 : zeroChk Tryd.prog 100 := zeroChk_of z100 (v := (((Tryd.prog).info? 100).bind (·.zero)).getD undef) (by kernel_rfl) (by kernel_rfl) (by kernel_rfl)
@[go_sem] theorem ld101 : ldOf Tryd.prog 101 = some (false, 1) := by kernel_rfl
@[go_sem] theorem isIfc101 : isIfc Tryd.prog 101 = false := by kernel_rfl
@[go_sem] theorem by101 : bytesOf Tryd.prog 101 = some 8 := by kernel_rfl
attribute [go_sem] Tryd.underlying101
@[go_sem] theorem z101 : zeroPV Tryd.prog 101 = some (.v .nilFunc) := by kernel_rfl
@[go_sem] theorem zc101 : zeroChk Tryd.prog 101 := zeroChk_of z101 (v := (((Tryd.prog).info? 101).bind (·.zero)).getD undef) (by kernel_rfl) (by kernel_rfl) (by kernel_rfl)
@[go_sem] theorem ld102 : ldOf Tryd.prog 102 = some (false, 1) := by kernel_rfl
@[go_sem] theorem pt102 : ptOf Tryd.prog 102 = some 149 := by kernel_rfl
@[go_sem] theorem isIfc102 : isIfc Tryd.prog 102 = false := by kernel_rfl
@[go_sem] theorem by102 : bytesOf Tryd.prog 102 = some 8 := by kernel_rfl
attribute [go_sem] Tryd.underlying102
@[go_sem] theorem z102 : zeroPV Tryd.prog 102 = some (.v (.pointer none)) := by kernel_rfl
@[go_sem] theorem zc102 : zeroChk Tryd.prog 102 := zeroChk_of z102 (v := (((Tryd.prog).info? 102).bind (·.zero)).getD undef) (by kernel_rfl) (by kernel_rfl) (by kernel_rfl)
@[go_sem] theorem ld103 : ldOf Tryd.prog 103 = some (false, 1) := by kernel_rfl
@[go_sem] theorem isIfc103 : isIfc Tryd.prog 103 = false := by kernel_rfl
@[go_sem] theorem by103 : bytesOf Tryd.prog 103 = some 8 := by kernel_rfl
attribute [go_sem] Tryd.underlying103
@[go_sem] theorem z103 : zeroPV Tryd.prog 103 = some (.v .nilFunc) := by kernel_rfl
@[go_sem] theorem zc103 : zeroChk Tryd.prog 103 := zeroChk_of z103 (v := (((Tryd.prog).info? 103).bind (·.zero)).getD undef) (by kernel_rfl) (by kernel_rfl) (by kernel_rfl)
@[go_sem] theorem ld104 : ldOf Tryd.prog 104 = some (false, 1) := by kernel_rfl
@[go_sem] theorem isIfc104 : isIfc Tryd.prog 104 = false := by kernel_rfl
@[go_sem] theorem by104 : bytesOf Tryd.prog 104 = some 8 := by kernel_rfl
attribute [go_sem] Tryd.underlying104
@[go_sem] theorem z104 : zeroPV Tryd.prog 104 = some (.v .nilFunc) := by kernel_rfl
@[go_sem] theorem zc104 : zeroChk Tryd.prog 104 := zeroChk_of z104 (v := (((Tryd.prog).info? 104).bind (·.zero)).getD undef) (by kernel_rfl) (by kernel_rfl) (by kernel_rfl)
@[go_sem] theorem ld105 : ldOf Tryd.prog 105 = some (false, 1) := by kernel_rfl
@[go_sem] theorem ik105 : ikOf Tryd.prog 105 = some .u64 := by kernel_rfl
@[go_sem] theorem isIfc105 : isIfc Tryd.prog 105 = false := by kernel_rfl
@[go_sem] theorem by105 : bytesOf Tryd.prog 105 = some 8 := by kernel_rfl
@[go_sem] theorem z105 : zeroPV Tryd.prog 105 = some (.v (.int .u64 0)) := by kernel_rfl
@[go_sem] theorem zc105 : zeroChk Tryd.prog 105 := zeroChk_of z105 (v := (((Tryd.prog).info? 105).bind (·.zero)).getD undef) (by kernel_rfl) (by kernel_rfl) (by kernel_rfl)
@[go_sem] theorem ld106 : ldOf Tryd.prog 106 = some (false, 1) := by kernel_rfl
@[go_sem] theorem isIfc106 : isIfc Tryd.prog 106 = false := by kernel_rfl
@[go_sem] theorem by106 : bytesOf Tryd.prog 106 = some 8 := by kernel_rfl
attribute [go_sem] Tryd.underlying106
@[go_sem] theorem z106 : zeroPV Tryd.prog 106 = some (.v .nilFunc) := by kernel_rfl
@[go_sem] theorem zc106 : zeroChk Tryd.prog 106 := zeroChk_of z106 (v := (((Tryd.prog).info? 106).bind (·.zero)).getD undef) (by kernel_rfl) (by kernel_rfl) (by kernel_rfl)
@[go_sem] theorem ld107 : ldOf Tryd.prog 107 = some (false, 1) := by kernel_rfl
@[go_sem] theorem isIfc107 : isIfc Tryd.prog 107 = false := by kernel_rfl
@[go_sem] theorem by107 : bytesOf Tryd.prog 107 = some 8 := by kernel_rfl
attribute [go_sem] Tryd.underlying107
@[go_sem] theorem z107 : zeroPV Tryd.prog 107 = some (.v .nilFunc) := by kernel_rfl
@[go_sem] theorem zc107 : zeroChk Tryd.prog 107 := zeroChk_of z107 (v := (((Tryd.prog).info? 107).bind (·.zero)).getD undef) (by kernel_rfl) (by kernel_rfl) (by kernel_rfl)
@[go_sem] theorem ld108 : ldOf Tryd.prog 108 = some (false, 1) := by kernel_rfl
@[go_sem] theorem isIfc108 : isIfc Tryd.prog 108 = false := by kernel_rfl
@[go_sem] theorem by108 : bytesOf Tryd.prog 108 = some 8 := by kernel_rfl
attribute [go_sem] Tryd.underlying108
@[go_sem] theorem z108 : zeroPV Tryd.prog 108 = some (.v .nilFunc) := by kernel_rfl
@[go_sem] theorem zc108 : zeroChk Tryd.prog 108 := zeroChk_of z108 (v := (((Tryd.prog).info? 108).bind (·.zero)).getD undef) (by kernel_rfl) (by kernel_rfl) (by kernel_rfl)
@[go_sem] theorem ld109 : ldOf Tryd.prog 109 = some (false, 1) := by kernel_rfl
@[go_sem] theorem isIfc109 : isIfc Tryd.prog 109 = false := by kernel_rfl
@[go_sem] theorem by109 : bytesOf Tryd.prog 109 = some 8 := by kernel_rfl
attribute [go_sem] Tryd.underlying109
@[go_sem] theorem z109 : zeroPV Tryd.prog 109 = some (.v .nilFunc) := by kernel_rfl
@[go_sem] theorem zc109 : zeroChk Tryd.prog 109 := zeroChk_of z109 (v := (((Tryd.prog).info? 109).bind (·.zero)).getD undef) (by kernel_rfl) (by kernel_rfl) (by kernel_rfl)
@[go_sem] theorem ld110 : ldOf Tryd.prog 110 = some (false, 1) := by kernel_rfl
@[go_sem] theorem isIfc110 : isIfc Tryd.prog 110 = false := by kernel_rfl
@[go_sem] theorem by110 : bytesOf Tryd.prog 110 = some 8 := by kernel_rfl
attribute [go_sem] Tryd.underlying110
@[go_sem] theorem z110 : zeroPV Tryd.prog 110 = some (.v .nilFunc) := by kernel_rfl
@[go_sem] theorem zc110 : zeroChk Tryd.prog 110 := zeroChk_of z110 (v := (((Tryd.prog).info? 110).bind (·.zero)).getD undef) (by kernel_rfl) (by kernel_rfl) (by kernel_rfl)
@[go_sem] theorem ld111 : ldOf Tryd.prog 111 = some (true, 35) := by kernel_rfl
@[go_sem] theorem fld111_0 : fldOf Tryd.prog 111 0 = some (0, 81) := by kernel_rfl
@[go_sem] theorem fld111_1 : fldOf Tryd.prog 111 1 = some (33, 3) := by kernel_rfl
@[go_sem] theorem fld111_2 : fldOf Tryd.prog 111 2 = some (34, 26) := by kernel_rfl
@[go_sem] theorem isIfc111 : isIfc Tryd.prog 111 = false := by kernel_rfl
@[go_sem] theorem by111 : bytesOf Tryd.prog 111 = some 72 := by kernel_rfl
@[go_sem] theorem z111 : zeroPV Tryd.prog 111 = some (.st [(.st [(.ints .u8 32 (List.replicate 32 0)), (.v (.int .i64 0))]), (.v (.int .i64 0)), (.v (.slice none 0 0))]) := by kernel_rfl
@[go_sem] theorem zc111 : zeroChk Tryd.prog 111 := zeroChk_of z111 (v := (((Tryd.prog).info? 111).bind (·.zero)).getD undef) (by kernel_rfl) (by kernel_rfl) (by kernel_rfl)
@[go_sem] theorem bld111 : bldB Tryd.prog 111 = true := by kernel_rfl
@[go_sem] theorem ld112 : ldOf Tryd.prog 112 = some (true, 35) := by kernel_rfl
@[go_sem] theorem fld112_0 : fldOf Tryd.prog 112 0 = some (0, 81) := by kernel_rfl
@[go_sem] theorem fld112_1 : fldOf Tryd.prog 112 1 = some (33, 3) := by kernel_rfl
@[go_sem] theorem fld112_2 : fldOf Tryd.prog 112 2 = some (34, 26) := by kernel_rfl
@[go_sem] theorem isIfc112 : isIfc Tryd.prog 112 = false := by kernel_rfl
@[go_sem] theorem by112 : bytesOf Tryd.prog 112 = some 72 := by kernel_rfl
@[go_sem] theorem z112 : zeroPV Tryd.prog 112 = some (.st [(.st [(.ints .u8 32 (List.replicate 32 0)), (.v (.int .i64 0))]), (.v (.int .i64 0)), (.v (.slice none 0 0))]) := by kernel_rfl
@[go_sem] theorem zc112 : zeroChk Tryd.prog 112 := zeroChk_of z112 (v := (((Tryd.prog).info? 112).bind (·.zero)).getD undef) (by kernel_rfl) (by kernel_rfl) (by kernel_rfl)
@[go_sem] theorem bld112 : bldB Tryd.prog 112 = true := by kernel_rfl
@[go_sem] theorem ld113 : ldOf Tryd.prog 113 = some (false, 1) := by kernel_rfl
@[go_sem] theorem isIfc113 : isIfc Tryd.prog 113 = false := by kernel_rfl
@[go_sem] theorem by113 : bytesOf Tryd.prog 113 = some 8 := by kernel_rfl
attribute [go_sem] Tryd.underlying113
@[go_sem] theorem z113 : zeroPV Tryd.prog 113 = some (.v .nilFunc) := by kernel_rfl
@[go_sem] theorem zc113 : zeroChk Tryd.prog 113 := zeroChk_of z113 (v := (((Tryd.prog).info? 113).bind (·.zero)).getD undef) (by kernel_rfl) (by kernel_rfl) (by kernel_rfl)
@[go_sem] theorem ld114 : ldOf Tryd.prog 114 = some (false, 1) := by kernel_rfl
@[go_sem] theorem isIfc114 : isIfc Tryd.prog 114 = false := by kernel_rfl
@[go_sem] theorem by114 : bytesOf Tryd.prog 114 = some 8 := by kernel_rfl
attribute [go_sem] Tryd.underlying114
@[go_sem] theorem z114 : zeroPV Tryd.prog 114 = some (.v .nilFunc) := by kernel_rfl
@[go_sem] theorem zc114 : zeroChk Tryd.prog 114 := zeroChk_of z114 (v := (((Tryd.prog).info? 114).bind (·.zero)).getD undef) (by kernel_rfl) (by kernel_rfl) (by kernel_rfl)
@[go_sem] theorem ld115 : ldOf Tryd.prog 115 = some (false, 1) := by kernel_rfl
@[go_sem] theorem isIfc115 : isIfc Tryd.prog 115 = false := by kernel_rfl
@[go_sem] theorem by115 : bytesOf Tryd.prog 115 = some 8 := by kernel_rfl
attribute [go_sem] Tryd.underlying115
@[go_sem] theorem z115 : zeroPV Tryd.prog 115 = some (.v .nilFunc) := by kernel_rfl
@[go_sem] theorem zc115 : zeroChk Tryd.prog 115 := zeroChk_of z115 (v := (((Tryd.prog).info? 115).bind (·.zero)).getD undef) (by kernel_rfl) (by kernel_rfl) (by kernel_rfl)
@[go_sem] theorem ld116 : ldOf Tryd.prog 116 = some (false, 1) := by kernel_rfl
@[go_sem] theorem isIfc116 : isIfc Tryd.prog 116 = false := by kernel_rfl
@[go_sem] theorem by116 : bytesOf Tryd.prog 116 = some 8 := by kernel_rfl
@[go_sem] theorem z116 : zeroPV Tryd.prog 116 = some (.v (.map none)) := by kernel_rfl
@[go_sem] theorem zc116 : zeroChk Tryd.prog 116 := zeroChk_of z116 (v := (((Tryd.prog).info? 116).bind (·.zero)).getD undef) (by kernel_rfl) (by kernel_rfl) (by kernel_rfl)
@[go_sem] theorem ld117 : ldOf Tryd.prog 117 = some (false, 1) := by kernel_rfl
@[go_sem] theorem isIfc117 : isIfc Tryd.prog 117 = false := by kernel_rfl
@[go_sem] theorem by117 : bytesOf Tryd.prog 117 = some 8 := by kernel_rfl
attribute [go_sem] Tryd.underlying117
@[go_sem] theorem z117 : zeroPV Tryd.prog 117 = some (.v .nilFunc) := by kernel_rfl
@[go_sem] theorem zc117 : zeroChk Tryd.prog 117 := zeroChk_of z117 (v := (((Tryd.prog).info? 117).bind (·.zero)).getD undef) (by kernel_rfl) (by kernel_rfl) (by kernel_rfl)
@[go_sem] theorem ld118 : ldOf Tryd.prog 118 = some (false, 1) := by kernel_rfl
@[go_sem] theorem isIfc118 : isIfc Tryd.prog 118 = false := by kernel_rfl
@[go_sem] theorem by118 : bytesOf Tryd.prog 118 = some 8 := by kernel_rfl
attribute [go_sem] Tryd.underlying118
@[go_sem] theorem z118 : zeroPV Tryd.prog 118 = some (.v .nilFunc) := by kernel_rfl
@[go_sem] theorem zc118 : zeroChk Tryd.prog 118 := zeroChk_of z118 (v := (((Tryd.prog).info? 118).bind (·.zero)).getD undef) (by kernel_rfl) (by kernel_rfl) (by kernel_rfl)
@[go_sem] theorem ld119 : ldOf Tryd.prog 119 = some (false, 1) := by kernel_rfl
@[go_sem] theorem isIfc119 : isIfc Tryd.prog 119 = false := by kernel_rfl
@[go_sem] theorem by119 : bytesOf Tryd.prog 119 = some 8 := by kernel_rfl
attribute [go_sem] Tryd.underlying119
@[go_sem] theorem z119 : zeroPV Tryd.prog 119 = some (.v .nilFunc) := by kernel_rfl
@[go_sem] theorem zc119 : zeroChk Tryd.prog 119 := zeroChk_of z119 (v := (((Tryd.prog).info? 119).bind (·.zero)).getD undef) (by kernel_rfl) (by kernel_rfl) (by kernel_rfl)
@[go_sem] theorem ld120 : ldOf Tryd.prog 120 = some (false, 1) := by kernel_rfl
@[go_sem] theorem isIfc120 : isIfc Tryd.prog 120 = false := by kernel_rfl
@[go_sem] theorem by120 : bytesOf Tryd.prog 120 = some 8 := by kernel_rfl
attribute [go_sem] Tryd.underlying120
@[go_sem] theorem z120 : zeroPV Tryd.prog 120 = some (.v .nilFunc) := by kernel_rfl
@[go_sem] theorem zc120 : zeroChk Tryd.prog 120 := zeroChk_of z120 (v := (((Tryd.prog).info? 120).bind (·.zero)).getD undef) (by kernel_rfl) (by kernel_rfl) (by kernel_rfl)
@[go_sem] theorem ld121 : ldOf Tryd.prog 121 = some (false, 1) := by kernel_rfl
@[go_sem] theorem isIfc121 : isIfc Tryd.prog 121 = false := by kernel_rfl
@[go_sem] theorem by121 : bytesOf Tryd.prog 121 = some 8 := by kernel_rfl
attribute [go_sem] Tryd.underlying121
@[go_sem] theorem z121 : zeroPV Tryd.prog 121 = some (.v .nilFunc) := by kernel_rfl
@[go_sem] theorem zc121 : zeroChk Tryd.prog 121 := zeroChk_of z121 (v := (((Tryd.prog).info? 121).bind (·.zero)).getD undef) (by kernel_rfl) (by kernel_rfl) (by kernel_rfl)
@[go_sem] theorem ld122 : ldOf Tryd.prog 122 = some (false, 1) := by kernel_rfl
@[go_sem] theorem isIfc122 : isIfc Tryd.prog 122 = false := by kernel_rfl
@[go_sem] theorem by122 : bytesOf Tryd.prog 122 = some 8 := by kernel_rfl
attribute [go_sem] Tryd.underlying122
@[go_sem] theorem z122 : zeroPV Tryd.prog 122 = some (.v .nilFunc) := by kernel_rfl
@[go_sem] theorem zc122 : zeroChk Tryd.prog 122 := zeroChk_of z122 (v := (((Tryd.prog).info? 122).bind (·.zero)).getD undef) (by kernel_rfl) (by kernel_rfl) (by kernel_rfl)
@[go_sem] theorem ld123 : ldOf Tryd.prog 123 = some (false, 1) := by kernel_rfl
@[go_sem] theorem isIfc123 : isIfc Tryd.prog 123 = false := by kernel_rfl
@[go_sem] theorem by123 : bytesOf Tryd.prog 123 = some 8 := by kernel_rfl
attribute [go_sem] Tryd.underlying123
@[go_sem] theorem z123 : zeroPV Tryd.prog 123 = some (.v .nilFunc) := by kernel_rfl
@[go_sem] theorem zc123 : zeroChk Tryd.prog 123 := zeroChk_of z123 (v := (((Tryd.prog).info? 123).bind (·.zero)).getD undef) (by kernel_rfl) (by kernel_rfl) (by kernel_rfl)
@[go_sem] theorem ld124 : ldOf Tryd.prog 124 = some (false, 1) := by kernel_rfl
@[go_sem] theorem pt124 : ptOf Tryd.prog 124 = some 167 := by kernel_rfl
@[go_sem] theorem isIfc124 : isIfc Tryd.prog 124 = false := by kernel_rfl
@[go_sem] theorem by124 : bytesOf Tryd.prog 124 = some 8 := by kernel_rfl
attribute [go_sem] Tryd.underlying124
@[go_sem] theorem z124 : zeroPV Tryd.prog 124 = some (.v (.pointer none)) := by kernel_rfl
@[go_sem] theorem zc124 : zeroChk Tryd.prog 124 := zeroChk_of z124 (v := (((Tryd.prog).info? 124).bind (·.zero)).getD undef) (by kernel_rfl) (by kernel_rfl) (by kernel_rfl)
@[go_sem] theorem ld125 : ldOf Tryd.prog 125 = some (false, 1) := by kernel_rfl
@[go_sem] theorem isIfc125 : isIfc Tryd.prog 125 = false := by kernel_rfl
@[go_sem] theorem by125 : bytesOf Tryd.prog 125 = some 8 := by kernel_rfl
attribute [go_sem] Tryd.underlying125
@[go_sem] theorem z125 : zeroPV Tryd.prog 125 = some (.v .nilFunc) := by kernel_rfl
@[go_sem] theorem zc125 : zeroChk Tryd.prog 125 := zeroChk_of z125 (v := (((Tryd.prog).info? 125).bind (·.zero)).getD undef) (by kernel_rfl) (by kernel_rfl) (by kernel_rfl)
@[go_sem] theorem ld126 : ldOf Tryd.prog 126 = some (false, 1) := by kernel_rfl
@[go_sem] theorem isIfc126 : isIfc Tryd.prog 126 = false := by kernel_rfl
@[go_sem] theorem by126 : bytesOf Tryd.prog 126 = some 8 := by kernel_rfl
attribute [go_sem] Tryd.underlying126
@[go_sem] theorem z126 : zeroPV Tryd.prog 126 = some (.v .nilFunc) := by kernel_rfl
@[go_sem] theorem zc126 : zeroChk Tryd.prog 126 := zeroChk_of z126 (v := (((Tryd.prog).info? 126).bind (·.zero)).getD undef) (by kernel_rfl) (by kernel_rfl) (by kernel_rfl)
@[go_sem] theorem ld127 : ldOf Tryd.prog 127 = some (false, 1) := by kernel_rfl
@[go_sem] theorem isIfc127 : isIfc Tryd.prog 127 = false := by kernel_rfl
@[go_sem] theorem by127 : bytesOf Tryd.prog 127 = some 8 := by kernel_rfl
attribute [go_sem] Tryd.underlying127
@[go_sem] theorem z127 : zeroPV Tryd.prog 127 = some (.v .nilFunc) := by kernel_rfl
@[go_sem] theorem zc127 : zeroChk Tryd.prog 127 := zeroChk_of z127 (v := (((Tryd.prog).info? 127).bind (·.zero)).getD undef) (by kernel_rfl) (by kernel_rfl) (by kernel_rfl)
@[go_sem] theorem ld128 : ldOf Tryd.prog 128 = some (false, 1) := by kernel_rfl
@[go_sem] theorem isIfc128 : isIfc Tryd.prog 128 = false := by kernel_rfl
@[go_sem] theorem by128 : bytesOf Tryd.prog 128 = some 8 := by kernel_rfl
attribute [go_sem] Tryd.underlying128
@[go_sem] theorem z128 : zeroPV Tryd.prog 128 = some (.v .nilFunc) := by kernel_rfl
@[go_sem] theorem zc128 : zeroChk Tryd.prog 128 := zeroChk_of z128 (v := (((Tryd.prog).info? 128).bind (·.zero)).getD undef) (by kernel_rfl) (by kernel_rfl) (by kernel_rfl)
@[go_sem] theorem ld129 : ldOf Tryd.prog 129 = some (false, 1) := by kernel_rfl
@[go_sem] theorem isIfc129 : isIfc Tryd.prog 129 = false := by kernel_rfl
@[go_sem] theorem by129 : bytesOf Tryd.prog 129 = some 8 := by kernel_rfl
attribute [go_sem] Tryd.underlying129
@[go_sem] theorem z129 : zeroPV Tryd.prog 129 = some (.v .nilFunc) := by kernel_rfl
@[go_sem] theorem zc129 : zeroChk Tryd.prog 129 := zeroChk_of z129 (v := (((Tryd.prog).info? 129).bind (·.zero)).getD undef) (by kernel_rfl) (by kernel_rfl) (by kernel_rfl)
@[go_sem] theorem ld130 : ldOf Tryd.prog 130 = some (false, 1) := by kernel_rfl
@[go_sem] theorem isIfc130 : isIfc Tryd.prog 130 = false := by kernel_rfl
@[go_sem] theorem by130 : bytesOf Tryd.prog 130 = some 8 := by kernel_rfl
attribute [go_sem] Tryd.underlying130
@[go_sem] theorem z130 : zeroPV Tryd.prog 130 = some (.v .nilFunc) := by kernel_rfl
@[go_sem] theorem zc130 : zeroChk Tryd.prog 130 := zeroChk_of z130 (v := (((Tryd.prog).info? 130).bind (·.zero)).getD undef) (by kernel_rfl) (by kernel_rfl) (by kernel_rfl)
@[go_sem] theorem ld131 : ldOf Tryd.prog 131 = some (false, 1) := by kernel_rfl
@[go_sem] theorem isIfc131 : isIfc Tryd.prog 131 = false := by kernel_rfl
@[go_sem] theorem by131 : bytesOf Tryd.prog 131 = some 8 := by kernel_rfl
attribute [go_sem] Tryd.underlying131
@[go_sem] theorem z131 : zeroPV Tryd.prog 131 = some (.v .nilFunc) := by kernel_rfl
@[go_sem] theorem zc131 : zeroChk Tryd.prog 131 := zeroChk_of z131 (v := (((Tryd.prog).info? 131).bind (·.zero)).getD undef) (by kernel_rfl) (by kernel_rfl) (by kernel_rfl)
@[go_sem] theorem ld132 : ldOf Tryd.prog 132 = some (false, 1) := by kernel_rfl
@[go_sem] theorem isIfc132 : isIfc Tryd.prog 132 = false := by kernel_rfl
@[go_sem] theorem by132 : bytesOf Tryd.prog 132 = some 8 := by kernel_rfl
@[go_sem] theorem ld133 : ldOf Tryd.prog 133 = some (false, 1) := by kernel_rfl
@[go_sem] theorem ik133 : ikOf Tryd.prog 133 = some .u64 := by kernel_rfl
@[go_sem] theorem isIfc133 : isIfc Tryd.prog 133 = false := by kernel_rfl
@[go_sem] theorem by133 : bytesOf Tryd.prog 133 = some 8 := by kernel_rfl
@[go_sem] theorem z133 : zeroPV Tryd.prog 133 = some (.v (.int .u64 0)) := by kernel_rfl
@[go_sem] theorem zc133 : zeroChk Tryd.prog 133 := zeroChk_of z133 (v := (((Tryd.prog).info? 133).bind (·.zero)).getD undef) (by kernel_rfl) (by kernel_rfl) (by kernel_rfl)
@[go_sem] theorem ld134 : ldOf Tryd.prog 134 = some (true, 3) := by kernel_rfl
@[go_sem] theorem fld134_0 : fldOf Tryd.prog 134 0 = some (0, 17) := by kernel_rfl
@[go_sem] theorem fld134_1 : fldOf Tryd.prog 134 1 = some (1, 132) := by kernel_rfl
@[go_sem] theorem fld134_2 : fldOf Tryd.prog 134 2 = some (2, 133) := by kernel_rfl
@[go_sem] theorem isIfc134 : isIfc Tryd.prog 134 = false := by kernel_rfl
@[go_sem] theorem by134 : bytesOf Tryd.prog 134 = some 24 := by kernel_rfl
@[go_sem] theorem ld135 : ldOf Tryd.prog 135 = some (true, 3) := by kernel_rfl
@[go_sem] theorem fld135_0 : fldOf Tryd.prog 135 0 = some (0, 17) := by kernel_rfl
@[go_sem] theorem fld135_1 : fldOf Tryd.prog 135 1 = some (1, 132) := by kernel_rfl
@[go_sem] theorem fld135_2 : fldOf Tryd.prog 135 2 = some (2, 133) := by kernel_rfl
@[go_sem] theorem isIfc135 : isIfc Tryd.prog 135 = false := by kernel_rfl
@[go_sem] theorem by135 : bytesOf Tryd.prog 135 = some 24 := by kernel_rfl
@[go_sem] theorem ld136 : ldOf Tryd.prog 136 = some (false, 1) := by kernel_rfl
@[go_sem] theorem isIfc136 : isIfc Tryd.prog 136 = false := by kernel_rfl
@[go_sem] theorem by136 : bytesOf Tryd.prog 136 = some 8 := by kernel_rfl
attribute [go_sem] Tryd.underlying136
@[go_sem] theorem z136 : zeroPV Tryd.prog 136 = some (.v .nilFunc) := by kernel_rfl
@[go_sem] theorem zc136 : zeroChk Tryd.prog 136 := zeroChk_of z136 (v := (((Tryd.prog).info? 136).bind (·.zero)).getD undef) (by kernel_rfl) (by kernel_rfl) (by kernel_rfl)
@[go_sem] theorem ld137 : ldOf Tryd.prog 137 = some (false, 1) := by kernel_rfl
@[go_sem] theorem isIfc137 : isIfc Tryd.prog 137 = true := by kernel_rfl
@[go_sem] theorem by137 : bytesOf Tryd.prog 137 = some 16 := by kernel_rfl
attribute [go_sem] Tryd.underlying137
@[go_sem] theorem z137 : zeroPV Tryd.prog 137 = some (.v .nilIface) := by kernel_rfl
@[go_sem] theorem zc137 : zeroChk Tryd.prog 137 := zeroChk_of z137 (v := (((Tryd.prog).info? 137).bind (·.zero)).getD undef) (by kernel_rfl) (by kernel_rfl) (by kernel_rfl)
@[go_sem] theorem ld138 : ldOf Tryd.prog 138 = some (false, 1) := by kernel_rfl
@[go_sem] theorem isIfc138 : isIfc Tryd.prog 138 = true := by kernel_rfl
@[go_sem] theorem by138 : bytesOf Tryd.prog 138 = some 16 := by kernel_rfl
attribute [go_sem] Tryd.underlying138
@[go_sem] theorem z138 : zeroPV Tryd.prog 138 = some (.v .nilIface) := by kernel_rfl
@[go_sem] theorem zc138 : zeroChk Tryd.prog 138 := zeroChk_of z138 (v := (((Tryd.prog).info? 138).bind (·.zero)).getD undef) (by kernel_rfl) (by kernel_rfl) (by kernel_rfl)
@[go_sem] theorem ld139 : ldOf Tryd.prog 139 = some (false, 1) := by kernel_rfl
@[go_sem] theorem isIfc139 : isIfc Tryd.prog 139 = false := by kernel_rfl
@[go_sem] theorem by139 : bytesOf Tryd.prog 139 = some 8 := by kernel_rfl
attribute [go_sem] Tryd.underlying139
@[go_sem] theorem z139 : zeroPV Tryd.prog 139 = some (.v .nilFunc) := by kernel_rfl
@[go_sem] theorem zc139 : zeroChk Tryd.prog 139 := zeroChk_of z139 (v := (((Tryd.prog).info? 139).bind (·.zero)).getD undef) (by kernel_rfl) (by kernel_rfl) (by kernel_rfl)
@[go_sem] theorem ld140 : ldOf Tryd.prog 140 = some (false, 1) := by kernel_rfl
@[go_sem] theorem ik140 : ikOf Tryd.prog 140 = some .u8 := by kernel_rfl
@[go_sem] theorem isIfc140 : isIfc Tryd.prog 140 = false := by kernel_rfl
@[go_sem] theorem by140 : bytesOf Tryd.prog 140 = some 1 := by kernel_rfl
@[go_sem] theorem z140 : zeroPV Tryd.prog 140 = some (.v (.int .u8 0)) := by kernel_rfl
@[go_sem] theorem zc140 : zeroChk Tryd.prog 140 := zeroChk_of z140 (v := (((Tryd.prog).info? 140).bind (·.zero)).getD undef) (by kernel_rfl) (by kernel_rfl) (by kernel_rfl)
@[go_sem] theorem ld141 : ldOf Tryd.prog 141 = some (false, 1) := by kernel_rfl
@[go_sem] theorem isIfc141 : isIfc Tryd.prog 141 = false := by kernel_rfl
@[go_sem] theorem by141 : bytesOf Tryd.prog 141 = some 8 := by kernel_rfl
attribute [go_sem] Tryd.underlying141
@[go_sem] theorem z141 : zeroPV Tryd.prog 141 = some (.v .nilFunc) := by kernel_rfl
@[go_sem] theorem zc141 : zeroChk Tryd.prog 141 := zeroChk_of z141 (v := (((Tryd.prog).info? 141).bind (·.zero)).getD undef) (by kernel_rfl) (by kernel_rfl) (by kernel_rfl)
@[go_sem] theorem ld142 : ldOf Tryd.prog 142 = some (false, 1) := by kernel_rfl
@[go_sem] theorem isIfc142 : isIfc Tryd.prog 142 = false := by kernel_rfl
@[go_sem] theorem by142 : bytesOf Tryd.prog 142 = some 8 := by kernel_rfl
attribute [go_sem] Tryd.underlying142
@[go_sem] theorem z142 : zeroPV Tryd.prog 142 = some (.v .nilFunc) := by kernel_rfl
@[go_sem] theorem zc142 : zeroChk Tryd.prog 142 := zeroChk_of z142 (v := (((Tryd.prog).info? 142).bind (·.zero)).getD undef) (by kernel_rfl) (by kernel_rfl) (by kernel_rfl)
@[go_sem] theorem ld143 : ldOf Tryd.prog 143 = some (false, 1) := by kernel_rfl
@[go_sem] theorem isIfc143 : isIfc Tryd.prog 143 = false := by kernel_rfl
@[go_sem] theorem by143 : bytesOf Tryd.prog 143 = some 8 := by kernel_rfl
attribute [go_sem] Tryd.underlying143
@[go_sem] theorem z143 : zeroPV Tryd.prog 143 = some (.v .nilFunc) := by kernel_rfl
@[go_sem] theorem zc143 : zeroChk Tryd.prog 143 := zeroChk_of z143 (v := (((Tryd.prog).info? 143).bind (·.zero)).getD undef) (by kernel_rfl) (by kernel_rfl) (by kernel_rfl)
@[go_sem] theorem ld144 : ldOf Tryd.prog 144 = some (false, 1) := by kernel_rfl
@[go_sem] theorem isIfc144 : isIfc Tryd.prog 144 = false := by kernel_rfl
@[go_sem] theorem by144 : bytesOf Tryd.prog 144 = some 8 := by kernel_rfl
attribute [go_sem] Tryd.underlying144
@[go_sem] theorem z144 : zeroPV Tryd.prog 144 = some (.v .nilFunc) := by kernel_rfl
@[go_sem] theorem zc144 : zeroChk Tryd.prog 144 := zeroChk_of z144 (v := (((Tryd.prog).info? 144).bind (·.zero)).getD undef) (by kernel_rfl) (by kernel_rfl) (by kernel_rfl)
@[go_sem] theorem ld145 : ldOf Tryd.prog 145 = some (false, 1) := by kernel_rfl
@[go_sem] theorem isIfc145 : isIfc Tryd.prog 145 = false := by kernel_rfl
@[go_sem] theorem by145 : bytesOf Tryd.prog 145 = some 8 := by kernel_rfl
attribute [go_sem] Tryd.underlying145
@[go_sem] theorem z145 : zeroPV Tryd.prog 145 = some (.v .nilFunc) := by kernel_rfl
@[go_sem] theorem zc145 : zeroChk Tryd.prog 145 := zeroChk_of z145 (v := (((Tryd.prog).info? 145).bind (·.zero)).getD undef) (by kernel_rfl) (by kernel_rfl) (by kernel_rfl)
@[go_sem] theorem ld146 : ldOf Tryd.prog 146 = some (false, 1) := by kernel_rfl
@[go_sem] theorem isIfc146 : isIfc Tryd.prog 146 = false := by kernel_rfl
@[go_sem] theorem by146 : bytesOf Tryd.prog 146 = some 8 := by kernel_rfl
attribute [go_sem] Tryd.underlying146
@[go_sem] theorem z146 : zeroPV Tryd.prog 146 = some (.v .nilFunc) := by kernel_rfl
@[go_sem] theorem zc146 : zeroChk Tryd.prog 146 := zeroChk_of z146 (v := (((Tryd.prog).info? 146).bind (·.zero)).getD undef) (by kernel_rfl) (by kernel_rfl) (by kernel_rfl)
@[go_sem] theorem ld147 : ldOf Tryd.prog 147 = some (false, 1) := by kernel_rfl
@[go_sem] theorem isIfc147 : isIfc Tryd.prog 147 = false := by kernel_rfl
@[go_sem] theorem by147 : bytesOf Tryd.prog 147 = some 8 := by kernel_rfl
attribute [go_sem] Tryd.underlying147
@[go_sem] theorem z147 : zeroPV Tryd.prog 147 = some (.v .nilFunc) := by kernel_rfl
@[go_sem] theorem zc147 : zeroChk Tryd.prog 147 := zeroChk_of z147 (v := (((Tryd.prog).info? 147).bind (·.zero)).getD undef) (by kernel_rfl) (by kernel_rfl) (by kernel_rfl)
@[go_sem] theorem ld148 : ldOf Tryd.prog 148 = some (true, 1) := by kernel_rfl
@[go_sem] theorem fld148_0 : fldOf Tryd.prog 148 0 = some (0, 26) := by kernel_rfl
@[go_sem] theorem isIfc148 : isIfc Tryd.prog 148 = false := by kernel_rfl
@[go_sem] theorem by148 : bytesOf Tryd.prog 148 = some 24 := by kernel_rfl
@[go_sem] theorem z148 : zeroPV Tryd.prog 148 = some (.st [(.v (.slice none 0 0))]) := by kernel_rfl
@[go_sem] theorem zc148 : zeroChk Tryd.prog 148 := zeroChk_of z148 (v := (((Tryd.prog).info? 148).bind (·.zero)).getD undef) (by kernel_rfl) (by kernel_rfl) (by kernel_rfl)
@[go_sem] theorem bld148 : bldB Tryd.prog 148 = true := by kernel_rfl
@[go_sem] theorem ld149 : ldOf Tryd.prog 149 = some (true, 1) := by kernel_rfl
@[go_sem] theorem fld149_0 : fldOf Tryd.prog 149 0 = some (0, 26) := by kernel_rfl
@[go_sem] theorem isIfc149 : isIfc Tryd.prog 149 = false := by kernel_rfl
@[go_sem] theorem by149 : bytesOf Tryd.prog 149 = some 24 := by kernel_rfl
@[go_sem] theorem z149 : zeroPV Tryd.prog 149 = some (.st [(.v (.slice none 0 0))]) := by kernel_rfl
@[go_sem] theorem zc149 : zeroChk Tryd.prog 149 := zeroChk_of z149 (v := (((Tryd.prog).info? 149).bind (·.zero)).getD undef) (by kernel_rfl) (by kernel_rfl) (by kernel_rfl)
@[go_sem] theorem bld149 : bldB Tryd.prog 149 = true := by kernel_rfl
@[go_sem] theorem ld150 : ldOf Tryd.prog 150 = some (false, 1) := by kernel_rfl
@[go_sem] theorem isIfc150 : isIfc Tryd.prog 150 = false := by kernel_rfl
@[go_sem] theorem by150 : bytesOf Tryd.prog 150 = some 8 := by kernel_rfl
attribute [go_sem] Tryd.underlying150
@[go_sem] theorem z150 : zeroPV Tryd.prog 150 = some (.v .nilFunc) := by kernel_rfl
@[go_sem] theorem zc150 : zeroChk Tryd.prog 150 := zeroChk_of z150 (v := (((Tryd.prog).info? 150).bind (·.zero)).getD undef) (by kernel_rfl) (by kernel_rfl) (by kernel_rfl)
@[go_sem] theorem ld151 : ldOf Tryd.prog 151 = some (false, 1) := by kernel_rfl
@[go_sem] theorem isIfc151 : isIfc Tryd.prog 151 = false := by kernel_rfl
@[go_sem] theorem by151 : bytesOf Tryd.prog 151 = some 8 := by kernel_rfl
attribute [go_sem] Tryd.underlying151
@[go_sem] theorem z151 : zeroPV Tryd.prog 151 = some (.v .nilFunc) := by kernel_rfl
@[go_sem] theorem zc151 : zeroChk Tryd.prog 151 := zeroChk_of z151 (v := (((Tryd.prog).info? 151).bind (·.zero)).getD undef) (by kernel_rfl) (by kernel_rfl) (by kernel_rfl)
@[go_sem] theorem ld152 : ldOf Tryd.prog 152 = some (false, 1) := by kernel_rfl
@[go_sem] theorem el152 : elOf Tryd.prog 152 = some 26 := by kernel_rfl
@[go_sem] theorem isIfc152 : isIfc Tryd.prog 152 = false := by kernel_rfl
@[go_sem] theorem by152 : bytesOf Tryd.prog 152 = some 24 := by kernel_rfl
attribute [go_sem] Tryd.underlying152
@[go_sem] theorem z152 : zeroPV Tryd.prog 152 = some (.v (.slice none 0 0)) := by kernel_rfl
@[go_sem] theorem zc152 : zeroChk Tryd.prog 152 := zeroChk_of z152 (v := (((Tryd.prog).info? 152).bind (·.zero)).getD undef) (by kernel_rfl) (by kernel_rfl) (by kernel_rfl)
@[go_sem] theorem ld153 : ldOf Tryd.prog 153 = some (false, 1) := by kernel_rfl
@[go_sem] theorem isIfc153 : isIfc Tryd.prog 153 = false := by kernel_rfl
@[go_sem] theorem by153 : bytesOf Tryd.prog 153 = some 8 := by kernel_rfl
attribute [go_sem] Tryd.underlying153
@[go_sem] theorem z153 : zeroPV Tryd.prog 153 = some (.v .nilFunc) := by kernel_rfl
@[go_sem] theorem zc153 : zeroChk Tryd.prog 153 := zeroChk_of z153 (v := (((Tryd.prog).info? 153).bind (·.zero)).getD undef) (by kernel_rfl) (by kernel_rfl) (by kernel_rfl)
@[go_sem] theorem ld154 : ldOf Tryd.prog 154 = some (false, 1) := by kernel_rfl
@[go_sem] theorem isIfc154 : isIfc Tryd.prog 154 = false := by kernel_rfl
@[go_sem] theorem by154 : bytesOf Tryd.prog 154 = some 8 := by kernel_rfl
attribute [go_sem] Tryd.underlying154
@[go_sem] theorem z154 : zeroPV Tryd.prog 154 = some (.v .nilFunc) := by kernel_rfl
@[go_sem] theorem zc154 : zeroChk Tryd.prog 154 := zeroChk_of z154 (v := (((Tryd.prog).info? 154).bind (·.zero)).getD undef) (by kernel_rfl) (by kernel_rfl) (by kernel_rfl)
@[go_sem] theorem ld155 : ldOf Tryd.prog 155 = some (false, 1) := by kernel_rfl
@[go_sem] theorem isIfc155 : isIfc Tryd.prog 155 = false := by kernel_rfl
@[go_sem] theorem by155 : bytesOf Tryd.prog 155 = some 8 := by kernel_rfl
attribute [go_sem] Tryd.underlying155
@[go_sem] theorem z155 : zeroPV Tryd.prog 155 = some (.v .nilFunc) := by kernel_rfl
@[go_sem] theorem zc155 : zeroChk Tryd.prog 155 := zeroChk_of z155 (v := (((Tryd.prog).info? 155).bind (·.zero)).getD undef) (by kernel_rfl) (by kernel_rfl) (by kernel_rfl)
@[go_sem] theorem ld156 : ldOf Tryd.prog 156 = some (false, 1) := by kernel_rfl
@[go_sem] theorem isIfc156 : isIfc Tryd.prog 156 = false := by kernel_rfl
@[go_sem] theorem by156 : bytesOf Tryd.prog 156 = some 8 := by kernel_rfl
attribute [go_sem] Tryd.underlying156
@[go_sem] theorem z156 : zeroPV Tryd.prog 156 = some (.v .nilFunc) := by kernel_rfl
@[go_sem] theorem zc156 : zeroChk Tryd.prog 156 := zeroChk_of z156 (v := (((Tryd.prog).info? 156).bind (·.zero)).getD undef) (by kernel_rfl) (by kernel_rfl) (by kernel_rfl)
@[go_sem] theorem ld157 : ldOf Tryd.prog 157 = some (false, 1) := by kernel_rfl
@[go_sem] theorem pt157 : ptOf Tryd.prog 157 = some 163 := by kernel_rfl
@[go_sem] theorem isIfc157 : isIfc Tryd.prog 157 = false := by kernel_rfl
@[go_sem] theorem by157 : bytesOf Tryd.prog 157 = some 8 := by kernel_rfl
attribute [go_sem] Tryd.underlying157
@[go_sem] theorem z157 : zeroPV Tryd.prog 157 = some (.v (.pointer none)) := by kernel_rfl
@[go_sem] theorem zc157 : zeroChk Tryd.prog 157 := zeroChk_of z157 (v := (((Tryd.prog).info? 157).bind (·.zero)).getD undef) (by kernel_rfl) (by kernel_rfl) (by kernel_rfl)
@[go_sem] theorem ld158 : ldOf Tryd.prog 158 = some (false, 1) := by kernel_rfl
@[go_sem] theorem ik158 : ikOf Tryd.prog 158 = some .u32 := by kernel_rfl
@[go_sem] theorem isIfc158 : isIfc Tryd.prog 158 = false := by kernel_rfl
@[go_sem] theorem by158 : bytesOf Tryd.prog 158 = some 4 := by kernel_rfl
@[go_sem] theorem z158 : zeroPV Tryd.prog 158 = some (.v (.int .u32 0)) := by kernel_rfl
@[go_sem] theorem zc158 : zeroChk Tryd.prog 158 := zeroChk_of z158 (v := (((Tryd.prog).info? 158).bind (·.zero)).getD undef) (by kernel_rfl) (by kernel_rfl) (by kernel_rfl)
@[go_sem] theorem ld159 : ldOf Tryd.prog 159 = some (true, 8) := by kernel_rfl
@[go_sem] theorem ar159 : arOf Tryd.prog 159 = some (8, 158) := by kernel_rfl
@[go_sem] theorem isIfc159 : isIfc Tryd.prog 159 = false := by kernel_rfl
@[go_sem] theorem by159 : bytesOf Tryd.prog 159 = some 32 := by kernel_rfl
@[go_sem] theorem z159 : zeroPV Tryd.prog 159 = some (.ints .u32 8 (List.replicate 8 0)) := by kernel_rfl
@[go_sem] theorem zc159 : zeroChk Tryd.prog 159 := zeroChk_of z159 (v := (((Tryd.prog).info? 159).bind (·.zero)).getD undef) (by kernel_rfl) (by kernel_rfl) (by kernel_rfl)
@[go_sem] theorem bld159 : bldB Tryd.prog 159 = true := by kernel_rfl
@[go_sem] theorem ld160 : ldOf Tryd.prog 160 = some (true, 8) := by kernel_rfl
@[go_sem] theorem ar160 : arOf Tryd.prog 160 = some (8, 158) := by kernel_rfl
@[go_sem] theorem isIfc160 : isIfc Tryd.prog 160 = false := by kernel_rfl
@[go_sem] theorem by160 : bytesOf Tryd.prog 160 = some 32 := by kernel_rfl
@[go_sem] theorem z160 : zeroPV Tryd.prog 160 = some (.ints .u32 8 (List.replicate 8 0)) := by kernel_rfl
@[go_sem] theorem zc160 : zeroChk Tryd.prog 160 := zeroChk_of z160 (v := (((Tryd.prog).info? 160).bind (·.zero)).getD undef) (by kernel_rfl) (by kernel_rfl) (by kernel_rfl)
@[go_sem] theorem bld160 : bldB Tryd.prog 160 = true := by kernel_rfl
@[go_sem] theorem ld161 : ldOf Tryd.prog 161 = some (false, 1) := by kernel_rfl
@[go_sem] theorem isIfc161 : isIfc Tryd.prog 161 = false := by kernel_rfl
@[go_sem] theorem by161 : bytesOf Tryd.prog 161 = some 8 := by kernel_rfl
attribute [go_sem] Tryd.underlying161
@[go_sem] theorem z161 : zeroPV Tryd.prog 161 = some (.v .nilFunc) := by kernel_rfl
@[go_sem] theorem zc161 : zeroChk Tryd.prog 161 := zeroChk_of z161 (v := (((Tryd.prog).info? 161).bind (·.zero)).getD undef) (by kernel_rfl) (by kernel_rfl) (by kernel_rfl)
@[go_sem] theorem ld162 : ldOf Tryd.prog 162 = some (true, 11) := by kernel_rfl
@[go_sem] theorem fld162_0 : fldOf Tryd.prog 162 0 = some (0, 160) := by kernel_rfl
@[go_sem] theorem fld162_1 : fldOf Tryd.prog 162 1 = some (8, 26) := by kernel_rfl
@[go_sem] theorem fld162_2 : fldOf Tryd.prog 162 2 = some (9, 105) := by kernel_rfl
@[go_sem] theorem fld162_3 : fldOf Tryd.prog 162 3 = some (10, 3) := by kernel_rfl
@[go_sem] theorem isIfc162 : isIfc Tryd.prog 162 = false := by kernel_rfl
@[go_sem] theorem by162 : bytesOf Tryd.prog 162 = some 72 := by kernel_rfl
@[go_sem] theorem z162 : zeroPV Tryd.prog 162 = some (.st [(.ints .u32 8 (List.replicate 8 0)), (.v (.slice none 0 0)), (.v (.int .u64 0)), (.v (.int .i64 0))]) := by kernel_rfl
@[go_sem] theorem zc162 : zeroChk Tryd.prog 162 := zeroChk_of z162 (v := (((Tryd.prog).info? 162).bind (·.zero)).getD undef) (by kernel_rfl) (by kernel_rfl) (by kernel_rfl)
@[go_sem] theorem bld162 : bldB Tryd.prog 162 = true := by kernel_rfl
@[go_sem] theorem ld163 : ldOf Tryd.prog 163 = some (true, 11) := by kernel_rfl
@[go_sem] theorem fld163_0 : fldOf Tryd.prog 163 0 = some (0, 160) := by kernel_rfl
@[go_sem] theorem fld163_1 : fldOf Tryd.prog 163 1 = some (8, 26) := by kernel_rfl
@[go_sem] theorem fld163_2 : fldOf Tryd.prog 163 2 = some (9, 105) := by kernel_rfl
@[go_sem] theorem fld163_3 : fldOf Tryd.prog 163 3 = some (10, 3) := by kernel_rfl
@[go_sem] theorem isIfc163 : isIfc Tryd.prog 163 = false := by kernel_rfl
@[go_sem] theorem by163 : bytesOf Tryd.prog 163 = some 72 := by kernel_rfl
@[go_sem] theorem z163 : zeroPV Tryd.prog 163 = some (.st [(.ints .u32 8 (List.replicate 8 0)), (.v (.slice none 0 0)), (.v (.int .u64 0)), (.v (.int .i64 0))]) := by kernel_rfl
@[go_sem] theorem zc163 : zeroChk Tryd.prog 163 := zeroChk_of z163 (v := (((Tryd.prog).info? 163).bind (·.zero)).getD undef) (by kernel_rfl) (by kernel_rfl) (by kernel_rfl)
@[go_sem] theorem bld163 : bldB Tryd.prog 163 = true := by kernel_rfl
@[go_sem] theorem ld164 : ldOf Tryd.prog 164 = some (false, 1) := by kernel_rfl
@[go_sem] theorem isIfc164 : isIfc Tryd.prog 164 = false := by kernel_rfl
@[go_sem] theorem by164 : bytesOf Tryd.prog 164 = some 8 := by kernel_rfl
attribute [go_sem] Tryd.underlying164
@[go_sem] theorem z164 : zeroPV Tryd.prog 164 = some (.v .nilFunc) := by kernel_rfl
@[go_sem] theorem zc164 : zeroChk Tryd.prog 164 := zeroChk_of z164 (v := (((Tryd.prog).info? 164).bind (·.zero)).getD undef) (by kernel_rfl) (by kernel_rfl) (by kernel_rfl)
@[go_sem] theorem ld165 : ldOf Tryd.prog 165 = some (false, 1) := by kernel_rfl
@[go_sem] theorem isIfc165 : isIfc Tryd.prog 165 = false := by kernel_rfl
@[go_sem] theorem by165 : bytesOf Tryd.prog 165 = some 8 := by kernel_rfl
attribute [go_sem] Tryd.underlying165
@[go_sem] theorem z165 : zeroPV Tryd.prog 165 = some (.v .nilFunc) := by kernel_rfl
@[go_sem] theorem zc165 : zeroChk Tryd.prog 165 := zeroChk_of z165 (v := (((Tryd.prog).info? 165).bind (·.zero)).getD undef) (by kernel_rfl) (by kernel_rfl) (by kernel_rfl)
@[go_sem] theorem ld166 : ldOf Tryd.prog 166 = some (true, 3) := by kernel_rfl
@[go_sem] theorem fld166_0 : fldOf Tryd.prog 166 0 = some (0, 26) := by kernel_rfl
@[go_sem] theorem fld166_1 : fldOf Tryd.prog 166 1 = some (1, 3) := by kernel_rfl
@[go_sem] theorem fld166_2 : fldOf Tryd.prog 166 2 = some (2, 39) := by kernel_rfl
@[go_sem] theorem isIfc166 : isIfc Tryd.prog 166 = false := by kernel_rfl
@[go_sem] theorem by166 : bytesOf Tryd.prog 166 = some 48 := by kernel_rfl
@[go_sem] theorem z166 : zeroPV Tryd.prog 166 = some (.st [(.v (.slice none 0 0)), (.v (.int .i64 0)), (.v .nilIface)]) := by kernel_rfl
@[go_sem] theorem zc166 : zeroChk Tryd.prog 166 := zeroChk_of z166 (v := (((Tryd.prog).info? 166).bind (·.zero)).getD undef) (by kernel_rfl) (by kernel_rfl) (by kernel_rfl)
@[go_sem] theorem bld166 : bldB Tryd.prog 166 = true := by kernel_rfl
@[go_sem] theorem ld167 : ldOf Tryd.prog 167 = some (true, 3) := by kernel_rfl
@[go_sem] theorem fld167_0 : fldOf Tryd.prog 167 0 = some (0, 26) := by kernel_rfl
@[go_sem] theorem fld167_1 : fldOf Tryd.prog 167 1 = some (1, 3) := by kernel_rfl
@[go_sem] theorem fld167_2 : fldOf Tryd.prog 167 2 = some (2, 39) := by kernel_rfl
@[go_sem] theorem isIfc167 : isIfc Tryd.prog 167 = false := by kernel_rfl
@[go_sem] theorem by167 : bytesOf Tryd.prog 167 = some 48 := by kernel_rfl
@[go_sem] theorem z167 : zeroPV Tryd.prog 167 = some (.st [(.v (.slice none 0 0)), (.v (.int .i64 0)), (.v .nilIface)]) := by kernel_rfl
@[go_sem] theorem zc167 : zeroChk Tryd.prog 167 := zeroChk_of z167 (v := (((Tryd.prog).info? 167).bind (·.zero)).getD undef) (by kernel_rfl) (by kernel_rfl) (by kernel_rfl)
@[go_sem] theorem bld167 : bldB Tryd.prog 167 = true := by kernel_rfl
@[go_sem] theorem ld168 : ldOf Tryd.prog 168 = some (false, 1) := by kernel_rfl
@[go_sem] theorem isIfc168 : isIfc Tryd.prog 168 = false := by kernel_rfl
@[go_sem] theorem by168 : bytesOf Tryd.prog 168 = some 0 := by kernel_rfl
@[go_sem] theorem ld169 : ldOf Tryd.prog 169 = some (false, 1) := by kernel_rfl
@[go_sem] theorem isIfc169 : isIfc Tryd.prog 169 = false := by kernel_rfl
@[go_sem] theorem by169 : bytesOf Tryd.prog 169 = some 8 := by kernel_rfl
attribute [go_sem] Tryd.underlying169
@[go_sem] theorem z169 : zeroPV Tryd.prog 169 = some (.v .nilFunc) := by kernel_rfl
@[go_sem] theorem zc169 : zeroChk Tryd.prog 169 := zeroChk_of z169 (v := (((Tryd.prog).info? 169).bind (·.zero)).getD undef) (by kernel_rfl) (by kernel_rfl) (by kernel_rfl)
@[go_sem] theorem ld170 : ldOf Tryd.prog 170 = some (false, 1) := by kernel_rfl
@[go_sem] theorem isIfc170 : isIfc Tryd.prog 170 = false := by kernel_rfl
@[go_sem] theorem by170 : bytesOf Tryd.prog 170 = some 8 := by kernel_rfl
attribute [go_sem] Tryd.underlying170
@[go_sem] theorem z170 : zeroPV Tryd.prog 170 = some (.v .nilFunc) := by kernel_rfl
@[go_sem] theorem zc170 : zeroChk Tryd.prog 170 := zeroChk_of z170 (v := (((Tryd.prog).info? 170).bind (·.zero)).getD undef) (by kernel_rfl) (by kernel_rfl) (by kernel_rfl)
@[go_sem] theorem ld171 : ldOf Tryd.prog 171 = some (true, 1) := by kernel_rfl
@[go_sem] theorem fld171_0 : fldOf Tryd.prog 171 0 = some (0, 17) := by kernel_rfl
@[go_sem] theorem isIfc171 : isIfc Tryd.prog 171 = false := by kernel_rfl
@[go_sem] theorem by171 : bytesOf Tryd.prog 171 = some 8 := by kernel_rfl
@[go_sem] theorem z171 : zeroPV Tryd.prog 171 = some (.st [(.v (.pointer none))]) := by kernel_rfl
@[go_sem] theorem zc171 : zeroChk Tryd.prog 171 := zeroChk_of z171 (v := (((Tryd.prog).info? 171).bind (·.zero)).getD undef) (by kernel_rfl) (by kernel_rfl) (by kernel_rfl)
@[go_sem] theorem bld171 : bldB Tryd.prog 171 = true := by kernel_rfl
@[go_sem] theorem ld172 : ldOf Tryd.prog 172 = some (true, 1) := by kernel_rfl
@[go_sem] theorem fld172_0 : fldOf Tryd.prog 172 0 = some (0, 17) := by kernel_rfl
@[go_sem] theorem isIfc172 : isIfc Tryd.prog 172 = false := by kernel_rfl
@[go_sem] theorem by172 : bytesOf Tryd.prog 172 = some 8 := by kernel_rfl
@[go_sem] theorem z172 : zeroPV Tryd.prog 172 = some (.st [(.v (.pointer none))]) := by kernel_rfl
@[go_sem] theorem zc172 : zeroChk Tryd.prog 172 := zeroChk_of z172 (v := (((Tryd.prog).info? 172).bind (·.zero)).getD undef) (by kernel_rfl) (by kernel_rfl) (by kernel_rfl)
@[go_sem] theorem bld172 : bldB Tryd.prog 172 = true := by kernel_rfl
@[go_sem] theorem ld173 : ldOf Tryd.prog 173 = some (false, 1) := by kernel_rfl
@[go_sem] theorem pt173 : ptOf Tryd.prog 173 = some 232 := by kernel_rfl
@[go_sem] theorem isIfc173 : isIfc Tryd.prog 173 = false := by kernel_rfl
@[go_sem] theorem by173 : bytesOf Tryd.prog 173 = some 8 := by kernel_rfl
attribute [go_sem] Tryd.underlying173
@[go_sem] theorem z173 : zeroPV Tryd.prog 173 = some (.v (.pointer none)) := by kernel_rfl
@[go_sem] theorem zc173 : zeroChk Tryd.prog 173 := zeroChk_of z173 (v := (((Tryd.prog).info? 173).bind (·.zero)).getD undef) (by kernel_rfl) (by kernel_rfl) (by kernel_rfl)
@[go_sem] theorem ld174 : ldOf Tryd.prog 174 = some (false, 1) := by kernel_rfl
@[go_sem] theorem isIfc174 : isIfc Tryd.prog 174 = false := by kernel_rfl
@[go_sem] theorem by174 : bytesOf Tryd.prog 174 = some 8 := by kernel_rfl
attribute [go_sem] Tryd.underlying174
@[go_sem] theorem z174 : zeroPV Tryd.prog 174 = some (.v .nilFunc) := by kernel_rfl
@[go_sem] theorem zc174 : zeroChk Tryd.prog 174 := zeroChk_of z174 (v := (((Tryd.prog).info? 174).bind (·.zero)).getD undef) (by kernel_rfl) (by kernel_rfl) (by kernel_rfl)
@[go_sem] theorem ld175 : ldOf Tryd.prog 175 = some (false, 1) := by kernel_rfl
@[go_sem] theorem isIfc175 : isIfc Tryd.prog 175 = false := by kernel_rfl
@[go_sem] theorem by175 : bytesOf Tryd.prog 175 = some 8 := by kernel_rfl
attribute [go_sem] Tryd.underlying175
@[go_sem] theorem z175 : zeroPV Tryd.prog 175 = some (.v .nilFunc) := by kernel_rfl
@[go_sem] theorem zc175 : zeroChk Tryd.prog 175 := zeroChk_of z175 (v := (((Tryd.prog).info? 175).bind (·.zero)).getD undef) (by kernel_rfl) (by kernel_rfl) (by kernel_rfl)
@[go_sem] theorem ld176 : ldOf Tryd.prog 176 = some (false, 1) := by kernel_rfl
@[go_sem] theorem isIfc176 : isIfc Tryd.prog 176 = false := by kernel_rfl
@[go_sem] theorem by176 : bytesOf Tryd.prog 176 = some 8 := by kernel_rfl
attribute [go_sem] Tryd.underlying176
@[go_sem] theorem z176 : zeroPV Tryd.prog 176 = some (.v .nilFunc) := by kernel_rfl
@[go_sem] theorem zc176 : zeroChk Tryd.prog 176 := zeroChk_of z176 (v := (((Tryd.prog).info? 176).bind (·.zero)).getD undef) (by kernel_rfl) (by kernel_rfl) (by kernel_rfl)
@[go_sem] theorem ld177 : ldOf Tryd.prog 177 = some (false, 1) := by kernel_rfl
@[go_sem] theorem isIfc177 : isIfc Tryd.prog 177 = true := by kernel_rfl
@[go_sem] theorem by177 : bytesOf Tryd.prog 177 = some 16 := by kernel_rfl
attribute [go_sem] Tryd.underlying177
@[go_sem] theorem z177 : zeroPV Tryd.prog 177 = some (.v .nilIface) := by kernel_rfl
@[go_sem] theorem zc177 : zeroChk Tryd.prog 177 := zeroChk_of z177 (v := (((Tryd.prog).info? 177).bind (·.zero)).getD undef) (by kernel_rfl) (by kernel_rfl) (by kernel_rfl)
@[go_sem] theorem ld178 : ldOf Tryd.prog 178 = some (false, 1) := by kernel_rfl
@[go_sem] theorem isIfc178 : isIfc Tryd.prog 178 = false := by kernel_rfl
@[go_sem] theorem by178 : bytesOf Tryd.prog 178 = some 0 := by kernel_rfl
@[go_sem] theorem ld179 : ldOf Tryd.prog 179 = some (false, 1) := by kernel_rfl
@[go_sem] theorem isIfc179 : isIfc Tryd.prog 179 = false := by kernel_rfl
@[go_sem] theorem by179 : bytesOf Tryd.prog 179 = some 8 := by kernel_rfl
attribute [go_sem] Tryd.underlying179
@[go_sem] theorem z179 : zeroPV Tryd.prog 179 = some (.v .nilFunc) := by kernel_rfl
@[go_sem] theorem zc179 : zeroChk Tryd.prog 179 := zeroChk_of z179 (v := (((Tryd.prog).info? 179).bind (·.zero)).getD undef) (by kernel_rfl) (by kernel_rfl) (by kernel_rfl)
@[go_sem] theorem ld180 : ldOf Tryd.prog 180 = some (false, 1) := by kernel_rfl
@[go_sem] theorem isIfc180 : isIfc Tryd.prog 180 = true := by kernel_rfl
@[go_sem] theorem by180 : bytesOf Tryd.prog 180 = some 16 := by kernel_rfl
attribute [go_sem] Tryd.underlying180
@[go_sem] theorem z180 : zeroPV Tryd.prog 180 = some (.v .nilIface) := by kernel_rfl
@[go_sem] theorem zc180 : zeroChk Tryd.prog 180 := zeroChk_of z180 (v := (((Tryd.prog).info? 180).bind (·.zero)).getD undef) (by kernel_rfl) (by kernel_rfl) (by kernel_rfl)
@[go_sem] theorem ld181 : ldOf Tryd.prog 181 = some (false, 1) := by kernel_rfl
@[go_sem] theorem isIfc181 : isIfc Tryd.prog 181 = true := by kernel_rfl
@[go_sem] theorem by181 : bytesOf Tryd.prog 181 = some 16 := by kernel_rfl
attribute [go_sem] Tryd.underlying181
@[go_sem] theorem z181 : zeroPV Tryd.prog 181 = some (.v .nilIface) := by kernel_rfl
@[go_sem] theorem zc181 : zeroChk Tryd.prog 181 := zeroChk_of z181 (v := (((Tryd.prog).info? 181).bind (·.zero)).getD undef) (by kernel_rfl) (by kernel_rfl) (by kernel_rfl)
@[go_sem] theorem ld182 : ldOf Tryd.prog 182 = some (false, 1) := by kernel_rfl
@[go_sem] theorem el182 : elOf Tryd.prog 182 = some 39 := by kernel_rfl
@[go_sem] theorem isIfc182 : isIfc Tryd.prog 182 = false := by kernel_rfl
@[go_sem] theorem by182 : bytesOf Tryd.prog 182 = some 24 := by kernel_rfl
attribute [go_sem] Tryd.underlying182
@[go_sem] theorem z182 : zeroPV Tryd.prog 182 = some (.v (.slice none 0 0)) := by kernel_rfl
@[go_sem] theorem zc182 : zeroChk Tryd.prog 182 := zeroChk_of z182 (v := (((Tryd.prog).info? 182).bind (·.zero)).getD undef) (by kernel_rfl) (by kernel_rfl) (by kernel_rfl)
@[go_sem] theorem ld183 : ldOf Tryd.prog 183 = some (false, 1) := by kernel_rfl
@[go_sem] theorem isIfc183 : isIfc Tryd.prog 183 = false := by kernel_rfl
@[go_sem] theorem by183 : bytesOf Tryd.prog 183 = some 8 := by kernel_rfl
attribute [go_sem] Tryd.underlying183
@[go_sem] theorem z183 : zeroPV Tryd.prog 183 = some (.v .nilFunc) := by kernel_rfl
@[go_sem] theorem zc183 : zeroChk Tryd.prog 183 := zeroChk_of z183 (v := (((Tryd.prog).info? 183).bind (·.zero)).getD undef) (by kernel_rfl) (by kernel_rfl) (by kernel_rfl)
@[go_sem] theorem ld184 : ldOf Tryd.prog 184 = some (false, 1) := by kernel_rfl
@[go_sem] theorem isIfc184 : isIfc Tryd.prog 184 = false := by kernel_rfl
@[go_sem] theorem by184 : bytesOf Tryd.prog 184 = some 8 := by kernel_rfl
attribute [go_sem] Tryd.underlying184
@[go_sem] theorem z184 : zeroPV Tryd.prog 184 = some (.v .nilFunc) := by kernel_rfl
@[go_sem] theorem zc184 : zeroChk Tryd.prog 184 := zeroChk_of z184 (v := (((Tryd.prog).info? 184).bind (·.zero)).getD undef) (by kernel_rfl) (by kernel_rfl) (by kernel_rfl)
@[go_sem] theorem ld185 : ldOf Tryd.prog 185 = some (false, 1) := by kernel_rfl
@[go_sem] theorem ik185 : ikOf Tryd.prog 185 = some .i64 := by kernel_rfl
@[go_sem] theorem isIfc185 : isIfc Tryd.prog 185 = false := by kernel_rfl
@[go_sem] theorem by185 : bytesOf Tryd.prog 185 = some 8 := by kernel_rfl
@[go_sem] theorem z185 : zeroPV Tryd.prog 185 = some (.v (.int .i64 0)) := by kernel_rfl
@[go_sem] theorem zc185 : zeroChk Tryd.prog 185 := zeroChk_of z185 (v := (((Tryd.prog).info? 185).bind (·.zero)).getD undef) (by kernel_rfl) (by kernel_rfl) (by kernel_rfl)
@[go_sem] theorem ld186 : ldOf Tryd.prog 186 = some (false, 1) := by kernel_rfl
@[go_sem] theorem isIfc186 : isIfc Tryd.prog 186 = false := by kernel_rfl
@[go_sem] theorem by186 : bytesOf Tryd.prog 186 = some 0 := by kernel_rfl
@[go_sem] theorem ld187 : ldOf Tryd.prog 187 = some (false, 1) := by kernel_rfl
@[go_sem] theorem isIfc187 : isIfc Tryd.prog 187 = false := by kernel_rfl
@[go_sem] theorem by187 : bytesOf Tryd.prog 187 = some 8 := by kernel_rfl
attribute [go_sem] Tryd.underlying187
@[go_sem] theorem z187 : zeroPV Tryd.prog 187 = some (.v .nilFunc) := by kernel_rfl
@[go_sem] theorem zc187 : zeroChk Tryd.prog 187 := zeroChk_of z187 (v := (((Tryd.prog).info? 187).bind (·.zero)).getD undef) (by kernel_rfl) (by kernel_rfl) (by kernel_rfl)
@[go_sem] theorem ld188 : ldOf Tryd.prog 188 = some (false, 1) := by kernel_rfl
@[go_sem] theorem isIfc188 : isIfc Tryd.prog 188 = false := by kernel_rfl
@[go_sem] theorem by188 : bytesOf Tryd.prog 188 = some 8 := by kernel_rfl
attribute [go_sem] Tryd.underlying188
@[go_sem] theorem z188 : zeroPV Tryd.prog 188 = some (.v .nilFunc) := by kernel_rfl
@[go_sem] theorem zc188 : zeroChk Tryd.prog 188 := zeroChk_of z188 (v := (((Tryd.prog).info? 188).bind (·.zero)).getD undef) (by kernel_rfl) (by kernel_rfl) (by kernel_rfl)
@[go_sem] theorem ld189 : ldOf Tryd.prog 189 = some (false, 1) := by kernel_rfl
@[go_sem] theorem isIfc189 : isIfc Tryd.prog 189 = false := by kernel_rfl
@[go_sem] theorem by189 : bytesOf Tryd.prog 189 = some 8 := by kernel_rfl
attribute [go_sem] Tryd.underlying189
@[go_sem] theorem z189 : zeroPV Tryd.prog 189 = some (.v .nilFunc) := by kernel_rfl
@[go_sem] theorem zc189 : zeroChk Tryd.prog 189 := zeroChk_of z189 (v := (((Tryd.prog).info? 189).bind (·.zero)).getD undef) (by kernel_rfl) (by kernel_rfl) (by kernel_rfl)
@[go_sem] theorem ld190 : ldOf Tryd.prog 190 = some (false, 1) := by kernel_rfl
@[go_sem] theorem isIfc190 : isIfc Tryd.prog 190 = false := by kernel_rfl
@[go_sem] theorem by190 : bytesOf Tryd.prog 190 = some 8 := by kernel_rfl
attribute [go_sem] Tryd.underlying190
@[go_sem] theorem z190 : zeroPV Tryd.prog 190 = some (.v .nilFunc) := by kernel_rfl
@[go_sem] theorem zc190 : zeroChk Tryd.prog 190 := zeroChk_of z190 (v := (((Tryd.prog).info? 190).bind (·.zero)).getD undef) (by kernel_rfl) (by kernel_rfl) (by kernel_rfl)
@[go_sem] theorem ld191 : ldOf Tryd.prog 191 = some (false, 1) := by kernel_rfl
@[go_sem] theorem isIfc191 : isIfc Tryd.prog 191 = false := by kernel_rfl
@[go_sem] theorem by191 : bytesOf Tryd.prog 191 = some 0 := by kernel_rfl
@[go_sem] theorem ld192 : ldOf Tryd.prog 192 = some (false, 1) := by kernel_rfl
@[go_sem] theorem isIfc192 : isIfc Tryd.prog 192 = false := by kernel_rfl
@[go_sem] theorem by192 : bytesOf Tryd.prog 192 = some 8 := by kernel_rfl
attribute [go_sem] Tryd.underlying192
@[go_sem] theorem z192 : zeroPV Tryd.prog 192 = some (.v .nilFunc) := by kernel_rfl
@[go_sem] theorem zc192 : zeroChk Tryd.prog 192 := zeroChk_of z192 (v := (((Tryd.prog).info? 192).bind (·.zero)).getD undef) (by kernel_rfl) (by kernel_rfl) (by kernel_rfl)
@[go_sem] theorem ld193 : ldOf Tryd.prog 193 = some (false, 1) := by kernel_rfl
@[go_sem] theorem isIfc193 : isIfc Tryd.prog 193 = false := by kernel_rfl
@[go_sem] theorem by193 : bytesOf Tryd.prog 193 = some 8 := by kernel_rfl
attribute [go_sem] Tryd.underlying193
@[go_sem] theorem z193 : zeroPV Tryd.prog 193 = some (.v .nilFunc) := by kernel_rfl
@[go_sem] theorem zc193 : zeroChk Tryd.prog 193 := zeroChk_of z193 (v := (((Tryd.prog).info? 193).bind (·.zero)).getD undef) (by kernel_rfl) (by kernel_rfl) (by kernel_rfl)
@[go_sem] theorem ld194 : ldOf Tryd.prog 194 = some (false, 1) := by kernel_rfl
@[go_sem] theorem isIfc194 : isIfc Tryd.prog 194 = false := by kernel_rfl
@[go_sem] theorem by194 : bytesOf Tryd.prog 194 = some 8 := by kernel_rfl
attribute [go_sem] Tryd.underlying194
@[go_sem] theorem z194 : zeroPV Tryd.prog 194 = some (.v .nilFunc) := by kernel_rfl
@[go_sem] theorem zc194 : zeroChk Tryd.prog 194 := zeroChk_of z194 (v := (((Tryd.prog).info? 194).bind (·.zero)).getD undef) (by kernel_rfl) (by kernel_rfl) (by kernel_rfl)
@[go_sem] theorem ld195 : ldOf Tryd.prog 195 = some (true, 64) := by kernel_rfl
@[go_sem] theorem ar195 : arOf Tryd.prog 195 = some (64, 5) := by kernel_rfl
@[go_sem] theorem isIfc195 : isIfc Tryd.prog 195 = false := by kernel_rfl
@[go_sem] theorem by195 : bytesOf Tryd.prog 195 = some 64 := by kernel_rfl
@[go_sem] theorem z195 : zeroPV Tryd.prog 195 = some (.ints .u8 64 (List.replicate 64 0)) := by kernel_rfl
@[go_sem] theorem zc195 : zeroChk Tryd.prog 195 := zeroChk_of z195 (v := (((Tryd.prog).info? 195).bind (·.zero)).getD undef) (by kernel_rfl) (by kernel_rfl) (by kernel_rfl)
@[go_sem] theorem bld195 : bldB Tryd.prog 195 = true := by kernel_rfl
@[go_sem] theorem ld196 : ldOf Tryd.prog 196 = some (false, 1) := by kernel_rfl
@[go_sem] theorem isIfc196 : isIfc Tryd.prog 196 = false := by kernel_rfl
@[go_sem] theorem by196 : bytesOf Tryd.prog 196 = some 0 := by kernel_rfl
@[go_sem] theorem ld197 : ldOf Tryd.prog 197 = some (false, 1) := by kernel_rfl
@[go_sem] theorem isIfc197 : isIfc Tryd.prog 197 = false := by kernel_rfl
@[go_sem] theorem by197 : bytesOf Tryd.prog 197 = some 8 := by kernel_rfl
attribute [go_sem] Tryd.underlying197
@[go_sem] theorem z197 : zeroPV Tryd.prog 197 = some (.v .nilFunc) := by kernel_rfl
@[go_sem] theorem zc197 : zeroChk Tryd.prog 197 := zeroChk_of z197 (v := (((Tryd.prog).info? 197).bind (·.zero)).getD undef) (by kernel_rfl) (by kernel_rfl) (by kernel_rfl)
@[go_sem] theorem ld198 : ldOf Tryd.prog 198 = some (false, 1) := by kernel_rfl
@[go_sem] theorem ik198 : ikOf Tryd.prog 198 = some .u64 := by kernel_rfl
@[go_sem] theorem isIfc198 : isIfc Tryd.prog 198 = false := by kernel_rfl
@[go_sem] theorem by198 : bytesOf Tryd.prog 198 = some 8 := by kernel_rfl
@[go_sem] theorem z198 : zeroPV Tryd.prog 198 = some (.v (.int .u64 0)) := by kernel_rfl
@[go_sem] theorem zc198 : zeroChk Tryd.prog 198 := zeroChk_of z198 (v := (((Tryd.prog).info? 198).bind (·.zero)).getD undef) (by kernel_rfl) (by kernel_rfl) (by kernel_rfl)
@[go_sem] theorem ld199 : ldOf Tryd.prog 199 = some (false, 1) := by kernel_rfl
@[go_sem] theorem isIfc199 : isIfc Tryd.prog 199 = false := by kernel_rfl
@[go_sem] theorem by199 : bytesOf Tryd.prog 199 = some 8 := by kernel_rfl
attribute [go_sem] Tryd.underlying199
@[go_sem] theorem z199 : zeroPV Tryd.prog 199 = some (.v .nilFunc) := by kernel_rfl
@[go_sem] theorem zc199 : zeroChk Tryd.prog 199 := zeroChk_of z199 (v := (((Tryd.prog).info? 199).bind (·.zero)).getD undef) (by kernel_rfl) (by kernel_rfl) (by kernel_rfl)
@[go_sem] theorem ld200 : ldOf Tryd.prog 200 = some (false, 1) := by kernel_rfl
@[go_sem] theorem isIfc200 : isIfc Tryd.prog 200 = false := by kernel_rfl
@[go_sem] theorem by200 : bytesOf Tryd.prog 200 = some 8 := by kernel_rfl
attribute [go_sem] Tryd.underlying200
@[go_sem] theorem z200 : zeroPV Tryd.prog 200 = some (.v .nilFunc) := by kernel_rfl
@[go_sem] theorem zc200 : zeroChk Tryd.prog 200 := zeroChk_of z200 (v := (((Tryd.prog).info? 200).bind (·.zero)).getD undef) (by kernel_rfl) (by kernel_rfl) (by kernel_rfl)
@[go_sem] theorem ld201 : ldOf Tryd.prog 201 = some (false, 1) := by kernel_rfl
@[go_sem] theorem isIfc201 : isIfc Tryd.prog 201 = false := by kernel_rfl
@[go_sem] theorem by201 : bytesOf Tryd.prog 201 = some 8 := by kernel_rfl
attribute [go_sem] Tryd.underlying201
@[go_sem] theorem z201 : zeroPV Tryd.prog 201 = some (.v .nilFunc) := by kernel_rfl
@[go_sem] theorem zc201 : zeroChk Tryd.prog 201 := zeroChk_of z201 (v := (((Tryd.prog).info? 201).bind (·.zero)).getD undef) (by kernel_rfl) (by kernel_rfl) (by kernel_rfl)
@[go_sem] theorem ld202 : ldOf Tryd.prog 202 = some (false, 1) := by kernel_rfl
@[go_sem] theorem pt202 : ptOf Tryd.prog 202 = some 3 := by kernel_rfl
@[go_sem] theorem isIfc202 : isIfc Tryd.prog 202 = false := by kernel_rfl
@[go_sem] theorem by202 : bytesOf Tryd.prog 202 = some 8 := by kernel_rfl
attribute [go_sem] Tryd.underlying202
@[go_sem] theorem z202 : zeroPV Tryd.prog 202 = some (.v (.pointer none)) := by kernel_rfl
@[go_sem] theorem zc202 : zeroChk Tryd.prog 202 := zeroChk_of z202 (v := (((Tryd.prog).info? 202).bind (·.zero)).getD undef) (by kernel_rfl) (by kernel_rfl) (by kernel_rfl)
@[go_sem] theorem ld203 : ldOf Tryd.prog 203 = some (false, 1) := by kernel_rfl
@[go_sem] theorem isIfc203 : isIfc Tryd.prog 203 = false := by kernel_rfl
@[go_sem] theorem by203 : bytesOf Tryd.prog 203 = some 8 := by kernel_rfl
attribute [go_sem] Tryd.underlying203
@[go_sem] theorem z203 : zeroPV Tryd.prog 203 = some (.v .nilFunc) := by kernel_rfl
@[go_sem] theorem zc203 : zeroChk Tryd.prog 203 := zeroChk_of z203 (v := (((Tryd.prog).info? 203).bind (·.zero)).getD undef) (by kernel_rfl) (by kernel_rfl) (by kernel_rfl)
@[go_sem] theorem ld204 : ldOf Tryd.prog 204 = some (false, 1) := by kernel_rfl
@[go_sem] theorem pt204 : ptOf Tryd.prog 204 = some 160 := by kernel_rfl
@[go_sem] theorem isIfc204 : isIfc Tryd.prog 204 = false := by kernel_rfl
@[go_sem] theorem by204 : bytesOf Tryd.prog 204 = some 8 := by kernel_rfl
attribute [go_sem] Tryd.underlying204
@[go_sem] theorem z204 : zeroPV Tryd.prog 204 = some (.v (.pointer none)) := by kernel_rfl
@[go_sem] theorem zc204 : zeroChk Tryd.prog 204 := zeroChk_of z204 (v := (((Tryd.prog).info? 204).bind (·.zero)).getD undef) (by kernel_rfl) (by kernel_rfl) (by kernel_rfl)
@[go_sem] theorem ld205 : ldOf Tryd.prog 205 = some (true, 16) := by kernel_rfl
@[go_sem] theorem ar205 : arOf Tryd.prog 205 = some (16, 158) := by kernel_rfl
@[go_sem] theorem isIfc205 : isIfc Tryd.prog 205 = false := by kernel_rfl
@[go_sem] theorem by205 : bytesOf Tryd.prog 205 = some 64 := by kernel_rfl
@[go_sem] theorem z205 : zeroPV Tryd.prog 205 = some (.ints .u32 16 (List.replicate 16 0)) := by kernel_rfl
@[go_sem] theorem zc205 : zeroChk Tryd.prog 205 := zeroChk_of z205 (v := (((Tryd.prog).info? 205).bind (·.zero)).getD undef) (by kernel_rfl) (by kernel_rfl) (by kernel_rfl)
@[go_sem] theorem bld205 : bldB Tryd.prog 205 = true := by kernel_rfl
@[go_sem] theorem ld206 : ldOf Tryd.prog 206 = some (false, 1) := by kernel_rfl
@[go_sem] theorem el206 : elOf Tryd.prog 206 = some 158 := by kernel_rfl
@[go_sem] theorem isIfc206 : isIfc Tryd.prog 206 = false := by kernel_rfl
@[go_sem] theorem by206 : bytesOf Tryd.prog 206 = some 24 := by kernel_rfl
attribute [go_sem] Tryd.underlying206
@[go_sem] theorem z206 : zeroPV Tryd.prog 206 = some (.v (.slice none 0 0)) := by kernel_rfl
@[go_sem] theorem zc206 : zeroChk Tryd.prog 206 := zeroChk_of z206 (v := (((Tryd.prog).info? 206).bind (·.zero)).getD undef) (by kernel_rfl) (by kernel_rfl) (by kernel_rfl)
@[go_sem] theorem ld207 : ldOf Tryd.prog 207 = some (true, 16) := by kernel_rfl
@[go_sem] theorem ar207 : arOf Tryd.prog 207 = some (16, 5) := by kernel_rfl
@[go_sem] theorem isIfc207 : isIfc Tryd.prog 207 = false := by kernel_rfl
@[go_sem] theorem by207 : bytesOf Tryd.prog 207 = some 16 := by kernel_rfl
@[go_sem] theorem z207 : zeroPV Tryd.prog 207 = some (.ints .u8 16 (List.replicate 16 0)) := by kernel_rfl
@[go_sem] theorem zc207 : zeroChk Tryd.prog 207 := zeroChk_of z207 (v := (((Tryd.prog).info? 207).bind (·.zero)).getD undef) (by kernel_rfl) (by kernel_rfl) (by kernel_rfl)
@[go_sem] theorem bld207 : bldB Tryd.prog 207 = true := by kernel_rfl
@[go_sem] theorem ld208 : ldOf Tryd.prog 208 = some (true, 160) := by kernel_rfl
@[go_sem] theorem ar208 : arOf Tryd.prog 208 = some (10, 207) := by kernel_rfl
@[go_sem] theorem isIfc208 : isIfc Tryd.prog 208 = false := by kernel_rfl
@[go_sem] theorem by208 : bytesOf Tryd.prog 208 = some 160 := by kernel_rfl
@[go_sem] theorem z208 : zeroPV Tryd.prog 208 = some (.st (List.replicate 10 (.ints .u8 16 (List.replicate 16 0)))) := by kernel_rfl
@[go_sem] theorem zc208 : zeroChk Tryd.prog 208 := zeroChk_of z208 (v := (((Tryd.prog).info? 208).bind (·.zero)).getD undef) (by kernel_rfl) (by kernel_rfl) (by kernel_rfl)
@[go_sem] theorem ld209 : ldOf Tryd.prog 209 = some (false, 1) := by kernel_rfl
@[go_sem] theorem isIfc209 : isIfc Tryd.prog 209 = false := by kernel_rfl
@[go_sem] theorem by209 : bytesOf Tryd.prog 209 = some 8 := by kernel_rfl
attribute [go_sem] Tryd.underlying209
@[go_sem] theorem z209 : zeroPV Tryd.prog 209 = some (.v .nilFunc) := by kernel_rfl
@[go_sem] theorem zc209 : zeroChk Tryd.prog 209 := zeroChk_of z209 (v := (((Tryd.prog).info? 209).bind (·.zero)).getD undef) (by kernel_rfl) (by kernel_rfl) (by kernel_rfl)
@[go_sem] theorem ld210 : ldOf Tryd.prog 210 = some (false, 1) := by kernel_rfl
@[go_sem] theorem pt210 : ptOf Tryd.prog 210 = some 205 := by kernel_rfl
@[go_sem] theorem isIfc210 : isIfc Tryd.prog 210 = false := by kernel_rfl
@[go_sem] theorem by210 : bytesOf Tryd.prog 210 = some 8 := by kernel_rfl
attribute [go_sem] Tryd.underlying210
@[go_sem] theorem z210 : zeroPV Tryd.prog 210 = some (.v (.pointer none)) := by kernel_rfl
@[go_sem] theorem zc210 : zeroChk Tryd.prog 210 := zeroChk_of z210 (v := (((Tryd.prog).info? 210).bind (·.zero)).getD undef) (by kernel_rfl) (by kernel_rfl) (by kernel_rfl)
@[go_sem] theorem ld211 : ldOf Tryd.prog 211 = some (false, 1) := by kernel_rfl
@[go_sem] theorem pt211 : ptOf Tryd.prog 211 = some 198 := by kernel_rfl
@[go_sem] theorem isIfc211 : isIfc Tryd.prog 211 = false := by kernel_rfl
@[go_sem] theorem by211 : bytesOf Tryd.prog 211 = some 8 := by kernel_rfl
attribute [go_sem] Tryd.underlying211
@[go_sem] theorem z211 : zeroPV Tryd.prog 211 = some (.v (.pointer none)) := by kernel_rfl
@[go_sem] theorem zc211 : zeroChk Tryd.prog 211 := zeroChk_of z211 (v := (((Tryd.prog).info? 211).bind (·.zero)).getD undef) (by kernel_rfl) (by kernel_rfl) (by kernel_rfl)
@[go_sem] theorem ld212 : ldOf Tryd.prog 212 = some (false, 1) := by kernel_rfl
@[go_sem] theorem isIfc212 : isIfc Tryd.prog 212 = false := by kernel_rfl
@[go_sem] theorem by212 : bytesOf Tryd.prog 212 = some 8 := by kernel_rfl
attribute [go_sem] Tryd.underlying212
@[go_sem] theorem z212 : zeroPV Tryd.prog 212 = some (.v .nilFunc) := by kernel_rfl
@[go_sem] theorem zc212 : zeroChk Tryd.prog 212 := zeroChk_of z212 (v := (((Tryd.prog).info? 212).bind (·.zero)).getD undef) (by kernel_rfl) (by kernel_rfl) (by kernel_rfl)
@[go_sem] theorem ld213 : ldOf Tryd.prog 213 = some (false, 1) := by kernel_rfl
@[go_sem] theorem isIfc213 : isIfc Tryd.prog 213 = false := by kernel_rfl
@[go_sem] theorem by213 : bytesOf Tryd.prog 213 = some 8 := by kernel_rfl
attribute [go_sem] Tryd.underlying213
@[go_sem] theorem z213 : zeroPV Tryd.prog 213 = some (.v .nilFunc) := by kernel_rfl
@[go_sem] theorem zc213 : zeroChk Tryd.prog 213 := zeroChk_of z213 (v := (((Tryd.prog).info? 213).bind (·.zero)).getD undef) (by kernel_rfl) (by kernel_rfl) (by kernel_rfl)
@[go_sem] theorem ld214 : ldOf Tryd.prog 214 = some (false, 1) := by kernel_rfl
@[go_sem] theorem isIfc214 : isIfc Tryd.prog 214 = false := by kernel_rfl
@[go_sem] theorem by214 : bytesOf Tryd.prog 214 = some 8 := by kernel_rfl
attribute [go_sem] Tryd.underlying214
@[go_sem] theorem z214 : zeroPV Tryd.prog 214 = some (.v .nilFunc) := by kernel_rfl
@[go_sem] theorem zc214 : zeroChk Tryd.prog 214 := zeroChk_of z214 (v := (((Tryd.prog).info? 214).bind (·.zero)).getD undef) (by kernel_rfl) (by kernel_rfl) (by kernel_rfl)
@[go_sem] theorem ld215 : ldOf Tryd.prog 215 = some (true, 4) := by kernel_rfl
@[go_sem] theorem fld215_0 : fldOf Tryd.prog 215 0 = some (0, 17) := by kernel_rfl
@[go_sem] theorem fld215_1 : fldOf Tryd.prog 215 1 = some (1, 17) := by kernel_rfl
@[go_sem] theorem fld215_2 : fldOf Tryd.prog 215 2 = some (2, 17) := by kernel_rfl
@[go_sem] theorem fld215_3 : fldOf Tryd.prog 215 3 = some (3, 9) := by kernel_rfl
@[go_sem] theorem isIfc215 : isIfc Tryd.prog 215 = false := by kernel_rfl
@[go_sem] theorem by215 : bytesOf Tryd.prog 215 = some 40 := by kernel_rfl
@[go_sem] theorem z215 : zeroPV Tryd.prog 215 = some (.st [(.v (.pointer none)), (.v (.pointer none)), (.v (.pointer none)), (.v (.string ⟨#[]⟩))]) := by kernel_rfl
@[go_sem] theorem zc215 : zeroChk Tryd.prog 215 := zeroChk_of z215 (v := (((Tryd.prog).info? 215).bind (·.zero)).getD undef) (by kernel_rfl) (by kernel_rfl) (by kernel_rfl)
@[go_sem] theorem bld215 : bldB Tryd.prog 215 = true := by kernel_rfl
@[go_sem] theorem ld216 : ldOf Tryd.prog 216 = some (true, 4) := by kernel_rfl
@[go_sem] theorem fld216_0 : fldOf Tryd.prog 216 0 = some (0, 17) := by kernel_rfl
@[go_sem] theorem fld216_1 : fldOf Tryd.prog 216 1 = some (1, 17) := by kernel_rfl
@[go_sem] theorem fld216_2 : fldOf Tryd.prog 216 2 = some (2, 17) := by kernel_rfl
@[go_sem] theorem fld216_3 : fldOf Tryd.prog 216 3 = some (3, 9) := by kernel_rfl
@[go_sem] theorem isIfc216 : isIfc Tryd.prog 216 = false := by kernel_rfl
@[go_sem] theorem by216 : bytesOf Tryd.prog 216 = some 40 := by kernel_rfl
@[go_sem] theorem z216 : zeroPV Tryd.prog 216 = some (.st [(.v (.pointer none)), (.v (.pointer none)), (.v (.pointer none)), (.v (.string ⟨#[]⟩))]) := by kernel_rfl
@[go_sem] theorem zc216 : zeroChk Tryd.prog 216 := zeroChk_of z216 (v := (((Tryd.prog).info? 216).bind (·.zero)).getD undef) (by kernel_rfl) (by kernel_rfl) (by kernel_rfl)
@[go_sem] theorem bld216 : bldB Tryd.prog 216 = true := by kernel_rfl
@[go_sem] theorem ld217 : ldOf Tryd.prog 217 = some (true, 0) := by kernel_rfl
@[go_sem] theorem ar217 : arOf Tryd.prog 217 = some (0, 16) := by kernel_rfl
@[go_sem] theorem isIfc217 : isIfc Tryd.prog 217 = false := by kernel_rfl
@[go_sem] theorem by217 : bytesOf Tryd.prog 217 = some 0 := by kernel_rfl
@[go_sem] theorem z217 : zeroPV Tryd.prog 217 = some (.st (List.replicate 0 (.v (.pointer none)))) := by kernel_rfl
@[go_sem] theorem zc217 : zeroChk Tryd.prog 217 := zeroChk_of z217 (v := (((Tryd.prog).info? 217).bind (·.zero)).getD undef) (by kernel_rfl) (by kernel_rfl) (by kernel_rfl)
@[go_sem] theorem ld218 : ldOf Tryd.prog 218 = some (true, 0) := by kernel_rfl
@[go_sem] theorem fld218_0 : fldOf Tryd.prog 218 0 = some (0, 217) := by kernel_rfl
@[go_sem] theorem isIfc218 : isIfc Tryd.prog 218 = false := by kernel_rfl
@[go_sem] theorem by218 : bytesOf Tryd.prog 218 = some 0 := by kernel_rfl
@[go_sem] theorem z218 : zeroPV Tryd.prog 218 = some (.st [(.st (List.replicate 0 (.v (.pointer none))))]) := by kernel_rfl
@[go_sem] theorem zc218 : zeroChk Tryd.prog 218 := zeroChk_of z218 (v := (((Tryd.prog).info? 218).bind (·.zero)).getD undef) (by kernel_rfl) (by kernel_rfl) (by kernel_rfl)
@[go_sem] theorem bld218 : bldB Tryd.prog 218 = true := by kernel_rfl
@[go_sem] theorem ld219 : ldOf Tryd.prog 219 = some (true, 0) := by kernel_rfl
@[go_sem] theorem fld219_0 : fldOf Tryd.prog 219 0 = some (0, 217) := by kernel_rfl
@[go_sem] theorem isIfc219 : isIfc Tryd.prog 219 = false := by kernel_rfl
@[go_sem] theorem by219 : bytesOf Tryd.prog 219 = some 0 := by kernel_rfl
@[go_sem] theorem z219 : zeroPV Tryd.prog 219 = some (.st [(.st (List.replicate 0 (.v (.pointer none))))]) := by kernel_rfl
@[go_sem] theorem zc219 : zeroChk Tryd.prog 219 := zeroChk_of z219 (v := (((Tryd.prog).info? 219).bind (·.zero)).getD undef) (by kernel_rfl) (by kernel_rfl) (by kernel_rfl)
@[go_sem] theorem bld219 : bldB Tryd.prog 219 = true := by kernel_rfl
@[go_sem] theorem ld220 : ldOf Tryd.prog 220 = some (false, 1) := by kernel_rfl
@[go_sem] theorem isIfc220 : isIfc Tryd.prog 220 = false := by kernel_rfl
@[go_sem] theorem by220 : bytesOf Tryd.prog 220 = some 8 := by kernel_rfl
attribute [go_sem] Tryd.underlying220
@[go_sem] theorem z220 : zeroPV Tryd.prog 220 = some (.v .nilFunc) := by kernel_rfl
@[go_sem] theorem zc220 : zeroChk Tryd.prog 220 := zeroChk_of z220 (v := (((Tryd.prog).info? 220).bind (·.zero)).getD undef) (by kernel_rfl) (by kernel_rfl) (by kernel_rfl)
@[go_sem] theorem ld221 : ldOf Tryd.prog 221 = some (false, 1) := by kernel_rfl
@[go_sem] theorem isIfc221 : isIfc Tryd.prog 221 = false := by kernel_rfl
@[go_sem] theorem by221 : bytesOf Tryd.prog 221 = some 8 := by kernel_rfl
attribute [go_sem] Tryd.underlying221
@[go_sem] theorem z221 : zeroPV Tryd.prog 221 = some (.v .nilFunc) := by kernel_rfl
@[go_sem] theorem zc221 : zeroChk Tryd.prog 221 := zeroChk_of z221 (v := (((Tryd.prog).info? 221).bind (·.zero)).getD undef) (by kernel_rfl) (by kernel_rfl) (by kernel_rfl)
@[go_sem] theorem ld222 : ldOf Tryd.prog 222 = some (false, 1) := by kernel_rfl
@[go_sem] theorem ik222 : ikOf Tryd.prog 222 = some .u8 := by kernel_rfl
@[go_sem] theorem isIfc222 : isIfc Tryd.prog 222 = false := by kernel_rfl
@[go_sem] theorem by222 : bytesOf Tryd.prog 222 = some 1 := by kernel_rfl
@[go_sem] theorem z222 : zeroPV Tryd.prog 222 = some (.v (.int .u8 0)) := by kernel_rfl
@[go_sem] theorem zc222 : zeroChk Tryd.prog 222 := zeroChk_of z222 (v := (((Tryd.prog).info? 222).bind (·.zero)).getD undef) (by kernel_rfl) (by kernel_rfl) (by kernel_rfl)
@[go_sem] theorem ld223 : ldOf Tryd.prog 223 = some (false, 1) := by kernel_rfl
@[go_sem] theorem isIfc223 : isIfc Tryd.prog 223 = false := by kernel_rfl
@[go_sem] theorem by223 : bytesOf Tryd.prog 223 = some 8 := by kernel_rfl
attribute [go_sem] Tryd.underlying223
@[go_sem] theorem z223 : zeroPV Tryd.prog 223 = some (.v .nilFunc) := by kernel_rfl
@[go_sem] theorem zc223 : zeroChk Tryd.prog 223 := zeroChk_of z223 (v := (((Tryd.prog).info? 223).bind (·.zero)).getD undef) (by kernel_rfl) (by kernel_rfl) (by kernel_rfl)
@[go_sem] theorem ld224 : ldOf Tryd.prog 224 = some (false, 1) := by kernel_rfl
@[go_sem] theorem pt224 : ptOf Tryd.prog 224 = some 5 := by kernel_rfl
@[go_sem] theorem isIfc224 : isIfc Tryd.prog 224 = false := by kernel_rfl
@[go_sem] theorem by224 : bytesOf Tryd.prog 224 = some 8 := by kernel_rfl
attribute [go_sem] Tryd.underlying224
@[go_sem] theorem z224 : zeroPV Tryd.prog 224 = some (.v (.pointer none)) := by kernel_rfl
@[go_sem] theorem zc224 : zeroChk Tryd.prog 224 := zeroChk_of z224 (v := (((Tryd.prog).info? 224).bind (·.zero)).getD undef) (by kernel_rfl) (by kernel_rfl) (by kernel_rfl)
@[go_sem] theorem ld225 : ldOf Tryd.prog 225 = some (false, 1) := by kernel_rfl
@[go_sem] theorem ik225 : ikOf Tryd.prog 225 = some .i32 := by kernel_rfl
@[go_sem] theorem isIfc225 : isIfc Tryd.prog 225 = false := by kernel_rfl
@[go_sem] theorem by225 : bytesOf Tryd.prog 225 = some 4 := by kernel_rfl
@[go_sem] theorem z225 : zeroPV Tryd.prog 225 = some (.v (.int .i32 0)) := by kernel_rfl
@[go_sem] theorem zc225 : zeroChk Tryd.prog 225 := zeroChk_of z225 (v := (((Tryd.prog).info? 225).bind (·.zero)).getD undef) (by kernel_rfl) (by kernel_rfl) (by kernel_rfl)
@[go_sem] theorem ld226 : ldOf Tryd.prog 226 = some (false, 1) := by kernel_rfl
@[go_sem] theorem ik226 : ikOf Tryd.prog 226 = some .i32 := by kernel_rfl
@[go_sem] theorem isIfc226 : isIfc Tryd.prog 226 = false := by kernel_rfl
@[go_sem] theorem by226 : bytesOf Tryd.prog 226 = some 4 := by kernel_rfl
@[go_sem] theorem z226 : zeroPV Tryd.prog 226 = some (.v (.int .i32 0)) := by kernel_rfl
@[go_sem] theorem zc226 : zeroChk Tryd.prog 226 := zeroChk_of z226 (v := (((Tryd.prog).info? 226).bind (·.zero)).getD undef) (by kernel_rfl) (by kernel_rfl) (by kernel_rfl)
@[go_sem] theorem ld227 : ldOf Tryd.prog 227 = some (true, 11) := by kernel_rfl
@[go_sem] theorem fld227_0 : fldOf Tryd.prog 227 0 = some (0, 12) := by kernel_rfl
@[go_sem] theorem fld227_1 : fldOf Tryd.prog 227 1 = some (1, 12) := by kernel_rfl
@[go_sem] theorem fld227_2 : fldOf Tryd.prog 227 2 = some (2, 158) := by kernel_rfl
@[go_sem] theorem fld227_3 : fldOf Tryd.prog 227 3 = some (3, 222) := by kernel_rfl
@[go_sem] theorem fld227_4 : fldOf Tryd.prog 227 4 = some (4, 5) := by kernel_rfl
@[go_sem] theorem fld227_5 : fldOf Tryd.prog 227 5 = some (5, 5) := by kernel_rfl
@[go_sem] theorem fld227_6 : fldOf Tryd.prog 227 6 = some (6, 140) := by kernel_rfl
@[go_sem] theorem fld227_7 : fldOf Tryd.prog 227 7 = some (7, 223) := by kernel_rfl
@[go_sem] theorem fld227_8 : fldOf Tryd.prog 227 8 = some (8, 224) := by kernel_rfl
@[go_sem] theorem fld227_9 : fldOf Tryd.prog 227 9 = some (9, 225) := by kernel_rfl
@[go_sem] theorem fld227_10 : fldOf Tryd.prog 227 10 = some (10, 226) := by kernel_rfl
@[go_sem] theorem isIfc227 : isIfc Tryd.prog 227 = false := by kernel_rfl
@[go_sem] theorem by227 : bytesOf Tryd.prog 227 = some 48 := by kernel_rfl
@[go_sem] theorem z227 : zeroPV Tryd.prog 227 = some (.st [(.v (.int .u64 0)), (.v (.int .u64 0)), (.v (.int .u32 0)), (.v (.int .u8 0)), (.v (.int .u8 0)), (.v (.int .u8 0)), (.v (.int .u8 0)), (.v .nilFunc), (.v (.pointer none)), (.v (.int .i32 0)), (.v (.int .i32 0))]) := by kernel_rfl
@[go_sem] theorem zc227 : zeroChk Tryd.prog 227 := zeroChk_of z227 (v := (((Tryd.prog).info? 227).bind (·.zero)).getD undef) (by kernel_rfl) (by kernel_rfl) (by kernel_rfl)
@[go_sem] theorem bld227 : bldB Tryd.prog 227 = true := by kernel_rfl
@[go_sem] theorem ld228 : ldOf Tryd.prog 228 = some (true, 11) := by kernel_rfl
@[go_sem] theorem fld228_0 : fldOf Tryd.prog 228 0 = some (0, 12) := by kernel_rfl
@[go_sem] theorem fld228_1 : fldOf Tryd.prog 228 1 = some (1, 12) := by kernel_rfl
@[go_sem] theorem fld228_2 : fldOf Tryd.prog 228 2 = some (2, 158) := by kernel_rfl
@[go_sem] theorem fld228_3 : fldOf Tryd.prog 228 3 = some (3, 222) := by kernel_rfl
@[go_sem] theorem fld228_4 : fldOf Tryd.prog 228 4 = some (4, 5) := by kernel_rfl
@[go_sem] theorem fld228_5 : fldOf Tryd.prog 228 5 = some (5, 5) := by kernel_rfl
@[go_sem] theorem fld228_6 : fldOf Tryd.prog 228 6 = some (6, 140) := by kernel_rfl
@[go_sem] theorem fld228_7 : fldOf Tryd.prog 228 7 = some (7, 223) := by kernel_rfl
@[go_sem] theorem fld228_8 : fldOf Tryd.prog 228 8 = some (8, 224) := by kernel_rfl
@[go_sem] theorem fld228_9 : fldOf Tryd.prog 228 9 = some (9, 225) := by kernel_rfl
@[go_sem] theorem fld228_10 : fldOf Tryd.prog 228 10 = some (10, 226) := by kernel_rfl
@[go_sem] theorem isIfc228 : isIfc Tryd.prog 228 = false := by kernel_rfl
@[go_sem] theorem by228 : bytesOf Tryd.prog 228 = some 48 := by kernel_rfl
@[go_sem] theorem z228 : zeroPV Tryd.prog 228 = some (.st [(.v (.int .u64 0)), (.v (.int .u64 0)), (.v (.int .u32 0)), (.v (.int .u8 0)), (.v (.int .u8 0)), (.v (.int .u8 0)), (.v (.int .u8 0)), (.v .nilFunc), (.v (.pointer none)), (.v (.int .i32 0)), (.v (.int .i32 0))]) := by kernel_rfl
@[go_sem] theorem zc228 : zeroChk Tryd.prog 228 := zeroChk_of z228 (v := (((Tryd.prog).info? 228).bind (·.zero)).getD undef) (by kernel_rfl) (by kernel_rfl) (by kernel_rfl)
@[go_sem] theorem bld228 : bldB Tryd.prog 228 = true := by kernel_rfl
@[go_sem] theorem ld229 : ldOf Tryd.prog 229 = some (false, 1) := by kernel_rfl
@[go_sem] theorem isIfc229 : isIfc Tryd.prog 229 = false := by kernel_rfl
@[go_sem] theorem by229 : bytesOf Tryd.prog 229 = some 8 := by kernel_rfl
attribute [go_sem] Tryd.underlying229
@[go_sem] theorem z229 : zeroPV Tryd.prog 229 = some (.v .nilFunc) := by kernel_rfl
@[go_sem] theorem zc229 : zeroChk Tryd.prog 229 := zeroChk_of z229 (v := (((Tryd.prog).info? 229).bind (·.zero)).getD undef) (by kernel_rfl) (by kernel_rfl) (by kernel_rfl)
@[go_sem] theorem ld230 : ldOf Tryd.prog 230 = some (false, 1) := by kernel_rfl
@[go_sem] theorem isIfc230 : isIfc Tryd.prog 230 = false := by kernel_rfl
@[go_sem] theorem by230 : bytesOf Tryd.prog 230 = some 8 := by kernel_rfl
attribute [go_sem] Tryd.underlying230
@[go_sem] theorem z230 : zeroPV Tryd.prog 230 = some (.v .nilFunc) := by kernel_rfl
@[go_sem] theorem zc230 : zeroChk Tryd.prog 230 := zeroChk_of z230 (v := (((Tryd.prog).info? 230).bind (·.zero)).getD undef) (by kernel_rfl) (by kernel_rfl) (by kernel_rfl)
@[go_sem] theorem ld231 : ldOf Tryd.prog 231 = some (true, 2) := by kernel_rfl
@[go_sem] theorem fld231_0 : fldOf Tryd.prog 231 0 = some (0, 9) := by kernel_rfl
@[go_sem] theorem fld231_1 : fldOf Tryd.prog 231 1 = some (1, 140) := by kernel_rfl
@[go_sem] theorem isIfc231 : isIfc Tryd.prog 231 = false := by kernel_rfl
@[go_sem] theorem by231 : bytesOf Tryd.prog 231 = some 24 := by kernel_rfl
@[go_sem] theorem z231 : zeroPV Tryd.prog 231 = some (.st [(.v (.string ⟨#[]⟩)), (.v (.int .u8 0))]) := by kernel_rfl
@[go_sem] theorem zc231 : zeroChk Tryd.prog 231 := zeroChk_of z231 (v := (((Tryd.prog).info? 231).bind (·.zero)).getD undef) (by kernel_rfl) (by kernel_rfl) (by kernel_rfl)
@[go_sem] theorem bld231 : bldB Tryd.prog 231 = true := by kernel_rfl
@[go_sem] theorem ld232 : ldOf Tryd.prog 232 = some (true, 2) := by kernel_rfl
@[go_sem] theorem fld232_0 : fldOf Tryd.prog 232 0 = some (0, 9) := by kernel_rfl
@[go_sem] theorem fld232_1 : fldOf Tryd.prog 232 1 = some (1, 140) := by kernel_rfl
@[go_sem] theorem isIfc232 : isIfc Tryd.prog 232 = false := by kernel_rfl
@[go_sem] theorem by232 : bytesOf Tryd.prog 232 = some 24 := by kernel_rfl
@[go_sem] theorem z232 : zeroPV Tryd.prog 232 = some (.st [(.v (.string ⟨#[]⟩)), (.v (.int .u8 0))]) := by kernel_rfl
@[go_sem] theorem zc232 : zeroChk Tryd.prog 232 := zeroChk_of z232 (v := (((Tryd.prog).info? 232).bind (·.zero)).getD undef) (by kernel_rfl) (by kernel_rfl) (by kernel_rfl)
@[go_sem] theorem bld232 : bldB Tryd.prog 232 = true := by kernel_rfl
@[go_sem] theorem ld233 : ldOf Tryd.prog 233 = some (false, 1) := by kernel_rfl
@[go_sem] theorem pt233 : ptOf Tryd.prog 233 = some 237 := by kernel_rfl
@[go_sem] theorem isIfc233 : isIfc Tryd.prog 233 = false := by kernel_rfl
@[go_sem] theorem by233 : bytesOf Tryd.prog 233 = some 8 := by kernel_rfl
attribute [go_sem] Tryd.underlying233
@[go_sem] theorem z233 : zeroPV Tryd.prog 233 = some (.v (.pointer none)) := by kernel_rfl
@[go_sem] theorem zc233 : zeroChk Tryd.prog 233 := zeroChk_of z233 (v := (((Tryd.prog).info? 233).bind (·.zero)).getD undef) (by kernel_rfl) (by kernel_rfl) (by kernel_rfl)
@[go_sem] theorem ld234 : ldOf Tryd.prog 234 = some (false, 1) := by kernel_rfl
@[go_sem] theorem isIfc234 : isIfc Tryd.prog 234 = false := by kernel_rfl
@[go_sem] theorem by234 : bytesOf Tryd.prog 234 = some 8 := by kernel_rfl
attribute [go_sem] Tryd.underlying234
@[go_sem] theorem z234 : zeroPV Tryd.prog 234 = some (.v .nilFunc) := by kernel_rfl
@[go_sem] theorem zc234 : zeroChk Tryd.prog 234 := zeroChk_of z234 (v := (((Tryd.prog).info? 234).bind (·.zero)).getD undef) (by kernel_rfl) (by kernel_rfl) (by kernel_rfl)
@[go_sem] theorem ld235 : ldOf Tryd.prog 235 = some (false, 1) := by kernel_rfl
@[go_sem] theorem ik235 : ikOf Tryd.prog 235 = some .u16 := by kernel_rfl
@[go_sem] theorem isIfc235 : isIfc Tryd.prog 235 = false := by kernel_rfl
@[go_sem] theorem by235 : bytesOf Tryd.prog 235 = some 2 := by kernel_rfl
@[go_sem] theorem z235 : zeroPV Tryd.prog 235 = some (.v (.int .u16 0)) := by kernel_rfl
@[go_sem] theorem zc235 : zeroChk Tryd.prog 235 := zeroChk_of z235 (v := (((Tryd.prog).info? 235).bind (·.zero)).getD undef) (by kernel_rfl) (by kernel_rfl) (by kernel_rfl)
@[go_sem] theorem ld236 : ldOf Tryd.prog 236 = some (true, 5) := by kernel_rfl
@[go_sem] theorem fld236_0 : fldOf Tryd.prog 236 0 = some (0, 225) := by kernel_rfl
@[go_sem] theorem fld236_1 : fldOf Tryd.prog 236 1 = some (1, 235) := by kernel_rfl
@[go_sem] theorem fld236_2 : fldOf Tryd.prog 236 2 = some (2, 235) := by kernel_rfl
@[go_sem] theorem fld236_3 : fldOf Tryd.prog 236 3 = some (3, 158) := by kernel_rfl
@[go_sem] theorem fld236_4 : fldOf Tryd.prog 236 4 = some (4, 158) := by kernel_rfl
@[go_sem] theorem isIfc236 : isIfc Tryd.prog 236 = false := by kernel_rfl
@[go_sem] theorem by236 : bytesOf Tryd.prog 236 = some 16 := by kernel_rfl
@[go_sem] theorem z236 : zeroPV Tryd.prog 236 = some (.st [(.v (.int .i32 0)), (.v (.int .u16 0)), (.v (.int .u16 0)), (.v (.int .u32 0)), (.v (.int .u32 0))]) := by kernel_rfl
@[go_sem] theorem zc236 : zeroChk Tryd.prog 236 := zeroChk_of z236 (v := (((Tryd.prog).info? 236).bind (·.zero)).getD undef) (by kernel_rfl) (by kernel_rfl) (by kernel_rfl)
@[go_sem] theorem bld236 : bldB Tryd.prog 236 = true := by kernel_rfl
@[go_sem] theorem ld237 : ldOf Tryd.prog 237 = some (true, 5) := by kernel_rfl
@[go_sem] theorem fld237_0 : fldOf Tryd.prog 237 0 = some (0, 225) := by kernel_rfl
@[go_sem] theorem fld237_1 : fldOf Tryd.prog 237 1 = some (1, 235) := by kernel_rfl
@[go_sem] theorem fld237_2 : fldOf Tryd.prog 237 2 = some (2, 235) := by kernel_rfl
@[go_sem] theorem fld237_3 : fldOf Tryd.prog 237 3 = some (3, 158) := by kernel_rfl
@[go_sem] theorem fld237_4 : fldOf Tryd.prog 237 4 = some (4, 158) := by kernel_rfl
@[go_sem] theorem isIfc237 : isIfc Tryd.prog 237 = false := by kernel_rfl
@[go_sem] theorem by237 : bytesOf Tryd.prog 237 = some 16 := by kernel_rfl
@[go_sem] theorem z237 : zeroPV Tryd.prog 237 = some (.st [(.v (.int .i32 0)), (.v (.int .u16 0)), (.v (.int .u16 0)), (.v (.int .u32 0)), (.v (.int .u32 0))]) := by kernel_rfl
@[go_sem] theorem zc237 : zeroChk Tryd.prog 237 := zeroChk_of z237 (v := (((Tryd.prog).info? 237).bind (·.zero)).getD undef) (by kernel_rfl) (by kernel_rfl) (by kernel_rfl)
@[go_sem] theorem bld237 : bldB Tryd.prog 237 = true := by kernel_rfl
@[go_sem] theorem ld238 : ldOf Tryd.prog 238 = some (false, 1) := by kernel_rfl
@[go_sem] theorem el238 : elOf Tryd.prog 238 = some 241 := by kernel_rfl
@[go_sem] theorem isIfc238 : isIfc Tryd.prog 238 = false := by kernel_rfl
@[go_sem] theorem by238 : bytesOf Tryd.prog 238 = some 24 := by kernel_rfl
attribute [go_sem] Tryd.underlying238
@[go_sem] theorem z238 : zeroPV Tryd.prog 238 = some (.v (.slice none 0 0)) := by kernel_rfl
@[go_sem] theorem zc238 : zeroChk Tryd.prog 238 := zeroChk_of z238 (v := (((Tryd.prog).info? 238).bind (·.zero)).getD undef) (by kernel_rfl) (by kernel_rfl) (by kernel_rfl)
@[go_sem] theorem ld239 : ldOf Tryd.prog 239 = some (false, 1) := by kernel_rfl
@[go_sem] theorem ik239 : ikOf Tryd.prog 239 = some .i32 := by kernel_rfl
@[go_sem] theorem isIfc239 : isIfc Tryd.prog 239 = false := by kernel_rfl
@[go_sem] theorem by239 : bytesOf Tryd.prog 239 = some 4 := by kernel_rfl
@[go_sem] theorem z239 : zeroPV Tryd.prog 239 = some (.v (.int .i32 0)) := by kernel_rfl
@[go_sem] theorem zc239 : zeroChk Tryd.prog 239 := zeroChk_of z239 (v := (((Tryd.prog).info? 239).bind (·.zero)).getD undef) (by kernel_rfl) (by kernel_rfl) (by kernel_rfl)
@[go_sem] theorem ld240 : ldOf Tryd.prog 240 = some (true, 4) := by kernel_rfl
@[go_sem] theorem fld240_0 : fldOf Tryd.prog 240 0 = some (0, 225) := by kernel_rfl
@[go_sem] theorem fld240_1 : fldOf Tryd.prog 240 1 = some (1, 226) := by kernel_rfl
@[go_sem] theorem fld240_2 : fldOf Tryd.prog 240 2 = some (2, 239) := by kernel_rfl
@[go_sem] theorem fld240_3 : fldOf Tryd.prog 240 3 = some (3, 239) := by kernel_rfl
@[go_sem] theorem isIfc240 : isIfc Tryd.prog 240 = false := by kernel_rfl
@[go_sem] theorem by240 : bytesOf Tryd.prog 240 = some 16 := by kernel_rfl
@[go_sem] theorem z240 : zeroPV Tryd.prog 240 = some (.st [(.v (.int .i32 0)), (.v (.int .i32 0)), (.v (.int .i32 0)), (.v (.int .i32 0))]) := by kernel_rfl
@[go_sem] theorem zc240 : zeroChk Tryd.prog 240 := zeroChk_of z240 (v := (((Tryd.prog).info? 240).bind (·.zero)).getD undef) (by kernel_rfl) (by kernel_rfl) (by kernel_rfl)
@[go_sem] theorem bld240 : bldB Tryd.prog 240 = true := by kernel_rfl
@[go_sem] theorem ld241 : ldOf Tryd.prog 241 = some (true, 4) := by kernel_rfl
@[go_sem] theorem fld241_0 : fldOf Tryd.prog 241 0 = some (0, 225) := by kernel_rfl
@[go_sem] theorem fld241_1 : fldOf Tryd.prog 241 1 = some (1, 226) := by kernel_rfl
@[go_sem] theorem fld241_2 : fldOf Tryd.prog 241 2 = some (2, 239) := by kernel_rfl
@[go_sem] theorem fld241_3 : fldOf Tryd.prog 241 3 = some (3, 239) := by kernel_rfl
@[go_sem] theorem isIfc241 : isIfc Tryd.prog 241 = false := by kernel_rfl
@[go_sem] theorem by241 : bytesOf Tryd.prog 241 = some 16 := by kernel_rfl
@[go_sem] theorem z241 : zeroPV Tryd.prog 241 = some (.st [(.v (.int .i32 0)), (.v (.int .i32 0)), (.v (.int .i32 0)), (.v (.int .i32 0))]) := by kernel_rfl
@[go_sem] theorem zc241 : zeroChk Tryd.prog 241 := zeroChk_of z241 (v := (((Tryd.prog).info? 241).bind (·.zero)).getD undef) (by kernel_rfl) (by kernel_rfl) (by kernel_rfl)
@[go_sem] theorem bld241 : bldB Tryd.prog 241 = true := by kernel_rfl
@[go_sem] theorem ld242 : ldOf Tryd.prog 242 = some (false, 1) := by kernel_rfl
@[go_sem] theorem pt242 : ptOf Tryd.prog 242 = some 39 := by kernel_rfl
@[go_sem] theorem isIfc242 : isIfc Tryd.prog 242 = false := by kernel_rfl
@[go_sem] theorem by242 : bytesOf Tryd.prog 242 = some 8 := by kernel_rfl
attribute [go_sem] Tryd.underlying242
@[go_sem] theorem z242 : zeroPV Tryd.prog 242 = some (.v (.pointer none)) := by kernel_rfl
@[go_sem] theorem zc242 : zeroChk Tryd.prog 242 := zeroChk_of z242 (v := (((Tryd.prog).info? 242).bind (·.zero)).getD undef) (by kernel_rfl) (by kernel_rfl) (by kernel_rfl)
end Go.Proofs.YtlfincjibiihaaaDoor
end

section
/- The package-level variables that are read: what they hold. -/
namespace Go.Proofs.YtlfincjibiihaaaDoor
open Go Go.Av Go.Proofs
def orderL : List (List Int) := [[0, 1, 2, 3, 4, 5, 6, 7, 8, 9, 10, 11, 12, 13, 14, 15], [14, 10, 4, 8, 9, 15, 13, 6, 1, 12, 0, 2, 11, 7, 5, 3], [11, 8, 12, 0, 5, 2, 15, 13, 10, 14, 3, 6, 7, 1, 9, 4], [7, 9, 3, 1, 13, 12, 11, 14, 2, 6, 5, 10, 4, 0, 15, 8], [9, 0, 5, 7, 2, 4, 10, 15, 14, 1, 11, 12, 6, 8, 3, 13], [2, 12, 6, 10, 0, 11, 8, 3, 4, 13, 7, 5, 15, 14, 1, 9], [12, 5, 1, 15, 14, 13, 4, 10, 0, 7, 6, 3, 9, 2, 8, 11], [13, 11, 7, 14, 12, 1, 3, 9, 5, 0, 15, 4, 8, 6, 2, 10], [6, 15, 14, 9, 11, 3, 0, 8, 12, 2, 13, 7, 1, 4, 10, 5], [10, 2, 8, 4, 7, 6, 1, 5, 15, 11, 9, 14, 3, 12, 13, 0]]
def orderPV : PV := .st (orderL.map fun l => .ints .u8 16 l)
def errTypePV : PV := .v (.iface 172 (.agg #[.pointer (some ⟨3, 39, none⟩)]))
instance : Globs := ⟨[(0, errTypePV), (2, orderPV)]⟩
@[go_sem] theorem glob_order : lkG Globs.G 2 = some orderPV := rfl
@[go_sem] theorem glob_err : lkG Globs.G 0 = some errTypePV := rfl
end Go.Proofs.YtlfincjibiihaaaDoor
end

section
namespace Go.Proofs.YtlfincjibiihaaaDoor
open Go Go.Av Go.Proofs
set_option linter.unusedVariables false
set_option linter.unusedSimpArgs false
set_option linter.unusedSectionVars false
def keyOk (l : List Int) (i : Nat) : Bool := decide (0 ≤ ix l i) && decide (ix l i < 16) && (i == 0 || decide (ix l (i - 1) < ix l i))
def mayB (b : Br) : Bool := (List.range b.keys.length).all (keyOk b.keys) && decide (1 ≤ b.keys.length) && decide (0 ≤ b.after) && decide (b.after ≤ 1099511627776) && decide (0 ≤ b.older) && decide (b.older ≤ 65536)
theorem mayB_false {b : Br} {i : Nat} (h : i < b.keys.length) (hk : keyOk b.keys i = false) : mayB b = false := by
  have : (List.range b.keys.length).all (keyOk b.keys) = false := by
    rw [List.all_eq_false]
    exact ⟨i, by simpa using h, by simp [hk]⟩
  simp [mayB, this]
set_option maxRecDepth 100000 in
theorem may_calls (b : Br) (hl : b.keys.length < 1000000) : ACalls Tryd.prog 37 [.p (brPV b)] [] (.p (.v (.bool (mayB b)))) [] := by
  refine acalls_of (fn := Tryd.f37) Tryd.func37 rfl (by decide) (n := 58) rfl (by simp) (by simp) (by simp [idsOf]) (by simp [idsOf]) ?_
  refine aw_reg rfl fun K hK => ?_
  simp only [argT, go_sem]
  refine hK _ ?_
  refine aw_seq fun K0 h0 => ?_
  refine aw_reg rfl fun K hK => ?_
  simp only [go_sem, brPV, I]
  refine hK _ ?_
  refine aw_block ?_
  refine aw_loop (α := {i : Nat // i ≤ b.keys.length ∧ ∀ j < i, keyOk b.keys j = true})
    (fun i => ⟨58, [(8, .p (.v (.int .i64 i.1))), (7, .p (.v (.int .i64 b.keys.length))), (6, .p (.sl 1 (b.keys.map I))), (2, .p (.v (.bool false))), (1, .ptr 1 [])], [(1, .row 89 (.p (brPV b)))]⟩)
    (fun i => b.keys.length - i.1) ⟨0, by simp⟩ (imp_less (by simp only [go_sem, brPV, I])) fun ⟨i, hi, hall⟩ => ?_
  refine aw_reg rfl fun K hK => ?_
  simp only [go_sem, brPV, I]
  refine hK _ ?_
  refine aw_seq fun K1 h1 => ?_
  refine aw_cond (b := decide ((i:Int) < b.keys.length)) (by simp only [go_sem]) (fun h => ?_) (fun h => ?_)
  · have hlt : i < b.keys.length := by simpa using h
    refine aw_skip (h1 _ ?_)
    refine aw_seq fun K2 h2 => ?_
    refine aw_block ?_
    refine aw_reg rfl fun K hK => ?_
    simp only [go_sem, brPV, I, hlt, ix_map, List.length_map, Int.toNat_natCast, Int.natCast_nonneg]
    refine hK _ ?_
    refine aw_reg rfl fun K hK => ?_
    simp only [go_sem, brPV, I]
    by_cases c1 : ix b.keys i < 0
    · simp only [go_sem, brPV, I, c1, decide_true]
      refine hK _ ?_
      refine aw_cond (b := true) (by simp only [go_sem]) (fun h => ?_) (fun h => by cases h)
      refine aw_reg rfl fun K hK => ?_
      simp only [go_sem]
      refine hK _ (aw_ret (ret_tmp ?_ trivial))
      simp only [go_sem]
      rw [mayB_false hlt (by simp [keyOk]; omega)]
      simp only [go_sem]
    · simp only [go_sem, brPV, I, c1, decide_false]
      by_cases c2 : ix b.keys i ≥ 16
      · simp only [go_sem, brPV, I, c2, decide_true]
        refine hK _ ?_
        refine aw_cond (b := true) (by simp only [go_sem]) (fun h => ?_) (fun h => by cases h)
        refine aw_reg rfl fun K hK => ?_
        simp only [go_sem]
        refine hK _ (aw_ret (ret_tmp ?_ trivial))
        simp only [go_sem]
        rw [mayB_false hlt (by simp [keyOk]; omega)]
        simp only [go_sem]
      · simp only [go_sem, brPV, I, c2, decide_false]
        rcases Nat.eq_zero_or_pos i with c3 | c3
        · subst c3
          simp only [go_sem, brPV, I, Int.lt_irrefl, gt_iff_lt, decide_false]
          refine hK _ ?_
          refine aw_cond (b := false) (by simp only [go_sem]) (fun h => by cases h) (fun h => aw_skip ?_)
          refine h2 _ ?_
          refine aw_reg_last rfl fun K hK => ?_
          simp only [go_sem]
          refine hK _ ⟨⟨1, by omega, fun j hj => ?_⟩, imp_less (by simp only [go_sem, brPV, I]; exact le_int rfl), by simp only; omega⟩
          obtain rfl : j = 0 := by omega
          simp [keyOk]; omega
        · obtain ⟨j, rfl⟩ : ∃ j, i = j + 1 := ⟨i - 1, by omega⟩
          have c4 : ((j : Int) + 1 > 0) := by omega
          have e1 : IntKind.wrap .i64 ((j : Int) + 1 - 1) = j := by rw [Int.add_sub_cancel, wrap_nat (by omega)]
          have hj : j < b.keys.length := by omega
          simp only [go_sem, brPV, I, c4, decide_true, Int.natCast_one, e1, hj, ix_map]
          by_cases c5 : ix b.keys j ≥ ix b.keys (j + 1)
          · simp only [go_sem, c5, decide_true]
            refine hK _ ?_
            refine aw_cond (b := true) (by simp only [go_sem]) (fun h => ?_) (fun h => by cases h)
            refine aw_reg rfl fun K hK => ?_
            simp only [go_sem]
            refine hK _ (aw_ret (ret_tmp ?_ trivial))
            simp only [go_sem]
            rw [mayB_false hlt (by simp [keyOk]; omega)]
            simp only [go_sem]
          · simp only [go_sem, c5, decide_false]
            refine hK _ ?_
            refine aw_cond (b := false) (by simp only [go_sem]) (fun h => by cases h) (fun h => aw_skip ?_)
            refine h2 _ ?_
            refine aw_reg_last rfl fun K hK => ?_
            simp only [go_sem]
            refine hK _ ⟨⟨j + 1 + 1, by omega, fun k hk => ?_⟩, imp_less (by simp only [go_sem, brPV, I, wrap_i64 (n := (j : Int) + 1 + 1) (by omega) (by omega)]; exact le_int rfl), by simp only; omega⟩
            by_cases hkj : k = j + 1
            · subst hkj
              simp [keyOk]; omega
            · exact hall k (by omega)
  · refine aw_exit ?_
    have hlen : i = b.keys.length := by simp at h; omega
    subst hlen
    refine h0 _ ?_
    have hm : (List.range b.keys.length).all (keyOk b.keys) = true := by
      rw [List.all_eq_true]
      exact fun j hj => hall j (by simpa using hj)
    simp only [mayB, hm, Bool.true_and]
    refine aw_reg rfl fun K hK => ?_
    simp only [go_sem, brPV, I]
    by_cases c1 : 1 ≤ b.keys.length
    · have c1' : ((b.keys.length : Int) ≥ 1) := by omega
      simp only [go_sem, c1, c1', decide_true]
      by_cases c2 : b.after ≥ 0
      · simp only [go_sem, c2, decide_true]
        by_cases c3 : b.after ≤ 1099511627776
        · simp only [go_sem, c3, decide_true]
          by_cases c4 : b.older ≥ 0
          · simp only [go_sem, c4, decide_true]
            refine hK _ (aw_ret (ret_tmp ?_ trivial))
            simp only [go_sem]
            exact le_bool (by simp [*])
          · simp only [go_sem, c4, decide_false]
            refine hK _ (aw_ret (ret_tmp ?_ trivial))
            simp only [go_sem]
            exact le_bool (by simp [*])
        · simp only [go_sem, c3, decide_false]
          refine hK _ (aw_ret (ret_tmp ?_ trivial))
          simp only [go_sem]
          exact le_bool (by simp [*])
      · simp only [go_sem, c2, decide_false]
        refine hK _ (aw_ret (ret_tmp ?_ trivial))
        simp only [go_sem]
        exact le_bool (by simp [*])
    · have c1' : ¬ ((b.keys.length : Int) ≥ 1) := by omega
      simp only [go_sem, c1, c1', decide_false]
      refine hK _ (aw_ret (ret_tmp ?_ trivial))
      simp only [go_sem]
      exact le_bool (by simp [*])

end Go.Proofs.YtlfincjibiihaaaDoor
end

section
namespace Go.Proofs.YtlfincjibiihaaaDoor
open Go Go.Av Go.Proofs
set_option linter.unusedVariables false
set_option linter.unusedSimpArgs false
set_option linter.unusedSectionVars false
set_option maxRecDepth 100000 in
set_option maxHeartbeats 2000000 in
theorem odd_calls (b : Br) (hl : b.keys.length < 1000000) : ACalls Tryd.prog 36 [.p (brPV b)] [] (.p (.v (.bool (!mayB b)))) [] := by
  refine acalls_of (fn := Tryd.f36) Tryd.func36 rfl (by decide) (n := 6) rfl (by simp) (by simp) (by simp [idsOf]) (by simp [idsOf]) ?_
  simp only [argT]
  refine aw_reg rfl fun Khk1 hk1 => ?_
  simp only [go_sem, brPV, I]
  refine hk1 _ ?_
  refine aw_reg rfl fun Khk2 hk2 => ?_
  simp only [go_sem, brPV, I]
  refine bcall0 (may_calls b hl) (by simp only [go_sem, brPV, I]) rfl (by simp only [go_sem, brPV, I]) ?_
  simp only [go_sem, brPV, I]
  refine hk2 _ ?_
  refine aw_ret ?_
  refine ret_tmp ?_ trivial
  simp only [go_sem, brPV, I]

set_option maxRecDepth 100000 in
set_option maxHeartbeats 2000000 in
theorem some_calls (n : Int) : ACalls Tryd.prog 59 [.p (.v (.int .i64 n))] [] (.p (.v (.bool (decide (1 ≤ n) && decide (n ≤ 64))))) [] := by
  refine acalls_of (fn := Tryd.f59) Tryd.func59 rfl (by decide) (n := 9) rfl (by simp) (by simp) (by simp [idsOf]) (by simp [idsOf]) ?_
  simp only [argT]
  refine aw_reg rfl fun Khk1 hk1 => ?_
  simp only [go_sem]
  refine hk1 _ ?_
  refine aw_reg rfl fun Khk2 hk2 => ?_
  simp only [go_sem]
  refine bg_split (fun cc3 => ?_) (fun cc3 => ?_)
  · simp only [go_sem, cc3]
    refine hk2 _ ?_
    refine aw_ret ?_
    refine ret_tmp ?_ trivial
    simp only [go_sem]
    exact le_bool (by simp_all <;> omega)
  · simp only [go_sem, cc3]
    refine hk2 _ ?_
    refine aw_ret ?_
    refine ret_tmp ?_ trivial
    simp only [go_sem]
    exact le_bool (by simp_all <;> omega)

end Go.Proofs.YtlfincjibiihaaaDoor
end

section
namespace Go.Proofs.YtlfincjibiihaaaDoor
open Go Go.Av Go.Proofs
set_option linter.unusedVariables false
set_option linter.unusedSimpArgs false
set_option linter.unusedSectionVars false
theorem has_step {l : List Int} {n : Int} {i : Nat} (h : ∀ j < i, ix l j ≠ n) (hi : ix l i ≠ n) : ∀ j < i + 1, ix l j ≠ n := fun j hj => by
  by_cases e : j = i
  · rw [e]; exact hi
  · exact h j (by omega)
theorem has_none {l : List Int} {n : Int} (h : ∀ j < l.length, ix l j ≠ n) : l.contains n = false := by
  rw [Bool.eq_false_iff]
  intro hc
  rw [List.contains_iff_mem] at hc
  obtain ⟨i, hi, e⟩ := List.mem_iff_getElem.1 hc
  exact h i hi (by rw [ix_get hi, e])
theorem has_some {l : List Int} {n : Int} {i : Nat} (h : i < l.length) (e : ix l i = n) : l.contains n = true := by
  rw [List.contains_iff_mem, ← e, ix_get h]
  exact List.getElem_mem h

set_option maxRecDepth 100000 in
set_option maxHeartbeats 2000000 in
theorem has_calls (l : List Int) (n : Int) (hl : l.length < 1000000) : ACalls Tryd.prog 54 [.p (.sl 1 (l.map I)), .p (.v (.int .i64 n))] [] (.p (.v (.bool (l.contains n)))) [] := by
  refine acalls_of (fn := Tryd.f54) Tryd.func54 rfl (by decide) (n := 18) rfl (by simp) (by simp) (by simp [idsOf]) (by simp [idsOf]) ?_
  simp only [argT]
  refine aw_reg rfl fun Khk1 hk1 => ?_
  simp only [go_sem, I]
  refine hk1 _ ?_
  refine aw_seq fun Khk2 hk2 => ?_
  refine aw_reg rfl fun Khk3 hk3 => ?_
  simp only [go_sem, I]
  refine hk3 _ ?_
  refine aw_block ?_
  refine aw_loop (α := {i : Nat // i ≤ l.length ∧ ∀ j < i, ix l j ≠ n})
    (fun x => ⟨18, [(5, .p (.v (.int .i64 x.1))), (4, .p (.v (.bool false))), (0, .p (.sl 1 (l.map I))), (1, .p (.v (.int .i64 n)))], []⟩)
    (fun x => l.length - x.1) ⟨0, by simp⟩ (imp_less (by simp only [go_sem, I])) fun ⟨i, hi, hall⟩ => ?_
  refine aw_seq fun Khk4 hk4 => ?_
  refine aw_reg rfl fun Khk5 hk5 => ?_
  simp only [go_sem, I]
  refine hk5 _ ?_
  refine aw_cond rfl (fun cc6 => ?_) (fun cc6 => ?_)
  · have hlt : i < l.length := by simpa using cc6
    refine aw_skip ?_
    refine hk4 _ ?_
    refine aw_seq fun Khk7 hk7 => ?_
    refine aw_block ?_
    refine aw_reg rfl fun Khk8 hk8 => ?_
    simp only [go_sem, I, hlt, ix_map]
    refine hk8 _ ?_
    refine aw_cond rfl (fun cc9 => ?_) (fun cc9 => ?_)
    · have hn : ix l i = n := by simpa using cc9
      refine aw_reg rfl fun Khk10 hk10 => ?_
      simp only [go_sem, I, hlt, ix_map, has_some hlt hn]
      refine hk10 _ ?_
      refine aw_ret ?_
      refine ret_tmp ?_ trivial
      simp only [go_sem, I, hlt, ix_map, has_some hlt hn]
    · have hn : ix l i ≠ n := by simpa using cc9
      refine aw_skip ?_
      refine hk7 _ ?_
      refine aw_reg_last rfl fun Khk11 hk11 => ?_
      simp only [go_sem, I, hlt, ix_map]
      refine hk11 _ ?_
      refine ⟨⟨i + 1, hlt, has_step hall hn⟩, imp_less (by simp only [go_sem, I, hlt, ix_map]; exact le_int (wrap_i64 (by omega) (by omega))), by simp only; omega⟩
  · have hlen : i = l.length := by simp at cc6; omega
    subst hlen
    refine aw_exit ?_
    refine hk2 _ ?_
    refine aw_reg rfl fun Khk12 hk12 => ?_
    simp only [go_sem, I]
    refine hk12 _ ?_
    refine aw_ret ?_
    refine ret_tmp ?_ trivial
    simp only [go_sem, I]
    exact le_bool (has_none hall).symm

end Go.Proofs.YtlfincjibiihaaaDoor
end

section
namespace Go.Proofs.YtlfincjibiihaaaDoor
open Go Go.Av Go.Proofs
set_option linter.unusedVariables false
set_option linter.unusedSimpArgs false
set_option linter.unusedSectionVars false
theorem eq_of_ix {a b : List Int} (h : a.length = b.length) (hall : ∀ j < a.length, ix a j = ix b j) : a = b :=
  List.ext_getElem h fun i h1 h2 => by
    have := hall i h1
    rwa [ix_get h1, ix_get h2] at this

set_option maxRecDepth 100000 in
set_option maxHeartbeats 2000000 in
theorem ints_calls (a b : List Int) (ha : a.length < 1000000) : ACalls Tryd.prog 21 [.p (.sl 1 (a.map I)), .p (.sl 1 (b.map I))] [] (.p (.v (.bool (decide (a = b))))) [] := by
  refine acalls_of (fn := Tryd.f21) Tryd.func21 rfl (by decide) (n := 26) rfl (by simp) (by simp) (by simp [idsOf]) (by simp [idsOf]) ?_
  simp only [argT]
  refine aw_reg rfl fun Khk1 hk1 => ?_
  simp only [go_sem, I]
  refine hk1 _ ?_
  refine aw_seq fun Khk2 hk2 => ?_
  refine aw_reg rfl fun Khk3 hk3 => ?_
  simp only [go_sem, I]
  refine hk3 _ ?_
  refine aw_cond rfl (fun cc4 => ?_) (fun cc4 => ?_)
  · have hne : a ≠ b := by
      intro e; subst e; simp at cc4
    refine aw_reg rfl fun Khk5 hk5 => ?_
    simp only [go_sem, I]
    refine hk5 _ ?_
    refine aw_ret ?_
    refine ret_tmp ?_ trivial
    simp only [go_sem, I]
    exact le_bool (by simp [hne])
  · have hlen : a.length = b.length := by simp at cc4; omega
    refine aw_skip ?_
    refine hk2 _ ?_
    refine aw_seq fun Khk6 hk6 => ?_
    refine aw_reg rfl fun Khk7 hk7 => ?_
    simp only [go_sem, I]
    refine hk7 _ ?_
    refine aw_block ?_
    refine aw_loop (α := {i : Nat // i ≤ a.length ∧ ∀ j < i, ix a j = ix b j})
      (fun x => ⟨26, [(5, .p (.v (.int .i64 x.1))), (4, .p (.v (.bool false))), (0, .p (.sl 1 (a.map I))), (1, .p (.sl 1 (b.map I)))], []⟩)
      (fun x => a.length - x.1) ⟨0, by simp⟩ (imp_less (by simp only [go_sem, I])) fun ⟨i, hi, hall⟩ => ?_
    refine aw_seq fun Khk8 hk8 => ?_
    refine aw_reg rfl fun Khk9 hk9 => ?_
    simp only [go_sem, I]
    refine hk9 _ ?_
    refine aw_cond rfl (fun cc10 => ?_) (fun cc10 => ?_)
    · have hlt : i < a.length := by simpa using cc10
      have hlt2 : i < b.length := by omega
      refine aw_skip ?_
      refine hk8 _ ?_
      refine aw_seq fun Khk11 hk11 => ?_
      refine aw_block ?_
      refine aw_draw _ (by kernel_rfl) rfl rfl fun Jhk12 hk12 => ?_
      simp only [go_sem, I, hlt, hlt2, ix_map]
      refine hk12 _ _ _ ⟨by kernel_rfl, by first | exact trivial | (simp only [go_sem, I, hlt, hlt2, ix_map])⟩ ?_
      refine aw_cond rfl (fun cc13 => ?_) (fun cc13 => ?_)
      · have hn : ix a i ≠ ix b i := by simpa using cc13
        have hne : a ≠ b := fun e => hn (by rw [e])
        refine aw_reg rfl fun Khk14 hk14 => ?_
        simp only [go_sem, I, hlt, hlt2, ix_map]
        refine hk14 _ ?_
        refine aw_ret ?_
        refine ret_tmp ?_ trivial
        simp only [go_sem, I, hlt, hlt2, ix_map]
        exact le_bool (by simp [hne])
      · have hn : ix a i = ix b i := by simpa using cc13
        refine aw_skip ?_
        refine hk11 _ ?_
        refine aw_reg_last rfl fun Khk15 hk15 => ?_
        simp only [go_sem, I, hlt, hlt2, ix_map]
        refine hk15 _ ?_
        refine ⟨⟨i + 1, hlt, fun j hj => ?_⟩, imp_less (by simp only [go_sem, I, hlt, hlt2, ix_map]; exact le_int (wrap_i64 (by omega) (by omega))), by simp only; omega⟩
        by_cases e : j = i
        · rw [e]; exact hn
        · exact hall j (by omega)
    · have hle : i = a.length := by simp at cc10; omega
      subst hle
      have hab : a = b := eq_of_ix hlen hall
      refine aw_exit ?_
      refine hk6 _ ?_
      refine aw_reg rfl fun Khk16 hk16 => ?_
      simp only [go_sem, I]
      refine hk16 _ ?_
      refine aw_ret ?_
      refine ret_tmp ?_ trivial
      simp only [go_sem, I]
      exact le_bool (by simp [hab])

def oddAt (c : List Br) : Int := match c.findIdx? (fun b => !mayB b) with | some i => i | none => -1
theorem oddAt_some {c : List Br} {i : Nat} (hi : i < c.length) (h : mayB (ix c i) = false) (hall : ∀ j < i, mayB (ix c j) = true) : oddAt c = i := by
  have : c.findIdx? (fun b => !mayB b) = some i := by
    rw [List.findIdx?_eq_some_iff_getElem]
    refine ⟨hi, by rw [← ix_get hi, h]; rfl, fun j hj => ?_⟩
    have := hall j hj
    rw [ix_get (by omega)] at this
    simp [this]
  simp [oddAt, this]
theorem oddAt_none {c : List Br} (hall : ∀ j < c.length, mayB (ix c j) = true) : oddAt c = -1 := by
  have : c.findIdx? (fun b => !mayB b) = none := by
    rw [List.findIdx?_eq_none_iff]
    intro b hb
    obtain ⟨i, hi, e⟩ := List.mem_iff_getElem.1 hb
    have := hall i hi
    rw [ix_get hi, e] at this
    simp [this]
  simp [oddAt, this]
def brsOk (c : List Br) : Prop := c.length < 1000000 ∧ ∀ b ∈ c, b.keys.length < 1000000
theorem brsOk_ix {c : List Br} (h : brsOk c) {i : Nat} (hi : i < c.length) : (ix c i).keys.length < 1000000 := by
  rw [ix_get hi]; exact h.2 _ (List.getElem_mem hi)

set_option maxRecDepth 100000 in
set_option maxHeartbeats 2000000 in
theorem indexOdd_calls (c : List Br) (hc : brsOk c) : ACalls Tryd.prog 77 [.p (.sl 35 (c.map brPV)), .p (.v (.func (.func 36) #[] #[]))] [] (.p (.v (.int .i64 (oddAt c)))) [] := by
  refine acalls_of (fn := Tryd.f77) Tryd.func77 rfl (by decide) (n := 19) rfl (by simp) (by simp) (by simp [idsOf]) (by simp [idsOf]) ?_
  simp only [argT]
  have hc1 := hc.1
  refine aw_reg rfl fun Khk1 hk1 => ?_
  simp only [go_sem]
  refine hk1 _ ?_
  refine aw_seq fun Khk2 hk2 => ?_
  refine aw_reg rfl fun Khk3 hk3 => ?_
  simp only [go_sem]
  refine hk3 _ ?_
  refine aw_block ?_
  refine aw_loop (α := {i : Nat // i ≤ c.length ∧ ∀ j < i, mayB (ix c j) = true})
    (fun x => ⟨19, [(8, .p (.v (.int .i64 x.1))), (7, .p (.v (.int .i64 c.length))), (4, .p (.v (.int .i64 0))), (0, .p (.sl 35 (c.map brPV))), (1, .p (.v (.func (.func 36) #[] #[])))], []⟩)
    (fun x => c.length - x.1) ⟨0, by simp⟩ (imp_less (by simp only [go_sem])) fun ⟨i, hi, hall⟩ => ?_
  refine aw_reg rfl fun Khk4 hk4 => ?_
  simp only [go_sem]
  refine hk4 _ ?_
  refine aw_seq fun Khk5 hk5 => ?_
  refine aw_cond rfl (fun cc6 => ?_) (fun cc6 => ?_)
  · have hlt : i < c.length := by simpa using cc6
    refine aw_skip ?_
    refine hk5 _ ?_
    refine aw_seq fun Khk7 hk7 => ?_
    refine aw_block ?_
    refine aw_reg rfl fun Khk8 hk8 => ?_
    simp only [go_sem, hlt, ix_map]
    refine hk8 _ ?_
    refine aw_reg rfl fun Khk9 hk9 => ?_
    simp only [go_sem, hlt, ix_map, brPV]
    refine bcall0 (odd_calls (ix c i) (brsOk_ix hc hlt)) (by simp only [go_sem, hlt, ix_map, brPV]) rfl (by simp only [go_sem, hlt, ix_map, brPV]) ?_
    simp only [go_sem, hlt, ix_map, brPV]
    refine hk9 _ ?_
    refine aw_cond rfl (fun cc10 => ?_) (fun cc10 => ?_)
    · have hn : mayB (ix c i) = false := by simpa using cc10
      refine aw_reg rfl fun Khk11 hk11 => ?_
      simp only [go_sem, hlt, ix_map, brPV, oddAt_some hlt hn hall]
      refine hk11 _ ?_
      refine aw_ret ?_
      refine ret_tmp ?_ trivial
      simp only [go_sem, hlt, ix_map, brPV, oddAt_some hlt hn hall]
    · have hn : mayB (ix c i) = true := by simpa using cc10
      refine aw_skip ?_
      refine hk7 _ ?_
      refine aw_reg_last rfl fun Khk12 hk12 => ?_
      simp only [go_sem, hlt, ix_map, brPV]
      refine hk12 _ ?_
      refine ⟨⟨i + 1, hlt, fun j hj => ?_⟩, imp_less (by simp only [go_sem, hlt, ix_map, brPV]; exact le_int (wrap_i64 (by omega) (by omega))), by simp only; omega⟩
      by_cases e : j = i
      · rw [e]; exact hn
      · exact hall j (by omega)
  · have hle : i = c.length := by simp at cc6; omega
    subst hle
    refine aw_exit ?_
    refine hk2 _ ?_
    refine aw_reg rfl fun Khk13 hk13 => ?_
    simp only [go_sem]
    refine hk13 _ ?_
    refine aw_ret ?_
    refine ret_tmp ?_ trivial
    simp only [go_sem]
    exact le_int (oddAt_none hall).symm

end Go.Proofs.YtlfincjibiihaaaDoor
end
