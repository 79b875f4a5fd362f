/-
  Closed facts on the types and functions of this translation, by program (wip/gen/genfacts.py).
-/
import Derived.Test.YtiaaidcdoenloaaProg
import Derived.Test.YtiaaidcdoenloaaEngR
namespace Go.Proofs.Ytiaaidcdoenloaa
open ZW

theorem hMix : Try.prog.follows .mixedOrders = true := by kernel_rfl
theorem O1 : oneT Try.prog 1 = true := by kernel_rfl
theorem K1 : sizeT Try.prog 1 = some 1 := by kernel_rfl
theorem Z1 : zeroT Try.prog 1 = some [.nilFunc] := by kernel_rfl
theorem I1 : ifaceT Try.prog 1 = false := by kernel_rfl
theorem O2 : oneT Try.prog 2 = true := by kernel_rfl
theorem K2 : sizeT Try.prog 2 = some 1 := by kernel_rfl
theorem Z2 : zeroT Try.prog 2 = some [.int .i64 0] := by kernel_rfl
theorem I2 : ifaceT Try.prog 2 = false := by kernel_rfl
theorem U2 : Try.prog.underlying 2 = some (.int .i64) := by kernel_rfl
theorem O3 : oneT Try.prog 3 = true := by kernel_rfl
theorem K3 : sizeT Try.prog 3 = some 1 := by kernel_rfl
theorem Z3 : zeroT Try.prog 3 = some [.int .i64 0] := by kernel_rfl
theorem I3 : ifaceT Try.prog 3 = false := by kernel_rfl
theorem U3 : Try.prog.underlying 3 = some (.int .i64) := by kernel_rfl
theorem O4 : oneT Try.prog 4 = true := by kernel_rfl
theorem K4 : sizeT Try.prog 4 = some 1 := by kernel_rfl
theorem Z4 : zeroT Try.prog 4 = some [.bool false] := by kernel_rfl
theorem I4 : ifaceT Try.prog 4 = false := by kernel_rfl
theorem U4 : Try.prog.underlying 4 = some .bool := by kernel_rfl
theorem O5 : oneT Try.prog 5 = true := by kernel_rfl
theorem K5 : sizeT Try.prog 5 = some 1 := by kernel_rfl
theorem Z5 : zeroT Try.prog 5 = some [.int .u8 0] := by kernel_rfl
theorem I5 : ifaceT Try.prog 5 = false := by kernel_rfl
theorem U5 : Try.prog.underlying 5 = some (.int .u8) := by kernel_rfl
theorem O6 : oneT Try.prog 6 = true := by kernel_rfl
theorem K6 : sizeT Try.prog 6 = some 1 := by kernel_rfl
theorem Z6 : zeroT Try.prog 6 = some [.int .u8 0] := by kernel_rfl
theorem I6 : ifaceT Try.prog 6 = false := by kernel_rfl
theorem U6 : Try.prog.underlying 6 = some (.int .u8) := by kernel_rfl
theorem O9 : oneT Try.prog 9 = true := by kernel_rfl
theorem K9 : sizeT Try.prog 9 = some 1 := by kernel_rfl
theorem Z9 : zeroT Try.prog 9 = some [.string ⟨#[]⟩] := by kernel_rfl
theorem I9 : ifaceT Try.prog 9 = false := by kernel_rfl
theorem O20 : oneT Try.prog 20 = true := by kernel_rfl
theorem K20 : sizeT Try.prog 20 = some 1 := by kernel_rfl
theorem Z20 : zeroT Try.prog 20 = some [.nilIface] := by kernel_rfl
theorem I20 : ifaceT Try.prog 20 = true := by kernel_rfl
theorem J20 : isIf Try.prog 20 = true := by kernel_rfl
theorem O22 : oneT Try.prog 22 = true := by kernel_rfl
theorem S22 : slEl Try.prog 22 = some (24, 2) := by kernel_rfl
theorem K22 : sizeT Try.prog 22 = some 1 := by kernel_rfl
theorem Z22 : zeroT Try.prog 22 = some [.slice none 0 0] := by kernel_rfl
theorem I22 : ifaceT Try.prog 22 = false := by kernel_rfl
theorem U22 : Try.prog.underlying 22 = some (.slice 24) := by kernel_rfl
theorem F23_0 : fOff Try.prog 23 0 = some 0 := by kernel_rfl
theorem F23_1 : fOff Try.prog 23 1 = some 1 := by kernel_rfl
theorem A23 : aggT Try.prog 23 = some 2 := by kernel_rfl
theorem K23 : sizeT Try.prog 23 = some 2 := by kernel_rfl
theorem Z23 : zeroT Try.prog 23 = some [.int .i64 0, .int .i64 0] := by kernel_rfl
theorem I23 : ifaceT Try.prog 23 = false := by kernel_rfl
theorem F24_0 : fOff Try.prog 24 0 = some 0 := by kernel_rfl
theorem F24_1 : fOff Try.prog 24 1 = some 1 := by kernel_rfl
theorem A24 : aggT Try.prog 24 = some 2 := by kernel_rfl
theorem K24 : sizeT Try.prog 24 = some 2 := by kernel_rfl
theorem Z24 : zeroT Try.prog 24 = some [.int .i64 0, .int .i64 0] := by kernel_rfl
theorem I24 : ifaceT Try.prog 24 = false := by kernel_rfl
theorem F25_0 : fOff Try.prog 25 0 = some 0 := by kernel_rfl
theorem F25_1 : fOff Try.prog 25 1 = some 1 := by kernel_rfl
theorem A25 : aggT Try.prog 25 = some 3 := by kernel_rfl
theorem K25 : sizeT Try.prog 25 = some 3 := by kernel_rfl
theorem Z25 : zeroT Try.prog 25 = some [.slice none 0 0, .int .i64 0, .int .i64 0] := by kernel_rfl
theorem I25 : ifaceT Try.prog 25 = false := by kernel_rfl
theorem F26_0 : fOff Try.prog 26 0 = some 0 := by kernel_rfl
theorem F26_1 : fOff Try.prog 26 1 = some 1 := by kernel_rfl
theorem A26 : aggT Try.prog 26 = some 3 := by kernel_rfl
theorem K26 : sizeT Try.prog 26 = some 3 := by kernel_rfl
theorem Z26 : zeroT Try.prog 26 = some [.slice none 0 0, .int .i64 0, .int .i64 0] := by kernel_rfl
theorem I26 : ifaceT Try.prog 26 = false := by kernel_rfl
theorem O27 : oneT Try.prog 27 = true := by kernel_rfl
theorem S27 : slEl Try.prog 27 = some (47, 3) := by kernel_rfl
theorem K27 : sizeT Try.prog 27 = some 1 := by kernel_rfl
theorem Z27 : zeroT Try.prog 27 = some [.slice none 0 0] := by kernel_rfl
theorem I27 : ifaceT Try.prog 27 = false := by kernel_rfl
theorem U27 : Try.prog.underlying 27 = some (.slice 47) := by kernel_rfl
theorem F28_0 : fOff Try.prog 28 0 = some 0 := by kernel_rfl
theorem F28_1 : fOff Try.prog 28 1 = some 3 := by kernel_rfl
theorem F28_2 : fOff Try.prog 28 2 = some 4 := by kernel_rfl
theorem F28_3 : fOff Try.prog 28 3 = some 5 := by kernel_rfl
theorem F28_4 : fOff Try.prog 28 4 = some 7 := by kernel_rfl
theorem A28 : aggT Try.prog 28 = some 8 := by kernel_rfl
theorem K28 : sizeT Try.prog 28 = some 8 := by kernel_rfl
theorem Z28 : zeroT Try.prog 28 = some [.slice none 0 0, .int .i64 0, .int .i64 0, .int .i64 0, .int .i64 0, .int .i64 0, .int .i64 0, .slice none 0 0] := by kernel_rfl
theorem I28 : ifaceT Try.prog 28 = false := by kernel_rfl
theorem F29_0 : fOff Try.prog 29 0 = some 0 := by kernel_rfl
theorem F29_1 : fOff Try.prog 29 1 = some 3 := by kernel_rfl
theorem F29_2 : fOff Try.prog 29 2 = some 4 := by kernel_rfl
theorem F29_3 : fOff Try.prog 29 3 = some 5 := by kernel_rfl
theorem F29_4 : fOff Try.prog 29 4 = some 7 := by kernel_rfl
theorem A29 : aggT Try.prog 29 = some 8 := by kernel_rfl
theorem K29 : sizeT Try.prog 29 = some 8 := by kernel_rfl
theorem Z29 : zeroT Try.prog 29 = some [.slice none 0 0, .int .i64 0, .int .i64 0, .int .i64 0, .int .i64 0, .int .i64 0, .int .i64 0, .slice none 0 0] := by kernel_rfl
theorem I29 : ifaceT Try.prog 29 = false := by kernel_rfl
theorem O32 : oneT Try.prog 32 = true := by kernel_rfl
theorem K32 : sizeT Try.prog 32 = some 1 := by kernel_rfl
theorem Z32 : zeroT Try.prog 32 = some [.int .i64 0] := by kernel_rfl
theorem I32 : ifaceT Try.prog 32 = false := by kernel_rfl
theorem U32 : Try.prog.underlying 32 = some (.int .i64) := by kernel_rfl
theorem O40 : oneT Try.prog 40 = true := by kernel_rfl
theorem S40 : slEl Try.prog 40 = some (54, 1) := by kernel_rfl
theorem K40 : sizeT Try.prog 40 = some 1 := by kernel_rfl
theorem Z40 : zeroT Try.prog 40 = some [.slice none 0 0] := by kernel_rfl
theorem I40 : ifaceT Try.prog 40 = false := by kernel_rfl
theorem U40 : Try.prog.underlying 40 = some (.slice 54) := by kernel_rfl
theorem O41 : oneT Try.prog 41 = true := by kernel_rfl
theorem S41 : slEl Try.prog 41 = some (3, 1) := by kernel_rfl
theorem K41 : sizeT Try.prog 41 = some 1 := by kernel_rfl
theorem Z41 : zeroT Try.prog 41 = some [.slice none 0 0] := by kernel_rfl
theorem I41 : ifaceT Try.prog 41 = false := by kernel_rfl
theorem U41 : Try.prog.underlying 41 = some (.slice 3) := by kernel_rfl
theorem O44 : oneT Try.prog 44 = true := by kernel_rfl
theorem K44 : sizeT Try.prog 44 = some 1 := by kernel_rfl
theorem Z44 : zeroT Try.prog 44 = some [.nilFunc] := by kernel_rfl
theorem I44 : ifaceT Try.prog 44 = false := by kernel_rfl
theorem F46_0 : fOff Try.prog 46 0 = some 0 := by kernel_rfl
theorem F46_1 : fOff Try.prog 46 1 = some 1 := by kernel_rfl
theorem F46_2 : fOff Try.prog 46 2 = some 2 := by kernel_rfl
theorem A46 : aggT Try.prog 46 = some 3 := by kernel_rfl
theorem K46 : sizeT Try.prog 46 = some 3 := by kernel_rfl
theorem Z46 : zeroT Try.prog 46 = some [.int .i64 0, .int .i64 0, .int .i64 0] := by kernel_rfl
theorem I46 : ifaceT Try.prog 46 = false := by kernel_rfl
theorem F47_0 : fOff Try.prog 47 0 = some 0 := by kernel_rfl
theorem F47_1 : fOff Try.prog 47 1 = some 1 := by kernel_rfl
theorem F47_2 : fOff Try.prog 47 2 = some 2 := by kernel_rfl
theorem A47 : aggT Try.prog 47 = some 3 := by kernel_rfl
theorem K47 : sizeT Try.prog 47 = some 3 := by kernel_rfl
theorem Z47 : zeroT Try.prog 47 = some [.int .i64 0, .int .i64 0, .int .i64 0] := by kernel_rfl
theorem I47 : ifaceT Try.prog 47 = false := by kernel_rfl
theorem O51 : oneT Try.prog 51 = true := by kernel_rfl
theorem S51 : slEl Try.prog 51 = some (32, 1) := by kernel_rfl
theorem K51 : sizeT Try.prog 51 = some 1 := by kernel_rfl
theorem Z51 : zeroT Try.prog 51 = some [.slice none 0 0] := by kernel_rfl
theorem I51 : ifaceT Try.prog 51 = false := by kernel_rfl
theorem U51 : Try.prog.underlying 51 = some (.slice 32) := by kernel_rfl
theorem O54 : oneT Try.prog 54 = true := by kernel_rfl
theorem K54 : sizeT Try.prog 54 = some 1 := by kernel_rfl
theorem Z54 : zeroT Try.prog 54 = some [.int .u16 0] := by kernel_rfl
theorem I54 : ifaceT Try.prog 54 = false := by kernel_rfl
theorem U54 : Try.prog.underlying 54 = some (.int .u16) := by kernel_rfl
theorem O60 : oneT Try.prog 60 = true := by kernel_rfl
theorem S60 : slEl Try.prog 60 = some (29, 8) := by kernel_rfl
theorem K60 : sizeT Try.prog 60 = some 1 := by kernel_rfl
theorem Z60 : zeroT Try.prog 60 = some [.slice none 0 0] := by kernel_rfl
theorem I60 : ifaceT Try.prog 60 = false := by kernel_rfl
theorem U60 : Try.prog.underlying 60 = some (.slice 29) := by kernel_rfl
theorem O63 : oneT Try.prog 63 = true := by kernel_rfl
theorem S63 : slEl Try.prog 63 = some (67, 3) := by kernel_rfl
theorem K63 : sizeT Try.prog 63 = some 1 := by kernel_rfl
theorem Z63 : zeroT Try.prog 63 = some [.slice none 0 0] := by kernel_rfl
theorem I63 : ifaceT Try.prog 63 = false := by kernel_rfl
theorem U63 : Try.prog.underlying 63 = some (.slice 67) := by kernel_rfl
theorem F64_0 : fOff Try.prog 64 0 = some 0 := by kernel_rfl
theorem F64_1 : fOff Try.prog 64 1 = some 3 := by kernel_rfl
theorem F64_2 : fOff Try.prog 64 2 = some 4 := by kernel_rfl
theorem F64_3 : fOff Try.prog 64 3 = some 6 := by kernel_rfl
theorem A64 : aggT Try.prog 64 = some 7 := by kernel_rfl
theorem K64 : sizeT Try.prog 64 = some 7 := by kernel_rfl
theorem Z64 : zeroT Try.prog 64 = some [.slice none 0 0, .int .i64 0, .int .i64 0, .int .i64 0, .int .i64 0, .int .i64 0, .slice none 0 0] := by kernel_rfl
theorem I64 : ifaceT Try.prog 64 = false := by kernel_rfl
theorem F65_0 : fOff Try.prog 65 0 = some 0 := by kernel_rfl
theorem F65_1 : fOff Try.prog 65 1 = some 3 := by kernel_rfl
theorem F65_2 : fOff Try.prog 65 2 = some 4 := by kernel_rfl
theorem F65_3 : fOff Try.prog 65 3 = some 6 := by kernel_rfl
theorem A65 : aggT Try.prog 65 = some 7 := by kernel_rfl
theorem K65 : sizeT Try.prog 65 = some 7 := by kernel_rfl
theorem Z65 : zeroT Try.prog 65 = some [.slice none 0 0, .int .i64 0, .int .i64 0, .int .i64 0, .int .i64 0, .int .i64 0, .slice none 0 0] := by kernel_rfl
theorem I65 : ifaceT Try.prog 65 = false := by kernel_rfl
theorem F66_0 : fOff Try.prog 66 0 = some 0 := by kernel_rfl
theorem F66_1 : fOff Try.prog 66 1 = some 1 := by kernel_rfl
theorem F66_2 : fOff Try.prog 66 2 = some 2 := by kernel_rfl
theorem A66 : aggT Try.prog 66 = some 3 := by kernel_rfl
theorem K66 : sizeT Try.prog 66 = some 3 := by kernel_rfl
theorem Z66 : zeroT Try.prog 66 = some [.int .i64 0, .int .i64 0, .bool false] := by kernel_rfl
theorem I66 : ifaceT Try.prog 66 = false := by kernel_rfl
theorem F67_0 : fOff Try.prog 67 0 = some 0 := by kernel_rfl
theorem F67_1 : fOff Try.prog 67 1 = some 1 := by kernel_rfl
theorem F67_2 : fOff Try.prog 67 2 = some 2 := by kernel_rfl
theorem A67 : aggT Try.prog 67 = some 3 := by kernel_rfl
theorem K67 : sizeT Try.prog 67 = some 3 := by kernel_rfl
theorem Z67 : zeroT Try.prog 67 = some [.int .i64 0, .int .i64 0, .bool false] := by kernel_rfl
theorem I67 : ifaceT Try.prog 67 = false := by kernel_rfl
theorem O72 : oneT Try.prog 72 = true := by kernel_rfl
theorem K72 : sizeT Try.prog 72 = some 1 := by kernel_rfl
theorem Z72 : zeroT Try.prog 72 = some [.pointer none] := by kernel_rfl
theorem I72 : ifaceT Try.prog 72 = false := by kernel_rfl
theorem O73 : oneT Try.prog 73 = true := by kernel_rfl
theorem K73 : sizeT Try.prog 73 = some 1 := by kernel_rfl
theorem Z73 : zeroT Try.prog 73 = some [.pointer none] := by kernel_rfl
theorem I73 : ifaceT Try.prog 73 = false := by kernel_rfl
theorem F77_0 : fOff Try.prog 77 0 = some 0 := by kernel_rfl
theorem F77_1 : fOff Try.prog 77 1 = some 8 := by kernel_rfl
theorem A77 : aggT Try.prog 77 = some 9 := by kernel_rfl
theorem K77 : sizeT Try.prog 77 = some 9 := by kernel_rfl
theorem Z77 : zeroT Try.prog 77 = some [.slice none 0 0, .int .i64 0, .int .i64 0, .int .i64 0, .int .i64 0, .int .i64 0, .int .i64 0, .slice none 0 0, .slice none 0 0] := by kernel_rfl
theorem I77 : ifaceT Try.prog 77 = false := by kernel_rfl
theorem F78_0 : fOff Try.prog 78 0 = some 0 := by kernel_rfl
theorem F78_1 : fOff Try.prog 78 1 = some 8 := by kernel_rfl
theorem A78 : aggT Try.prog 78 = some 9 := by kernel_rfl
theorem K78 : sizeT Try.prog 78 = some 9 := by kernel_rfl
theorem Z78 : zeroT Try.prog 78 = some [.slice none 0 0, .int .i64 0, .int .i64 0, .int .i64 0, .int .i64 0, .int .i64 0, .int .i64 0, .slice none 0 0, .slice none 0 0] := by kernel_rfl
theorem I78 : ifaceT Try.prog 78 = false := by kernel_rfl
theorem A81 : aggT Try.prog 81 = some 0 := by kernel_rfl
theorem K81 : sizeT Try.prog 81 = some 0 := by kernel_rfl
theorem Z81 : zeroT Try.prog 81 = some [] := by kernel_rfl
theorem I81 : ifaceT Try.prog 81 = false := by kernel_rfl
theorem A82 : aggT Try.prog 82 = some 0 := by kernel_rfl
theorem K82 : sizeT Try.prog 82 = some 0 := by kernel_rfl
theorem Z82 : zeroT Try.prog 82 = some [] := by kernel_rfl
theorem I82 : ifaceT Try.prog 82 = false := by kernel_rfl
theorem F83_0 : fOff Try.prog 83 0 = some 0 := by kernel_rfl
theorem A83 : aggT Try.prog 83 = some 1 := by kernel_rfl
theorem K83 : sizeT Try.prog 83 = some 1 := by kernel_rfl
theorem Z83 : zeroT Try.prog 83 = some [.int .i64 0] := by kernel_rfl
theorem I83 : ifaceT Try.prog 83 = false := by kernel_rfl
theorem F84_0 : fOff Try.prog 84 0 = some 0 := by kernel_rfl
theorem A84 : aggT Try.prog 84 = some 1 := by kernel_rfl
theorem K84 : sizeT Try.prog 84 = some 1 := by kernel_rfl
theorem Z84 : zeroT Try.prog 84 = some [.int .i64 0] := by kernel_rfl
theorem I84 : ifaceT Try.prog 84 = false := by kernel_rfl
theorem O85 : oneT Try.prog 85 = true := by kernel_rfl
theorem S85 : slEl Try.prog 85 = some (41, 1) := by kernel_rfl
theorem K85 : sizeT Try.prog 85 = some 1 := by kernel_rfl
theorem Z85 : zeroT Try.prog 85 = some [.slice none 0 0] := by kernel_rfl
theorem I85 : ifaceT Try.prog 85 = false := by kernel_rfl
theorem U85 : Try.prog.underlying 85 = some (.slice 41) := by kernel_rfl
theorem O86 : oneT Try.prog 86 = true := by kernel_rfl
theorem S86 : slEl Try.prog 86 = some (41, 1) := by kernel_rfl
theorem K86 : sizeT Try.prog 86 = some 1 := by kernel_rfl
theorem Z86 : zeroT Try.prog 86 = some [.slice none 0 0] := by kernel_rfl
theorem I86 : ifaceT Try.prog 86 = false := by kernel_rfl
theorem U86 : Try.prog.underlying 86 = some (.slice 41) := by kernel_rfl
theorem F89_0 : fOff Try.prog 89 0 = some 0 := by kernel_rfl
theorem A89 : aggT Try.prog 89 = some 1 := by kernel_rfl
theorem K89 : sizeT Try.prog 89 = some 1 := by kernel_rfl
theorem Z89 : zeroT Try.prog 89 = some [.int .i64 0] := by kernel_rfl
theorem I89 : ifaceT Try.prog 89 = false := by kernel_rfl
theorem F90_0 : fOff Try.prog 90 0 = some 0 := by kernel_rfl
theorem A90 : aggT Try.prog 90 = some 1 := by kernel_rfl
theorem K90 : sizeT Try.prog 90 = some 1 := by kernel_rfl
theorem Z90 : zeroT Try.prog 90 = some [.int .i64 0] := by kernel_rfl
theorem I90 : ifaceT Try.prog 90 = false := by kernel_rfl
theorem O91 : oneT Try.prog 91 = true := by kernel_rfl
theorem K91 : sizeT Try.prog 91 = some 1 := by kernel_rfl
theorem Z91 : zeroT Try.prog 91 = some [.int .u64 0] := by kernel_rfl
theorem I91 : ifaceT Try.prog 91 = false := by kernel_rfl
theorem U91 : Try.prog.underlying 91 = some (.int .u64) := by kernel_rfl
theorem O92 : oneT Try.prog 92 = true := by kernel_rfl
theorem K92 : sizeT Try.prog 92 = some 1 := by kernel_rfl
theorem Z92 : zeroT Try.prog 92 = some [.int .u64 0] := by kernel_rfl
theorem I92 : ifaceT Try.prog 92 = false := by kernel_rfl
theorem U92 : Try.prog.underlying 92 = some (.int .u64) := by kernel_rfl
theorem O94 : oneT Try.prog 94 = true := by kernel_rfl
theorem K94 : sizeT Try.prog 94 = some 1 := by kernel_rfl
theorem Z94 : zeroT Try.prog 94 = some [.nilFunc] := by kernel_rfl
theorem I94 : ifaceT Try.prog 94 = false := by kernel_rfl
theorem O97 : oneT Try.prog 97 = true := by kernel_rfl
theorem K97 : sizeT Try.prog 97 = some 1 := by kernel_rfl
theorem Z97 : zeroT Try.prog 97 = some [.nilFunc] := by kernel_rfl
theorem I97 : ifaceT Try.prog 97 = false := by kernel_rfl
theorem O98 : oneT Try.prog 98 = true := by kernel_rfl
theorem K98 : sizeT Try.prog 98 = some 1 := by kernel_rfl
theorem Z98 : zeroT Try.prog 98 = some [.nilFunc] := by kernel_rfl
theorem I98 : ifaceT Try.prog 98 = false := by kernel_rfl
theorem O100 : oneT Try.prog 100 = true := by kernel_rfl
theorem K100 : sizeT Try.prog 100 = some 1 := by kernel_rfl
theorem Z100 : zeroT Try.prog 100 = some [.nilFunc] := by kernel_rfl
theorem I100 : ifaceT Try.prog 100 = false := by kernel_rfl
theorem F107_0 : fOff Try.prog 107 0 = some 0 := by kernel_rfl
theorem F107_1 : fOff Try.prog 107 1 = some 1 := by kernel_rfl
theorem A107 : aggT Try.prog 107 = some 2 := by kernel_rfl
theorem K107 : sizeT Try.prog 107 = some 2 := by kernel_rfl
theorem Z107 : zeroT Try.prog 107 = some [.int .i64 0, .int .i64 0] := by kernel_rfl
theorem I107 : ifaceT Try.prog 107 = false := by kernel_rfl
theorem F108_0 : fOff Try.prog 108 0 = some 0 := by kernel_rfl
theorem F108_1 : fOff Try.prog 108 1 = some 1 := by kernel_rfl
theorem A108 : aggT Try.prog 108 = some 2 := by kernel_rfl
theorem K108 : sizeT Try.prog 108 = some 2 := by kernel_rfl
theorem Z108 : zeroT Try.prog 108 = some [.int .i64 0, .int .i64 0] := by kernel_rfl
theorem I108 : ifaceT Try.prog 108 = false := by kernel_rfl
theorem O111 : oneT Try.prog 111 = true := by kernel_rfl
theorem K111 : sizeT Try.prog 111 = some 1 := by kernel_rfl
theorem Z111 : zeroT Try.prog 111 = some [.pointer none] := by kernel_rfl
theorem I111 : ifaceT Try.prog 111 = false := by kernel_rfl
theorem O113 : oneT Try.prog 113 = true := by kernel_rfl
theorem K113 : sizeT Try.prog 113 = some 1 := by kernel_rfl
theorem Z113 : zeroT Try.prog 113 = some [.nilFunc] := by kernel_rfl
theorem I113 : ifaceT Try.prog 113 = false := by kernel_rfl
theorem A114 : aggT Try.prog 114 = some 8 := by kernel_rfl
theorem R114 : arEl Try.prog 114 = some (8, 1) := by kernel_rfl
theorem K114 : sizeT Try.prog 114 = some 8 := by kernel_rfl
theorem Z114 : zeroT Try.prog 114 = some [.int .i64 0, .int .i64 0, .int .i64 0, .int .i64 0, .int .i64 0, .int .i64 0, .int .i64 0, .int .i64 0] := by kernel_rfl
theorem I114 : ifaceT Try.prog 114 = false := by kernel_rfl
theorem A115 : aggT Try.prog 115 = some 64 := by kernel_rfl
theorem R115 : arEl Try.prog 115 = some (8, 8) := by kernel_rfl
theorem K115 : sizeT Try.prog 115 = some 64 := by kernel_rfl
theorem Z115 : zeroT Try.prog 115 = some [.int .i64 0, .int .i64 0, .int .i64 0, .int .i64 0, .int .i64 0, .int .i64 0, .int .i64 0, .int .i64 0, .int .i64 0, .int .i64 0, .int .i64 0, .int .i64 0, .int .i64 0, .int .i64 0, .int .i64 0, .int .i64 0, .int .i64 0, .int .i64 0, .int .i64 0, .int .i64 0, .int .i64 0, .int .i64 0, .int .i64 0, .int .i64 0, .int .i64 0, .int .i64 0, .int .i64 0, .int .i64 0, .int .i64 0, .int .i64 0, .int .i64 0, .int .i64 0, .int .i64 0, .int .i64 0, .int .i64 0, .int .i64 0, .int .i64 0, .int .i64 0, .int .i64 0, .int .i64 0, .int .i64 0, .int .i64 0, .int .i64 0, .int .i64 0, .int .i64 0, .int .i64 0, .int .i64 0, .int .i64 0, .int .i64 0, .int .i64 0, .int .i64 0, .int .i64 0, .int .i64 0, .int .i64 0, .int .i64 0, .int .i64 0, .int .i64 0, .int .i64 0, .int .i64 0, .int .i64 0, .int .i64 0, .int .i64 0, .int .i64 0, .int .i64 0] := by kernel_rfl
theorem I115 : ifaceT Try.prog 115 = false := by kernel_rfl
theorem A116 : aggT Try.prog 116 = some 64 := by kernel_rfl
theorem R116 : arEl Try.prog 116 = some (8, 8) := by kernel_rfl
theorem K116 : sizeT Try.prog 116 = some 64 := by kernel_rfl
theorem Z116 : zeroT Try.prog 116 = some [.int .i64 0, .int .i64 0, .int .i64 0, .int .i64 0, .int .i64 0, .int .i64 0, .int .i64 0, .int .i64 0, .int .i64 0, .int .i64 0, .int .i64 0, .int .i64 0, .int .i64 0, .int .i64 0, .int .i64 0, .int .i64 0, .int .i64 0, .int .i64 0, .int .i64 0, .int .i64 0, .int .i64 0, .int .i64 0, .int .i64 0, .int .i64 0, .int .i64 0, .int .i64 0, .int .i64 0, .int .i64 0, .int .i64 0, .int .i64 0, .int .i64 0, .int .i64 0, .int .i64 0, .int .i64 0, .int .i64 0, .int .i64 0, .int .i64 0, .int .i64 0, .int .i64 0, .int .i64 0, .int .i64 0, .int .i64 0, .int .i64 0, .int .i64 0, .int .i64 0, .int .i64 0, .int .i64 0, .int .i64 0, .int .i64 0, .int .i64 0, .int .i64 0, .int .i64 0, .int .i64 0, .int .i64 0, .int .i64 0, .int .i64 0, .int .i64 0, .int .i64 0, .int .i64 0, .int .i64 0, .int .i64 0, .int .i64 0, .int .i64 0, .int .i64 0] := by kernel_rfl
theorem I116 : ifaceT Try.prog 116 = false := by kernel_rfl
theorem O118 : oneT Try.prog 118 = true := by kernel_rfl
theorem K118 : sizeT Try.prog 118 = some 1 := by kernel_rfl
theorem Z118 : zeroT Try.prog 118 = some [.int .u64 0] := by kernel_rfl
theorem I118 : ifaceT Try.prog 118 = false := by kernel_rfl
theorem U118 : Try.prog.underlying 118 = some (.int .u64) := by kernel_rfl
theorem O120 : oneT Try.prog 120 = true := by kernel_rfl
theorem K120 : sizeT Try.prog 120 = some 1 := by kernel_rfl
theorem Z120 : zeroT Try.prog 120 = some [.nilFunc] := by kernel_rfl
theorem I120 : ifaceT Try.prog 120 = false := by kernel_rfl
theorem O121 : oneT Try.prog 121 = true := by kernel_rfl
theorem K121 : sizeT Try.prog 121 = some 1 := by kernel_rfl
theorem Z121 : zeroT Try.prog 121 = some [.nilFunc] := by kernel_rfl
theorem I121 : ifaceT Try.prog 121 = false := by kernel_rfl
theorem F126_0 : fOff Try.prog 126 0 = some 0 := by kernel_rfl
theorem A126 : aggT Try.prog 126 = some 1 := by kernel_rfl
theorem K126 : sizeT Try.prog 126 = some 1 := by kernel_rfl
theorem Z126 : zeroT Try.prog 126 = some [.int .i64 0] := by kernel_rfl
theorem I126 : ifaceT Try.prog 126 = false := by kernel_rfl
theorem F127_0 : fOff Try.prog 127 0 = some 0 := by kernel_rfl
theorem A127 : aggT Try.prog 127 = some 1 := by kernel_rfl
theorem K127 : sizeT Try.prog 127 = some 1 := by kernel_rfl
theorem Z127 : zeroT Try.prog 127 = some [.int .i64 0] := by kernel_rfl
theorem I127 : ifaceT Try.prog 127 = false := by kernel_rfl
theorem O128 : oneT Try.prog 128 = true := by kernel_rfl
theorem K128 : sizeT Try.prog 128 = some 1 := by kernel_rfl
theorem Z128 : zeroT Try.prog 128 = some [.nilIface] := by kernel_rfl
theorem I128 : ifaceT Try.prog 128 = true := by kernel_rfl
theorem J128 : isIf Try.prog 128 = true := by kernel_rfl
theorem O129 : oneT Try.prog 129 = true := by kernel_rfl
theorem K129 : sizeT Try.prog 129 = some 1 := by kernel_rfl
theorem Z129 : zeroT Try.prog 129 = some [.nilIface] := by kernel_rfl
theorem I129 : ifaceT Try.prog 129 = true := by kernel_rfl
theorem J129 : isIf Try.prog 129 = true := by kernel_rfl
theorem O130 : oneT Try.prog 130 = true := by kernel_rfl
theorem S130 : slEl Try.prog 130 = some (163, 3) := by kernel_rfl
theorem K130 : sizeT Try.prog 130 = some 1 := by kernel_rfl
theorem Z130 : zeroT Try.prog 130 = some [.slice none 0 0] := by kernel_rfl
theorem I130 : ifaceT Try.prog 130 = false := by kernel_rfl
theorem U130 : Try.prog.underlying 130 = some (.slice 163) := by kernel_rfl
theorem O132 : oneT Try.prog 132 = true := by kernel_rfl
theorem K132 : sizeT Try.prog 132 = some 1 := by kernel_rfl
theorem Z132 : zeroT Try.prog 132 = some [.map none] := by kernel_rfl
theorem I132 : ifaceT Try.prog 132 = false := by kernel_rfl
theorem MP132 : mapT Try.prog 132 = some (.i64, 3) := by kernel_rfl
theorem U132 : Try.prog.underlying 132 = some (.map 3 3) := by kernel_rfl
theorem O140 : oneT Try.prog 140 = true := by kernel_rfl
theorem K140 : sizeT Try.prog 140 = some 1 := by kernel_rfl
theorem Z140 : zeroT Try.prog 140 = some [.nilFunc] := by kernel_rfl
theorem I140 : ifaceT Try.prog 140 = false := by kernel_rfl
theorem F144_0 : fOff Try.prog 144 0 = some 0 := by kernel_rfl
theorem A144 : aggT Try.prog 144 = some 1 := by kernel_rfl
theorem K144 : sizeT Try.prog 144 = some 1 := by kernel_rfl
theorem Z144 : zeroT Try.prog 144 = some [.int .i64 0] := by kernel_rfl
theorem I144 : ifaceT Try.prog 144 = false := by kernel_rfl
theorem F145_0 : fOff Try.prog 145 0 = some 0 := by kernel_rfl
theorem A145 : aggT Try.prog 145 = some 1 := by kernel_rfl
theorem K145 : sizeT Try.prog 145 = some 1 := by kernel_rfl
theorem Z145 : zeroT Try.prog 145 = some [.int .i64 0] := by kernel_rfl
theorem I145 : ifaceT Try.prog 145 = false := by kernel_rfl
theorem O148 : oneT Try.prog 148 = true := by kernel_rfl
theorem S148 : slEl Try.prog 148 = some (157, 1) := by kernel_rfl
theorem K148 : sizeT Try.prog 148 = some 1 := by kernel_rfl
theorem Z148 : zeroT Try.prog 148 = some [.slice none 0 0] := by kernel_rfl
theorem I148 : ifaceT Try.prog 148 = false := by kernel_rfl
theorem U148 : Try.prog.underlying 148 = some (.slice 157) := by kernel_rfl
theorem F149_0 : fOff Try.prog 149 0 = some 0 := by kernel_rfl
theorem F149_1 : fOff Try.prog 149 1 = some 7 := by kernel_rfl
theorem A149 : aggT Try.prog 149 = some 8 := by kernel_rfl
theorem K149 : sizeT Try.prog 149 = some 8 := by kernel_rfl
theorem Z149 : zeroT Try.prog 149 = some [.slice none 0 0, .int .i64 0, .int .i64 0, .int .i64 0, .int .i64 0, .int .i64 0, .slice none 0 0, .slice none 0 0] := by kernel_rfl
theorem I149 : ifaceT Try.prog 149 = false := by kernel_rfl
theorem F150_0 : fOff Try.prog 150 0 = some 0 := by kernel_rfl
theorem F150_1 : fOff Try.prog 150 1 = some 7 := by kernel_rfl
theorem A150 : aggT Try.prog 150 = some 8 := by kernel_rfl
theorem K150 : sizeT Try.prog 150 = some 8 := by kernel_rfl
theorem Z150 : zeroT Try.prog 150 = some [.slice none 0 0, .int .i64 0, .int .i64 0, .int .i64 0, .int .i64 0, .int .i64 0, .slice none 0 0, .slice none 0 0] := by kernel_rfl
theorem I150 : ifaceT Try.prog 150 = false := by kernel_rfl
theorem F151_0 : fOff Try.prog 151 0 = some 0 := by kernel_rfl
theorem F151_1 : fOff Try.prog 151 1 = some 1 := by kernel_rfl
theorem A151 : aggT Try.prog 151 = some 3 := by kernel_rfl
theorem K151 : sizeT Try.prog 151 = some 3 := by kernel_rfl
theorem Z151 : zeroT Try.prog 151 = some [.int .i64 0, .int .i64 0, .int .i64 0] := by kernel_rfl
theorem I151 : ifaceT Try.prog 151 = false := by kernel_rfl
theorem F152_0 : fOff Try.prog 152 0 = some 0 := by kernel_rfl
theorem F152_1 : fOff Try.prog 152 1 = some 1 := by kernel_rfl
theorem A152 : aggT Try.prog 152 = some 3 := by kernel_rfl
theorem K152 : sizeT Try.prog 152 = some 3 := by kernel_rfl
theorem Z152 : zeroT Try.prog 152 = some [.int .i64 0, .int .i64 0, .int .i64 0] := by kernel_rfl
theorem I152 : ifaceT Try.prog 152 = false := by kernel_rfl
theorem F153_0 : fOff Try.prog 153 0 = some 0 := by kernel_rfl
theorem F153_1 : fOff Try.prog 153 1 = some 1 := by kernel_rfl
theorem A153 : aggT Try.prog 153 = some 3 := by kernel_rfl
theorem K153 : sizeT Try.prog 153 = some 3 := by kernel_rfl
theorem Z153 : zeroT Try.prog 153 = some [.int .i64 0, .int .i64 0, .int .i64 0] := by kernel_rfl
theorem I153 : ifaceT Try.prog 153 = false := by kernel_rfl
theorem O156 : oneT Try.prog 156 = true := by kernel_rfl
theorem K156 : sizeT Try.prog 156 = some 1 := by kernel_rfl
theorem Z156 : zeroT Try.prog 156 = some [.nilIface] := by kernel_rfl
theorem I156 : ifaceT Try.prog 156 = true := by kernel_rfl
theorem J156 : isIf Try.prog 156 = true := by kernel_rfl
theorem O157 : oneT Try.prog 157 = true := by kernel_rfl
theorem K157 : sizeT Try.prog 157 = some 1 := by kernel_rfl
theorem Z157 : zeroT Try.prog 157 = some [.nilIface] := by kernel_rfl
theorem I157 : ifaceT Try.prog 157 = true := by kernel_rfl
theorem J157 : isIf Try.prog 157 = true := by kernel_rfl
theorem O159 : oneT Try.prog 159 = true := by kernel_rfl
theorem K159 : sizeT Try.prog 159 = some 1 := by kernel_rfl
theorem Z159 : zeroT Try.prog 159 = some [.pointer none] := by kernel_rfl
theorem I159 : ifaceT Try.prog 159 = false := by kernel_rfl
theorem O160 : oneT Try.prog 160 = true := by kernel_rfl
theorem K160 : sizeT Try.prog 160 = some 1 := by kernel_rfl
theorem Z160 : zeroT Try.prog 160 = some [.nilFunc] := by kernel_rfl
theorem I160 : ifaceT Try.prog 160 = false := by kernel_rfl
theorem F162_0 : fOff Try.prog 162 0 = some 0 := by kernel_rfl
theorem F162_1 : fOff Try.prog 162 1 = some 1 := by kernel_rfl
theorem F162_2 : fOff Try.prog 162 2 = some 2 := by kernel_rfl
theorem A162 : aggT Try.prog 162 = some 3 := by kernel_rfl
theorem K162 : sizeT Try.prog 162 = some 3 := by kernel_rfl
theorem Z162 : zeroT Try.prog 162 = some [.int .i64 0, .int .i64 0, .int .i64 0] := by kernel_rfl
theorem I162 : ifaceT Try.prog 162 = false := by kernel_rfl
theorem F163_0 : fOff Try.prog 163 0 = some 0 := by kernel_rfl
theorem F163_1 : fOff Try.prog 163 1 = some 1 := by kernel_rfl
theorem F163_2 : fOff Try.prog 163 2 = some 2 := by kernel_rfl
theorem A163 : aggT Try.prog 163 = some 3 := by kernel_rfl
theorem K163 : sizeT Try.prog 163 = some 3 := by kernel_rfl
theorem Z163 : zeroT Try.prog 163 = some [.int .i64 0, .int .i64 0, .int .i64 0] := by kernel_rfl
theorem I163 : ifaceT Try.prog 163 = false := by kernel_rfl
theorem O168 : oneT Try.prog 168 = true := by kernel_rfl
theorem K168 : sizeT Try.prog 168 = some 1 := by kernel_rfl
theorem Z168 : zeroT Try.prog 168 = some [.nilFunc] := by kernel_rfl
theorem I168 : ifaceT Try.prog 168 = false := by kernel_rfl
theorem O172 : oneT Try.prog 172 = true := by kernel_rfl
theorem K172 : sizeT Try.prog 172 = some 1 := by kernel_rfl
theorem Z172 : zeroT Try.prog 172 = some [.int .u32 0] := by kernel_rfl
theorem I172 : ifaceT Try.prog 172 = false := by kernel_rfl
theorem U172 : Try.prog.underlying 172 = some (.int .u32) := by kernel_rfl
theorem O174 : oneT Try.prog 174 = true := by kernel_rfl
theorem K174 : sizeT Try.prog 174 = some 1 := by kernel_rfl
theorem Z174 : zeroT Try.prog 174 = some [.int .u64 0] := by kernel_rfl
theorem I174 : ifaceT Try.prog 174 = false := by kernel_rfl
theorem U174 : Try.prog.underlying 174 = some (.int .u64) := by kernel_rfl
theorem ZV3 (w : World) : (zeroValue 3).run Try.prog w = .ok (.int .i64 0) w := by kernel_rfl
theorem C3 : callT Try.prog 3 = true := by kernel_rfl
theorem C4 : callT Try.prog 4 = true := by kernel_rfl
theorem C5 : callT Try.prog 5 = true := by kernel_rfl
theorem C6 : callT Try.prog 6 = true := by kernel_rfl
theorem C7 : callT Try.prog 7 = true := by kernel_rfl
theorem C8 : callT Try.prog 8 = true := by kernel_rfl
theorem C9 : callT Try.prog 9 = true := by kernel_rfl
theorem C10 : callT Try.prog 10 = true := by kernel_rfl
theorem C11 : callT Try.prog 11 = true := by kernel_rfl
theorem C12 : callT Try.prog 12 = true := by kernel_rfl
theorem C13 : callT Try.prog 13 = true := by kernel_rfl
theorem C14 : callT Try.prog 14 = true := by kernel_rfl
theorem C15 : callT Try.prog 15 = true := by kernel_rfl
theorem C16 : callT Try.prog 16 = true := by kernel_rfl
theorem C17 : callT Try.prog 17 = true := by kernel_rfl
theorem C18 : callT Try.prog 18 = true := by kernel_rfl
theorem C19 : callT Try.prog 19 = true := by kernel_rfl
theorem C20 : callT Try.prog 20 = true := by kernel_rfl
theorem C21 : callT Try.prog 21 = true := by kernel_rfl
theorem C22 : callT Try.prog 22 = true := by kernel_rfl
theorem C23 : callT Try.prog 23 = true := by kernel_rfl
theorem C24 : callT Try.prog 24 = true := by kernel_rfl
theorem C25 : callT Try.prog 25 = true := by kernel_rfl
theorem C26 : callT Try.prog 26 = true := by kernel_rfl
theorem C27 : callT Try.prog 27 = true := by kernel_rfl
theorem C28 : callT Try.prog 28 = true := by kernel_rfl
theorem C29 : callT Try.prog 29 = true := by kernel_rfl
theorem C30 : callT Try.prog 30 = true := by kernel_rfl
theorem C31 : callT Try.prog 31 = true := by kernel_rfl
theorem C32 : callT Try.prog 32 = true := by kernel_rfl
theorem C33 : callT Try.prog 33 = true := by kernel_rfl
theorem C34 : callT Try.prog 34 = true := by kernel_rfl
theorem C35 : callT Try.prog 35 = true := by kernel_rfl
theorem C36 : callT Try.prog 36 = true := by kernel_rfl
theorem C37 : callT Try.prog 37 = true := by kernel_rfl
theorem C38 : callT Try.prog 38 = true := by kernel_rfl
theorem C39 : callT Try.prog 39 = true := by kernel_rfl
theorem C40 : callT Try.prog 40 = true := by kernel_rfl
theorem C41 : callT Try.prog 41 = true := by kernel_rfl
theorem C42 : callT Try.prog 42 = true := by kernel_rfl
theorem C43 : callT Try.prog 43 = true := by kernel_rfl
theorem C44 : callT Try.prog 44 = true := by kernel_rfl
theorem C45 : callT Try.prog 45 = true := by kernel_rfl
theorem C46 : callT Try.prog 46 = true := by kernel_rfl
theorem C47 : callT Try.prog 47 = true := by kernel_rfl
theorem C48 : callT Try.prog 48 = true := by kernel_rfl
theorem C49 : callT Try.prog 49 = true := by kernel_rfl
theorem C50 : callT Try.prog 50 = true := by kernel_rfl
theorem C51 : callT Try.prog 51 = true := by kernel_rfl
theorem C52 : callT Try.prog 52 = true := by kernel_rfl
theorem C53 : callT Try.prog 53 = true := by kernel_rfl
theorem C54 : callT Try.prog 54 = true := by kernel_rfl
theorem C55 : callT Try.prog 55 = true := by kernel_rfl
theorem C56 : callT Try.prog 56 = true := by kernel_rfl
theorem C57 : callT Try.prog 57 = true := by kernel_rfl
theorem C58 : callT Try.prog 58 = true := by kernel_rfl
theorem C59 : callT Try.prog 59 = true := by kernel_rfl
theorem C60 : callT Try.prog 60 = true := by kernel_rfl
theorem C61 : callT Try.prog 61 = true := by kernel_rfl
theorem C62 : callT Try.prog 62 = true := by kernel_rfl
theorem C63 : callT Try.prog 63 = true := by kernel_rfl
theorem C64 : callT Try.prog 64 = true := by kernel_rfl
theorem C65 : callT Try.prog 65 = true := by kernel_rfl
theorem C66 : callT Try.prog 66 = true := by kernel_rfl
theorem C67 : callT Try.prog 67 = true := by kernel_rfl
theorem C68 : callT Try.prog 68 = true := by kernel_rfl
theorem C69 : callT Try.prog 69 = true := by kernel_rfl
theorem C70 : callT Try.prog 70 = true := by kernel_rfl
theorem C71 : callT Try.prog 71 = true := by kernel_rfl
theorem C72 : callT Try.prog 72 = true := by kernel_rfl
theorem C73 : callT Try.prog 73 = true := by kernel_rfl
theorem C74 : callT Try.prog 74 = true := by kernel_rfl
theorem C75 : callT Try.prog 75 = true := by kernel_rfl
theorem C76 : callT Try.prog 76 = true := by kernel_rfl
theorem C77 : callT Try.prog 77 = true := by kernel_rfl
theorem C78 : callT Try.prog 78 = true := by kernel_rfl
theorem C79 : callT Try.prog 79 = true := by kernel_rfl
theorem C80 : callT Try.prog 80 = true := by kernel_rfl
theorem C81 : callT Try.prog 81 = true := by kernel_rfl
theorem C82 : callT Try.prog 82 = true := by kernel_rfl
theorem C83 : callT Try.prog 83 = true := by kernel_rfl
theorem C84 : callT Try.prog 84 = true := by kernel_rfl
theorem C85 : callT Try.prog 85 = true := by kernel_rfl
theorem C86 : callT Try.prog 86 = true := by kernel_rfl
theorem C87 : callT Try.prog 87 = true := by kernel_rfl
theorem C88 : callT Try.prog 88 = true := by kernel_rfl
theorem C89 : callT Try.prog 89 = true := by kernel_rfl
theorem C90 : callT Try.prog 90 = true := by kernel_rfl
theorem C91 : callT Try.prog 91 = true := by kernel_rfl
theorem C92 : callT Try.prog 92 = true := by kernel_rfl
theorem C93 : callT Try.prog 93 = true := by kernel_rfl
theorem C94 : callT Try.prog 94 = true := by kernel_rfl
theorem C95 : callT Try.prog 95 = true := by kernel_rfl
theorem C96 : callT Try.prog 96 = true := by kernel_rfl
theorem C97 : callT Try.prog 97 = true := by kernel_rfl
theorem C98 : callT Try.prog 98 = true := by kernel_rfl
theorem C99 : callT Try.prog 99 = true := by kernel_rfl
theorem C100 : callT Try.prog 100 = true := by kernel_rfl
theorem C101 : callT Try.prog 101 = true := by kernel_rfl
theorem C102 : callT Try.prog 102 = true := by kernel_rfl
theorem C103 : callT Try.prog 103 = true := by kernel_rfl
theorem C104 : callT Try.prog 104 = true := by kernel_rfl
theorem C105 : callT Try.prog 105 = true := by kernel_rfl
theorem C106 : callT Try.prog 106 = true := by kernel_rfl
theorem C107 : callT Try.prog 107 = true := by kernel_rfl
theorem C108 : callT Try.prog 108 = true := by kernel_rfl
theorem C109 : callT Try.prog 109 = true := by kernel_rfl
theorem C110 : callT Try.prog 110 = true := by kernel_rfl
theorem C111 : callT Try.prog 111 = true := by kernel_rfl
theorem C112 : callT Try.prog 112 = true := by kernel_rfl
theorem C113 : callT Try.prog 113 = true := by kernel_rfl
theorem C114 : callT Try.prog 114 = true := by kernel_rfl
theorem C115 : callT Try.prog 115 = true := by kernel_rfl
theorem C131 : callT Try.prog 131 = true := by kernel_rfl
theorem C132 : callT Try.prog 132 = true := by kernel_rfl
theorem C133 : callT Try.prog 133 = true := by kernel_rfl
theorem C135 : callT Try.prog 135 = true := by kernel_rfl
theorem C136 : callT Try.prog 136 = true := by kernel_rfl
theorem BS51_6_0_1_2_3_4_5 {p0 : Int} {p1 : Int} {p2 : Int} {p3 : Int} {p4 : Int} {p5 : Int} (w : World) : (Instr.buildSlice 51 6 [(0, .int .i64 p0), (1, .int .i64 p1), (2, .int .i64 p2), (3, .int .i64 p3), (4, .int .i64 p4), (5, .int .i64 p5)].toArray).run Try.prog w = .ok (.slice (some ⟨w.heap.size, 0, none⟩) 6 6) { w with heap := w.heap.push (blk [.int .i64 p0, .int .i64 p1, .int .i64 p2, .int .i64 p3, .int .i64 p4, .int .i64 p5] 32) } := by kernel_rfl
theorem B24_  (w : World) : (Instr.build 24 [].toArray).run Try.prog w = .ok (.agg [.int .i64 0, .int .i64 0].toArray) w := by kernel_rfl
theorem BS27_0_  (w : World) : (Instr.buildSlice 27 0 [].toArray).run Try.prog w = .ok (.slice (some ⟨w.heap.size, 0, none⟩) 0 0) { w with heap := w.heap.push (blk [] 47) } := by kernel_rfl
theorem BS27_1_0 {p00_ : Int} {p01_ : Int} {p02_ : Int} (w : World) : (Instr.buildSlice 27 1 [(0, .agg [.int .i64 p00_, .int .i64 p01_, .int .i64 p02_].toArray)].toArray).run Try.prog w = .ok (.slice (some ⟨w.heap.size, 0, none⟩) 1 1) { w with heap := w.heap.push (blk [.int .i64 p00_, .int .i64 p01_, .int .i64 p02_] 47) } := by kernel_rfl
theorem BS60_3_0_1_2 {p00_0_a : Option Addr} {p00_0_n : Nat} {p00_0_c : Nat} {p00_1_0_ : Int} {p00_1_1_ : Int} {p01_ : Int} {p02_ : Int} {p03_0_ : Int} {p03_1_ : Int} {p04_a : Option Addr} {p04_n : Nat} {p04_c : Nat} {p10_0_a : Option Addr} {p10_0_n : Nat} {p10_0_c : Nat} {p10_1_0_ : Int} {p10_1_1_ : Int} {p11_ : Int} {p12_ : Int} {p13_0_ : Int} {p13_1_ : Int} {p14_a : Option Addr} {p14_n : Nat} {p14_c : Nat} {p20_0_a : Option Addr} {p20_0_n : Nat} {p20_0_c : Nat} {p20_1_0_ : Int} {p20_1_1_ : Int} {p21_ : Int} {p22_ : Int} {p23_0_ : Int} {p23_1_ : Int} {p24_a : Option Addr} {p24_n : Nat} {p24_c : Nat} (w : World) : (Instr.buildSlice 60 3 [(0, .agg [.slice p00_0_a p00_0_n p00_0_c, .int .i64 p00_1_0_, .int .i64 p00_1_1_, .int .i64 p01_, .int .i64 p02_, .int .i64 p03_0_, .int .i64 p03_1_, .slice p04_a p04_n p04_c].toArray), (1, .agg [.slice p10_0_a p10_0_n p10_0_c, .int .i64 p10_1_0_, .int .i64 p10_1_1_, .int .i64 p11_, .int .i64 p12_, .int .i64 p13_0_, .int .i64 p13_1_, .slice p14_a p14_n p14_c].toArray), (2, .agg [.slice p20_0_a p20_0_n p20_0_c, .int .i64 p20_1_0_, .int .i64 p20_1_1_, .int .i64 p21_, .int .i64 p22_, .int .i64 p23_0_, .int .i64 p23_1_, .slice p24_a p24_n p24_c].toArray)].toArray).run Try.prog w = .ok (.slice (some ⟨w.heap.size, 0, none⟩) 3 3) { w with heap := w.heap.push (blk [.slice p00_0_a p00_0_n p00_0_c, .int .i64 p00_1_0_, .int .i64 p00_1_1_, .int .i64 p01_, .int .i64 p02_, .int .i64 p03_0_, .int .i64 p03_1_, .slice p04_a p04_n p04_c, .slice p10_0_a p10_0_n p10_0_c, .int .i64 p10_1_0_, .int .i64 p10_1_1_, .int .i64 p11_, .int .i64 p12_, .int .i64 p13_0_, .int .i64 p13_1_, .slice p14_a p14_n p14_c, .slice p20_0_a p20_0_n p20_0_c, .int .i64 p20_1_0_, .int .i64 p20_1_1_, .int .i64 p21_, .int .i64 p22_, .int .i64 p23_0_, .int .i64 p23_1_, .slice p24_a p24_n p24_c] 29) } := by kernel_rfl
theorem B47_0_1_2 {p0 : Int} {p1 : Int} {p2 : Int} (w : World) : (Instr.build 47 [(0, .int .i64 p0), (1, .int .i64 p1), (2, .int .i64 p2)].toArray).run Try.prog w = .ok (.agg [.int .i64 p0, .int .i64 p1, .int .i64 p2].toArray) w := by kernel_rfl
theorem B24_1 {p1 : Int} (w : World) : (Instr.build 24 [(1, .int .i64 p1)].toArray).run Try.prog w = .ok (.agg [.int .i64 0, .int .i64 p1].toArray) w := by kernel_rfl
theorem B65_0_1_2 {p00_a : Option Addr} {p00_n : Nat} {p00_c : Nat} {p01_0_ : Int} {p01_1_ : Int} {p1 : Int} {p20_ : Int} {p21_ : Int} (w : World) : (Instr.build 65 [(0, .agg [.slice p00_a p00_n p00_c, .int .i64 p01_0_, .int .i64 p01_1_].toArray), (1, .int .i64 p1), (2, .agg [.int .i64 p20_, .int .i64 p21_].toArray)].toArray).run Try.prog w = .ok (.agg [.slice p00_a p00_n p00_c, .int .i64 p01_0_, .int .i64 p01_1_, .int .i64 p1, .int .i64 p20_, .int .i64 p21_, .slice none 0 0].toArray) w := by kernel_rfl
theorem B67_0_1 {p0 : Int} {p1 : Int} (w : World) : (Instr.build 67 [(0, .int .i64 p0), (1, .int .i64 p1)].toArray).run Try.prog w = .ok (.agg [.int .i64 p0, .int .i64 p1, .bool false].toArray) w := by kernel_rfl
theorem BS63_1_0 {p00_ : Int} {p01_ : Int} {p02_ : Bool} (w : World) : (Instr.buildSlice 63 1 [(0, .agg [.int .i64 p00_, .int .i64 p01_, .bool p02_].toArray)].toArray).run Try.prog w = .ok (.slice (some ⟨w.heap.size, 0, none⟩) 1 1) { w with heap := w.heap.push (blk [.int .i64 p00_, .int .i64 p01_, .bool p02_] 67) } := by kernel_rfl
theorem B82_  (w : World) : (Instr.build 82 [].toArray).run Try.prog w = .ok (.agg [].toArray) w := by kernel_rfl
theorem B84_0 {p0 : Int} (w : World) : (Instr.build 84 [(0, .int .i64 p0)].toArray).run Try.prog w = .ok (.agg [.int .i64 p0].toArray) w := by kernel_rfl
theorem B24_0_1 {p0 : Int} {p1 : Int} (w : World) : (Instr.build 24 [(0, .int .i64 p0), (1, .int .i64 p1)].toArray).run Try.prog w = .ok (.agg [.int .i64 p0, .int .i64 p1].toArray) w := by kernel_rfl
theorem B90_0 {p0 : Int} (w : World) : (Instr.build 90 [(0, .int .i64 p0)].toArray).run Try.prog w = .ok (.agg [.int .i64 p0].toArray) w := by kernel_rfl
theorem BS22_1_0 {p00_ : Int} {p01_ : Int} (w : World) : (Instr.buildSlice 22 1 [(0, .agg [.int .i64 p00_, .int .i64 p01_].toArray)].toArray).run Try.prog w = .ok (.slice (some ⟨w.heap.size, 0, none⟩) 1 1) { w with heap := w.heap.push (blk [.int .i64 p00_, .int .i64 p01_] 24) } := by kernel_rfl
theorem BS41_1_0 {p0 : Int} (w : World) : (Instr.buildSlice 41 1 [(0, .int .i64 p0)].toArray).run Try.prog w = .ok (.slice (some ⟨w.heap.size, 0, none⟩) 1 1) { w with heap := w.heap.push (blk [.int .i64 p0] 3) } := by kernel_rfl
theorem B47_0_1 {p0 : Int} {p1 : Int} (w : World) : (Instr.build 47 [(0, .int .i64 p0), (1, .int .i64 p1)].toArray).run Try.prog w = .ok (.agg [.int .i64 p0, .int .i64 p1, .int .i64 0].toArray) w := by kernel_rfl
theorem BS22_4_0_1_2_3 {p00_ : Int} {p01_ : Int} {p10_ : Int} {p11_ : Int} {p20_ : Int} {p21_ : Int} {p30_ : Int} {p31_ : Int} (w : World) : (Instr.buildSlice 22 4 [(0, .agg [.int .i64 p00_, .int .i64 p01_].toArray), (1, .agg [.int .i64 p10_, .int .i64 p11_].toArray), (2, .agg [.int .i64 p20_, .int .i64 p21_].toArray), (3, .agg [.int .i64 p30_, .int .i64 p31_].toArray)].toArray).run Try.prog w = .ok (.slice (some ⟨w.heap.size, 0, none⟩) 4 4) { w with heap := w.heap.push (blk [.int .i64 p00_, .int .i64 p01_, .int .i64 p10_, .int .i64 p11_, .int .i64 p20_, .int .i64 p21_, .int .i64 p30_, .int .i64 p31_] 24) } := by kernel_rfl
theorem B26_0_1 {p0a : Option Addr} {p0n : Nat} {p0c : Nat} {p10_ : Int} {p11_ : Int} (w : World) : (Instr.build 26 [(0, .slice p0a p0n p0c), (1, .agg [.int .i64 p10_, .int .i64 p11_].toArray)].toArray).run Try.prog w = .ok (.agg [.slice p0a p0n p0c, .int .i64 p10_, .int .i64 p11_].toArray) w := by kernel_rfl
theorem BS27_5_0_1_2_3_4 {p00_ : Int} {p01_ : Int} {p02_ : Int} {p10_ : Int} {p11_ : Int} {p12_ : Int} {p20_ : Int} {p21_ : Int} {p22_ : Int} {p30_ : Int} {p31_ : Int} {p32_ : Int} {p40_ : Int} {p41_ : Int} {p42_ : Int} (w : World) : (Instr.buildSlice 27 5 [(0, .agg [.int .i64 p00_, .int .i64 p01_, .int .i64 p02_].toArray), (1, .agg [.int .i64 p10_, .int .i64 p11_, .int .i64 p12_].toArray), (2, .agg [.int .i64 p20_, .int .i64 p21_, .int .i64 p22_].toArray), (3, .agg [.int .i64 p30_, .int .i64 p31_, .int .i64 p32_].toArray), (4, .agg [.int .i64 p40_, .int .i64 p41_, .int .i64 p42_].toArray)].toArray).run Try.prog w = .ok (.slice (some ⟨w.heap.size, 0, none⟩) 5 5) { w with heap := w.heap.push (blk [.int .i64 p00_, .int .i64 p01_, .int .i64 p02_, .int .i64 p10_, .int .i64 p11_, .int .i64 p12_, .int .i64 p20_, .int .i64 p21_, .int .i64 p22_, .int .i64 p30_, .int .i64 p31_, .int .i64 p32_, .int .i64 p40_, .int .i64 p41_, .int .i64 p42_] 47) } := by kernel_rfl
theorem B29_0_1_2_3_4 {p00_a : Option Addr} {p00_n : Nat} {p00_c : Nat} {p01_0_ : Int} {p01_1_ : Int} {p1 : Int} {p2 : Int} {p30_ : Int} {p31_ : Int} {p4a : Option Addr} {p4n : Nat} {p4c : Nat} (w : World) : (Instr.build 29 [(0, .agg [.slice p00_a p00_n p00_c, .int .i64 p01_0_, .int .i64 p01_1_].toArray), (1, .int .i64 p1), (2, .int .i64 p2), (3, .agg [.int .i64 p30_, .int .i64 p31_].toArray), (4, .slice p4a p4n p4c)].toArray).run Try.prog w = .ok (.agg [.slice p00_a p00_n p00_c, .int .i64 p01_0_, .int .i64 p01_1_, .int .i64 p1, .int .i64 p2, .int .i64 p30_, .int .i64 p31_, .slice p4a p4n p4c].toArray) w := by kernel_rfl
theorem B78_0 {p00_0_a : Option Addr} {p00_0_n : Nat} {p00_0_c : Nat} {p00_1_0_ : Int} {p00_1_1_ : Int} {p01_ : Int} {p02_ : Int} {p03_0_ : Int} {p03_1_ : Int} {p04_a : Option Addr} {p04_n : Nat} {p04_c : Nat} (w : World) : (Instr.build 78 [(0, .agg [.slice p00_0_a p00_0_n p00_0_c, .int .i64 p00_1_0_, .int .i64 p00_1_1_, .int .i64 p01_, .int .i64 p02_, .int .i64 p03_0_, .int .i64 p03_1_, .slice p04_a p04_n p04_c].toArray)].toArray).run Try.prog w = .ok (.agg [.slice p00_0_a p00_0_n p00_0_c, .int .i64 p00_1_0_, .int .i64 p00_1_1_, .int .i64 p01_, .int .i64 p02_, .int .i64 p03_0_, .int .i64 p03_1_, .slice p04_a p04_n p04_c, .slice none 0 0].toArray) w := by kernel_rfl
theorem B127_0 {p0 : Int} (w : World) : (Instr.build 127 [(0, .int .i64 p0)].toArray).run Try.prog w = .ok (.agg [.int .i64 p0].toArray) w := by kernel_rfl
theorem BS86_1_0 {p0a : Option Addr} {p0n : Nat} {p0c : Nat} (w : World) : (Instr.buildSlice 86 1 [(0, .slice p0a p0n p0c)].toArray).run Try.prog w = .ok (.slice (some ⟨w.heap.size, 0, none⟩) 1 1) { w with heap := w.heap.push (blk [.slice p0a p0n p0c] 41) } := by kernel_rfl
theorem BS22_3_0_1_2 {p00_ : Int} {p01_ : Int} {p10_ : Int} {p11_ : Int} {p20_ : Int} {p21_ : Int} (w : World) : (Instr.buildSlice 22 3 [(0, .agg [.int .i64 p00_, .int .i64 p01_].toArray), (1, .agg [.int .i64 p10_, .int .i64 p11_].toArray), (2, .agg [.int .i64 p20_, .int .i64 p21_].toArray)].toArray).run Try.prog w = .ok (.slice (some ⟨w.heap.size, 0, none⟩) 3 3) { w with heap := w.heap.push (blk [.int .i64 p00_, .int .i64 p01_, .int .i64 p10_, .int .i64 p11_, .int .i64 p20_, .int .i64 p21_] 24) } := by kernel_rfl
theorem B150_0 {p00_0_a : Option Addr} {p00_0_n : Nat} {p00_0_c : Nat} {p00_1_0_ : Int} {p00_1_1_ : Int} {p01_ : Int} {p02_0_ : Int} {p02_1_ : Int} {p03_a : Option Addr} {p03_n : Nat} {p03_c : Nat} (w : World) : (Instr.build 150 [(0, .agg [.slice p00_0_a p00_0_n p00_0_c, .int .i64 p00_1_0_, .int .i64 p00_1_1_, .int .i64 p01_, .int .i64 p02_0_, .int .i64 p02_1_, .slice p03_a p03_n p03_c].toArray)].toArray).run Try.prog w = .ok (.agg [.slice p00_0_a p00_0_n p00_0_c, .int .i64 p00_1_0_, .int .i64 p00_1_1_, .int .i64 p01_, .int .i64 p02_0_, .int .i64 p02_1_, .slice p03_a p03_n p03_c, .slice none 0 0].toArray) w := by kernel_rfl
theorem B152_0_1 {p0 : Int} {p10_ : Int} {p11_ : Int} (w : World) : (Instr.build 152 [(0, .int .i64 p0), (1, .agg [.int .i64 p10_, .int .i64 p11_].toArray)].toArray).run Try.prog w = .ok (.agg [.int .i64 p0, .int .i64 p10_, .int .i64 p11_].toArray) w := by kernel_rfl
theorem BS148_1_0 {p0t : TypeId} {p0x : Value} (w : World) : (Instr.buildSlice 148 1 [(0, .iface p0t p0x)].toArray).run Try.prog w = .ok (.slice (some ⟨w.heap.size, 0, none⟩) 1 1) { w with heap := w.heap.push (blk [.iface p0t p0x] 157) } := by kernel_rfl
theorem B153_0_1 {p0 : Int} {p10_ : Int} {p11_ : Int} (w : World) : (Instr.build 153 [(0, .int .i64 p0), (1, .agg [.int .i64 p10_, .int .i64 p11_].toArray)].toArray).run Try.prog w = .ok (.agg [.int .i64 p0, .int .i64 p10_, .int .i64 p11_].toArray) w := by kernel_rfl
theorem B108_0_1 {p0 : Int} {p1 : Int} (w : World) : (Instr.build 108 [(0, .int .i64 p0), (1, .int .i64 p1)].toArray).run Try.prog w = .ok (.agg [.int .i64 p0, .int .i64 p1].toArray) w := by kernel_rfl
theorem BS22_2_0_1 {p00_ : Int} {p01_ : Int} {p10_ : Int} {p11_ : Int} (w : World) : (Instr.buildSlice 22 2 [(0, .agg [.int .i64 p00_, .int .i64 p01_].toArray), (1, .agg [.int .i64 p10_, .int .i64 p11_].toArray)].toArray).run Try.prog w = .ok (.slice (some ⟨w.heap.size, 0, none⟩) 2 2) { w with heap := w.heap.push (blk [.int .i64 p00_, .int .i64 p01_, .int .i64 p10_, .int .i64 p11_] 24) } := by kernel_rfl
theorem BS22_0_  (w : World) : (Instr.buildSlice 22 0 [].toArray).run Try.prog w = .ok (.slice (some ⟨w.heap.size, 0, none⟩) 0 0) { w with heap := w.heap.push (blk [] 24) } := by kernel_rfl
theorem B145_0 {p0 : Int} (w : World) : (Instr.build 145 [(0, .int .i64 p0)].toArray).run Try.prog w = .ok (.agg [.int .i64 p0].toArray) w := by kernel_rfl
theorem B163_0_1_2 {p0 : Int} {p1 : Int} {p2 : Int} (w : World) : (Instr.build 163 [(0, .int .i64 p0), (1, .int .i64 p1), (2, .int .i64 p2)].toArray).run Try.prog w = .ok (.agg [.int .i64 p0, .int .i64 p1, .int .i64 p2].toArray) w := by kernel_rfl
theorem BS130_2_0_1 {p00_ : Int} {p01_ : Int} {p02_ : Int} {p10_ : Int} {p11_ : Int} {p12_ : Int} (w : World) : (Instr.buildSlice 130 2 [(0, .agg [.int .i64 p00_, .int .i64 p01_, .int .i64 p02_].toArray), (1, .agg [.int .i64 p10_, .int .i64 p11_, .int .i64 p12_].toArray)].toArray).run Try.prog w = .ok (.slice (some ⟨w.heap.size, 0, none⟩) 2 2) { w with heap := w.heap.push (blk [.int .i64 p00_, .int .i64 p01_, .int .i64 p02_, .int .i64 p10_, .int .i64 p11_, .int .i64 p12_] 163) } := by kernel_rfl
theorem FD29_0 {p0_0_a : Option Addr} {p0_0_n : Nat} {p0_0_c : Nat} {p0_1_0_ : Int} {p0_1_1_ : Int} {p1_ : Int} {p2_ : Int} {p3_0_ : Int} {p3_1_ : Int} {p4_a : Option Addr} {p4_n : Nat} {p4_c : Nat} (w : World) : (Instr.field 29 (.agg [.slice p0_0_a p0_0_n p0_0_c, .int .i64 p0_1_0_, .int .i64 p0_1_1_, .int .i64 p1_, .int .i64 p2_, .int .i64 p3_0_, .int .i64 p3_1_, .slice p4_a p4_n p4_c].toArray) 0).run Try.prog w = .ok (.agg [.slice p0_0_a p0_0_n p0_0_c, .int .i64 p0_1_0_, .int .i64 p0_1_1_].toArray) w := by kernel_rfl
theorem AP22 : appT Try.prog 22 = some (24, 2, 16) := by kernel_rfl
theorem AP27 : appT Try.prog 27 = some (47, 3, 24) := by kernel_rfl
theorem AP41 : appT Try.prog 41 = some (3, 1, 8) := by kernel_rfl
theorem AP63 : appT Try.prog 63 = some (67, 3, 24) := by kernel_rfl
theorem AP86 : appT Try.prog 86 = some (41, 1, 24) := by kernel_rfl
theorem AP130 : appT Try.prog 130 = some (163, 3, 24) := by kernel_rfl
theorem AP148 : appT Try.prog 148 = some (157, 1, 16) := by kernel_rfl
theorem G24 : Try.prog.eqGuardType Try.prog.depth 24 = false := by kernel_rfl
theorem E24 : eqFs Try.prog 24 = some [(3, 0), (3, 1)] := by kernel_rfl
theorem Q24 {a0 : Int} {a1 : Int} {b0 : Int} {b1 : Int} (w : World) : (Op.equal 24 (.agg [.int .i64 a0, .int .i64 a1].toArray) (.agg [.int .i64 b0, .int .i64 b1].toArray)).run Try.prog w = .ok (decide (a0 = b0 ∧ a1 = b1)) w := by
  rw [equal_step, run_equalIn_fs E24]
  refine Eq.trans (eqAll_int O3 U3 rfl rfl (eqAll_int O3 U3 rfl rfl (eqAll_nil))) ?_
  simp only [and_true]
theorem G47 : Try.prog.eqGuardType Try.prog.depth 47 = false := by kernel_rfl
theorem E47 : eqFs Try.prog 47 = some [(3, 0), (3, 1), (3, 2)] := by kernel_rfl
theorem Q47 {a0 : Int} {a1 : Int} {a2 : Int} {b0 : Int} {b1 : Int} {b2 : Int} (w : World) : (Op.equal 47 (.agg [.int .i64 a0, .int .i64 a1, .int .i64 a2].toArray) (.agg [.int .i64 b0, .int .i64 b1, .int .i64 b2].toArray)).run Try.prog w = .ok (decide (a0 = b0 ∧ a1 = b1 ∧ a2 = b2)) w := by
  rw [equal_step, run_equalIn_fs E47]
  refine Eq.trans (eqAll_int O3 U3 rfl rfl (eqAll_int O3 U3 rfl rfl (eqAll_int O3 U3 rfl rfl (eqAll_nil)))) ?_
  simp only [and_true]
end Go.Proofs.Ytiaaidcdoenloaa
