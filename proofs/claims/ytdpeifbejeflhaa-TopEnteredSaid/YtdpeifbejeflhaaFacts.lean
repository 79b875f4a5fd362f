/-
  Closed facts on the types and functions of this translation, by program (wip/gen/genfacts.py).
-/
import Derived.Test.YtdpeifbejeflhaaProg
import Derived.Test.YtdpeifbejeflhaaE3
namespace Go.Proofs.Ytdpeifbejeflhaa
open ZW

theorem hMix : Try.prog.follows .mixedOrders = true := by kernel_rfl
theorem O1 : oneT Try.prog 1 = true := by kernel_rfl
theorem K1 : sizeT Try.prog 1 = some 1 := by kernel_rfl
theorem Z1 : zeroT Try.prog 1 = some [.nilFunc] := by kernel_rfl
theorem I1 : ifaceT Try.prog 1 = false := by kernel_rfl
theorem O2 : oneT Try.prog 2 = true := by kernel_rfl
theorem K2 : sizeT Try.prog 2 = some 1 := by kernel_rfl
theorem Z2 : zeroT Try.prog 2 = some [.int .i64 0] := by kernel_rfl
theorem I2 : ifaceT Try.prog 2 = false := by kernel_rfl
theorem U2 : Try.prog.underlying 2 = some (.int .i64) := by kernel_rfl
theorem O3 : oneT Try.prog 3 = true := by kernel_rfl
theorem K3 : sizeT Try.prog 3 = some 1 := by kernel_rfl
theorem Z3 : zeroT Try.prog 3 = some [.int .i64 0] := by kernel_rfl
theorem I3 : ifaceT Try.prog 3 = false := by kernel_rfl
theorem U3 : Try.prog.underlying 3 = some (.int .i64) := by kernel_rfl
theorem O4 : oneT Try.prog 4 = true := by kernel_rfl
theorem K4 : sizeT Try.prog 4 = some 1 := by kernel_rfl
theorem Z4 : zeroT Try.prog 4 = some [.bool false] := by kernel_rfl
theorem I4 : ifaceT Try.prog 4 = false := by kernel_rfl
theorem U4 : Try.prog.underlying 4 = some .bool := by kernel_rfl
theorem O5 : oneT Try.prog 5 = true := by kernel_rfl
theorem K5 : sizeT Try.prog 5 = some 1 := by kernel_rfl
theorem Z5 : zeroT Try.prog 5 = some [.int .u8 0] := by kernel_rfl
theorem I5 : ifaceT Try.prog 5 = false := by kernel_rfl
theorem U5 : Try.prog.underlying 5 = some (.int .u8) := by kernel_rfl
theorem O6 : oneT Try.prog 6 = true := by kernel_rfl
theorem K6 : sizeT Try.prog 6 = some 1 := by kernel_rfl
theorem Z6 : zeroT Try.prog 6 = some [.int .u8 0] := by kernel_rfl
theorem I6 : ifaceT Try.prog 6 = false := by kernel_rfl
theorem U6 : Try.prog.underlying 6 = some (.int .u8) := by kernel_rfl
theorem O9 : oneT Try.prog 9 = true := by kernel_rfl
theorem K9 : sizeT Try.prog 9 = some 1 := by kernel_rfl
theorem Z9 : zeroT Try.prog 9 = some [.string ⟨#[]⟩] := by kernel_rfl
theorem I9 : ifaceT Try.prog 9 = false := by kernel_rfl
theorem O20 : oneT Try.prog 20 = true := by kernel_rfl
theorem K20 : sizeT Try.prog 20 = some 1 := by kernel_rfl
theorem Z20 : zeroT Try.prog 20 = some [.nilIface] := by kernel_rfl
theorem I20 : ifaceT Try.prog 20 = true := by kernel_rfl
theorem J20 : isIf Try.prog 20 = true := by kernel_rfl
theorem O22 : oneT Try.prog 22 = true := by kernel_rfl
theorem S22 : slEl Try.prog 22 = some (3, 1) := by kernel_rfl
theorem K22 : sizeT Try.prog 22 = some 1 := by kernel_rfl
theorem Z22 : zeroT Try.prog 22 = some [.slice none 0 0] := by kernel_rfl
theorem I22 : ifaceT Try.prog 22 = false := by kernel_rfl
theorem U22 : Try.prog.underlying 22 = some (.slice 3) := by kernel_rfl
theorem F23_0 : fOff Try.prog 23 0 = some 0 := by kernel_rfl
theorem F23_1 : fOff Try.prog 23 1 = some 1 := by kernel_rfl
theorem A23 : aggT Try.prog 23 = some 2 := by kernel_rfl
theorem K23 : sizeT Try.prog 23 = some 2 := by kernel_rfl
theorem Z23 : zeroT Try.prog 23 = some [.int .i64 0, .int .i64 0] := by kernel_rfl
theorem I23 : ifaceT Try.prog 23 = false := by kernel_rfl
theorem F24_0 : fOff Try.prog 24 0 = some 0 := by kernel_rfl
theorem F24_1 : fOff Try.prog 24 1 = some 1 := by kernel_rfl
theorem A24 : aggT Try.prog 24 = some 2 := by kernel_rfl
theorem K24 : sizeT Try.prog 24 = some 2 := by kernel_rfl
theorem Z24 : zeroT Try.prog 24 = some [.int .i64 0, .int .i64 0] := by kernel_rfl
theorem I24 : ifaceT Try.prog 24 = false := by kernel_rfl
theorem O25 : oneT Try.prog 25 = true := by kernel_rfl
theorem S25 : slEl Try.prog 25 = some (47, 3) := by kernel_rfl
theorem K25 : sizeT Try.prog 25 = some 1 := by kernel_rfl
theorem Z25 : zeroT Try.prog 25 = some [.slice none 0 0] := by kernel_rfl
theorem I25 : ifaceT Try.prog 25 = false := by kernel_rfl
theorem U25 : Try.prog.underlying 25 = some (.slice 47) := by kernel_rfl
theorem F26_0 : fOff Try.prog 26 0 = some 0 := by kernel_rfl
theorem F26_1 : fOff Try.prog 26 1 = some 1 := by kernel_rfl
theorem F26_2 : fOff Try.prog 26 2 = some 2 := by kernel_rfl
theorem F26_3 : fOff Try.prog 26 3 = some 4 := by kernel_rfl
theorem A26 : aggT Try.prog 26 = some 5 := by kernel_rfl
theorem K26 : sizeT Try.prog 26 = some 5 := by kernel_rfl
theorem Z26 : zeroT Try.prog 26 = some [.int .i64 0, .slice none 0 0, .int .i64 0, .int .i64 0, .slice none 0 0] := by kernel_rfl
theorem I26 : ifaceT Try.prog 26 = false := by kernel_rfl
theorem F27_0 : fOff Try.prog 27 0 = some 0 := by kernel_rfl
theorem F27_1 : fOff Try.prog 27 1 = some 1 := by kernel_rfl
theorem F27_2 : fOff Try.prog 27 2 = some 2 := by kernel_rfl
theorem F27_3 : fOff Try.prog 27 3 = some 4 := by kernel_rfl
theorem A27 : aggT Try.prog 27 = some 5 := by kernel_rfl
theorem K27 : sizeT Try.prog 27 = some 5 := by kernel_rfl
theorem Z27 : zeroT Try.prog 27 = some [.int .i64 0, .slice none 0 0, .int .i64 0, .int .i64 0, .slice none 0 0] := by kernel_rfl
theorem I27 : ifaceT Try.prog 27 = false := by kernel_rfl
theorem O28 : oneT Try.prog 28 = true := by kernel_rfl
theorem S28 : slEl Try.prog 28 = some (37, 6) := by kernel_rfl
theorem K28 : sizeT Try.prog 28 = some 1 := by kernel_rfl
theorem Z28 : zeroT Try.prog 28 = some [.slice none 0 0] := by kernel_rfl
theorem I28 : ifaceT Try.prog 28 = false := by kernel_rfl
theorem U28 : Try.prog.underlying 28 = some (.slice 37) := by kernel_rfl
theorem F29_0 : fOff Try.prog 29 0 = some 0 := by kernel_rfl
theorem F29_1 : fOff Try.prog 29 1 = some 1 := by kernel_rfl
theorem F29_2 : fOff Try.prog 29 2 = some 3 := by kernel_rfl
theorem F29_3 : fOff Try.prog 29 3 = some 5 := by kernel_rfl
theorem F29_4 : fOff Try.prog 29 4 = some 7 := by kernel_rfl
theorem F29_5 : fOff Try.prog 29 5 = some 8 := by kernel_rfl
theorem F29_6 : fOff Try.prog 29 6 = some 9 := by kernel_rfl
theorem A29 : aggT Try.prog 29 = some 10 := by kernel_rfl
theorem K29 : sizeT Try.prog 29 = some 10 := by kernel_rfl
theorem Z29 : zeroT Try.prog 29 = some [.slice none 0 0, .int .i64 0, .int .i64 0, .int .i64 0, .int .i64 0, .int .i64 0, .int .i64 0, .int .i64 0, .int .i64 0, .int .i64 0] := by kernel_rfl
theorem I29 : ifaceT Try.prog 29 = false := by kernel_rfl
theorem F30_0 : fOff Try.prog 30 0 = some 0 := by kernel_rfl
theorem F30_1 : fOff Try.prog 30 1 = some 1 := by kernel_rfl
theorem F30_2 : fOff Try.prog 30 2 = some 3 := by kernel_rfl
theorem F30_3 : fOff Try.prog 30 3 = some 5 := by kernel_rfl
theorem F30_4 : fOff Try.prog 30 4 = some 7 := by kernel_rfl
theorem F30_5 : fOff Try.prog 30 5 = some 8 := by kernel_rfl
theorem F30_6 : fOff Try.prog 30 6 = some 9 := by kernel_rfl
theorem A30 : aggT Try.prog 30 = some 10 := by kernel_rfl
theorem K30 : sizeT Try.prog 30 = some 10 := by kernel_rfl
theorem Z30 : zeroT Try.prog 30 = some [.slice none 0 0, .int .i64 0, .int .i64 0, .int .i64 0, .int .i64 0, .int .i64 0, .int .i64 0, .int .i64 0, .int .i64 0, .int .i64 0] := by kernel_rfl
theorem I30 : ifaceT Try.prog 30 = false := by kernel_rfl
theorem O33 : oneT Try.prog 33 = true := by kernel_rfl
theorem K33 : sizeT Try.prog 33 = some 1 := by kernel_rfl
theorem Z33 : zeroT Try.prog 33 = some [.int .i64 0] := by kernel_rfl
theorem I33 : ifaceT Try.prog 33 = false := by kernel_rfl
theorem U33 : Try.prog.underlying 33 = some (.int .i64) := by kernel_rfl
theorem F36_0 : fOff Try.prog 36 0 = some 0 := by kernel_rfl
theorem F36_1 : fOff Try.prog 36 1 = some 2 := by kernel_rfl
theorem F36_2 : fOff Try.prog 36 2 = some 4 := by kernel_rfl
theorem F36_3 : fOff Try.prog 36 3 = some 5 := by kernel_rfl
theorem A36 : aggT Try.prog 36 = some 6 := by kernel_rfl
theorem K36 : sizeT Try.prog 36 = some 6 := by kernel_rfl
theorem Z36 : zeroT Try.prog 36 = some [.int .i64 0, .int .i64 0, .int .i64 0, .int .i64 0, .int .i64 0, .int .i64 0] := by kernel_rfl
theorem I36 : ifaceT Try.prog 36 = false := by kernel_rfl
theorem F37_0 : fOff Try.prog 37 0 = some 0 := by kernel_rfl
theorem F37_1 : fOff Try.prog 37 1 = some 2 := by kernel_rfl
theorem F37_2 : fOff Try.prog 37 2 = some 4 := by kernel_rfl
theorem F37_3 : fOff Try.prog 37 3 = some 5 := by kernel_rfl
theorem A37 : aggT Try.prog 37 = some 6 := by kernel_rfl
theorem K37 : sizeT Try.prog 37 = some 6 := by kernel_rfl
theorem Z37 : zeroT Try.prog 37 = some [.int .i64 0, .int .i64 0, .int .i64 0, .int .i64 0, .int .i64 0, .int .i64 0] := by kernel_rfl
theorem I37 : ifaceT Try.prog 37 = false := by kernel_rfl
theorem F46_0 : fOff Try.prog 46 0 = some 0 := by kernel_rfl
theorem F46_1 : fOff Try.prog 46 1 = some 1 := by kernel_rfl
theorem F46_2 : fOff Try.prog 46 2 = some 2 := by kernel_rfl
theorem A46 : aggT Try.prog 46 = some 3 := by kernel_rfl
theorem K46 : sizeT Try.prog 46 = some 3 := by kernel_rfl
theorem Z46 : zeroT Try.prog 46 = some [.int .i64 0, .int .i64 0, .bool false] := by kernel_rfl
theorem I46 : ifaceT Try.prog 46 = false := by kernel_rfl
theorem F47_0 : fOff Try.prog 47 0 = some 0 := by kernel_rfl
theorem F47_1 : fOff Try.prog 47 1 = some 1 := by kernel_rfl
theorem F47_2 : fOff Try.prog 47 2 = some 2 := by kernel_rfl
theorem A47 : aggT Try.prog 47 = some 3 := by kernel_rfl
theorem K47 : sizeT Try.prog 47 = some 3 := by kernel_rfl
theorem Z47 : zeroT Try.prog 47 = some [.int .i64 0, .int .i64 0, .bool false] := by kernel_rfl
theorem I47 : ifaceT Try.prog 47 = false := by kernel_rfl
theorem O50 : oneT Try.prog 50 = true := by kernel_rfl
theorem K50 : sizeT Try.prog 50 = some 1 := by kernel_rfl
theorem Z50 : zeroT Try.prog 50 = some [.pointer none] := by kernel_rfl
theorem I50 : ifaceT Try.prog 50 = false := by kernel_rfl
theorem O51 : oneT Try.prog 51 = true := by kernel_rfl
theorem K51 : sizeT Try.prog 51 = some 1 := by kernel_rfl
theorem Z51 : zeroT Try.prog 51 = some [.pointer none] := by kernel_rfl
theorem I51 : ifaceT Try.prog 51 = false := by kernel_rfl
theorem O54 : oneT Try.prog 54 = true := by kernel_rfl
theorem K54 : sizeT Try.prog 54 = some 1 := by kernel_rfl
theorem Z54 : zeroT Try.prog 54 = some [.nilFunc] := by kernel_rfl
theorem I54 : ifaceT Try.prog 54 = false := by kernel_rfl
theorem O55 : oneT Try.prog 55 = true := by kernel_rfl
theorem K55 : sizeT Try.prog 55 = some 1 := by kernel_rfl
theorem Z55 : zeroT Try.prog 55 = some [.nilFunc] := by kernel_rfl
theorem I55 : ifaceT Try.prog 55 = false := by kernel_rfl
theorem O57 : oneT Try.prog 57 = true := by kernel_rfl
theorem K57 : sizeT Try.prog 57 = some 1 := by kernel_rfl
theorem Z57 : zeroT Try.prog 57 = some [.int .u64 0] := by kernel_rfl
theorem I57 : ifaceT Try.prog 57 = false := by kernel_rfl
theorem U57 : Try.prog.underlying 57 = some (.int .u64) := by kernel_rfl
theorem O58 : oneT Try.prog 58 = true := by kernel_rfl
theorem K58 : sizeT Try.prog 58 = some 1 := by kernel_rfl
theorem Z58 : zeroT Try.prog 58 = some [.int .u64 0] := by kernel_rfl
theorem I58 : ifaceT Try.prog 58 = false := by kernel_rfl
theorem U58 : Try.prog.underlying 58 = some (.int .u64) := by kernel_rfl
theorem A60 : aggT Try.prog 60 = some 8 := by kernel_rfl
theorem R60 : arEl Try.prog 60 = some (8, 1) := by kernel_rfl
theorem K60 : sizeT Try.prog 60 = some 8 := by kernel_rfl
theorem Z60 : zeroT Try.prog 60 = some [.int .i64 0, .int .i64 0, .int .i64 0, .int .i64 0, .int .i64 0, .int .i64 0, .int .i64 0, .int .i64 0] := by kernel_rfl
theorem I60 : ifaceT Try.prog 60 = false := by kernel_rfl
theorem A61 : aggT Try.prog 61 = some 8 := by kernel_rfl
theorem R61 : arEl Try.prog 61 = some (8, 1) := by kernel_rfl
theorem K61 : sizeT Try.prog 61 = some 8 := by kernel_rfl
theorem Z61 : zeroT Try.prog 61 = some [.int .i64 0, .int .i64 0, .int .i64 0, .int .i64 0, .int .i64 0, .int .i64 0, .int .i64 0, .int .i64 0] := by kernel_rfl
theorem I61 : ifaceT Try.prog 61 = false := by kernel_rfl
theorem O63 : oneT Try.prog 63 = true := by kernel_rfl
theorem S63 : slEl Try.prog 63 = some (98, 1) := by kernel_rfl
theorem K63 : sizeT Try.prog 63 = some 1 := by kernel_rfl
theorem Z63 : zeroT Try.prog 63 = some [.slice none 0 0] := by kernel_rfl
theorem I63 : ifaceT Try.prog 63 = false := by kernel_rfl
theorem U63 : Try.prog.underlying 63 = some (.slice 98) := by kernel_rfl
theorem O64 : oneT Try.prog 64 = true := by kernel_rfl
theorem S64 : slEl Try.prog 64 = some (61, 8) := by kernel_rfl
theorem K64 : sizeT Try.prog 64 = some 1 := by kernel_rfl
theorem Z64 : zeroT Try.prog 64 = some [.slice none 0 0] := by kernel_rfl
theorem I64 : ifaceT Try.prog 64 = false := by kernel_rfl
theorem U64 : Try.prog.underlying 64 = some (.slice 61) := by kernel_rfl
theorem O65 : oneT Try.prog 65 = true := by kernel_rfl
theorem K65 : sizeT Try.prog 65 = some 1 := by kernel_rfl
theorem Z65 : zeroT Try.prog 65 = some [.map none] := by kernel_rfl
theorem I65 : ifaceT Try.prog 65 = false := by kernel_rfl
theorem MP65 : mapT Try.prog 65 = some (.u64, 4) := by kernel_rfl
theorem U65 : Try.prog.underlying 65 = some (.map 58 4) := by kernel_rfl
theorem F66_0 : fOff Try.prog 66 0 = some 0 := by kernel_rfl
theorem F66_1 : fOff Try.prog 66 1 = some 5 := by kernel_rfl
theorem F66_2 : fOff Try.prog 66 2 = some 6 := by kernel_rfl
theorem F66_3 : fOff Try.prog 66 3 = some 7 := by kernel_rfl
theorem A66 : aggT Try.prog 66 = some 8 := by kernel_rfl
theorem K66 : sizeT Try.prog 66 = some 8 := by kernel_rfl
theorem Z66 : zeroT Try.prog 66 = some [.int .i64 0, .slice none 0 0, .int .i64 0, .int .i64 0, .slice none 0 0, .slice none 0 0, .slice none 0 0, .map none] := by kernel_rfl
theorem I66 : ifaceT Try.prog 66 = false := by kernel_rfl
theorem F67_0 : fOff Try.prog 67 0 = some 0 := by kernel_rfl
theorem F67_1 : fOff Try.prog 67 1 = some 5 := by kernel_rfl
theorem F67_2 : fOff Try.prog 67 2 = some 6 := by kernel_rfl
theorem F67_3 : fOff Try.prog 67 3 = some 7 := by kernel_rfl
theorem A67 : aggT Try.prog 67 = some 8 := by kernel_rfl
theorem K67 : sizeT Try.prog 67 = some 8 := by kernel_rfl
theorem Z67 : zeroT Try.prog 67 = some [.int .i64 0, .slice none 0 0, .int .i64 0, .int .i64 0, .slice none 0 0, .slice none 0 0, .slice none 0 0, .map none] := by kernel_rfl
theorem I67 : ifaceT Try.prog 67 = false := by kernel_rfl
theorem O69 : oneT Try.prog 69 = true := by kernel_rfl
theorem K69 : sizeT Try.prog 69 = some 1 := by kernel_rfl
theorem Z69 : zeroT Try.prog 69 = some [.pointer none] := by kernel_rfl
theorem I69 : ifaceT Try.prog 69 = false := by kernel_rfl
theorem O71 : oneT Try.prog 71 = true := by kernel_rfl
theorem K71 : sizeT Try.prog 71 = some 1 := by kernel_rfl
theorem Z71 : zeroT Try.prog 71 = some [.int .u64 0] := by kernel_rfl
theorem I71 : ifaceT Try.prog 71 = false := by kernel_rfl
theorem U71 : Try.prog.underlying 71 = some (.int .u64) := by kernel_rfl
theorem O73 : oneT Try.prog 73 = true := by kernel_rfl
theorem K73 : sizeT Try.prog 73 = some 1 := by kernel_rfl
theorem Z73 : zeroT Try.prog 73 = some [.nilFunc] := by kernel_rfl
theorem I73 : ifaceT Try.prog 73 = false := by kernel_rfl
theorem O74 : oneT Try.prog 74 = true := by kernel_rfl
theorem K74 : sizeT Try.prog 74 = some 1 := by kernel_rfl
theorem Z74 : zeroT Try.prog 74 = some [.nilFunc] := by kernel_rfl
theorem I74 : ifaceT Try.prog 74 = false := by kernel_rfl
theorem O76 : oneT Try.prog 76 = true := by kernel_rfl
theorem K76 : sizeT Try.prog 76 = some 1 := by kernel_rfl
theorem Z76 : zeroT Try.prog 76 = some [.nilFunc] := by kernel_rfl
theorem I76 : ifaceT Try.prog 76 = false := by kernel_rfl
theorem O78 : oneT Try.prog 78 = true := by kernel_rfl
theorem K78 : sizeT Try.prog 78 = some 1 := by kernel_rfl
theorem Z78 : zeroT Try.prog 78 = some [.nilFunc] := by kernel_rfl
theorem I78 : ifaceT Try.prog 78 = false := by kernel_rfl
theorem O79 : oneT Try.prog 79 = true := by kernel_rfl
theorem K79 : sizeT Try.prog 79 = some 1 := by kernel_rfl
theorem Z79 : zeroT Try.prog 79 = some [.map none] := by kernel_rfl
theorem I79 : ifaceT Try.prog 79 = false := by kernel_rfl
theorem U79 : Try.prog.underlying 79 = some (.map 87 71) := by kernel_rfl
theorem F80_0 : fOff Try.prog 80 0 = some 0 := by kernel_rfl
theorem F80_1 : fOff Try.prog 80 1 = some 10 := by kernel_rfl
theorem F80_2 : fOff Try.prog 80 2 = some 11 := by kernel_rfl
theorem A80 : aggT Try.prog 80 = some 12 := by kernel_rfl
theorem K80 : sizeT Try.prog 80 = some 12 := by kernel_rfl
theorem Z80 : zeroT Try.prog 80 = some [.slice none 0 0, .int .i64 0, .int .i64 0, .int .i64 0, .int .i64 0, .int .i64 0, .int .i64 0, .int .i64 0, .int .i64 0, .int .i64 0, .int .u64 0, .map none] := by kernel_rfl
theorem I80 : ifaceT Try.prog 80 = false := by kernel_rfl
theorem F81_0 : fOff Try.prog 81 0 = some 0 := by kernel_rfl
theorem F81_1 : fOff Try.prog 81 1 = some 10 := by kernel_rfl
theorem F81_2 : fOff Try.prog 81 2 = some 11 := by kernel_rfl
theorem A81 : aggT Try.prog 81 = some 12 := by kernel_rfl
theorem K81 : sizeT Try.prog 81 = some 12 := by kernel_rfl
theorem Z81 : zeroT Try.prog 81 = some [.slice none 0 0, .int .i64 0, .int .i64 0, .int .i64 0, .int .i64 0, .int .i64 0, .int .i64 0, .int .i64 0, .int .i64 0, .int .i64 0, .int .u64 0, .map none] := by kernel_rfl
theorem I81 : ifaceT Try.prog 81 = false := by kernel_rfl
theorem O83 : oneT Try.prog 83 = true := by kernel_rfl
theorem K83 : sizeT Try.prog 83 = some 1 := by kernel_rfl
theorem Z83 : zeroT Try.prog 83 = some [.nilFunc] := by kernel_rfl
theorem I83 : ifaceT Try.prog 83 = false := by kernel_rfl
theorem O84 : oneT Try.prog 84 = true := by kernel_rfl
theorem K84 : sizeT Try.prog 84 = some 1 := by kernel_rfl
theorem Z84 : zeroT Try.prog 84 = some [.nilFunc] := by kernel_rfl
theorem I84 : ifaceT Try.prog 84 = false := by kernel_rfl
theorem F86_0 : fOff Try.prog 86 0 = some 0 := by kernel_rfl
theorem F86_1 : fOff Try.prog 86 1 = some 1 := by kernel_rfl
theorem A86 : aggT Try.prog 86 = some 2 := by kernel_rfl
theorem K86 : sizeT Try.prog 86 = some 2 := by kernel_rfl
theorem Z86 : zeroT Try.prog 86 = some [.int .i64 0, .int .i64 0] := by kernel_rfl
theorem I86 : ifaceT Try.prog 86 = false := by kernel_rfl
theorem F87_0 : fOff Try.prog 87 0 = some 0 := by kernel_rfl
theorem F87_1 : fOff Try.prog 87 1 = some 1 := by kernel_rfl
theorem A87 : aggT Try.prog 87 = some 2 := by kernel_rfl
theorem K87 : sizeT Try.prog 87 = some 2 := by kernel_rfl
theorem Z87 : zeroT Try.prog 87 = some [.int .i64 0, .int .i64 0] := by kernel_rfl
theorem I87 : ifaceT Try.prog 87 = false := by kernel_rfl
theorem F88_0 : fOff Try.prog 88 0 = some 0 := by kernel_rfl
theorem A88 : aggT Try.prog 88 = some 1 := by kernel_rfl
theorem K88 : sizeT Try.prog 88 = some 1 := by kernel_rfl
theorem Z88 : zeroT Try.prog 88 = some [.int .i64 0] := by kernel_rfl
theorem I88 : ifaceT Try.prog 88 = false := by kernel_rfl
theorem F89_0 : fOff Try.prog 89 0 = some 0 := by kernel_rfl
theorem A89 : aggT Try.prog 89 = some 1 := by kernel_rfl
theorem K89 : sizeT Try.prog 89 = some 1 := by kernel_rfl
theorem Z89 : zeroT Try.prog 89 = some [.int .i64 0] := by kernel_rfl
theorem I89 : ifaceT Try.prog 89 = false := by kernel_rfl
theorem F91_0 : fOff Try.prog 91 0 = some 0 := by kernel_rfl
theorem F91_1 : fOff Try.prog 91 1 = some 1 := by kernel_rfl
theorem A91 : aggT Try.prog 91 = some 2 := by kernel_rfl
theorem K91 : sizeT Try.prog 91 = some 2 := by kernel_rfl
theorem Z91 : zeroT Try.prog 91 = some [.int .i64 0, .int .i64 0] := by kernel_rfl
theorem I91 : ifaceT Try.prog 91 = false := by kernel_rfl
theorem F92_0 : fOff Try.prog 92 0 = some 0 := by kernel_rfl
theorem F92_1 : fOff Try.prog 92 1 = some 1 := by kernel_rfl
theorem A92 : aggT Try.prog 92 = some 2 := by kernel_rfl
theorem K92 : sizeT Try.prog 92 = some 2 := by kernel_rfl
theorem Z92 : zeroT Try.prog 92 = some [.int .i64 0, .int .i64 0] := by kernel_rfl
theorem I92 : ifaceT Try.prog 92 = false := by kernel_rfl
theorem F93_0 : fOff Try.prog 93 0 = some 0 := by kernel_rfl
theorem F93_1 : fOff Try.prog 93 1 = some 1 := by kernel_rfl
theorem A93 : aggT Try.prog 93 = some 2 := by kernel_rfl
theorem K93 : sizeT Try.prog 93 = some 2 := by kernel_rfl
theorem Z93 : zeroT Try.prog 93 = some [.int .i64 0, .int .i64 0] := by kernel_rfl
theorem I93 : ifaceT Try.prog 93 = false := by kernel_rfl
theorem O96 : oneT Try.prog 96 = true := by kernel_rfl
theorem K96 : sizeT Try.prog 96 = some 1 := by kernel_rfl
theorem Z96 : zeroT Try.prog 96 = some [.nilFunc] := by kernel_rfl
theorem I96 : ifaceT Try.prog 96 = false := by kernel_rfl
theorem O97 : oneT Try.prog 97 = true := by kernel_rfl
theorem K97 : sizeT Try.prog 97 = some 1 := by kernel_rfl
theorem Z97 : zeroT Try.prog 97 = some [.nilIface] := by kernel_rfl
theorem I97 : ifaceT Try.prog 97 = true := by kernel_rfl
theorem J97 : isIf Try.prog 97 = true := by kernel_rfl
theorem O98 : oneT Try.prog 98 = true := by kernel_rfl
theorem K98 : sizeT Try.prog 98 = some 1 := by kernel_rfl
theorem Z98 : zeroT Try.prog 98 = some [.nilIface] := by kernel_rfl
theorem I98 : ifaceT Try.prog 98 = true := by kernel_rfl
theorem J98 : isIf Try.prog 98 = true := by kernel_rfl
theorem F99_0 : fOff Try.prog 99 0 = some 0 := by kernel_rfl
theorem A99 : aggT Try.prog 99 = some 1 := by kernel_rfl
theorem K99 : sizeT Try.prog 99 = some 1 := by kernel_rfl
theorem Z99 : zeroT Try.prog 99 = some [.int .i64 0] := by kernel_rfl
theorem I99 : ifaceT Try.prog 99 = false := by kernel_rfl
theorem F100_0 : fOff Try.prog 100 0 = some 0 := by kernel_rfl
theorem A100 : aggT Try.prog 100 = some 1 := by kernel_rfl
theorem K100 : sizeT Try.prog 100 = some 1 := by kernel_rfl
theorem Z100 : zeroT Try.prog 100 = some [.int .i64 0] := by kernel_rfl
theorem I100 : ifaceT Try.prog 100 = false := by kernel_rfl
theorem O102 : oneT Try.prog 102 = true := by kernel_rfl
theorem S102 : slEl Try.prog 102 = some (103, 1) := by kernel_rfl
theorem K102 : sizeT Try.prog 102 = some 1 := by kernel_rfl
theorem Z102 : zeroT Try.prog 102 = some [.slice none 0 0] := by kernel_rfl
theorem I102 : ifaceT Try.prog 102 = false := by kernel_rfl
theorem U102 : Try.prog.underlying 102 = some (.slice 103) := by kernel_rfl
theorem O103 : oneT Try.prog 103 = true := by kernel_rfl
theorem K103 : sizeT Try.prog 103 = some 1 := by kernel_rfl
theorem Z103 : zeroT Try.prog 103 = some [.nilFunc] := by kernel_rfl
theorem I103 : ifaceT Try.prog 103 = false := by kernel_rfl
theorem O105 : oneT Try.prog 105 = true := by kernel_rfl
theorem K105 : sizeT Try.prog 105 = some 1 := by kernel_rfl
theorem Z105 : zeroT Try.prog 105 = some [.nilFunc] := by kernel_rfl
theorem I105 : ifaceT Try.prog 105 = false := by kernel_rfl
theorem O108 : oneT Try.prog 108 = true := by kernel_rfl
theorem S108 : slEl Try.prog 108 = some (71, 1) := by kernel_rfl
theorem K108 : sizeT Try.prog 108 = some 1 := by kernel_rfl
theorem Z108 : zeroT Try.prog 108 = some [.slice none 0 0] := by kernel_rfl
theorem I108 : ifaceT Try.prog 108 = false := by kernel_rfl
theorem U108 : Try.prog.underlying 108 = some (.slice 71) := by kernel_rfl
theorem O111 : oneT Try.prog 111 = true := by kernel_rfl
theorem K111 : sizeT Try.prog 111 = some 1 := by kernel_rfl
theorem Z111 : zeroT Try.prog 111 = some [.nilFunc] := by kernel_rfl
theorem I111 : ifaceT Try.prog 111 = false := by kernel_rfl
theorem O115 : oneT Try.prog 115 = true := by kernel_rfl
theorem K115 : sizeT Try.prog 115 = some 1 := by kernel_rfl
theorem Z115 : zeroT Try.prog 115 = some [.nilFunc] := by kernel_rfl
theorem I115 : ifaceT Try.prog 115 = false := by kernel_rfl
theorem O118 : oneT Try.prog 118 = true := by kernel_rfl
theorem K118 : sizeT Try.prog 118 = some 1 := by kernel_rfl
theorem Z118 : zeroT Try.prog 118 = some [.nilFunc] := by kernel_rfl
theorem I118 : ifaceT Try.prog 118 = false := by kernel_rfl
theorem O121 : oneT Try.prog 121 = true := by kernel_rfl
theorem K121 : sizeT Try.prog 121 = some 1 := by kernel_rfl
theorem Z121 : zeroT Try.prog 121 = some [.nilFunc] := by kernel_rfl
theorem I121 : ifaceT Try.prog 121 = false := by kernel_rfl
theorem O123 : oneT Try.prog 123 = true := by kernel_rfl
theorem K123 : sizeT Try.prog 123 = some 1 := by kernel_rfl
theorem Z123 : zeroT Try.prog 123 = some [.map none] := by kernel_rfl
theorem I123 : ifaceT Try.prog 123 = false := by kernel_rfl
theorem MP123 : mapT Try.prog 123 = some (.u64, 4) := by kernel_rfl
theorem U123 : Try.prog.underlying 123 = some (.map 71 4) := by kernel_rfl
theorem O128 : oneT Try.prog 128 = true := by kernel_rfl
theorem K128 : sizeT Try.prog 128 = some 1 := by kernel_rfl
theorem Z128 : zeroT Try.prog 128 = some [.int .u32 0] := by kernel_rfl
theorem I128 : ifaceT Try.prog 128 = false := by kernel_rfl
theorem U128 : Try.prog.underlying 128 = some (.int .u32) := by kernel_rfl
theorem O130 : oneT Try.prog 130 = true := by kernel_rfl
theorem K130 : sizeT Try.prog 130 = some 1 := by kernel_rfl
theorem Z130 : zeroT Try.prog 130 = some [.int .u64 0] := by kernel_rfl
theorem I130 : ifaceT Try.prog 130 = false := by kernel_rfl
theorem U130 : Try.prog.underlying 130 = some (.int .u64) := by kernel_rfl
theorem O132 : oneT Try.prog 132 = true := by kernel_rfl
theorem K132 : sizeT Try.prog 132 = some 1 := by kernel_rfl
theorem Z132 : zeroT Try.prog 132 = some [.int .i64 0] := by kernel_rfl
theorem I132 : ifaceT Try.prog 132 = false := by kernel_rfl
theorem U132 : Try.prog.underlying 132 = some (.int .i64) := by kernel_rfl
theorem O140 : oneT Try.prog 140 = true := by kernel_rfl
theorem K140 : sizeT Try.prog 140 = some 1 := by kernel_rfl
theorem Z140 : zeroT Try.prog 140 = some [.int .u64 0] := by kernel_rfl
theorem I140 : ifaceT Try.prog 140 = false := by kernel_rfl
theorem U140 : Try.prog.underlying 140 = some (.int .u64) := by kernel_rfl
theorem O144 : oneT Try.prog 144 = true := by kernel_rfl
theorem K144 : sizeT Try.prog 144 = some 1 := by kernel_rfl
theorem Z144 : zeroT Try.prog 144 = some [.pointer none] := by kernel_rfl
theorem I144 : ifaceT Try.prog 144 = false := by kernel_rfl
theorem O146 : oneT Try.prog 146 = true := by kernel_rfl
theorem K146 : sizeT Try.prog 146 = some 1 := by kernel_rfl
theorem Z146 : zeroT Try.prog 146 = some [.pointer none] := by kernel_rfl
theorem I146 : ifaceT Try.prog 146 = false := by kernel_rfl
theorem ZV4 (w : World) : (zeroValue 4).run Try.prog w = .ok (.bool false) w := by kernel_rfl
theorem C3 : callT Try.prog 3 = true := by kernel_rfl
theorem C4 : callT Try.prog 4 = true := by kernel_rfl
theorem C5 : callT Try.prog 5 = true := by kernel_rfl
theorem C6 : callT Try.prog 6 = true := by kernel_rfl
theorem C7 : callT Try.prog 7 = true := by kernel_rfl
theorem C8 : callT Try.prog 8 = true := by kernel_rfl
theorem C9 : callT Try.prog 9 = true := by kernel_rfl
theorem C10 : callT Try.prog 10 = true := by kernel_rfl
theorem C11 : callT Try.prog 11 = true := by kernel_rfl
theorem C12 : callT Try.prog 12 = true := by kernel_rfl
theorem C13 : callT Try.prog 13 = true := by kernel_rfl
theorem C14 : callT Try.prog 14 = true := by kernel_rfl
theorem C15 : callT Try.prog 15 = true := by kernel_rfl
theorem C16 : callT Try.prog 16 = true := by kernel_rfl
theorem C17 : callT Try.prog 17 = true := by kernel_rfl
theorem C18 : callT Try.prog 18 = true := by kernel_rfl
theorem C19 : callT Try.prog 19 = true := by kernel_rfl
theorem C20 : callT Try.prog 20 = true := by kernel_rfl
theorem C21 : callT Try.prog 21 = true := by kernel_rfl
theorem C22 : callT Try.prog 22 = true := by kernel_rfl
theorem C23 : callT Try.prog 23 = true := by kernel_rfl
theorem C24 : callT Try.prog 24 = true := by kernel_rfl
theorem C25 : callT Try.prog 25 = true := by kernel_rfl
theorem C26 : callT Try.prog 26 = true := by kernel_rfl
theorem C27 : callT Try.prog 27 = true := by kernel_rfl
theorem C28 : callT Try.prog 28 = true := by kernel_rfl
theorem C29 : callT Try.prog 29 = true := by kernel_rfl
theorem C30 : callT Try.prog 30 = true := by kernel_rfl
theorem C31 : callT Try.prog 31 = true := by kernel_rfl
theorem C32 : callT Try.prog 32 = true := by kernel_rfl
theorem C33 : callT Try.prog 33 = true := by kernel_rfl
theorem C34 : callT Try.prog 34 = true := by kernel_rfl
theorem C35 : callT Try.prog 35 = true := by kernel_rfl
theorem C36 : callT Try.prog 36 = true := by kernel_rfl
theorem C37 : callT Try.prog 37 = true := by kernel_rfl
theorem C38 : callT Try.prog 38 = true := by kernel_rfl
theorem C39 : callT Try.prog 39 = true := by kernel_rfl
theorem C40 : callT Try.prog 40 = true := by kernel_rfl
theorem C41 : callT Try.prog 41 = true := by kernel_rfl
theorem C42 : callT Try.prog 42 = true := by kernel_rfl
theorem C43 : callT Try.prog 43 = true := by kernel_rfl
theorem C44 : callT Try.prog 44 = true := by kernel_rfl
theorem C45 : callT Try.prog 45 = true := by kernel_rfl
theorem C46 : callT Try.prog 46 = true := by kernel_rfl
theorem C47 : callT Try.prog 47 = true := by kernel_rfl
theorem C48 : callT Try.prog 48 = true := by kernel_rfl
theorem C49 : callT Try.prog 49 = true := by kernel_rfl
theorem C50 : callT Try.prog 50 = true := by kernel_rfl
theorem C51 : callT Try.prog 51 = true := by kernel_rfl
theorem C52 : callT Try.prog 52 = true := by kernel_rfl
theorem C53 : callT Try.prog 53 = true := by kernel_rfl
theorem C54 : callT Try.prog 54 = true := by kernel_rfl
theorem C55 : callT Try.prog 55 = true := by kernel_rfl
theorem C56 : callT Try.prog 56 = true := by kernel_rfl
theorem C57 : callT Try.prog 57 = true := by kernel_rfl
theorem C58 : callT Try.prog 58 = true := by kernel_rfl
theorem C59 : callT Try.prog 59 = true := by kernel_rfl
theorem C60 : callT Try.prog 60 = true := by kernel_rfl
theorem C61 : callT Try.prog 61 = true := by kernel_rfl
theorem C62 : callT Try.prog 62 = true := by kernel_rfl
theorem C63 : callT Try.prog 63 = true := by kernel_rfl
theorem C64 : callT Try.prog 64 = true := by kernel_rfl
theorem C65 : callT Try.prog 65 = true := by kernel_rfl
theorem C66 : callT Try.prog 66 = true := by kernel_rfl
theorem C67 : callT Try.prog 67 = true := by kernel_rfl
theorem C68 : callT Try.prog 68 = true := by kernel_rfl
theorem C69 : callT Try.prog 69 = true := by kernel_rfl
theorem C70 : callT Try.prog 70 = true := by kernel_rfl
theorem C71 : callT Try.prog 71 = true := by kernel_rfl
theorem C72 : callT Try.prog 72 = true := by kernel_rfl
theorem C73 : callT Try.prog 73 = true := by kernel_rfl
theorem C74 : callT Try.prog 74 = true := by kernel_rfl
theorem C75 : callT Try.prog 75 = true := by kernel_rfl
theorem C76 : callT Try.prog 76 = true := by kernel_rfl
theorem C77 : callT Try.prog 77 = true := by kernel_rfl
theorem C78 : callT Try.prog 78 = true := by kernel_rfl
theorem C79 : callT Try.prog 79 = true := by kernel_rfl
theorem C80 : callT Try.prog 80 = true := by kernel_rfl
theorem C81 : callT Try.prog 81 = true := by kernel_rfl
theorem C82 : callT Try.prog 82 = true := by kernel_rfl
theorem C83 : callT Try.prog 83 = true := by kernel_rfl
theorem C84 : callT Try.prog 84 = true := by kernel_rfl
theorem C85 : callT Try.prog 85 = true := by kernel_rfl
theorem C86 : callT Try.prog 86 = true := by kernel_rfl
theorem C87 : callT Try.prog 87 = true := by kernel_rfl
theorem C88 : callT Try.prog 88 = true := by kernel_rfl
theorem C89 : callT Try.prog 89 = true := by kernel_rfl
theorem C90 : callT Try.prog 90 = true := by kernel_rfl
theorem C91 : callT Try.prog 91 = true := by kernel_rfl
theorem C92 : callT Try.prog 92 = true := by kernel_rfl
theorem C109 : callT Try.prog 109 = true := by kernel_rfl
theorem C110 : callT Try.prog 110 = true := by kernel_rfl
theorem BS28_1_0 {p00_0_ : Int} {p00_1_ : Int} {p01_0_ : Int} {p01_1_ : Int} {p02_ : Int} {p03_ : Int} (w : World) : (Instr.buildSlice 28 1 [(0, .agg [.int .i64 p00_0_, .int .i64 p00_1_, .int .i64 p01_0_, .int .i64 p01_1_, .int .i64 p02_, .int .i64 p03_].toArray)].toArray).run Try.prog w = .ok (.slice (some ⟨w.heap.size, 0, none⟩) 1 1) { w with heap := w.heap.push (blk [.int .i64 p00_0_, .int .i64 p00_1_, .int .i64 p01_0_, .int .i64 p01_1_, .int .i64 p02_, .int .i64 p03_] 37) } := by kernel_rfl
theorem BS22_5_0_1_2_3_4 {p0 : Int} {p1 : Int} {p2 : Int} {p3 : Int} {p4 : Int} (w : World) : (Instr.buildSlice 22 5 [(0, .int .i64 p0), (1, .int .i64 p1), (2, .int .i64 p2), (3, .int .i64 p3), (4, .int .i64 p4)].toArray).run Try.prog w = .ok (.slice (some ⟨w.heap.size, 0, none⟩) 5 5) { w with heap := w.heap.push (blk [.int .i64 p0, .int .i64 p1, .int .i64 p2, .int .i64 p3, .int .i64 p4] 3) } := by kernel_rfl
theorem B24_0_1 {p0 : Int} {p1 : Int} (w : World) : (Instr.build 24 [(0, .int .i64 p0), (1, .int .i64 p1)].toArray).run Try.prog w = .ok (.agg [.int .i64 p0, .int .i64 p1].toArray) w := by kernel_rfl
theorem B47_0_1_2 {p0 : Int} {p1 : Int} {p2 : Bool} (w : World) : (Instr.build 47 [(0, .int .i64 p0), (1, .int .i64 p1), (2, .bool p2)].toArray).run Try.prog w = .ok (.agg [.int .i64 p0, .int .i64 p1, .bool p2].toArray) w := by kernel_rfl
theorem B47_0_1 {p0 : Int} {p1 : Int} (w : World) : (Instr.build 47 [(0, .int .i64 p0), (1, .int .i64 p1)].toArray).run Try.prog w = .ok (.agg [.int .i64 p0, .int .i64 p1, .bool false].toArray) w := by kernel_rfl
theorem BS25_3_0_1_2 {p00_ : Int} {p01_ : Int} {p02_ : Bool} {p10_ : Int} {p11_ : Int} {p12_ : Bool} {p20_ : Int} {p21_ : Int} {p22_ : Bool} (w : World) : (Instr.buildSlice 25 3 [(0, .agg [.int .i64 p00_, .int .i64 p01_, .bool p02_].toArray), (1, .agg [.int .i64 p10_, .int .i64 p11_, .bool p12_].toArray), (2, .agg [.int .i64 p20_, .int .i64 p21_, .bool p22_].toArray)].toArray).run Try.prog w = .ok (.slice (some ⟨w.heap.size, 0, none⟩) 3 3) { w with heap := w.heap.push (blk [.int .i64 p00_, .int .i64 p01_, .bool p02_, .int .i64 p10_, .int .i64 p11_, .bool p12_, .int .i64 p20_, .int .i64 p21_, .bool p22_] 47) } := by kernel_rfl
theorem B27_0_1_2_3 {p0 : Int} {p1a : Option Addr} {p1n : Nat} {p1c : Nat} {p20_ : Int} {p21_ : Int} {p3a : Option Addr} {p3n : Nat} {p3c : Nat} (w : World) : (Instr.build 27 [(0, .int .i64 p0), (1, .slice p1a p1n p1c), (2, .agg [.int .i64 p20_, .int .i64 p21_].toArray), (3, .slice p3a p3n p3c)].toArray).run Try.prog w = .ok (.agg [.int .i64 p0, .slice p1a p1n p1c, .int .i64 p20_, .int .i64 p21_, .slice p3a p3n p3c].toArray) w := by kernel_rfl
theorem B24_1 {p1 : Int} (w : World) : (Instr.build 24 [(1, .int .i64 p1)].toArray).run Try.prog w = .ok (.agg [.int .i64 0, .int .i64 p1].toArray) w := by kernel_rfl
theorem B37_0_2 {p00_ : Int} {p01_ : Int} {p2 : Int} (w : World) : (Instr.build 37 [(0, .agg [.int .i64 p00_, .int .i64 p01_].toArray), (2, .int .i64 p2)].toArray).run Try.prog w = .ok (.agg [.int .i64 p00_, .int .i64 p01_, .int .i64 0, .int .i64 0, .int .i64 p2, .int .i64 0].toArray) w := by kernel_rfl
theorem BS28_2_0_1 {p00_0_ : Int} {p00_1_ : Int} {p01_0_ : Int} {p01_1_ : Int} {p02_ : Int} {p03_ : Int} {p10_0_ : Int} {p10_1_ : Int} {p11_0_ : Int} {p11_1_ : Int} {p12_ : Int} {p13_ : Int} (w : World) : (Instr.buildSlice 28 2 [(0, .agg [.int .i64 p00_0_, .int .i64 p00_1_, .int .i64 p01_0_, .int .i64 p01_1_, .int .i64 p02_, .int .i64 p03_].toArray), (1, .agg [.int .i64 p10_0_, .int .i64 p10_1_, .int .i64 p11_0_, .int .i64 p11_1_, .int .i64 p12_, .int .i64 p13_].toArray)].toArray).run Try.prog w = .ok (.slice (some ⟨w.heap.size, 0, none⟩) 2 2) { w with heap := w.heap.push (blk [.int .i64 p00_0_, .int .i64 p00_1_, .int .i64 p01_0_, .int .i64 p01_1_, .int .i64 p02_, .int .i64 p03_, .int .i64 p10_0_, .int .i64 p10_1_, .int .i64 p11_0_, .int .i64 p11_1_, .int .i64 p12_, .int .i64 p13_] 37) } := by kernel_rfl
theorem B30_0_1_3_5 {p0a : Option Addr} {p0n : Nat} {p0c : Nat} {p10_ : Int} {p11_ : Int} {p30_ : Int} {p31_ : Int} {p5 : Int} (w : World) : (Instr.build 30 [(0, .slice p0a p0n p0c), (1, .agg [.int .i64 p10_, .int .i64 p11_].toArray), (3, .agg [.int .i64 p30_, .int .i64 p31_].toArray), (5, .int .i64 p5)].toArray).run Try.prog w = .ok (.agg [.slice p0a p0n p0c, .int .i64 p10_, .int .i64 p11_, .int .i64 0, .int .i64 0, .int .i64 p30_, .int .i64 p31_, .int .i64 0, .int .i64 p5, .int .i64 0].toArray) w := by kernel_rfl
theorem B67_0_3 {p00_ : Int} {p01_a : Option Addr} {p01_n : Nat} {p01_c : Nat} {p02_0_ : Int} {p02_1_ : Int} {p03_a : Option Addr} {p03_n : Nat} {p03_c : Nat} {p3 : Option Nat} (w : World) : (Instr.build 67 [(0, .agg [.int .i64 p00_, .slice p01_a p01_n p01_c, .int .i64 p02_0_, .int .i64 p02_1_, .slice p03_a p03_n p03_c].toArray), (3, .map p3)].toArray).run Try.prog w = .ok (.agg [.int .i64 p00_, .slice p01_a p01_n p01_c, .int .i64 p02_0_, .int .i64 p02_1_, .slice p03_a p03_n p03_c, .slice none 0 0, .slice none 0 0, .map p3].toArray) w := by kernel_rfl
theorem B92_0_1 {p0 : Int} {p1 : Int} (w : World) : (Instr.build 92 [(0, .int .i64 p0), (1, .int .i64 p1)].toArray).run Try.prog w = .ok (.agg [.int .i64 p0, .int .i64 p1].toArray) w := by kernel_rfl
theorem BS63_1_0 {p0t : TypeId} {p0x : Value} (w : World) : (Instr.buildSlice 63 1 [(0, .iface p0t p0x)].toArray).run Try.prog w = .ok (.slice (some ⟨w.heap.size, 0, none⟩) 1 1) { w with heap := w.heap.push (blk [.iface p0t p0x] 98) } := by kernel_rfl
theorem B93_0_1 {p0 : Int} {p1 : Int} (w : World) : (Instr.build 93 [(0, .int .i64 p0), (1, .int .i64 p1)].toArray).run Try.prog w = .ok (.agg [.int .i64 p0, .int .i64 p1].toArray) w := by kernel_rfl
theorem BS64_1_0 {p00_ : Int} {p01_ : Int} {p02_ : Int} {p03_ : Int} {p04_ : Int} {p05_ : Int} {p06_ : Int} {p07_ : Int} (w : World) : (Instr.buildSlice 64 1 [(0, .agg [.int .i64 p00_, .int .i64 p01_, .int .i64 p02_, .int .i64 p03_, .int .i64 p04_, .int .i64 p05_, .int .i64 p06_, .int .i64 p07_].toArray)].toArray).run Try.prog w = .ok (.slice (some ⟨w.heap.size, 0, none⟩) 1 1) { w with heap := w.heap.push (blk [.int .i64 p00_, .int .i64 p01_, .int .i64 p02_, .int .i64 p03_, .int .i64 p04_, .int .i64 p05_, .int .i64 p06_, .int .i64 p07_] 61) } := by kernel_rfl
theorem BS22_0_  (w : World) : (Instr.buildSlice 22 0 [].toArray).run Try.prog w = .ok (.slice (some ⟨w.heap.size, 0, none⟩) 0 0) { w with heap := w.heap.push (blk [] 3) } := by kernel_rfl
theorem B81_0_2 {p00_a : Option Addr} {p00_n : Nat} {p00_c : Nat} {p01_0_ : Int} {p01_1_ : Int} {p02_0_ : Int} {p02_1_ : Int} {p03_0_ : Int} {p03_1_ : Int} {p04_ : Int} {p05_ : Int} {p06_ : Int} {p2 : Option Nat} (w : World) : (Instr.build 81 [(0, .agg [.slice p00_a p00_n p00_c, .int .i64 p01_0_, .int .i64 p01_1_, .int .i64 p02_0_, .int .i64 p02_1_, .int .i64 p03_0_, .int .i64 p03_1_, .int .i64 p04_, .int .i64 p05_, .int .i64 p06_].toArray), (2, .map p2)].toArray).run Try.prog w = .ok (.agg [.slice p00_a p00_n p00_c, .int .i64 p01_0_, .int .i64 p01_1_, .int .i64 p02_0_, .int .i64 p02_1_, .int .i64 p03_0_, .int .i64 p03_1_, .int .i64 p04_, .int .i64 p05_, .int .i64 p06_, .int .u64 0, .map p2].toArray) w := by kernel_rfl
theorem B87_0_1 {p0 : Int} {p1 : Int} (w : World) : (Instr.build 87 [(0, .int .i64 p0), (1, .int .i64 p1)].toArray).run Try.prog w = .ok (.agg [.int .i64 p0, .int .i64 p1].toArray) w := by kernel_rfl
theorem B100_0 {p0 : Int} (w : World) : (Instr.build 100 [(0, .int .i64 p0)].toArray).run Try.prog w = .ok (.agg [.int .i64 p0].toArray) w := by kernel_rfl
theorem BS22_1_0 {p0 : Int} (w : World) : (Instr.buildSlice 22 1 [(0, .int .i64 p0)].toArray).run Try.prog w = .ok (.slice (some ⟨w.heap.size, 0, none⟩) 1 1) { w with heap := w.heap.push (blk [.int .i64 p0] 3) } := by kernel_rfl
theorem B89_0 {p0 : Int} (w : World) : (Instr.build 89 [(0, .int .i64 p0)].toArray).run Try.prog w = .ok (.agg [.int .i64 p0].toArray) w := by kernel_rfl
theorem BS102_3_0_1_2 {p0f : Fn} {p0u : List Value} {p0c : List Value} {p1f : Fn} {p1u : List Value} {p1c : List Value} {p2f : Fn} {p2u : List Value} {p2c : List Value} (w : World) : (Instr.buildSlice 102 3 [(0, .func p0f p0u.toArray p0c.toArray), (1, .func p1f p1u.toArray p1c.toArray), (2, .func p2f p2u.toArray p2c.toArray)].toArray).run Try.prog w = .ok (.slice (some ⟨w.heap.size, 0, none⟩) 3 3) { w with heap := w.heap.push (blk [.func p0f p0u.toArray p0c.toArray, .func p1f p1u.toArray p1c.toArray, .func p2f p2u.toArray p2c.toArray] 103) } := by kernel_rfl
theorem BS108_1_0 {p0 : Int} (w : World) : (Instr.buildSlice 108 1 [(0, .int .u64 p0)].toArray).run Try.prog w = .ok (.slice (some ⟨w.heap.size, 0, none⟩) 1 1) { w with heap := w.heap.push (blk [.int .u64 p0] 71) } := by kernel_rfl
theorem B61_  (w : World) : (Instr.build 61 [].toArray).run Try.prog w = .ok (.agg [.int .i64 0, .int .i64 0, .int .i64 0, .int .i64 0, .int .i64 0, .int .i64 0, .int .i64 0, .int .i64 0].toArray) w := by kernel_rfl
theorem AP22 : appT Try.prog 22 = some (3, 1, 8) := by kernel_rfl
theorem AP28 : appT Try.prog 28 = some (37, 6, 48) := by kernel_rfl
theorem AP63 : appT Try.prog 63 = some (98, 1, 16) := by kernel_rfl
theorem AP64 : appT Try.prog 64 = some (61, 8, 64) := by kernel_rfl
theorem AP108 : appT Try.prog 108 = some (71, 1, 8) := by kernel_rfl
end Go.Proofs.Ytdpeifbejeflhaa
