/-
  Closed facts on the types and functions of this translation, by program (wip/gen/genfacts.py).
-/
import Derived.Test.YtoefcofplkbnkaaProg
import Derived.Test.YtoefcofplkbnkaaEngR
namespace Go.Proofs.Ytoefcofplkbnkaa
open ZW

theorem hMix : Try.prog.follows .mixedOrders = true := by kernel_rfl
theorem O1 : oneT Try.prog 1 = true := by kernel_rfl
theorem K1 : sizeT Try.prog 1 = some 1 := by kernel_rfl
theorem Z1 : zeroT Try.prog 1 = some [.nilFunc] := by kernel_rfl
theorem I1 : ifaceT Try.prog 1 = false := by kernel_rfl
theorem O2 : oneT Try.prog 2 = true := by kernel_rfl
theorem K2 : sizeT Try.prog 2 = some 1 := by kernel_rfl
theorem Z2 : zeroT Try.prog 2 = some [.int .i64 0] := by kernel_rfl
theorem I2 : ifaceT Try.prog 2 = false := by kernel_rfl
theorem U2 : Try.prog.underlying 2 = some (.int .i64) := by kernel_rfl
theorem O3 : oneT Try.prog 3 = true := by kernel_rfl
theorem K3 : sizeT Try.prog 3 = some 1 := by kernel_rfl
theorem Z3 : zeroT Try.prog 3 = some [.int .i64 0] := by kernel_rfl
theorem I3 : ifaceT Try.prog 3 = false := by kernel_rfl
theorem U3 : Try.prog.underlying 3 = some (.int .i64) := by kernel_rfl
theorem O4 : oneT Try.prog 4 = true := by kernel_rfl
theorem K4 : sizeT Try.prog 4 = some 1 := by kernel_rfl
theorem Z4 : zeroT Try.prog 4 = some [.bool false] := by kernel_rfl
theorem I4 : ifaceT Try.prog 4 = false := by kernel_rfl
theorem U4 : Try.prog.underlying 4 = some .bool := by kernel_rfl
theorem O5 : oneT Try.prog 5 = true := by kernel_rfl
theorem K5 : sizeT Try.prog 5 = some 1 := by kernel_rfl
theorem Z5 : zeroT Try.prog 5 = some [.int .u8 0] := by kernel_rfl
theorem I5 : ifaceT Try.prog 5 = false := by kernel_rfl
theorem U5 : Try.prog.underlying 5 = some (.int .u8) := by kernel_rfl
theorem O9 : oneT Try.prog 9 = true := by kernel_rfl
theorem K9 : sizeT Try.prog 9 = some 1 := by kernel_rfl
theorem Z9 : zeroT Try.prog 9 = some [.string ⟨#[]⟩] := by kernel_rfl
theorem I9 : ifaceT Try.prog 9 = false := by kernel_rfl
theorem O20 : oneT Try.prog 20 = true := by kernel_rfl
theorem K20 : sizeT Try.prog 20 = some 1 := by kernel_rfl
theorem Z20 : zeroT Try.prog 20 = some [.nilIface] := by kernel_rfl
theorem I20 : ifaceT Try.prog 20 = true := by kernel_rfl
theorem J20 : isIf Try.prog 20 = true := by kernel_rfl
theorem O22 : oneT Try.prog 22 = true := by kernel_rfl
theorem S22 : slEl Try.prog 22 = some (24, 2) := by kernel_rfl
theorem K22 : sizeT Try.prog 22 = some 1 := by kernel_rfl
theorem Z22 : zeroT Try.prog 22 = some [.slice none 0 0] := by kernel_rfl
theorem I22 : ifaceT Try.prog 22 = false := by kernel_rfl
theorem U22 : Try.prog.underlying 22 = some (.slice 24) := by kernel_rfl
theorem F23_0 : fOff Try.prog 23 0 = some 0 := by kernel_rfl
theorem F23_1 : fOff Try.prog 23 1 = some 1 := by kernel_rfl
theorem A23 : aggT Try.prog 23 = some 2 := by kernel_rfl
theorem K23 : sizeT Try.prog 23 = some 2 := by kernel_rfl
theorem Z23 : zeroT Try.prog 23 = some [.int .i64 0, .int .i64 0] := by kernel_rfl
theorem I23 : ifaceT Try.prog 23 = false := by kernel_rfl
theorem F24_0 : fOff Try.prog 24 0 = some 0 := by kernel_rfl
theorem F24_1 : fOff Try.prog 24 1 = some 1 := by kernel_rfl
theorem A24 : aggT Try.prog 24 = some 2 := by kernel_rfl
theorem K24 : sizeT Try.prog 24 = some 2 := by kernel_rfl
theorem Z24 : zeroT Try.prog 24 = some [.int .i64 0, .int .i64 0] := by kernel_rfl
theorem I24 : ifaceT Try.prog 24 = false := by kernel_rfl
theorem F25_0 : fOff Try.prog 25 0 = some 0 := by kernel_rfl
theorem F25_1 : fOff Try.prog 25 1 = some 1 := by kernel_rfl
theorem A25 : aggT Try.prog 25 = some 3 := by kernel_rfl
theorem K25 : sizeT Try.prog 25 = some 3 := by kernel_rfl
theorem Z25 : zeroT Try.prog 25 = some [.slice none 0 0, .int .i64 0, .int .i64 0] := by kernel_rfl
theorem I25 : ifaceT Try.prog 25 = false := by kernel_rfl
theorem F26_0 : fOff Try.prog 26 0 = some 0 := by kernel_rfl
theorem F26_1 : fOff Try.prog 26 1 = some 1 := by kernel_rfl
theorem A26 : aggT Try.prog 26 = some 3 := by kernel_rfl
theorem K26 : sizeT Try.prog 26 = some 3 := by kernel_rfl
theorem Z26 : zeroT Try.prog 26 = some [.slice none 0 0, .int .i64 0, .int .i64 0] := by kernel_rfl
theorem I26 : ifaceT Try.prog 26 = false := by kernel_rfl
theorem O27 : oneT Try.prog 27 = true := by kernel_rfl
theorem S27 : slEl Try.prog 27 = some (49, 3) := by kernel_rfl
theorem K27 : sizeT Try.prog 27 = some 1 := by kernel_rfl
theorem Z27 : zeroT Try.prog 27 = some [.slice none 0 0] := by kernel_rfl
theorem I27 : ifaceT Try.prog 27 = false := by kernel_rfl
theorem U27 : Try.prog.underlying 27 = some (.slice 49) := by kernel_rfl
theorem F28_0 : fOff Try.prog 28 0 = some 0 := by kernel_rfl
theorem F28_1 : fOff Try.prog 28 1 = some 3 := by kernel_rfl
theorem F28_2 : fOff Try.prog 28 2 = some 4 := by kernel_rfl
theorem F28_3 : fOff Try.prog 28 3 = some 6 := by kernel_rfl
theorem A28 : aggT Try.prog 28 = some 7 := by kernel_rfl
theorem K28 : sizeT Try.prog 28 = some 7 := by kernel_rfl
theorem Z28 : zeroT Try.prog 28 = some [.slice none 0 0, .int .i64 0, .int .i64 0, .int .i64 0, .int .i64 0, .int .i64 0, .slice none 0 0] := by kernel_rfl
theorem I28 : ifaceT Try.prog 28 = false := by kernel_rfl
theorem F29_0 : fOff Try.prog 29 0 = some 0 := by kernel_rfl
theorem F29_1 : fOff Try.prog 29 1 = some 3 := by kernel_rfl
theorem F29_2 : fOff Try.prog 29 2 = some 4 := by kernel_rfl
theorem F29_3 : fOff Try.prog 29 3 = some 6 := by kernel_rfl
theorem A29 : aggT Try.prog 29 = some 7 := by kernel_rfl
theorem K29 : sizeT Try.prog 29 = some 7 := by kernel_rfl
theorem Z29 : zeroT Try.prog 29 = some [.slice none 0 0, .int .i64 0, .int .i64 0, .int .i64 0, .int .i64 0, .int .i64 0, .slice none 0 0] := by kernel_rfl
theorem I29 : ifaceT Try.prog 29 = false := by kernel_rfl
theorem O33 : oneT Try.prog 33 = true := by kernel_rfl
theorem K33 : sizeT Try.prog 33 = some 1 := by kernel_rfl
theorem Z33 : zeroT Try.prog 33 = some [.int .i64 0] := by kernel_rfl
theorem I33 : ifaceT Try.prog 33 = false := by kernel_rfl
theorem U33 : Try.prog.underlying 33 = some (.int .i64) := by kernel_rfl
theorem O40 : oneT Try.prog 40 = true := by kernel_rfl
theorem S40 : slEl Try.prog 40 = some (51, 1) := by kernel_rfl
theorem K40 : sizeT Try.prog 40 = some 1 := by kernel_rfl
theorem Z40 : zeroT Try.prog 40 = some [.slice none 0 0] := by kernel_rfl
theorem I40 : ifaceT Try.prog 40 = false := by kernel_rfl
theorem U40 : Try.prog.underlying 40 = some (.slice 51) := by kernel_rfl
theorem O41 : oneT Try.prog 41 = true := by kernel_rfl
theorem S41 : slEl Try.prog 41 = some (3, 1) := by kernel_rfl
theorem K41 : sizeT Try.prog 41 = some 1 := by kernel_rfl
theorem Z41 : zeroT Try.prog 41 = some [.slice none 0 0] := by kernel_rfl
theorem I41 : ifaceT Try.prog 41 = false := by kernel_rfl
theorem U41 : Try.prog.underlying 41 = some (.slice 3) := by kernel_rfl
theorem O44 : oneT Try.prog 44 = true := by kernel_rfl
theorem K44 : sizeT Try.prog 44 = some 1 := by kernel_rfl
theorem Z44 : zeroT Try.prog 44 = some [.nilFunc] := by kernel_rfl
theorem I44 : ifaceT Try.prog 44 = false := by kernel_rfl
theorem F48_0 : fOff Try.prog 48 0 = some 0 := by kernel_rfl
theorem F48_1 : fOff Try.prog 48 1 = some 1 := by kernel_rfl
theorem F48_2 : fOff Try.prog 48 2 = some 2 := by kernel_rfl
theorem A48 : aggT Try.prog 48 = some 3 := by kernel_rfl
theorem K48 : sizeT Try.prog 48 = some 3 := by kernel_rfl
theorem Z48 : zeroT Try.prog 48 = some [.int .i64 0, .int .i64 0, .bool false] := by kernel_rfl
theorem I48 : ifaceT Try.prog 48 = false := by kernel_rfl
theorem F49_0 : fOff Try.prog 49 0 = some 0 := by kernel_rfl
theorem F49_1 : fOff Try.prog 49 1 = some 1 := by kernel_rfl
theorem F49_2 : fOff Try.prog 49 2 = some 2 := by kernel_rfl
theorem A49 : aggT Try.prog 49 = some 3 := by kernel_rfl
theorem K49 : sizeT Try.prog 49 = some 3 := by kernel_rfl
theorem Z49 : zeroT Try.prog 49 = some [.int .i64 0, .int .i64 0, .bool false] := by kernel_rfl
theorem I49 : ifaceT Try.prog 49 = false := by kernel_rfl
theorem O51 : oneT Try.prog 51 = true := by kernel_rfl
theorem K51 : sizeT Try.prog 51 = some 1 := by kernel_rfl
theorem Z51 : zeroT Try.prog 51 = some [.int .u16 0] := by kernel_rfl
theorem I51 : ifaceT Try.prog 51 = false := by kernel_rfl
theorem U51 : Try.prog.underlying 51 = some (.int .u16) := by kernel_rfl
theorem O59 : oneT Try.prog 59 = true := by kernel_rfl
theorem S59 : slEl Try.prog 59 = some (29, 7) := by kernel_rfl
theorem K59 : sizeT Try.prog 59 = some 1 := by kernel_rfl
theorem Z59 : zeroT Try.prog 59 = some [.slice none 0 0] := by kernel_rfl
theorem I59 : ifaceT Try.prog 59 = false := by kernel_rfl
theorem U59 : Try.prog.underlying 59 = some (.slice 29) := by kernel_rfl
theorem F68_0 : fOff Try.prog 68 0 = some 0 := by kernel_rfl
theorem F68_1 : fOff Try.prog 68 1 = some 1 := by kernel_rfl
theorem A68 : aggT Try.prog 68 = some 2 := by kernel_rfl
theorem K68 : sizeT Try.prog 68 = some 2 := by kernel_rfl
theorem Z68 : zeroT Try.prog 68 = some [.int .i64 0, .int .i64 0] := by kernel_rfl
theorem I68 : ifaceT Try.prog 68 = false := by kernel_rfl
theorem F69_0 : fOff Try.prog 69 0 = some 0 := by kernel_rfl
theorem F69_1 : fOff Try.prog 69 1 = some 1 := by kernel_rfl
theorem A69 : aggT Try.prog 69 = some 2 := by kernel_rfl
theorem K69 : sizeT Try.prog 69 = some 2 := by kernel_rfl
theorem Z69 : zeroT Try.prog 69 = some [.int .i64 0, .int .i64 0] := by kernel_rfl
theorem I69 : ifaceT Try.prog 69 = false := by kernel_rfl
theorem O73 : oneT Try.prog 73 = true := by kernel_rfl
theorem K73 : sizeT Try.prog 73 = some 1 := by kernel_rfl
theorem Z73 : zeroT Try.prog 73 = some [.pointer none] := by kernel_rfl
theorem I73 : ifaceT Try.prog 73 = false := by kernel_rfl
theorem O74 : oneT Try.prog 74 = true := by kernel_rfl
theorem K74 : sizeT Try.prog 74 = some 1 := by kernel_rfl
theorem Z74 : zeroT Try.prog 74 = some [.pointer none] := by kernel_rfl
theorem I74 : ifaceT Try.prog 74 = false := by kernel_rfl
theorem A75 : aggT Try.prog 75 = some 8 := by kernel_rfl
theorem R75 : arEl Try.prog 75 = some (8, 1) := by kernel_rfl
theorem K75 : sizeT Try.prog 75 = some 8 := by kernel_rfl
theorem Z75 : zeroT Try.prog 75 = some [.int .i64 0, .int .i64 0, .int .i64 0, .int .i64 0, .int .i64 0, .int .i64 0, .int .i64 0, .int .i64 0] := by kernel_rfl
theorem I75 : ifaceT Try.prog 75 = false := by kernel_rfl
theorem A76 : aggT Try.prog 76 = some 64 := by kernel_rfl
theorem R76 : arEl Try.prog 76 = some (8, 8) := by kernel_rfl
theorem K76 : sizeT Try.prog 76 = some 64 := by kernel_rfl
theorem Z76 : zeroT Try.prog 76 = some [.int .i64 0, .int .i64 0, .int .i64 0, .int .i64 0, .int .i64 0, .int .i64 0, .int .i64 0, .int .i64 0, .int .i64 0, .int .i64 0, .int .i64 0, .int .i64 0, .int .i64 0, .int .i64 0, .int .i64 0, .int .i64 0, .int .i64 0, .int .i64 0, .int .i64 0, .int .i64 0, .int .i64 0, .int .i64 0, .int .i64 0, .int .i64 0, .int .i64 0, .int .i64 0, .int .i64 0, .int .i64 0, .int .i64 0, .int .i64 0, .int .i64 0, .int .i64 0, .int .i64 0, .int .i64 0, .int .i64 0, .int .i64 0, .int .i64 0, .int .i64 0, .int .i64 0, .int .i64 0, .int .i64 0, .int .i64 0, .int .i64 0, .int .i64 0, .int .i64 0, .int .i64 0, .int .i64 0, .int .i64 0, .int .i64 0, .int .i64 0, .int .i64 0, .int .i64 0, .int .i64 0, .int .i64 0, .int .i64 0, .int .i64 0, .int .i64 0, .int .i64 0, .int .i64 0, .int .i64 0, .int .i64 0, .int .i64 0, .int .i64 0, .int .i64 0] := by kernel_rfl
theorem I76 : ifaceT Try.prog 76 = false := by kernel_rfl
theorem A77 : aggT Try.prog 77 = some 64 := by kernel_rfl
theorem R77 : arEl Try.prog 77 = some (8, 8) := by kernel_rfl
theorem K77 : sizeT Try.prog 77 = some 64 := by kernel_rfl
theorem Z77 : zeroT Try.prog 77 = some [.int .i64 0, .int .i64 0, .int .i64 0, .int .i64 0, .int .i64 0, .int .i64 0, .int .i64 0, .int .i64 0, .int .i64 0, .int .i64 0, .int .i64 0, .int .i64 0, .int .i64 0, .int .i64 0, .int .i64 0, .int .i64 0, .int .i64 0, .int .i64 0, .int .i64 0, .int .i64 0, .int .i64 0, .int .i64 0, .int .i64 0, .int .i64 0, .int .i64 0, .int .i64 0, .int .i64 0, .int .i64 0, .int .i64 0, .int .i64 0, .int .i64 0, .int .i64 0, .int .i64 0, .int .i64 0, .int .i64 0, .int .i64 0, .int .i64 0, .int .i64 0, .int .i64 0, .int .i64 0, .int .i64 0, .int .i64 0, .int .i64 0, .int .i64 0, .int .i64 0, .int .i64 0, .int .i64 0, .int .i64 0, .int .i64 0, .int .i64 0, .int .i64 0, .int .i64 0, .int .i64 0, .int .i64 0, .int .i64 0, .int .i64 0, .int .i64 0, .int .i64 0, .int .i64 0, .int .i64 0, .int .i64 0, .int .i64 0, .int .i64 0, .int .i64 0] := by kernel_rfl
theorem I77 : ifaceT Try.prog 77 = false := by kernel_rfl
theorem O87 : oneT Try.prog 87 = true := by kernel_rfl
theorem K87 : sizeT Try.prog 87 = some 1 := by kernel_rfl
theorem Z87 : zeroT Try.prog 87 = some [.nilFunc] := by kernel_rfl
theorem I87 : ifaceT Try.prog 87 = false := by kernel_rfl
theorem O89 : oneT Try.prog 89 = true := by kernel_rfl
theorem K89 : sizeT Try.prog 89 = some 1 := by kernel_rfl
theorem Z89 : zeroT Try.prog 89 = some [.int .u64 0] := by kernel_rfl
theorem I89 : ifaceT Try.prog 89 = false := by kernel_rfl
theorem U89 : Try.prog.underlying 89 = some (.int .u64) := by kernel_rfl
theorem O90 : oneT Try.prog 90 = true := by kernel_rfl
theorem K90 : sizeT Try.prog 90 = some 1 := by kernel_rfl
theorem Z90 : zeroT Try.prog 90 = some [.int .u64 0] := by kernel_rfl
theorem I90 : ifaceT Try.prog 90 = false := by kernel_rfl
theorem U90 : Try.prog.underlying 90 = some (.int .u64) := by kernel_rfl
theorem O92 : oneT Try.prog 92 = true := by kernel_rfl
theorem K92 : sizeT Try.prog 92 = some 1 := by kernel_rfl
theorem Z92 : zeroT Try.prog 92 = some [.nilFunc] := by kernel_rfl
theorem I92 : ifaceT Try.prog 92 = false := by kernel_rfl
theorem O93 : oneT Try.prog 93 = true := by kernel_rfl
theorem K93 : sizeT Try.prog 93 = some 1 := by kernel_rfl
theorem Z93 : zeroT Try.prog 93 = some [.nilFunc] := by kernel_rfl
theorem I93 : ifaceT Try.prog 93 = false := by kernel_rfl
theorem O96 : oneT Try.prog 96 = true := by kernel_rfl
theorem S96 : slEl Try.prog 96 = some (117, 1) := by kernel_rfl
theorem K96 : sizeT Try.prog 96 = some 1 := by kernel_rfl
theorem Z96 : zeroT Try.prog 96 = some [.slice none 0 0] := by kernel_rfl
theorem I96 : ifaceT Try.prog 96 = false := by kernel_rfl
theorem U96 : Try.prog.underlying 96 = some (.slice 117) := by kernel_rfl
theorem F97_0 : fOff Try.prog 97 0 = some 0 := by kernel_rfl
theorem F97_1 : fOff Try.prog 97 1 = some 7 := by kernel_rfl
theorem A97 : aggT Try.prog 97 = some 8 := by kernel_rfl
theorem K97 : sizeT Try.prog 97 = some 8 := by kernel_rfl
theorem Z97 : zeroT Try.prog 97 = some [.slice none 0 0, .int .i64 0, .int .i64 0, .int .i64 0, .int .i64 0, .int .i64 0, .slice none 0 0, .slice none 0 0] := by kernel_rfl
theorem I97 : ifaceT Try.prog 97 = false := by kernel_rfl
theorem F98_0 : fOff Try.prog 98 0 = some 0 := by kernel_rfl
theorem F98_1 : fOff Try.prog 98 1 = some 7 := by kernel_rfl
theorem A98 : aggT Try.prog 98 = some 8 := by kernel_rfl
theorem K98 : sizeT Try.prog 98 = some 8 := by kernel_rfl
theorem Z98 : zeroT Try.prog 98 = some [.slice none 0 0, .int .i64 0, .int .i64 0, .int .i64 0, .int .i64 0, .int .i64 0, .slice none 0 0, .slice none 0 0] := by kernel_rfl
theorem I98 : ifaceT Try.prog 98 = false := by kernel_rfl
theorem A99 : aggT Try.prog 99 = some 2 := by kernel_rfl
theorem R99 : arEl Try.prog 99 = some (2, 1) := by kernel_rfl
theorem K99 : sizeT Try.prog 99 = some 2 := by kernel_rfl
theorem Z99 : zeroT Try.prog 99 = some [.int .u64 0, .int .u64 0] := by kernel_rfl
theorem I99 : ifaceT Try.prog 99 = false := by kernel_rfl
theorem O101 : oneT Try.prog 101 = true := by kernel_rfl
theorem K101 : sizeT Try.prog 101 = some 1 := by kernel_rfl
theorem Z101 : zeroT Try.prog 101 = some [.nilFunc] := by kernel_rfl
theorem I101 : ifaceT Try.prog 101 = false := by kernel_rfl
theorem F105_0 : fOff Try.prog 105 0 = some 0 := by kernel_rfl
theorem A105 : aggT Try.prog 105 = some 1 := by kernel_rfl
theorem K105 : sizeT Try.prog 105 = some 1 := by kernel_rfl
theorem Z105 : zeroT Try.prog 105 = some [.int .i64 0] := by kernel_rfl
theorem I105 : ifaceT Try.prog 105 = false := by kernel_rfl
theorem F106_0 : fOff Try.prog 106 0 = some 0 := by kernel_rfl
theorem A106 : aggT Try.prog 106 = some 1 := by kernel_rfl
theorem K106 : sizeT Try.prog 106 = some 1 := by kernel_rfl
theorem Z106 : zeroT Try.prog 106 = some [.int .i64 0] := by kernel_rfl
theorem I106 : ifaceT Try.prog 106 = false := by kernel_rfl
theorem O109 : oneT Try.prog 109 = true := by kernel_rfl
theorem K109 : sizeT Try.prog 109 = some 1 := by kernel_rfl
theorem Z109 : zeroT Try.prog 109 = some [.pointer none] := by kernel_rfl
theorem I109 : ifaceT Try.prog 109 = false := by kernel_rfl
theorem O110 : oneT Try.prog 110 = true := by kernel_rfl
theorem K110 : sizeT Try.prog 110 = some 1 := by kernel_rfl
theorem Z110 : zeroT Try.prog 110 = some [.map none] := by kernel_rfl
theorem I110 : ifaceT Try.prog 110 = false := by kernel_rfl
theorem MP110 : mapT Try.prog 110 = some (.i64, 3) := by kernel_rfl
theorem U110 : Try.prog.underlying 110 = some (.map 3 3) := by kernel_rfl
theorem F111_0 : fOff Try.prog 111 0 = some 0 := by kernel_rfl
theorem F111_1 : fOff Try.prog 111 1 = some 1 := by kernel_rfl
theorem A111 : aggT Try.prog 111 = some 3 := by kernel_rfl
theorem K111 : sizeT Try.prog 111 = some 3 := by kernel_rfl
theorem Z111 : zeroT Try.prog 111 = some [.int .i64 0, .int .i64 0, .int .i64 0] := by kernel_rfl
theorem I111 : ifaceT Try.prog 111 = false := by kernel_rfl
theorem F112_0 : fOff Try.prog 112 0 = some 0 := by kernel_rfl
theorem F112_1 : fOff Try.prog 112 1 = some 1 := by kernel_rfl
theorem A112 : aggT Try.prog 112 = some 3 := by kernel_rfl
theorem K112 : sizeT Try.prog 112 = some 3 := by kernel_rfl
theorem Z112 : zeroT Try.prog 112 = some [.int .i64 0, .int .i64 0, .int .i64 0] := by kernel_rfl
theorem I112 : ifaceT Try.prog 112 = false := by kernel_rfl
theorem F113_0 : fOff Try.prog 113 0 = some 0 := by kernel_rfl
theorem F113_1 : fOff Try.prog 113 1 = some 1 := by kernel_rfl
theorem A113 : aggT Try.prog 113 = some 3 := by kernel_rfl
theorem K113 : sizeT Try.prog 113 = some 3 := by kernel_rfl
theorem Z113 : zeroT Try.prog 113 = some [.int .i64 0, .int .i64 0, .int .i64 0] := by kernel_rfl
theorem I113 : ifaceT Try.prog 113 = false := by kernel_rfl
theorem O116 : oneT Try.prog 116 = true := by kernel_rfl
theorem K116 : sizeT Try.prog 116 = some 1 := by kernel_rfl
theorem Z116 : zeroT Try.prog 116 = some [.nilIface] := by kernel_rfl
theorem I116 : ifaceT Try.prog 116 = true := by kernel_rfl
theorem J116 : isIf Try.prog 116 = true := by kernel_rfl
theorem O117 : oneT Try.prog 117 = true := by kernel_rfl
theorem K117 : sizeT Try.prog 117 = some 1 := by kernel_rfl
theorem Z117 : zeroT Try.prog 117 = some [.nilIface] := by kernel_rfl
theorem I117 : ifaceT Try.prog 117 = true := by kernel_rfl
theorem J117 : isIf Try.prog 117 = true := by kernel_rfl
theorem O119 : oneT Try.prog 119 = true := by kernel_rfl
theorem K119 : sizeT Try.prog 119 = some 1 := by kernel_rfl
theorem Z119 : zeroT Try.prog 119 = some [.nilFunc] := by kernel_rfl
theorem I119 : ifaceT Try.prog 119 = false := by kernel_rfl
theorem O123 : oneT Try.prog 123 = true := by kernel_rfl
theorem K123 : sizeT Try.prog 123 = some 1 := by kernel_rfl
theorem Z123 : zeroT Try.prog 123 = some [.nilFunc] := by kernel_rfl
theorem I123 : ifaceT Try.prog 123 = false := by kernel_rfl
theorem O127 : oneT Try.prog 127 = true := by kernel_rfl
theorem K127 : sizeT Try.prog 127 = some 1 := by kernel_rfl
theorem Z127 : zeroT Try.prog 127 = some [.int .u32 0] := by kernel_rfl
theorem I127 : ifaceT Try.prog 127 = false := by kernel_rfl
theorem U127 : Try.prog.underlying 127 = some (.int .u32) := by kernel_rfl
theorem O129 : oneT Try.prog 129 = true := by kernel_rfl
theorem K129 : sizeT Try.prog 129 = some 1 := by kernel_rfl
theorem Z129 : zeroT Try.prog 129 = some [.int .u64 0] := by kernel_rfl
theorem I129 : ifaceT Try.prog 129 = false := by kernel_rfl
theorem U129 : Try.prog.underlying 129 = some (.int .u64) := by kernel_rfl
theorem ZV3 (w : World) : (zeroValue 3).run Try.prog w = .ok (.int .i64 0) w := by kernel_rfl
theorem C3 : callT Try.prog 3 = true := by kernel_rfl
theorem C4 : callT Try.prog 4 = true := by kernel_rfl
theorem C5 : callT Try.prog 5 = true := by kernel_rfl
theorem C6 : callT Try.prog 6 = true := by kernel_rfl
theorem C7 : callT Try.prog 7 = true := by kernel_rfl
theorem C8 : callT Try.prog 8 = true := by kernel_rfl
theorem C9 : callT Try.prog 9 = true := by kernel_rfl
theorem C10 : callT Try.prog 10 = true := by kernel_rfl
theorem C11 : callT Try.prog 11 = true := by kernel_rfl
theorem C12 : callT Try.prog 12 = true := by kernel_rfl
theorem C13 : callT Try.prog 13 = true := by kernel_rfl
theorem C14 : callT Try.prog 14 = true := by kernel_rfl
theorem C15 : callT Try.prog 15 = true := by kernel_rfl
theorem C16 : callT Try.prog 16 = true := by kernel_rfl
theorem C17 : callT Try.prog 17 = true := by kernel_rfl
theorem C18 : callT Try.prog 18 = true := by kernel_rfl
theorem C19 : callT Try.prog 19 = true := by kernel_rfl
theorem C20 : callT Try.prog 20 = true := by kernel_rfl
theorem C21 : callT Try.prog 21 = true := by kernel_rfl
theorem C22 : callT Try.prog 22 = true := by kernel_rfl
theorem C23 : callT Try.prog 23 = true := by kernel_rfl
theorem C24 : callT Try.prog 24 = true := by kernel_rfl
theorem C25 : callT Try.prog 25 = true := by kernel_rfl
theorem C26 : callT Try.prog 26 = true := by kernel_rfl
theorem C27 : callT Try.prog 27 = true := by kernel_rfl
theorem C28 : callT Try.prog 28 = true := by kernel_rfl
theorem C29 : callT Try.prog 29 = true := by kernel_rfl
theorem C30 : callT Try.prog 30 = true := by kernel_rfl
theorem C31 : callT Try.prog 31 = true := by kernel_rfl
theorem C32 : callT Try.prog 32 = true := by kernel_rfl
theorem C33 : callT Try.prog 33 = true := by kernel_rfl
theorem C34 : callT Try.prog 34 = true := by kernel_rfl
theorem C35 : callT Try.prog 35 = true := by kernel_rfl
theorem C36 : callT Try.prog 36 = true := by kernel_rfl
theorem C37 : callT Try.prog 37 = true := by kernel_rfl
theorem C38 : callT Try.prog 38 = true := by kernel_rfl
theorem C39 : callT Try.prog 39 = true := by kernel_rfl
theorem C40 : callT Try.prog 40 = true := by kernel_rfl
theorem C41 : callT Try.prog 41 = true := by kernel_rfl
theorem C42 : callT Try.prog 42 = true := by kernel_rfl
theorem C43 : callT Try.prog 43 = true := by kernel_rfl
theorem C44 : callT Try.prog 44 = true := by kernel_rfl
theorem C45 : callT Try.prog 45 = true := by kernel_rfl
theorem C46 : callT Try.prog 46 = true := by kernel_rfl
theorem C47 : callT Try.prog 47 = true := by kernel_rfl
theorem C48 : callT Try.prog 48 = true := by kernel_rfl
theorem C49 : callT Try.prog 49 = true := by kernel_rfl
theorem C50 : callT Try.prog 50 = true := by kernel_rfl
theorem C51 : callT Try.prog 51 = true := by kernel_rfl
theorem C52 : callT Try.prog 52 = true := by kernel_rfl
theorem C53 : callT Try.prog 53 = true := by kernel_rfl
theorem C54 : callT Try.prog 54 = true := by kernel_rfl
theorem C55 : callT Try.prog 55 = true := by kernel_rfl
theorem C56 : callT Try.prog 56 = true := by kernel_rfl
theorem C57 : callT Try.prog 57 = true := by kernel_rfl
theorem C58 : callT Try.prog 58 = true := by kernel_rfl
theorem C59 : callT Try.prog 59 = true := by kernel_rfl
theorem C60 : callT Try.prog 60 = true := by kernel_rfl
theorem C61 : callT Try.prog 61 = true := by kernel_rfl
theorem C62 : callT Try.prog 62 = true := by kernel_rfl
theorem C63 : callT Try.prog 63 = true := by kernel_rfl
theorem C64 : callT Try.prog 64 = true := by kernel_rfl
theorem C65 : callT Try.prog 65 = true := by kernel_rfl
theorem C66 : callT Try.prog 66 = true := by kernel_rfl
theorem C67 : callT Try.prog 67 = true := by kernel_rfl
theorem C68 : callT Try.prog 68 = true := by kernel_rfl
theorem C69 : callT Try.prog 69 = true := by kernel_rfl
theorem C70 : callT Try.prog 70 = true := by kernel_rfl
theorem C71 : callT Try.prog 71 = true := by kernel_rfl
theorem C72 : callT Try.prog 72 = true := by kernel_rfl
theorem C73 : callT Try.prog 73 = true := by kernel_rfl
theorem C74 : callT Try.prog 74 = true := by kernel_rfl
theorem C75 : callT Try.prog 75 = true := by kernel_rfl
theorem C76 : callT Try.prog 76 = true := by kernel_rfl
theorem C77 : callT Try.prog 77 = true := by kernel_rfl
theorem C78 : callT Try.prog 78 = true := by kernel_rfl
theorem C79 : callT Try.prog 79 = true := by kernel_rfl
theorem C80 : callT Try.prog 80 = true := by kernel_rfl
theorem C81 : callT Try.prog 81 = true := by kernel_rfl
theorem C82 : callT Try.prog 82 = true := by kernel_rfl
theorem C83 : callT Try.prog 83 = true := by kernel_rfl
theorem C84 : callT Try.prog 84 = true := by kernel_rfl
theorem C85 : callT Try.prog 85 = true := by kernel_rfl
theorem C86 : callT Try.prog 86 = true := by kernel_rfl
theorem C87 : callT Try.prog 87 = true := by kernel_rfl
theorem C88 : callT Try.prog 88 = true := by kernel_rfl
theorem C89 : callT Try.prog 89 = true := by kernel_rfl
theorem C90 : callT Try.prog 90 = true := by kernel_rfl
theorem C91 : callT Try.prog 91 = true := by kernel_rfl
theorem C92 : callT Try.prog 92 = true := by kernel_rfl
theorem C93 : callT Try.prog 93 = true := by kernel_rfl
theorem C94 : callT Try.prog 94 = true := by kernel_rfl
theorem C95 : callT Try.prog 95 = true := by kernel_rfl
theorem C96 : callT Try.prog 96 = true := by kernel_rfl
theorem C97 : callT Try.prog 97 = true := by kernel_rfl
theorem C98 : callT Try.prog 98 = true := by kernel_rfl
theorem C99 : callT Try.prog 99 = true := by kernel_rfl
theorem C116 : callT Try.prog 116 = true := by kernel_rfl
theorem C117 : callT Try.prog 117 = true := by kernel_rfl
theorem B24_  (w : World) : (Instr.build 24 [].toArray).run Try.prog w = .ok (.agg [.int .i64 0, .int .i64 0].toArray) w := by kernel_rfl
theorem BS41_2_0_1 {p0 : Int} {p1 : Int} (w : World) : (Instr.buildSlice 41 2 [(0, .int .i64 p0), (1, .int .i64 p1)].toArray).run Try.prog w = .ok (.slice (some ⟨w.heap.size, 0, none⟩) 2 2) { w with heap := w.heap.push (blk [.int .i64 p0, .int .i64 p1] 3) } := by kernel_rfl
theorem BS27_0_  (w : World) : (Instr.buildSlice 27 0 [].toArray).run Try.prog w = .ok (.slice (some ⟨w.heap.size, 0, none⟩) 0 0) { w with heap := w.heap.push (blk [] 49) } := by kernel_rfl
theorem BS27_1_0 {p00_ : Int} {p01_ : Int} {p02_ : Bool} (w : World) : (Instr.buildSlice 27 1 [(0, .agg [.int .i64 p00_, .int .i64 p01_, .bool p02_].toArray)].toArray).run Try.prog w = .ok (.slice (some ⟨w.heap.size, 0, none⟩) 1 1) { w with heap := w.heap.push (blk [.int .i64 p00_, .int .i64 p01_, .bool p02_] 49) } := by kernel_rfl
theorem BS59_2_0_1 {p00_0_a : Option Addr} {p00_0_n : Nat} {p00_0_c : Nat} {p00_1_0_ : Int} {p00_1_1_ : Int} {p01_ : Int} {p02_0_ : Int} {p02_1_ : Int} {p03_a : Option Addr} {p03_n : Nat} {p03_c : Nat} {p10_0_a : Option Addr} {p10_0_n : Nat} {p10_0_c : Nat} {p10_1_0_ : Int} {p10_1_1_ : Int} {p11_ : Int} {p12_0_ : Int} {p12_1_ : Int} {p13_a : Option Addr} {p13_n : Nat} {p13_c : Nat} (w : World) : (Instr.buildSlice 59 2 [(0, .agg [.slice p00_0_a p00_0_n p00_0_c, .int .i64 p00_1_0_, .int .i64 p00_1_1_, .int .i64 p01_, .int .i64 p02_0_, .int .i64 p02_1_, .slice p03_a p03_n p03_c].toArray), (1, .agg [.slice p10_0_a p10_0_n p10_0_c, .int .i64 p10_1_0_, .int .i64 p10_1_1_, .int .i64 p11_, .int .i64 p12_0_, .int .i64 p12_1_, .slice p13_a p13_n p13_c].toArray)].toArray).run Try.prog w = .ok (.slice (some ⟨w.heap.size, 0, none⟩) 2 2) { w with heap := w.heap.push (blk [.slice p00_0_a p00_0_n p00_0_c, .int .i64 p00_1_0_, .int .i64 p00_1_1_, .int .i64 p01_, .int .i64 p02_0_, .int .i64 p02_1_, .slice p03_a p03_n p03_c, .slice p10_0_a p10_0_n p10_0_c, .int .i64 p10_1_0_, .int .i64 p10_1_1_, .int .i64 p11_, .int .i64 p12_0_, .int .i64 p12_1_, .slice p13_a p13_n p13_c] 29) } := by kernel_rfl
theorem BS27_3_0_1_2 {p00_ : Int} {p01_ : Int} {p02_ : Bool} {p10_ : Int} {p11_ : Int} {p12_ : Bool} {p20_ : Int} {p21_ : Int} {p22_ : Bool} (w : World) : (Instr.buildSlice 27 3 [(0, .agg [.int .i64 p00_, .int .i64 p01_, .bool p02_].toArray), (1, .agg [.int .i64 p10_, .int .i64 p11_, .bool p12_].toArray), (2, .agg [.int .i64 p20_, .int .i64 p21_, .bool p22_].toArray)].toArray).run Try.prog w = .ok (.slice (some ⟨w.heap.size, 0, none⟩) 3 3) { w with heap := w.heap.push (blk [.int .i64 p00_, .int .i64 p01_, .bool p02_, .int .i64 p10_, .int .i64 p11_, .bool p12_, .int .i64 p20_, .int .i64 p21_, .bool p22_] 49) } := by kernel_rfl
theorem BS22_0_  (w : World) : (Instr.buildSlice 22 0 [].toArray).run Try.prog w = .ok (.slice (some ⟨w.heap.size, 0, none⟩) 0 0) { w with heap := w.heap.push (blk [] 24) } := by kernel_rfl
theorem B24_0_1 {p0 : Int} {p1 : Int} (w : World) : (Instr.build 24 [(0, .int .i64 p0), (1, .int .i64 p1)].toArray).run Try.prog w = .ok (.agg [.int .i64 p0, .int .i64 p1].toArray) w := by kernel_rfl
theorem BS41_1_0 {p0 : Int} (w : World) : (Instr.buildSlice 41 1 [(0, .int .i64 p0)].toArray).run Try.prog w = .ok (.slice (some ⟨w.heap.size, 0, none⟩) 1 1) { w with heap := w.heap.push (blk [.int .i64 p0] 3) } := by kernel_rfl
theorem BS22_1_0 {p00_ : Int} {p01_ : Int} (w : World) : (Instr.buildSlice 22 1 [(0, .agg [.int .i64 p00_, .int .i64 p01_].toArray)].toArray).run Try.prog w = .ok (.slice (some ⟨w.heap.size, 0, none⟩) 1 1) { w with heap := w.heap.push (blk [.int .i64 p00_, .int .i64 p01_] 24) } := by kernel_rfl
theorem B49_0_2 {p0 : Int} {p2 : Bool} (w : World) : (Instr.build 49 [(0, .int .i64 p0), (2, .bool p2)].toArray).run Try.prog w = .ok (.agg [.int .i64 p0, .int .i64 0, .bool p2].toArray) w := by kernel_rfl
theorem BS22_4_0_1_2_3 {p00_ : Int} {p01_ : Int} {p10_ : Int} {p11_ : Int} {p20_ : Int} {p21_ : Int} {p30_ : Int} {p31_ : Int} (w : World) : (Instr.buildSlice 22 4 [(0, .agg [.int .i64 p00_, .int .i64 p01_].toArray), (1, .agg [.int .i64 p10_, .int .i64 p11_].toArray), (2, .agg [.int .i64 p20_, .int .i64 p21_].toArray), (3, .agg [.int .i64 p30_, .int .i64 p31_].toArray)].toArray).run Try.prog w = .ok (.slice (some ⟨w.heap.size, 0, none⟩) 4 4) { w with heap := w.heap.push (blk [.int .i64 p00_, .int .i64 p01_, .int .i64 p10_, .int .i64 p11_, .int .i64 p20_, .int .i64 p21_, .int .i64 p30_, .int .i64 p31_] 24) } := by kernel_rfl
theorem B26_0_1 {p0a : Option Addr} {p0n : Nat} {p0c : Nat} {p10_ : Int} {p11_ : Int} (w : World) : (Instr.build 26 [(0, .slice p0a p0n p0c), (1, .agg [.int .i64 p10_, .int .i64 p11_].toArray)].toArray).run Try.prog w = .ok (.agg [.slice p0a p0n p0c, .int .i64 p10_, .int .i64 p11_].toArray) w := by kernel_rfl
theorem B49_0_1 {p0 : Int} {p1 : Int} (w : World) : (Instr.build 49 [(0, .int .i64 p0), (1, .int .i64 p1)].toArray).run Try.prog w = .ok (.agg [.int .i64 p0, .int .i64 p1, .bool false].toArray) w := by kernel_rfl
theorem B49_0_1_2 {p0 : Int} {p1 : Int} {p2 : Bool} (w : World) : (Instr.build 49 [(0, .int .i64 p0), (1, .int .i64 p1), (2, .bool p2)].toArray).run Try.prog w = .ok (.agg [.int .i64 p0, .int .i64 p1, .bool p2].toArray) w := by kernel_rfl
theorem BS27_4_0_1_2_3 {p00_ : Int} {p01_ : Int} {p02_ : Bool} {p10_ : Int} {p11_ : Int} {p12_ : Bool} {p20_ : Int} {p21_ : Int} {p22_ : Bool} {p30_ : Int} {p31_ : Int} {p32_ : Bool} (w : World) : (Instr.buildSlice 27 4 [(0, .agg [.int .i64 p00_, .int .i64 p01_, .bool p02_].toArray), (1, .agg [.int .i64 p10_, .int .i64 p11_, .bool p12_].toArray), (2, .agg [.int .i64 p20_, .int .i64 p21_, .bool p22_].toArray), (3, .agg [.int .i64 p30_, .int .i64 p31_, .bool p32_].toArray)].toArray).run Try.prog w = .ok (.slice (some ⟨w.heap.size, 0, none⟩) 4 4) { w with heap := w.heap.push (blk [.int .i64 p00_, .int .i64 p01_, .bool p02_, .int .i64 p10_, .int .i64 p11_, .bool p12_, .int .i64 p20_, .int .i64 p21_, .bool p22_, .int .i64 p30_, .int .i64 p31_, .bool p32_] 49) } := by kernel_rfl
theorem B29_0_1_2_3 {p00_a : Option Addr} {p00_n : Nat} {p00_c : Nat} {p01_0_ : Int} {p01_1_ : Int} {p1 : Int} {p20_ : Int} {p21_ : Int} {p3a : Option Addr} {p3n : Nat} {p3c : Nat} (w : World) : (Instr.build 29 [(0, .agg [.slice p00_a p00_n p00_c, .int .i64 p01_0_, .int .i64 p01_1_].toArray), (1, .int .i64 p1), (2, .agg [.int .i64 p20_, .int .i64 p21_].toArray), (3, .slice p3a p3n p3c)].toArray).run Try.prog w = .ok (.agg [.slice p00_a p00_n p00_c, .int .i64 p01_0_, .int .i64 p01_1_, .int .i64 p1, .int .i64 p20_, .int .i64 p21_, .slice p3a p3n p3c].toArray) w := by kernel_rfl
theorem BS22_3_0_1_2 {p00_ : Int} {p01_ : Int} {p10_ : Int} {p11_ : Int} {p20_ : Int} {p21_ : Int} (w : World) : (Instr.buildSlice 22 3 [(0, .agg [.int .i64 p00_, .int .i64 p01_].toArray), (1, .agg [.int .i64 p10_, .int .i64 p11_].toArray), (2, .agg [.int .i64 p20_, .int .i64 p21_].toArray)].toArray).run Try.prog w = .ok (.slice (some ⟨w.heap.size, 0, none⟩) 3 3) { w with heap := w.heap.push (blk [.int .i64 p00_, .int .i64 p01_, .int .i64 p10_, .int .i64 p11_, .int .i64 p20_, .int .i64 p21_] 24) } := by kernel_rfl
theorem B98_0 {p00_0_a : Option Addr} {p00_0_n : Nat} {p00_0_c : Nat} {p00_1_0_ : Int} {p00_1_1_ : Int} {p01_ : Int} {p02_0_ : Int} {p02_1_ : Int} {p03_a : Option Addr} {p03_n : Nat} {p03_c : Nat} (w : World) : (Instr.build 98 [(0, .agg [.slice p00_0_a p00_0_n p00_0_c, .int .i64 p00_1_0_, .int .i64 p00_1_1_, .int .i64 p01_, .int .i64 p02_0_, .int .i64 p02_1_, .slice p03_a p03_n p03_c].toArray)].toArray).run Try.prog w = .ok (.agg [.slice p00_0_a p00_0_n p00_0_c, .int .i64 p00_1_0_, .int .i64 p00_1_1_, .int .i64 p01_, .int .i64 p02_0_, .int .i64 p02_1_, .slice p03_a p03_n p03_c, .slice none 0 0].toArray) w := by kernel_rfl
theorem B112_0_1 {p0 : Int} {p10_ : Int} {p11_ : Int} (w : World) : (Instr.build 112 [(0, .int .i64 p0), (1, .agg [.int .i64 p10_, .int .i64 p11_].toArray)].toArray).run Try.prog w = .ok (.agg [.int .i64 p0, .int .i64 p10_, .int .i64 p11_].toArray) w := by kernel_rfl
theorem BS96_1_0 {p0t : TypeId} {p0x : Value} (w : World) : (Instr.buildSlice 96 1 [(0, .iface p0t p0x)].toArray).run Try.prog w = .ok (.slice (some ⟨w.heap.size, 0, none⟩) 1 1) { w with heap := w.heap.push (blk [.iface p0t p0x] 117) } := by kernel_rfl
theorem B113_0_1 {p0 : Int} {p10_ : Int} {p11_ : Int} (w : World) : (Instr.build 113 [(0, .int .i64 p0), (1, .agg [.int .i64 p10_, .int .i64 p11_].toArray)].toArray).run Try.prog w = .ok (.agg [.int .i64 p0, .int .i64 p10_, .int .i64 p11_].toArray) w := by kernel_rfl
theorem B69_0_1 {p0 : Int} {p1 : Int} (w : World) : (Instr.build 69 [(0, .int .i64 p0), (1, .int .i64 p1)].toArray).run Try.prog w = .ok (.agg [.int .i64 p0, .int .i64 p1].toArray) w := by kernel_rfl
theorem B106_0 {p0 : Int} (w : World) : (Instr.build 106 [(0, .int .i64 p0)].toArray).run Try.prog w = .ok (.agg [.int .i64 p0].toArray) w := by kernel_rfl
theorem FD29_0 {p0_0_a : Option Addr} {p0_0_n : Nat} {p0_0_c : Nat} {p0_1_0_ : Int} {p0_1_1_ : Int} {p1_ : Int} {p2_0_ : Int} {p2_1_ : Int} {p3_a : Option Addr} {p3_n : Nat} {p3_c : Nat} (w : World) : (Instr.field 29 (.agg [.slice p0_0_a p0_0_n p0_0_c, .int .i64 p0_1_0_, .int .i64 p0_1_1_, .int .i64 p1_, .int .i64 p2_0_, .int .i64 p2_1_, .slice p3_a p3_n p3_c].toArray) 0).run Try.prog w = .ok (.agg [.slice p0_0_a p0_0_n p0_0_c, .int .i64 p0_1_0_, .int .i64 p0_1_1_].toArray) w := by kernel_rfl
theorem AP22 : appT Try.prog 22 = some (24, 2, 16) := by kernel_rfl
theorem AP27 : appT Try.prog 27 = some (49, 3, 24) := by kernel_rfl
theorem AP41 : appT Try.prog 41 = some (3, 1, 8) := by kernel_rfl
theorem AP96 : appT Try.prog 96 = some (117, 1, 16) := by kernel_rfl
theorem G24 : Try.prog.eqGuardType Try.prog.depth 24 = false := by kernel_rfl
theorem E24 : eqFs Try.prog 24 = some [(3, 0), (3, 1)] := by kernel_rfl
theorem Q24 {a0 : Int} {a1 : Int} {b0 : Int} {b1 : Int} (w : World) : (Op.equal 24 (.agg [.int .i64 a0, .int .i64 a1].toArray) (.agg [.int .i64 b0, .int .i64 b1].toArray)).run Try.prog w = .ok (decide (a0 = b0 ∧ a1 = b1)) w := by
  rw [equal_step, run_equalIn_fs E24]
  refine Eq.trans (eqAll_int O3 U3 rfl rfl (eqAll_int O3 U3 rfl rfl (eqAll_nil))) ?_
  simp only [and_true]
theorem G49 : Try.prog.eqGuardType Try.prog.depth 49 = false := by kernel_rfl
theorem E49 : eqFs Try.prog 49 = some [(3, 0), (3, 1), (4, 2)] := by kernel_rfl
theorem Q49 {a0 : Int} {a1 : Int} {a2 : Bool} {b0 : Int} {b1 : Int} {b2 : Bool} (w : World) : (Op.equal 49 (.agg [.int .i64 a0, .int .i64 a1, .bool a2].toArray) (.agg [.int .i64 b0, .int .i64 b1, .bool b2].toArray)).run Try.prog w = .ok (decide (a0 = b0 ∧ a1 = b1 ∧ a2 = b2)) w := by
  rw [equal_step, run_equalIn_fs E49]
  refine Eq.trans (eqAll_int O3 U3 rfl rfl (eqAll_int O3 U3 rfl rfl (eqAll_bool O4 U4 rfl rfl (eqAll_nil)))) ?_
  simp only [and_true]
theorem G77 : Try.prog.eqGuardType Try.prog.depth 77 = false := by kernel_rfl
end Go.Proofs.Ytoefcofplkbnkaa
