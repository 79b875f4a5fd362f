/-
  Texts Facts in one.
-/
import Derived.Test.YtlcdohhhhlhpmaaProg
import Derived.Test.YtlcdohhhhlhpmaaE3
namespace Go.Proofs.Ytlcdohhhhlhpmaa
open ZW

theorem hMix : Try.prog.follows .mixedOrders = true := by kernel_rfl
theorem O1 : oneT Try.prog 1 = true := by kernel_rfl
theorem K1 : sizeT Try.prog 1 = some 1 := by kernel_rfl
theorem Z1 : zeroT Try.prog 1 = some [.nilFunc] := by kernel_rfl
theorem I1 : ifaceT Try.prog 1 = false := by kernel_rfl
theorem O2 : oneT Try.prog 2 = true := by kernel_rfl
theorem K2 : sizeT Try.prog 2 = some 1 := by kernel_rfl
theorem Z2 : zeroT Try.prog 2 = some [.int .i64 0] := by kernel_rfl
theorem I2 : ifaceT Try.prog 2 = false := by kernel_rfl
theorem U2 : Try.prog.underlying 2 = some (.int .i64) := by kernel_rfl
theorem O3 : oneT Try.prog 3 = true := by kernel_rfl
theorem K3 : sizeT Try.prog 3 = some 1 := by kernel_rfl
theorem Z3 : zeroT Try.prog 3 = some [.int .i64 0] := by kernel_rfl
theorem I3 : ifaceT Try.prog 3 = false := by kernel_rfl
theorem U3 : Try.prog.underlying 3 = some (.int .i64) := by kernel_rfl
theorem O4 : oneT Try.prog 4 = true := by kernel_rfl
theorem K4 : sizeT Try.prog 4 = some 1 := by kernel_rfl
theorem Z4 : zeroT Try.prog 4 = some [.bool false] := by kernel_rfl
theorem I4 : ifaceT Try.prog 4 = false := by kernel_rfl
theorem U4 : Try.prog.underlying 4 = some .bool := by kernel_rfl
theorem O5 : oneT Try.prog 5 = true := by kernel_rfl
theorem K5 : sizeT Try.prog 5 = some 1 := by kernel_rfl
theorem Z5 : zeroT Try.prog 5 = some [.int .u8 0] := by kernel_rfl
theorem I5 : ifaceT Try.prog 5 = false := by kernel_rfl
theorem U5 : Try.prog.underlying 5 = some (.int .u8) := by kernel_rfl
theorem O9 : oneT Try.prog 9 = true := by kernel_rfl
theorem K9 : sizeT Try.prog 9 = some 1 := by kernel_rfl
theorem Z9 : zeroT Try.prog 9 = some [.string ⟨#[]⟩] := by kernel_rfl
theorem I9 : ifaceT Try.prog 9 = false := by kernel_rfl
theorem O20 : oneT Try.prog 20 = true := by kernel_rfl
theorem K20 : sizeT Try.prog 20 = some 1 := by kernel_rfl
theorem Z20 : zeroT Try.prog 20 = some [.nilIface] := by kernel_rfl
theorem I20 : ifaceT Try.prog 20 = true := by kernel_rfl
theorem J20 : isIf Try.prog 20 = true := by kernel_rfl
theorem F22_0 : fOff Try.prog 22 0 = some 0 := by kernel_rfl
theorem F22_1 : fOff Try.prog 22 1 = some 1 := by kernel_rfl
theorem A22 : aggT Try.prog 22 = some 2 := by kernel_rfl
theorem K22 : sizeT Try.prog 22 = some 2 := by kernel_rfl
theorem Z22 : zeroT Try.prog 22 = some [.int .i64 0, .int .i64 0] := by kernel_rfl
theorem I22 : ifaceT Try.prog 22 = false := by kernel_rfl
theorem F23_0 : fOff Try.prog 23 0 = some 0 := by kernel_rfl
theorem F23_1 : fOff Try.prog 23 1 = some 1 := by kernel_rfl
theorem A23 : aggT Try.prog 23 = some 2 := by kernel_rfl
theorem K23 : sizeT Try.prog 23 = some 2 := by kernel_rfl
theorem Z23 : zeroT Try.prog 23 = some [.int .i64 0, .int .i64 0] := by kernel_rfl
theorem I23 : ifaceT Try.prog 23 = false := by kernel_rfl
theorem O24 : oneT Try.prog 24 = true := by kernel_rfl
theorem S24 : slEl Try.prog 24 = some (58, 9) := by kernel_rfl
theorem K24 : sizeT Try.prog 24 = some 1 := by kernel_rfl
theorem Z24 : zeroT Try.prog 24 = some [.slice none 0 0] := by kernel_rfl
theorem I24 : ifaceT Try.prog 24 = false := by kernel_rfl
theorem U24 : Try.prog.underlying 24 = some (.slice 58) := by kernel_rfl
theorem F25_0 : fOff Try.prog 25 0 = some 0 := by kernel_rfl
theorem F25_1 : fOff Try.prog 25 1 = some 2 := by kernel_rfl
theorem A25 : aggT Try.prog 25 = some 3 := by kernel_rfl
theorem K25 : sizeT Try.prog 25 = some 3 := by kernel_rfl
theorem Z25 : zeroT Try.prog 25 = some [.int .i64 0, .int .i64 0, .slice none 0 0] := by kernel_rfl
theorem I25 : ifaceT Try.prog 25 = false := by kernel_rfl
theorem F26_0 : fOff Try.prog 26 0 = some 0 := by kernel_rfl
theorem F26_1 : fOff Try.prog 26 1 = some 2 := by kernel_rfl
theorem A26 : aggT Try.prog 26 = some 3 := by kernel_rfl
theorem K26 : sizeT Try.prog 26 = some 3 := by kernel_rfl
theorem Z26 : zeroT Try.prog 26 = some [.int .i64 0, .int .i64 0, .slice none 0 0] := by kernel_rfl
theorem I26 : ifaceT Try.prog 26 = false := by kernel_rfl
theorem O29 : oneT Try.prog 29 = true := by kernel_rfl
theorem K29 : sizeT Try.prog 29 = some 1 := by kernel_rfl
theorem Z29 : zeroT Try.prog 29 = some [.int .i64 0] := by kernel_rfl
theorem I29 : ifaceT Try.prog 29 = false := by kernel_rfl
theorem U29 : Try.prog.underlying 29 = some (.int .i64) := by kernel_rfl
theorem O43 : oneT Try.prog 43 = true := by kernel_rfl
theorem S43 : slEl Try.prog 43 = some (60, 1) := by kernel_rfl
theorem K43 : sizeT Try.prog 43 = some 1 := by kernel_rfl
theorem Z43 : zeroT Try.prog 43 = some [.slice none 0 0] := by kernel_rfl
theorem I43 : ifaceT Try.prog 43 = false := by kernel_rfl
theorem U43 : Try.prog.underlying 43 = some (.slice 60) := by kernel_rfl
theorem F44_0 : fOff Try.prog 44 0 = some 0 := by kernel_rfl
theorem F44_1 : fOff Try.prog 44 1 = some 1 := by kernel_rfl
theorem A44 : aggT Try.prog 44 = some 2 := by kernel_rfl
theorem K44 : sizeT Try.prog 44 = some 2 := by kernel_rfl
theorem Z44 : zeroT Try.prog 44 = some [.int .i64 0, .int .i64 0] := by kernel_rfl
theorem I44 : ifaceT Try.prog 44 = false := by kernel_rfl
theorem F45_0 : fOff Try.prog 45 0 = some 0 := by kernel_rfl
theorem F45_1 : fOff Try.prog 45 1 = some 1 := by kernel_rfl
theorem A45 : aggT Try.prog 45 = some 2 := by kernel_rfl
theorem K45 : sizeT Try.prog 45 = some 2 := by kernel_rfl
theorem Z45 : zeroT Try.prog 45 = some [.int .i64 0, .int .i64 0] := by kernel_rfl
theorem I45 : ifaceT Try.prog 45 = false := by kernel_rfl
theorem O46 : oneT Try.prog 46 = true := by kernel_rfl
theorem S46 : slEl Try.prog 46 = some (45, 2) := by kernel_rfl
theorem K46 : sizeT Try.prog 46 = some 1 := by kernel_rfl
theorem Z46 : zeroT Try.prog 46 = some [.slice none 0 0] := by kernel_rfl
theorem I46 : ifaceT Try.prog 46 = false := by kernel_rfl
theorem U46 : Try.prog.underlying 46 = some (.slice 45) := by kernel_rfl
theorem O49 : oneT Try.prog 49 = true := by kernel_rfl
theorem K49 : sizeT Try.prog 49 = some 1 := by kernel_rfl
theorem Z49 : zeroT Try.prog 49 = some [.nilFunc] := by kernel_rfl
theorem I49 : ifaceT Try.prog 49 = false := by kernel_rfl
theorem O56 : oneT Try.prog 56 = true := by kernel_rfl
theorem S56 : slEl Try.prog 56 = some (3, 1) := by kernel_rfl
theorem K56 : sizeT Try.prog 56 = some 1 := by kernel_rfl
theorem Z56 : zeroT Try.prog 56 = some [.slice none 0 0] := by kernel_rfl
theorem I56 : ifaceT Try.prog 56 = false := by kernel_rfl
theorem U56 : Try.prog.underlying 56 = some (.slice 3) := by kernel_rfl
theorem F57_0 : fOff Try.prog 57 0 = some 0 := by kernel_rfl
theorem F57_1 : fOff Try.prog 57 1 = some 2 := by kernel_rfl
theorem F57_2 : fOff Try.prog 57 2 = some 4 := by kernel_rfl
theorem F57_3 : fOff Try.prog 57 3 = some 5 := by kernel_rfl
theorem F57_4 : fOff Try.prog 57 4 = some 7 := by kernel_rfl
theorem A57 : aggT Try.prog 57 = some 9 := by kernel_rfl
theorem K57 : sizeT Try.prog 57 = some 9 := by kernel_rfl
theorem Z57 : zeroT Try.prog 57 = some [.int .i64 0, .int .i64 0, .int .i64 0, .int .i64 0, .bool false, .int .i64 0, .int .i64 0, .int .i64 0, .int .i64 0] := by kernel_rfl
theorem I57 : ifaceT Try.prog 57 = false := by kernel_rfl
theorem F58_0 : fOff Try.prog 58 0 = some 0 := by kernel_rfl
theorem F58_1 : fOff Try.prog 58 1 = some 2 := by kernel_rfl
theorem F58_2 : fOff Try.prog 58 2 = some 4 := by kernel_rfl
theorem F58_3 : fOff Try.prog 58 3 = some 5 := by kernel_rfl
theorem F58_4 : fOff Try.prog 58 4 = some 7 := by kernel_rfl
theorem A58 : aggT Try.prog 58 = some 9 := by kernel_rfl
theorem K58 : sizeT Try.prog 58 = some 9 := by kernel_rfl
theorem Z58 : zeroT Try.prog 58 = some [.int .i64 0, .int .i64 0, .int .i64 0, .int .i64 0, .bool false, .int .i64 0, .int .i64 0, .int .i64 0, .int .i64 0] := by kernel_rfl
theorem I58 : ifaceT Try.prog 58 = false := by kernel_rfl
theorem O60 : oneT Try.prog 60 = true := by kernel_rfl
theorem K60 : sizeT Try.prog 60 = some 1 := by kernel_rfl
theorem Z60 : zeroT Try.prog 60 = some [.int .u16 0] := by kernel_rfl
theorem I60 : ifaceT Try.prog 60 = false := by kernel_rfl
theorem U60 : Try.prog.underlying 60 = some (.int .u16) := by kernel_rfl
theorem O65 : oneT Try.prog 65 = true := by kernel_rfl
theorem S65 : slEl Try.prog 65 = some (26, 3) := by kernel_rfl
theorem K65 : sizeT Try.prog 65 = some 1 := by kernel_rfl
theorem Z65 : zeroT Try.prog 65 = some [.slice none 0 0] := by kernel_rfl
theorem I65 : ifaceT Try.prog 65 = false := by kernel_rfl
theorem U65 : Try.prog.underlying 65 = some (.slice 26) := by kernel_rfl
theorem O67 : oneT Try.prog 67 = true := by kernel_rfl
theorem K67 : sizeT Try.prog 67 = some 1 := by kernel_rfl
theorem Z67 : zeroT Try.prog 67 = some [.int .i16 0] := by kernel_rfl
theorem I67 : ifaceT Try.prog 67 = false := by kernel_rfl
theorem U67 : Try.prog.underlying 67 = some (.int .i16) := by kernel_rfl
theorem O70 : oneT Try.prog 70 = true := by kernel_rfl
theorem S70 : slEl Try.prog 70 = some (23, 2) := by kernel_rfl
theorem K70 : sizeT Try.prog 70 = some 1 := by kernel_rfl
theorem Z70 : zeroT Try.prog 70 = some [.slice none 0 0] := by kernel_rfl
theorem I70 : ifaceT Try.prog 70 = false := by kernel_rfl
theorem U70 : Try.prog.underlying 70 = some (.slice 23) := by kernel_rfl
theorem F71_0 : fOff Try.prog 71 0 = some 0 := by kernel_rfl
theorem F71_1 : fOff Try.prog 71 1 = some 1 := by kernel_rfl
theorem A71 : aggT Try.prog 71 = some 3 := by kernel_rfl
theorem K71 : sizeT Try.prog 71 = some 3 := by kernel_rfl
theorem Z71 : zeroT Try.prog 71 = some [.slice none 0 0, .int .i64 0, .int .i64 0] := by kernel_rfl
theorem I71 : ifaceT Try.prog 71 = false := by kernel_rfl
theorem F72_0 : fOff Try.prog 72 0 = some 0 := by kernel_rfl
theorem F72_1 : fOff Try.prog 72 1 = some 1 := by kernel_rfl
theorem A72 : aggT Try.prog 72 = some 3 := by kernel_rfl
theorem K72 : sizeT Try.prog 72 = some 3 := by kernel_rfl
theorem Z72 : zeroT Try.prog 72 = some [.slice none 0 0, .int .i64 0, .int .i64 0] := by kernel_rfl
theorem I72 : ifaceT Try.prog 72 = false := by kernel_rfl
theorem O73 : oneT Try.prog 73 = true := by kernel_rfl
theorem S73 : slEl Try.prog 73 = some (78, 3) := by kernel_rfl
theorem K73 : sizeT Try.prog 73 = some 1 := by kernel_rfl
theorem Z73 : zeroT Try.prog 73 = some [.slice none 0 0] := by kernel_rfl
theorem I73 : ifaceT Try.prog 73 = false := by kernel_rfl
theorem U73 : Try.prog.underlying 73 = some (.slice 78) := by kernel_rfl
theorem F74_0 : fOff Try.prog 74 0 = some 0 := by kernel_rfl
theorem F74_1 : fOff Try.prog 74 1 = some 3 := by kernel_rfl
theorem F74_2 : fOff Try.prog 74 2 = some 4 := by kernel_rfl
theorem F74_3 : fOff Try.prog 74 3 = some 6 := by kernel_rfl
theorem A74 : aggT Try.prog 74 = some 7 := by kernel_rfl
theorem K74 : sizeT Try.prog 74 = some 7 := by kernel_rfl
theorem Z74 : zeroT Try.prog 74 = some [.slice none 0 0, .int .i64 0, .int .i64 0, .int .i64 0, .int .i64 0, .int .i64 0, .slice none 0 0] := by kernel_rfl
theorem I74 : ifaceT Try.prog 74 = false := by kernel_rfl
theorem F75_0 : fOff Try.prog 75 0 = some 0 := by kernel_rfl
theorem F75_1 : fOff Try.prog 75 1 = some 3 := by kernel_rfl
theorem F75_2 : fOff Try.prog 75 2 = some 4 := by kernel_rfl
theorem F75_3 : fOff Try.prog 75 3 = some 6 := by kernel_rfl
theorem A75 : aggT Try.prog 75 = some 7 := by kernel_rfl
theorem K75 : sizeT Try.prog 75 = some 7 := by kernel_rfl
theorem Z75 : zeroT Try.prog 75 = some [.slice none 0 0, .int .i64 0, .int .i64 0, .int .i64 0, .int .i64 0, .int .i64 0, .slice none 0 0] := by kernel_rfl
theorem I75 : ifaceT Try.prog 75 = false := by kernel_rfl
theorem F77_0 : fOff Try.prog 77 0 = some 0 := by kernel_rfl
theorem F77_1 : fOff Try.prog 77 1 = some 1 := by kernel_rfl
theorem F77_2 : fOff Try.prog 77 2 = some 2 := by kernel_rfl
theorem A77 : aggT Try.prog 77 = some 3 := by kernel_rfl
theorem K77 : sizeT Try.prog 77 = some 3 := by kernel_rfl
theorem Z77 : zeroT Try.prog 77 = some [.int .i64 0, .int .i64 0, .bool false] := by kernel_rfl
theorem I77 : ifaceT Try.prog 77 = false := by kernel_rfl
theorem F78_0 : fOff Try.prog 78 0 = some 0 := by kernel_rfl
theorem F78_1 : fOff Try.prog 78 1 = some 1 := by kernel_rfl
theorem F78_2 : fOff Try.prog 78 2 = some 2 := by kernel_rfl
theorem A78 : aggT Try.prog 78 = some 3 := by kernel_rfl
theorem K78 : sizeT Try.prog 78 = some 3 := by kernel_rfl
theorem Z78 : zeroT Try.prog 78 = some [.int .i64 0, .int .i64 0, .bool false] := by kernel_rfl
theorem I78 : ifaceT Try.prog 78 = false := by kernel_rfl
theorem O80 : oneT Try.prog 80 = true := by kernel_rfl
theorem S80 : slEl Try.prog 80 = some (82, 2) := by kernel_rfl
theorem K80 : sizeT Try.prog 80 = some 1 := by kernel_rfl
theorem Z80 : zeroT Try.prog 80 = some [.slice none 0 0] := by kernel_rfl
theorem I80 : ifaceT Try.prog 80 = false := by kernel_rfl
theorem U80 : Try.prog.underlying 80 = some (.slice 82) := by kernel_rfl
theorem A82 : aggT Try.prog 82 = some 2 := by kernel_rfl
theorem R82 : arEl Try.prog 82 = some (2, 1) := by kernel_rfl
theorem K82 : sizeT Try.prog 82 = some 2 := by kernel_rfl
theorem Z82 : zeroT Try.prog 82 = some [.int .i64 0, .int .i64 0] := by kernel_rfl
theorem I82 : ifaceT Try.prog 82 = false := by kernel_rfl
theorem O84 : oneT Try.prog 84 = true := by kernel_rfl
theorem K84 : sizeT Try.prog 84 = some 1 := by kernel_rfl
theorem Z84 : zeroT Try.prog 84 = some [.pointer none] := by kernel_rfl
theorem I84 : ifaceT Try.prog 84 = false := by kernel_rfl
theorem F85_0 : fOff Try.prog 85 0 = some 0 := by kernel_rfl
theorem F85_1 : fOff Try.prog 85 1 = some 1 := by kernel_rfl
theorem F85_2 : fOff Try.prog 85 2 = some 2 := by kernel_rfl
theorem A85 : aggT Try.prog 85 = some 3 := by kernel_rfl
theorem K85 : sizeT Try.prog 85 = some 3 := by kernel_rfl
theorem Z85 : zeroT Try.prog 85 = some [.int .i64 0, .int .i64 0, .bool false] := by kernel_rfl
theorem I85 : ifaceT Try.prog 85 = false := by kernel_rfl
theorem F86_0 : fOff Try.prog 86 0 = some 0 := by kernel_rfl
theorem F86_1 : fOff Try.prog 86 1 = some 1 := by kernel_rfl
theorem F86_2 : fOff Try.prog 86 2 = some 2 := by kernel_rfl
theorem A86 : aggT Try.prog 86 = some 3 := by kernel_rfl
theorem K86 : sizeT Try.prog 86 = some 3 := by kernel_rfl
theorem Z86 : zeroT Try.prog 86 = some [.int .i64 0, .int .i64 0, .bool false] := by kernel_rfl
theorem I86 : ifaceT Try.prog 86 = false := by kernel_rfl
theorem O88 : oneT Try.prog 88 = true := by kernel_rfl
theorem K88 : sizeT Try.prog 88 = some 1 := by kernel_rfl
theorem Z88 : zeroT Try.prog 88 = some [.map none] := by kernel_rfl
theorem I88 : ifaceT Try.prog 88 = false := by kernel_rfl
theorem MP88 : mapT Try.prog 88 = some (.i64, 97) := by kernel_rfl
theorem U88 : Try.prog.underlying 88 = some (.map 3 97) := by kernel_rfl
theorem F89_0 : fOff Try.prog 89 0 = some 0 := by kernel_rfl
theorem F89_1 : fOff Try.prog 89 1 = some 3 := by kernel_rfl
theorem A89 : aggT Try.prog 89 = some 4 := by kernel_rfl
theorem K89 : sizeT Try.prog 89 = some 4 := by kernel_rfl
theorem Z89 : zeroT Try.prog 89 = some [.int .i64 0, .int .i64 0, .slice none 0 0, .map none] := by kernel_rfl
theorem I89 : ifaceT Try.prog 89 = false := by kernel_rfl
theorem F90_0 : fOff Try.prog 90 0 = some 0 := by kernel_rfl
theorem F90_1 : fOff Try.prog 90 1 = some 3 := by kernel_rfl
theorem A90 : aggT Try.prog 90 = some 4 := by kernel_rfl
theorem K90 : sizeT Try.prog 90 = some 4 := by kernel_rfl
theorem Z90 : zeroT Try.prog 90 = some [.int .i64 0, .int .i64 0, .slice none 0 0, .map none] := by kernel_rfl
theorem I90 : ifaceT Try.prog 90 = false := by kernel_rfl
theorem O91 : oneT Try.prog 91 = true := by kernel_rfl
theorem K91 : sizeT Try.prog 91 = some 1 := by kernel_rfl
theorem Z91 : zeroT Try.prog 91 = some [.pointer none] := by kernel_rfl
theorem I91 : ifaceT Try.prog 91 = false := by kernel_rfl
theorem A96 : aggT Try.prog 96 = some 6 := by kernel_rfl
theorem R96 : arEl Try.prog 96 = some (2, 3) := by kernel_rfl
theorem K96 : sizeT Try.prog 96 = some 6 := by kernel_rfl
theorem Z96 : zeroT Try.prog 96 = some [.int .i64 0, .int .i64 0, .bool false, .int .i64 0, .int .i64 0, .bool false] := by kernel_rfl
theorem I96 : ifaceT Try.prog 96 = false := by kernel_rfl
theorem A97 : aggT Try.prog 97 = some 4 := by kernel_rfl
theorem R97 : arEl Try.prog 97 = some (2, 2) := by kernel_rfl
theorem K97 : sizeT Try.prog 97 = some 4 := by kernel_rfl
theorem Z97 : zeroT Try.prog 97 = some [.int .i64 0, .int .i64 0, .int .i64 0, .int .i64 0] := by kernel_rfl
theorem I97 : ifaceT Try.prog 97 = false := by kernel_rfl
theorem O101 : oneT Try.prog 101 = true := by kernel_rfl
theorem K101 : sizeT Try.prog 101 = some 1 := by kernel_rfl
theorem Z101 : zeroT Try.prog 101 = some [.nilFunc] := by kernel_rfl
theorem I101 : ifaceT Try.prog 101 = false := by kernel_rfl
theorem F102_0 : fOff Try.prog 102 0 = some 0 := by kernel_rfl
theorem F102_1 : fOff Try.prog 102 1 = some 1 := by kernel_rfl
theorem F102_2 : fOff Try.prog 102 2 = some 2 := by kernel_rfl
theorem A102 : aggT Try.prog 102 = some 3 := by kernel_rfl
theorem K102 : sizeT Try.prog 102 = some 3 := by kernel_rfl
theorem Z102 : zeroT Try.prog 102 = some [.pointer none, .nilFunc, .nilFunc] := by kernel_rfl
theorem I102 : ifaceT Try.prog 102 = false := by kernel_rfl
theorem F103_0 : fOff Try.prog 103 0 = some 0 := by kernel_rfl
theorem F103_1 : fOff Try.prog 103 1 = some 1 := by kernel_rfl
theorem F103_2 : fOff Try.prog 103 2 = some 2 := by kernel_rfl
theorem A103 : aggT Try.prog 103 = some 3 := by kernel_rfl
theorem K103 : sizeT Try.prog 103 = some 3 := by kernel_rfl
theorem Z103 : zeroT Try.prog 103 = some [.pointer none, .nilFunc, .nilFunc] := by kernel_rfl
theorem I103 : ifaceT Try.prog 103 = false := by kernel_rfl
theorem A104 : aggT Try.prog 104 = some 6 := by kernel_rfl
theorem R104 : arEl Try.prog 104 = some (2, 3) := by kernel_rfl
theorem K104 : sizeT Try.prog 104 = some 6 := by kernel_rfl
theorem Z104 : zeroT Try.prog 104 = some [.pointer none, .nilFunc, .nilFunc, .pointer none, .nilFunc, .nilFunc] := by kernel_rfl
theorem I104 : ifaceT Try.prog 104 = false := by kernel_rfl
theorem O107 : oneT Try.prog 107 = true := by kernel_rfl
theorem K107 : sizeT Try.prog 107 = some 1 := by kernel_rfl
theorem Z107 : zeroT Try.prog 107 = some [.pointer none] := by kernel_rfl
theorem I107 : ifaceT Try.prog 107 = false := by kernel_rfl
theorem O112 : oneT Try.prog 112 = true := by kernel_rfl
theorem K112 : sizeT Try.prog 112 = some 1 := by kernel_rfl
theorem Z112 : zeroT Try.prog 112 = some [.nilFunc] := by kernel_rfl
theorem I112 : ifaceT Try.prog 112 = false := by kernel_rfl
theorem O113 : oneT Try.prog 113 = true := by kernel_rfl
theorem K113 : sizeT Try.prog 113 = some 1 := by kernel_rfl
theorem Z113 : zeroT Try.prog 113 = some [.int .u64 0] := by kernel_rfl
theorem I113 : ifaceT Try.prog 113 = false := by kernel_rfl
theorem U113 : Try.prog.underlying 113 = some (.int .u64) := by kernel_rfl
theorem O114 : oneT Try.prog 114 = true := by kernel_rfl
theorem K114 : sizeT Try.prog 114 = some 1 := by kernel_rfl
theorem Z114 : zeroT Try.prog 114 = some [.int .u64 0] := by kernel_rfl
theorem I114 : ifaceT Try.prog 114 = false := by kernel_rfl
theorem U114 : Try.prog.underlying 114 = some (.int .u64) := by kernel_rfl
theorem O121 : oneT Try.prog 121 = true := by kernel_rfl
theorem K121 : sizeT Try.prog 121 = some 1 := by kernel_rfl
theorem Z121 : zeroT Try.prog 121 = some [.pointer none] := by kernel_rfl
theorem I121 : ifaceT Try.prog 121 = false := by kernel_rfl
theorem A122 : aggT Try.prog 122 = some 8 := by kernel_rfl
theorem R122 : arEl Try.prog 122 = some (8, 1) := by kernel_rfl
theorem K122 : sizeT Try.prog 122 = some 8 := by kernel_rfl
theorem Z122 : zeroT Try.prog 122 = some [.int .i64 0, .int .i64 0, .int .i64 0, .int .i64 0, .int .i64 0, .int .i64 0, .int .i64 0, .int .i64 0] := by kernel_rfl
theorem I122 : ifaceT Try.prog 122 = false := by kernel_rfl
theorem A123 : aggT Try.prog 123 = some 64 := by kernel_rfl
theorem R123 : arEl Try.prog 123 = some (8, 8) := by kernel_rfl
theorem K123 : sizeT Try.prog 123 = some 64 := by kernel_rfl
theorem Z123 : zeroT Try.prog 123 = some [.int .i64 0, .int .i64 0, .int .i64 0, .int .i64 0, .int .i64 0, .int .i64 0, .int .i64 0, .int .i64 0, .int .i64 0, .int .i64 0, .int .i64 0, .int .i64 0, .int .i64 0, .int .i64 0, .int .i64 0, .int .i64 0, .int .i64 0, .int .i64 0, .int .i64 0, .int .i64 0, .int .i64 0, .int .i64 0, .int .i64 0, .int .i64 0, .int .i64 0, .int .i64 0, .int .i64 0, .int .i64 0, .int .i64 0, .int .i64 0, .int .i64 0, .int .i64 0, .int .i64 0, .int .i64 0, .int .i64 0, .int .i64 0, .int .i64 0, .int .i64 0, .int .i64 0, .int .i64 0, .int .i64 0, .int .i64 0, .int .i64 0, .int .i64 0, .int .i64 0, .int .i64 0, .int .i64 0, .int .i64 0, .int .i64 0, .int .i64 0, .int .i64 0, .int .i64 0, .int .i64 0, .int .i64 0, .int .i64 0, .int .i64 0, .int .i64 0, .int .i64 0, .int .i64 0, .int .i64 0, .int .i64 0, .int .i64 0, .int .i64 0, .int .i64 0] := by kernel_rfl
theorem I123 : ifaceT Try.prog 123 = false := by kernel_rfl
theorem A124 : aggT Try.prog 124 = some 64 := by kernel_rfl
theorem R124 : arEl Try.prog 124 = some (8, 8) := by kernel_rfl
theorem K124 : sizeT Try.prog 124 = some 64 := by kernel_rfl
theorem Z124 : zeroT Try.prog 124 = some [.int .i64 0, .int .i64 0, .int .i64 0, .int .i64 0, .int .i64 0, .int .i64 0, .int .i64 0, .int .i64 0, .int .i64 0, .int .i64 0, .int .i64 0, .int .i64 0, .int .i64 0, .int .i64 0, .int .i64 0, .int .i64 0, .int .i64 0, .int .i64 0, .int .i64 0, .int .i64 0, .int .i64 0, .int .i64 0, .int .i64 0, .int .i64 0, .int .i64 0, .int .i64 0, .int .i64 0, .int .i64 0, .int .i64 0, .int .i64 0, .int .i64 0, .int .i64 0, .int .i64 0, .int .i64 0, .int .i64 0, .int .i64 0, .int .i64 0, .int .i64 0, .int .i64 0, .int .i64 0, .int .i64 0, .int .i64 0, .int .i64 0, .int .i64 0, .int .i64 0, .int .i64 0, .int .i64 0, .int .i64 0, .int .i64 0, .int .i64 0, .int .i64 0, .int .i64 0, .int .i64 0, .int .i64 0, .int .i64 0, .int .i64 0, .int .i64 0, .int .i64 0, .int .i64 0, .int .i64 0, .int .i64 0, .int .i64 0, .int .i64 0, .int .i64 0] := by kernel_rfl
theorem I124 : ifaceT Try.prog 124 = false := by kernel_rfl
theorem F128_0 : fOff Try.prog 128 0 = some 0 := by kernel_rfl
theorem A128 : aggT Try.prog 128 = some 1 := by kernel_rfl
theorem K128 : sizeT Try.prog 128 = some 1 := by kernel_rfl
theorem Z128 : zeroT Try.prog 128 = some [.int .i64 0] := by kernel_rfl
theorem I128 : ifaceT Try.prog 128 = false := by kernel_rfl
theorem F129_0 : fOff Try.prog 129 0 = some 0 := by kernel_rfl
theorem A129 : aggT Try.prog 129 = some 1 := by kernel_rfl
theorem K129 : sizeT Try.prog 129 = some 1 := by kernel_rfl
theorem Z129 : zeroT Try.prog 129 = some [.int .i64 0] := by kernel_rfl
theorem I129 : ifaceT Try.prog 129 = false := by kernel_rfl
theorem O131 : oneT Try.prog 131 = true := by kernel_rfl
theorem K131 : sizeT Try.prog 131 = some 1 := by kernel_rfl
theorem Z131 : zeroT Try.prog 131 = some [.nilFunc] := by kernel_rfl
theorem I131 : ifaceT Try.prog 131 = false := by kernel_rfl
theorem O132 : oneT Try.prog 132 = true := by kernel_rfl
theorem K132 : sizeT Try.prog 132 = some 1 := by kernel_rfl
theorem Z132 : zeroT Try.prog 132 = some [.nilFunc] := by kernel_rfl
theorem I132 : ifaceT Try.prog 132 = false := by kernel_rfl
theorem O142 : oneT Try.prog 142 = true := by kernel_rfl
theorem K142 : sizeT Try.prog 142 = some 1 := by kernel_rfl
theorem Z142 : zeroT Try.prog 142 = some [.nilFunc] := by kernel_rfl
theorem I142 : ifaceT Try.prog 142 = false := by kernel_rfl
theorem F145_0 : fOff Try.prog 145 0 = some 0 := by kernel_rfl
theorem A145 : aggT Try.prog 145 = some 1 := by kernel_rfl
theorem K145 : sizeT Try.prog 145 = some 1 := by kernel_rfl
theorem Z145 : zeroT Try.prog 145 = some [.int .i64 0] := by kernel_rfl
theorem I145 : ifaceT Try.prog 145 = false := by kernel_rfl
theorem F146_0 : fOff Try.prog 146 0 = some 0 := by kernel_rfl
theorem A146 : aggT Try.prog 146 = some 1 := by kernel_rfl
theorem K146 : sizeT Try.prog 146 = some 1 := by kernel_rfl
theorem Z146 : zeroT Try.prog 146 = some [.int .i64 0] := by kernel_rfl
theorem I146 : ifaceT Try.prog 146 = false := by kernel_rfl
theorem O149 : oneT Try.prog 149 = true := by kernel_rfl
theorem S149 : slEl Try.prog 149 = some (179, 1) := by kernel_rfl
theorem K149 : sizeT Try.prog 149 = some 1 := by kernel_rfl
theorem Z149 : zeroT Try.prog 149 = some [.slice none 0 0] := by kernel_rfl
theorem I149 : ifaceT Try.prog 149 = false := by kernel_rfl
theorem U149 : Try.prog.underlying 149 = some (.slice 179) := by kernel_rfl
theorem F150_0 : fOff Try.prog 150 0 = some 0 := by kernel_rfl
theorem F150_1 : fOff Try.prog 150 1 = some 7 := by kernel_rfl
theorem A150 : aggT Try.prog 150 = some 8 := by kernel_rfl
theorem K150 : sizeT Try.prog 150 = some 8 := by kernel_rfl
theorem Z150 : zeroT Try.prog 150 = some [.slice none 0 0, .int .i64 0, .int .i64 0, .int .i64 0, .int .i64 0, .int .i64 0, .slice none 0 0, .slice none 0 0] := by kernel_rfl
theorem I150 : ifaceT Try.prog 150 = false := by kernel_rfl
theorem F151_0 : fOff Try.prog 151 0 = some 0 := by kernel_rfl
theorem F151_1 : fOff Try.prog 151 1 = some 7 := by kernel_rfl
theorem A151 : aggT Try.prog 151 = some 8 := by kernel_rfl
theorem K151 : sizeT Try.prog 151 = some 8 := by kernel_rfl
theorem Z151 : zeroT Try.prog 151 = some [.slice none 0 0, .int .i64 0, .int .i64 0, .int .i64 0, .int .i64 0, .int .i64 0, .slice none 0 0, .slice none 0 0] := by kernel_rfl
theorem I151 : ifaceT Try.prog 151 = false := by kernel_rfl
theorem O154 : oneT Try.prog 154 = true := by kernel_rfl
theorem K154 : sizeT Try.prog 154 = some 1 := by kernel_rfl
theorem Z154 : zeroT Try.prog 154 = some [.int .u64 0] := by kernel_rfl
theorem I154 : ifaceT Try.prog 154 = false := by kernel_rfl
theorem U154 : Try.prog.underlying 154 = some (.int .u64) := by kernel_rfl
theorem O156 : oneT Try.prog 156 = true := by kernel_rfl
theorem K156 : sizeT Try.prog 156 = some 1 := by kernel_rfl
theorem Z156 : zeroT Try.prog 156 = some [.map none] := by kernel_rfl
theorem I156 : ifaceT Try.prog 156 = false := by kernel_rfl
theorem MP156 : mapT Try.prog 156 = some (.i64, 3) := by kernel_rfl
theorem U156 : Try.prog.underlying 156 = some (.map 3 3) := by kernel_rfl
theorem O157 : oneT Try.prog 157 = true := by kernel_rfl
theorem K157 : sizeT Try.prog 157 = some 1 := by kernel_rfl
theorem Z157 : zeroT Try.prog 157 = some [.pointer none] := by kernel_rfl
theorem I157 : ifaceT Try.prog 157 = false := by kernel_rfl
theorem O158 : oneT Try.prog 158 = true := by kernel_rfl
theorem K158 : sizeT Try.prog 158 = some 1 := by kernel_rfl
theorem Z158 : zeroT Try.prog 158 = some [.nilFunc] := by kernel_rfl
theorem I158 : ifaceT Try.prog 158 = false := by kernel_rfl
theorem O162 : oneT Try.prog 162 = true := by kernel_rfl
theorem K162 : sizeT Try.prog 162 = some 1 := by kernel_rfl
theorem Z162 : zeroT Try.prog 162 = some [.nilFunc] := by kernel_rfl
theorem I162 : ifaceT Try.prog 162 = false := by kernel_rfl
theorem O163 : oneT Try.prog 163 = true := by kernel_rfl
theorem K163 : sizeT Try.prog 163 = some 1 := by kernel_rfl
theorem Z163 : zeroT Try.prog 163 = some [.nilFunc] := by kernel_rfl
theorem I163 : ifaceT Try.prog 163 = false := by kernel_rfl
theorem O166 : oneT Try.prog 166 = true := by kernel_rfl
theorem K166 : sizeT Try.prog 166 = some 1 := by kernel_rfl
theorem Z166 : zeroT Try.prog 166 = some [.int .u32 0] := by kernel_rfl
theorem I166 : ifaceT Try.prog 166 = false := by kernel_rfl
theorem U166 : Try.prog.underlying 166 = some (.int .u32) := by kernel_rfl
theorem O168 : oneT Try.prog 168 = true := by kernel_rfl
theorem K168 : sizeT Try.prog 168 = some 1 := by kernel_rfl
theorem Z168 : zeroT Try.prog 168 = some [.int .u64 0] := by kernel_rfl
theorem I168 : ifaceT Try.prog 168 = false := by kernel_rfl
theorem U168 : Try.prog.underlying 168 = some (.int .u64) := by kernel_rfl
theorem F170_0 : fOff Try.prog 170 0 = some 0 := by kernel_rfl
theorem F170_1 : fOff Try.prog 170 1 = some 1 := by kernel_rfl
theorem A170 : aggT Try.prog 170 = some 2 := by kernel_rfl
theorem K170 : sizeT Try.prog 170 = some 2 := by kernel_rfl
theorem Z170 : zeroT Try.prog 170 = some [.int .i64 0, .int .i64 0] := by kernel_rfl
theorem I170 : ifaceT Try.prog 170 = false := by kernel_rfl
theorem F171_0 : fOff Try.prog 171 0 = some 0 := by kernel_rfl
theorem F171_1 : fOff Try.prog 171 1 = some 1 := by kernel_rfl
theorem A171 : aggT Try.prog 171 = some 2 := by kernel_rfl
theorem K171 : sizeT Try.prog 171 = some 2 := by kernel_rfl
theorem Z171 : zeroT Try.prog 171 = some [.int .i64 0, .int .i64 0] := by kernel_rfl
theorem I171 : ifaceT Try.prog 171 = false := by kernel_rfl
theorem F173_0 : fOff Try.prog 173 0 = some 0 := by kernel_rfl
theorem F173_1 : fOff Try.prog 173 1 = some 1 := by kernel_rfl
theorem A173 : aggT Try.prog 173 = some 3 := by kernel_rfl
theorem K173 : sizeT Try.prog 173 = some 3 := by kernel_rfl
theorem Z173 : zeroT Try.prog 173 = some [.int .i64 0, .int .i64 0, .int .i64 0] := by kernel_rfl
theorem I173 : ifaceT Try.prog 173 = false := by kernel_rfl
theorem F174_0 : fOff Try.prog 174 0 = some 0 := by kernel_rfl
theorem F174_1 : fOff Try.prog 174 1 = some 1 := by kernel_rfl
theorem A174 : aggT Try.prog 174 = some 3 := by kernel_rfl
theorem K174 : sizeT Try.prog 174 = some 3 := by kernel_rfl
theorem Z174 : zeroT Try.prog 174 = some [.int .i64 0, .int .i64 0, .int .i64 0] := by kernel_rfl
theorem I174 : ifaceT Try.prog 174 = false := by kernel_rfl
theorem F175_0 : fOff Try.prog 175 0 = some 0 := by kernel_rfl
theorem F175_1 : fOff Try.prog 175 1 = some 1 := by kernel_rfl
theorem A175 : aggT Try.prog 175 = some 3 := by kernel_rfl
theorem K175 : sizeT Try.prog 175 = some 3 := by kernel_rfl
theorem Z175 : zeroT Try.prog 175 = some [.int .i64 0, .int .i64 0, .int .i64 0] := by kernel_rfl
theorem I175 : ifaceT Try.prog 175 = false := by kernel_rfl
theorem O178 : oneT Try.prog 178 = true := by kernel_rfl
theorem K178 : sizeT Try.prog 178 = some 1 := by kernel_rfl
theorem Z178 : zeroT Try.prog 178 = some [.nilIface] := by kernel_rfl
theorem I178 : ifaceT Try.prog 178 = true := by kernel_rfl
theorem J178 : isIf Try.prog 178 = true := by kernel_rfl
theorem O179 : oneT Try.prog 179 = true := by kernel_rfl
theorem K179 : sizeT Try.prog 179 = some 1 := by kernel_rfl
theorem Z179 : zeroT Try.prog 179 = some [.nilIface] := by kernel_rfl
theorem I179 : ifaceT Try.prog 179 = true := by kernel_rfl
theorem J179 : isIf Try.prog 179 = true := by kernel_rfl
theorem O184 : oneT Try.prog 184 = true := by kernel_rfl
theorem K184 : sizeT Try.prog 184 = some 1 := by kernel_rfl
theorem Z184 : zeroT Try.prog 184 = some [.nilFunc] := by kernel_rfl
theorem I184 : ifaceT Try.prog 184 = false := by kernel_rfl
theorem ZV3 (w : World) : (zeroValue 3).run Try.prog w = .ok (.int .i64 0) w := by kernel_rfl
theorem C3 : callT Try.prog 3 = true := by kernel_rfl
theorem C4 : callT Try.prog 4 = true := by kernel_rfl
theorem C5 : callT Try.prog 5 = true := by kernel_rfl
theorem C6 : callT Try.prog 6 = true := by kernel_rfl
theorem C7 : callT Try.prog 7 = true := by kernel_rfl
theorem C8 : callT Try.prog 8 = true := by kernel_rfl
theorem C9 : callT Try.prog 9 = true := by kernel_rfl
theorem C10 : callT Try.prog 10 = true := by kernel_rfl
theorem C11 : callT Try.prog 11 = true := by kernel_rfl
theorem C12 : callT Try.prog 12 = true := by kernel_rfl
theorem C13 : callT Try.prog 13 = true := by kernel_rfl
theorem C14 : callT Try.prog 14 = true := by kernel_rfl
theorem C15 : callT Try.prog 15 = true := by kernel_rfl
theorem C16 : callT Try.prog 16 = true := by kernel_rfl
theorem C17 : callT Try.prog 17 = true := by kernel_rfl
theorem C18 : callT Try.prog 18 = true := by kernel_rfl
theorem C19 : callT Try.prog 19 = true := by kernel_rfl
theorem C20 : callT Try.prog 20 = true := by kernel_rfl
theorem C21 : callT Try.prog 21 = true := by kernel_rfl
theorem C22 : callT Try.prog 22 = true := by kernel_rfl
theorem C23 : callT Try.prog 23 = true := by kernel_rfl
theorem C24 : callT Try.prog 24 = true := by kernel_rfl
theorem C25 : callT Try.prog 25 = true := by kernel_rfl
theorem C26 : callT Try.prog 26 = true := by kernel_rfl
theorem C27 : callT Try.prog 27 = true := by kernel_rfl
theorem C28 : callT Try.prog 28 = true := by kernel_rfl
theorem C29 : callT Try.prog 29 = true := by kernel_rfl
theorem C30 : callT Try.prog 30 = true := by kernel_rfl
theorem C31 : callT Try.prog 31 = true := by kernel_rfl
theorem C32 : callT Try.prog 32 = true := by kernel_rfl
theorem C33 : callT Try.prog 33 = true := by kernel_rfl
theorem C34 : callT Try.prog 34 = true := by kernel_rfl
theorem C35 : callT Try.prog 35 = true := by kernel_rfl
theorem C36 : callT Try.prog 36 = true := by kernel_rfl
theorem C37 : callT Try.prog 37 = true := by kernel_rfl
theorem C38 : callT Try.prog 38 = true := by kernel_rfl
theorem C39 : callT Try.prog 39 = true := by kernel_rfl
theorem C40 : callT Try.prog 40 = true := by kernel_rfl
theorem C41 : callT Try.prog 41 = true := by kernel_rfl
theorem C42 : callT Try.prog 42 = true := by kernel_rfl
theorem C43 : callT Try.prog 43 = true := by kernel_rfl
theorem C44 : callT Try.prog 44 = true := by kernel_rfl
theorem C45 : callT Try.prog 45 = true := by kernel_rfl
theorem C46 : callT Try.prog 46 = true := by kernel_rfl
theorem C47 : callT Try.prog 47 = true := by kernel_rfl
theorem C48 : callT Try.prog 48 = true := by kernel_rfl
theorem C49 : callT Try.prog 49 = true := by kernel_rfl
theorem C50 : callT Try.prog 50 = true := by kernel_rfl
theorem C51 : callT Try.prog 51 = true := by kernel_rfl
theorem C52 : callT Try.prog 52 = true := by kernel_rfl
theorem C53 : callT Try.prog 53 = true := by kernel_rfl
theorem C54 : callT Try.prog 54 = true := by kernel_rfl
theorem C55 : callT Try.prog 55 = true := by kernel_rfl
theorem C56 : callT Try.prog 56 = true := by kernel_rfl
theorem C57 : callT Try.prog 57 = true := by kernel_rfl
theorem C58 : callT Try.prog 58 = true := by kernel_rfl
theorem C59 : callT Try.prog 59 = true := by kernel_rfl
theorem C60 : callT Try.prog 60 = true := by kernel_rfl
theorem C61 : callT Try.prog 61 = true := by kernel_rfl
theorem C62 : callT Try.prog 62 = true := by kernel_rfl
theorem C63 : callT Try.prog 63 = true := by kernel_rfl
theorem C64 : callT Try.prog 64 = true := by kernel_rfl
theorem C65 : callT Try.prog 65 = true := by kernel_rfl
theorem C66 : callT Try.prog 66 = true := by kernel_rfl
theorem C67 : callT Try.prog 67 = true := by kernel_rfl
theorem C68 : callT Try.prog 68 = true := by kernel_rfl
theorem C69 : callT Try.prog 69 = true := by kernel_rfl
theorem C70 : callT Try.prog 70 = true := by kernel_rfl
theorem C71 : callT Try.prog 71 = true := by kernel_rfl
theorem C72 : callT Try.prog 72 = true := by kernel_rfl
theorem C73 : callT Try.prog 73 = true := by kernel_rfl
theorem C74 : callT Try.prog 74 = true := by kernel_rfl
theorem C75 : callT Try.prog 75 = true := by kernel_rfl
theorem C76 : callT Try.prog 76 = true := by kernel_rfl
theorem C77 : callT Try.prog 77 = true := by kernel_rfl
theorem C78 : callT Try.prog 78 = true := by kernel_rfl
theorem C79 : callT Try.prog 79 = true := by kernel_rfl
theorem C80 : callT Try.prog 80 = true := by kernel_rfl
theorem C81 : callT Try.prog 81 = true := by kernel_rfl
theorem C82 : callT Try.prog 82 = true := by kernel_rfl
theorem C83 : callT Try.prog 83 = true := by kernel_rfl
theorem C84 : callT Try.prog 84 = true := by kernel_rfl
theorem C85 : callT Try.prog 85 = true := by kernel_rfl
theorem C86 : callT Try.prog 86 = true := by kernel_rfl
theorem C87 : callT Try.prog 87 = true := by kernel_rfl
theorem C88 : callT Try.prog 88 = true := by kernel_rfl
theorem C89 : callT Try.prog 89 = true := by kernel_rfl
theorem C90 : callT Try.prog 90 = true := by kernel_rfl
theorem C91 : callT Try.prog 91 = true := by kernel_rfl
theorem C92 : callT Try.prog 92 = true := by kernel_rfl
theorem C93 : callT Try.prog 93 = true := by kernel_rfl
theorem C94 : callT Try.prog 94 = true := by kernel_rfl
theorem C95 : callT Try.prog 95 = true := by kernel_rfl
theorem C96 : callT Try.prog 96 = true := by kernel_rfl
theorem C97 : callT Try.prog 97 = true := by kernel_rfl
theorem C98 : callT Try.prog 98 = true := by kernel_rfl
theorem C99 : callT Try.prog 99 = true := by kernel_rfl
theorem C100 : callT Try.prog 100 = true := by kernel_rfl
theorem C101 : callT Try.prog 101 = true := by kernel_rfl
theorem C102 : callT Try.prog 102 = true := by kernel_rfl
theorem C103 : callT Try.prog 103 = true := by kernel_rfl
theorem C104 : callT Try.prog 104 = true := by kernel_rfl
theorem C105 : callT Try.prog 105 = true := by kernel_rfl
theorem C106 : callT Try.prog 106 = true := by kernel_rfl
theorem C107 : callT Try.prog 107 = true := by kernel_rfl
theorem C108 : callT Try.prog 108 = true := by kernel_rfl
theorem C109 : callT Try.prog 109 = true := by kernel_rfl
theorem C110 : callT Try.prog 110 = true := by kernel_rfl
theorem C111 : callT Try.prog 111 = true := by kernel_rfl
theorem C112 : callT Try.prog 112 = true := by kernel_rfl
theorem C113 : callT Try.prog 113 = true := by kernel_rfl
theorem C114 : callT Try.prog 114 = true := by kernel_rfl
theorem C115 : callT Try.prog 115 = true := by kernel_rfl
theorem C116 : callT Try.prog 116 = true := by kernel_rfl
theorem C117 : callT Try.prog 117 = true := by kernel_rfl
theorem C118 : callT Try.prog 118 = true := by kernel_rfl
theorem C119 : callT Try.prog 119 = true := by kernel_rfl
theorem C120 : callT Try.prog 120 = true := by kernel_rfl
theorem C121 : callT Try.prog 121 = true := by kernel_rfl
theorem C122 : callT Try.prog 122 = true := by kernel_rfl
theorem C123 : callT Try.prog 123 = true := by kernel_rfl
theorem C124 : callT Try.prog 124 = true := by kernel_rfl
theorem C125 : callT Try.prog 125 = true := by kernel_rfl
theorem C126 : callT Try.prog 126 = true := by kernel_rfl
theorem C127 : callT Try.prog 127 = true := by kernel_rfl
theorem C128 : callT Try.prog 128 = true := by kernel_rfl
theorem C129 : callT Try.prog 129 = true := by kernel_rfl
theorem C130 : callT Try.prog 130 = true := by kernel_rfl
theorem C131 : callT Try.prog 131 = true := by kernel_rfl
theorem C132 : callT Try.prog 132 = true := by kernel_rfl
theorem C133 : callT Try.prog 133 = true := by kernel_rfl
theorem C134 : callT Try.prog 134 = true := by kernel_rfl
theorem C135 : callT Try.prog 135 = true := by kernel_rfl
theorem C136 : callT Try.prog 136 = true := by kernel_rfl
theorem C137 : callT Try.prog 137 = true := by kernel_rfl
theorem C138 : callT Try.prog 138 = true := by kernel_rfl
theorem C139 : callT Try.prog 139 = true := by kernel_rfl
theorem C140 : callT Try.prog 140 = true := by kernel_rfl
theorem C141 : callT Try.prog 141 = true := by kernel_rfl
theorem C142 : callT Try.prog 142 = true := by kernel_rfl
theorem C143 : callT Try.prog 143 = true := by kernel_rfl
theorem C144 : callT Try.prog 144 = true := by kernel_rfl
theorem C145 : callT Try.prog 145 = true := by kernel_rfl
theorem C146 : callT Try.prog 146 = true := by kernel_rfl
theorem C147 : callT Try.prog 147 = true := by kernel_rfl
theorem C148 : callT Try.prog 148 = true := by kernel_rfl
theorem C149 : callT Try.prog 149 = true := by kernel_rfl
theorem C150 : callT Try.prog 150 = true := by kernel_rfl
theorem C151 : callT Try.prog 151 = true := by kernel_rfl
theorem C152 : callT Try.prog 152 = true := by kernel_rfl
theorem C153 : callT Try.prog 153 = true := by kernel_rfl
theorem C154 : callT Try.prog 154 = true := by kernel_rfl
theorem C171 : callT Try.prog 171 = true := by kernel_rfl
theorem C172 : callT Try.prog 172 = true := by kernel_rfl
theorem B23_  (w : World) : (Instr.build 23 [].toArray).run Try.prog w = .ok (.agg [.int .i64 0, .int .i64 0].toArray) w := by kernel_rfl
theorem BS56_4_0_1_2_3 {p0 : Int} {p1 : Int} {p2 : Int} {p3 : Int} (w : World) : (Instr.buildSlice 56 4 [(0, .int .i64 p0), (1, .int .i64 p1), (2, .int .i64 p2), (3, .int .i64 p3)].toArray).run Try.prog w = .ok (.slice (some ⟨w.heap.size, 0, none⟩) 4 4) { w with heap := w.heap.push (blk [.int .i64 p0, .int .i64 p1, .int .i64 p2, .int .i64 p3] 3) } := by kernel_rfl
theorem BS24_0_  (w : World) : (Instr.buildSlice 24 0 [].toArray).run Try.prog w = .ok (.slice (some ⟨w.heap.size, 0, none⟩) 0 0) { w with heap := w.heap.push (blk [] 58) } := by kernel_rfl
theorem BS65_2_0_1 {p00_0_ : Int} {p00_1_ : Int} {p01_a : Option Addr} {p01_n : Nat} {p01_c : Nat} {p10_0_ : Int} {p10_1_ : Int} {p11_a : Option Addr} {p11_n : Nat} {p11_c : Nat} (w : World) : (Instr.buildSlice 65 2 [(0, .agg [.int .i64 p00_0_, .int .i64 p00_1_, .slice p01_a p01_n p01_c].toArray), (1, .agg [.int .i64 p10_0_, .int .i64 p10_1_, .slice p11_a p11_n p11_c].toArray)].toArray).run Try.prog w = .ok (.slice (some ⟨w.heap.size, 0, none⟩) 2 2) { w with heap := w.heap.push (blk [.int .i64 p00_0_, .int .i64 p00_1_, .slice p01_a p01_n p01_c, .int .i64 p10_0_, .int .i64 p10_1_, .slice p11_a p11_n p11_c] 26) } := by kernel_rfl
theorem BS24_1_0 {p00_0_ : Int} {p00_1_ : Int} {p01_0_ : Int} {p01_1_ : Int} {p02_ : Bool} {p03_0_ : Int} {p03_1_ : Int} {p04_0_ : Int} {p04_1_ : Int} (w : World) : (Instr.buildSlice 24 1 [(0, .agg [.int .i64 p00_0_, .int .i64 p00_1_, .int .i64 p01_0_, .int .i64 p01_1_, .bool p02_, .int .i64 p03_0_, .int .i64 p03_1_, .int .i64 p04_0_, .int .i64 p04_1_].toArray)].toArray).run Try.prog w = .ok (.slice (some ⟨w.heap.size, 0, none⟩) 1 1) { w with heap := w.heap.push (blk [.int .i64 p00_0_, .int .i64 p00_1_, .int .i64 p01_0_, .int .i64 p01_1_, .bool p02_, .int .i64 p03_0_, .int .i64 p03_1_, .int .i64 p04_0_, .int .i64 p04_1_] 58) } := by kernel_rfl
theorem B75_1_2 {p1 : Int} {p20_ : Int} {p21_ : Int} (w : World) : (Instr.build 75 [(1, .int .i64 p1), (2, .agg [.int .i64 p20_, .int .i64 p21_].toArray)].toArray).run Try.prog w = .ok (.agg [.slice none 0 0, .int .i64 0, .int .i64 0, .int .i64 p1, .int .i64 p20_, .int .i64 p21_, .slice none 0 0].toArray) w := by kernel_rfl
theorem BS70_1_0 {p00_ : Int} {p01_ : Int} (w : World) : (Instr.buildSlice 70 1 [(0, .agg [.int .i64 p00_, .int .i64 p01_].toArray)].toArray).run Try.prog w = .ok (.slice (some ⟨w.heap.size, 0, none⟩) 1 1) { w with heap := w.heap.push (blk [.int .i64 p00_, .int .i64 p01_] 23) } := by kernel_rfl
theorem BS56_1_0 {p0 : Int} (w : World) : (Instr.buildSlice 56 1 [(0, .int .i64 p0)].toArray).run Try.prog w = .ok (.slice (some ⟨w.heap.size, 0, none⟩) 1 1) { w with heap := w.heap.push (blk [.int .i64 p0] 3) } := by kernel_rfl
theorem B78_0_2 {p0 : Int} {p2 : Bool} (w : World) : (Instr.build 78 [(0, .int .i64 p0), (2, .bool p2)].toArray).run Try.prog w = .ok (.agg [.int .i64 p0, .int .i64 0, .bool p2].toArray) w := by kernel_rfl
theorem BS73_1_0 {p00_ : Int} {p01_ : Int} {p02_ : Bool} (w : World) : (Instr.buildSlice 73 1 [(0, .agg [.int .i64 p00_, .int .i64 p01_, .bool p02_].toArray)].toArray).run Try.prog w = .ok (.slice (some ⟨w.heap.size, 0, none⟩) 1 1) { w with heap := w.heap.push (blk [.int .i64 p00_, .int .i64 p01_, .bool p02_] 78) } := by kernel_rfl
theorem B26_0 {p00_ : Int} {p01_ : Int} (w : World) : (Instr.build 26 [(0, .agg [.int .i64 p00_, .int .i64 p01_].toArray)].toArray).run Try.prog w = .ok (.agg [.int .i64 p00_, .int .i64 p01_, .slice none 0 0].toArray) w := by kernel_rfl
theorem B58_0_1 {p00_ : Int} {p01_ : Int} {p10_ : Int} {p11_ : Int} (w : World) : (Instr.build 58 [(0, .agg [.int .i64 p00_, .int .i64 p01_].toArray), (1, .agg [.int .i64 p10_, .int .i64 p11_].toArray)].toArray).run Try.prog w = .ok (.agg [.int .i64 p00_, .int .i64 p01_, .int .i64 p10_, .int .i64 p11_, .bool false, .int .i64 0, .int .i64 0, .int .i64 0, .int .i64 0].toArray) w := by kernel_rfl
theorem B82_0_1 {p0 : Int} {p1 : Int} (w : World) : (Instr.build 82 [(0, .int .i64 p0), (1, .int .i64 p1)].toArray).run Try.prog w = .ok (.agg [.int .i64 p0, .int .i64 p1].toArray) w := by kernel_rfl
theorem BS80_1_0 {p00_ : Int} {p01_ : Int} (w : World) : (Instr.buildSlice 80 1 [(0, .agg [.int .i64 p00_, .int .i64 p01_].toArray)].toArray).run Try.prog w = .ok (.slice (some ⟨w.heap.size, 0, none⟩) 1 1) { w with heap := w.heap.push (blk [.int .i64 p00_, .int .i64 p01_] 82) } := by kernel_rfl
theorem B23_0_1 {p0 : Int} {p1 : Int} (w : World) : (Instr.build 23 [(0, .int .i64 p0), (1, .int .i64 p1)].toArray).run Try.prog w = .ok (.agg [.int .i64 p0, .int .i64 p1].toArray) w := by kernel_rfl
theorem BS56_2_0_1 {p0 : Int} {p1 : Int} (w : World) : (Instr.buildSlice 56 2 [(0, .int .i64 p0), (1, .int .i64 p1)].toArray).run Try.prog w = .ok (.slice (some ⟨w.heap.size, 0, none⟩) 2 2) { w with heap := w.heap.push (blk [.int .i64 p0, .int .i64 p1] 3) } := by kernel_rfl
theorem BS24_3_0_1_2 {p00_0_ : Int} {p00_1_ : Int} {p01_0_ : Int} {p01_1_ : Int} {p02_ : Bool} {p03_0_ : Int} {p03_1_ : Int} {p04_0_ : Int} {p04_1_ : Int} {p10_0_ : Int} {p10_1_ : Int} {p11_0_ : Int} {p11_1_ : Int} {p12_ : Bool} {p13_0_ : Int} {p13_1_ : Int} {p14_0_ : Int} {p14_1_ : Int} {p20_0_ : Int} {p20_1_ : Int} {p21_0_ : Int} {p21_1_ : Int} {p22_ : Bool} {p23_0_ : Int} {p23_1_ : Int} {p24_0_ : Int} {p24_1_ : Int} (w : World) : (Instr.buildSlice 24 3 [(0, .agg [.int .i64 p00_0_, .int .i64 p00_1_, .int .i64 p01_0_, .int .i64 p01_1_, .bool p02_, .int .i64 p03_0_, .int .i64 p03_1_, .int .i64 p04_0_, .int .i64 p04_1_].toArray), (1, .agg [.int .i64 p10_0_, .int .i64 p10_1_, .int .i64 p11_0_, .int .i64 p11_1_, .bool p12_, .int .i64 p13_0_, .int .i64 p13_1_, .int .i64 p14_0_, .int .i64 p14_1_].toArray), (2, .agg [.int .i64 p20_0_, .int .i64 p20_1_, .int .i64 p21_0_, .int .i64 p21_1_, .bool p22_, .int .i64 p23_0_, .int .i64 p23_1_, .int .i64 p24_0_, .int .i64 p24_1_].toArray)].toArray).run Try.prog w = .ok (.slice (some ⟨w.heap.size, 0, none⟩) 3 3) { w with heap := w.heap.push (blk [.int .i64 p00_0_, .int .i64 p00_1_, .int .i64 p01_0_, .int .i64 p01_1_, .bool p02_, .int .i64 p03_0_, .int .i64 p03_1_, .int .i64 p04_0_, .int .i64 p04_1_, .int .i64 p10_0_, .int .i64 p10_1_, .int .i64 p11_0_, .int .i64 p11_1_, .bool p12_, .int .i64 p13_0_, .int .i64 p13_1_, .int .i64 p14_0_, .int .i64 p14_1_, .int .i64 p20_0_, .int .i64 p20_1_, .int .i64 p21_0_, .int .i64 p21_1_, .bool p22_, .int .i64 p23_0_, .int .i64 p23_1_, .int .i64 p24_0_, .int .i64 p24_1_] 58) } := by kernel_rfl
theorem B26_0_1 {p00_ : Int} {p01_ : Int} {p1a : Option Addr} {p1n : Nat} {p1c : Nat} (w : World) : (Instr.build 26 [(0, .agg [.int .i64 p00_, .int .i64 p01_].toArray), (1, .slice p1a p1n p1c)].toArray).run Try.prog w = .ok (.agg [.int .i64 p00_, .int .i64 p01_, .slice p1a p1n p1c].toArray) w := by kernel_rfl
theorem B45_0_1 {p0 : Int} {p1 : Int} (w : World) : (Instr.build 45 [(0, .int .i64 p0), (1, .int .i64 p1)].toArray).run Try.prog w = .ok (.agg [.int .i64 p0, .int .i64 p1].toArray) w := by kernel_rfl
theorem BS46_1_0 {p00_ : Int} {p01_ : Int} (w : World) : (Instr.buildSlice 46 1 [(0, .agg [.int .i64 p00_, .int .i64 p01_].toArray)].toArray).run Try.prog w = .ok (.slice (some ⟨w.heap.size, 0, none⟩) 1 1) { w with heap := w.heap.push (blk [.int .i64 p00_, .int .i64 p01_] 45) } := by kernel_rfl
theorem B103_0_1_2 {p0 : Option Addr} {p1f : Fn} {p1u : List Value} {p1c : List Value} {p2f : Fn} {p2u : List Value} {p2c : List Value} (w : World) : (Instr.build 103 [(0, .pointer p0), (1, .func p1f p1u.toArray p1c.toArray), (2, .func p2f p2u.toArray p2c.toArray)].toArray).run Try.prog w = .ok (.agg [.pointer p0, .func p1f p1u.toArray p1c.toArray, .func p2f p2u.toArray p2c.toArray].toArray) w := by kernel_rfl
theorem B104_0_1 {p00_ : Option Addr} {p01_f : Fn} {p01_u : List Value} {p01_c : List Value} {p02_f : Fn} {p02_u : List Value} {p02_c : List Value} {p10_ : Option Addr} {p11_f : Fn} {p11_u : List Value} {p11_c : List Value} {p12_f : Fn} {p12_u : List Value} {p12_c : List Value} (w : World) : (Instr.build 104 [(0, .agg [.pointer p00_, .func p01_f p01_u.toArray p01_c.toArray, .func p02_f p02_u.toArray p02_c.toArray].toArray), (1, .agg [.pointer p10_, .func p11_f p11_u.toArray p11_c.toArray, .func p12_f p12_u.toArray p12_c.toArray].toArray)].toArray).run Try.prog w = .ok (.agg [.pointer p00_, .func p01_f p01_u.toArray p01_c.toArray, .func p02_f p02_u.toArray p02_c.toArray, .pointer p10_, .func p11_f p11_u.toArray p11_c.toArray, .func p12_f p12_u.toArray p12_c.toArray].toArray) w := by kernel_rfl
theorem BS24_2_0_1 {p00_0_ : Int} {p00_1_ : Int} {p01_0_ : Int} {p01_1_ : Int} {p02_ : Bool} {p03_0_ : Int} {p03_1_ : Int} {p04_0_ : Int} {p04_1_ : Int} {p10_0_ : Int} {p10_1_ : Int} {p11_0_ : Int} {p11_1_ : Int} {p12_ : Bool} {p13_0_ : Int} {p13_1_ : Int} {p14_0_ : Int} {p14_1_ : Int} (w : World) : (Instr.buildSlice 24 2 [(0, .agg [.int .i64 p00_0_, .int .i64 p00_1_, .int .i64 p01_0_, .int .i64 p01_1_, .bool p02_, .int .i64 p03_0_, .int .i64 p03_1_, .int .i64 p04_0_, .int .i64 p04_1_].toArray), (1, .agg [.int .i64 p10_0_, .int .i64 p10_1_, .int .i64 p11_0_, .int .i64 p11_1_, .bool p12_, .int .i64 p13_0_, .int .i64 p13_1_, .int .i64 p14_0_, .int .i64 p14_1_].toArray)].toArray).run Try.prog w = .ok (.slice (some ⟨w.heap.size, 0, none⟩) 2 2) { w with heap := w.heap.push (blk [.int .i64 p00_0_, .int .i64 p00_1_, .int .i64 p01_0_, .int .i64 p01_1_, .bool p02_, .int .i64 p03_0_, .int .i64 p03_1_, .int .i64 p04_0_, .int .i64 p04_1_, .int .i64 p10_0_, .int .i64 p10_1_, .int .i64 p11_0_, .int .i64 p11_1_, .bool p12_, .int .i64 p13_0_, .int .i64 p13_1_, .int .i64 p14_0_, .int .i64 p14_1_] 58) } := by kernel_rfl
theorem B129_0 {p0 : Int} (w : World) : (Instr.build 129 [(0, .int .i64 p0)].toArray).run Try.prog w = .ok (.agg [.int .i64 p0].toArray) w := by kernel_rfl
theorem B90_0_1 {p00_0_ : Int} {p00_1_ : Int} {p01_a : Option Addr} {p01_n : Nat} {p01_c : Nat} {p1 : Option Nat} (w : World) : (Instr.build 90 [(0, .agg [.int .i64 p00_0_, .int .i64 p00_1_, .slice p01_a p01_n p01_c].toArray), (1, .map p1)].toArray).run Try.prog w = .ok (.agg [.int .i64 p00_0_, .int .i64 p00_1_, .slice p01_a p01_n p01_c, .map p1].toArray) w := by kernel_rfl
theorem BS70_4_0_1_2_3 {p00_ : Int} {p01_ : Int} {p10_ : Int} {p11_ : Int} {p20_ : Int} {p21_ : Int} {p30_ : Int} {p31_ : Int} (w : World) : (Instr.buildSlice 70 4 [(0, .agg [.int .i64 p00_, .int .i64 p01_].toArray), (1, .agg [.int .i64 p10_, .int .i64 p11_].toArray), (2, .agg [.int .i64 p20_, .int .i64 p21_].toArray), (3, .agg [.int .i64 p30_, .int .i64 p31_].toArray)].toArray).run Try.prog w = .ok (.slice (some ⟨w.heap.size, 0, none⟩) 4 4) { w with heap := w.heap.push (blk [.int .i64 p00_, .int .i64 p01_, .int .i64 p10_, .int .i64 p11_, .int .i64 p20_, .int .i64 p21_, .int .i64 p30_, .int .i64 p31_] 23) } := by kernel_rfl
theorem B72_0_1 {p0a : Option Addr} {p0n : Nat} {p0c : Nat} {p10_ : Int} {p11_ : Int} (w : World) : (Instr.build 72 [(0, .slice p0a p0n p0c), (1, .agg [.int .i64 p10_, .int .i64 p11_].toArray)].toArray).run Try.prog w = .ok (.agg [.slice p0a p0n p0c, .int .i64 p10_, .int .i64 p11_].toArray) w := by kernel_rfl
theorem B78_0_1 {p0 : Int} {p1 : Int} (w : World) : (Instr.build 78 [(0, .int .i64 p0), (1, .int .i64 p1)].toArray).run Try.prog w = .ok (.agg [.int .i64 p0, .int .i64 p1, .bool false].toArray) w := by kernel_rfl
theorem B78_0_1_2 {p0 : Int} {p1 : Int} {p2 : Bool} (w : World) : (Instr.build 78 [(0, .int .i64 p0), (1, .int .i64 p1), (2, .bool p2)].toArray).run Try.prog w = .ok (.agg [.int .i64 p0, .int .i64 p1, .bool p2].toArray) w := by kernel_rfl
theorem BS73_4_0_1_2_3 {p00_ : Int} {p01_ : Int} {p02_ : Bool} {p10_ : Int} {p11_ : Int} {p12_ : Bool} {p20_ : Int} {p21_ : Int} {p22_ : Bool} {p30_ : Int} {p31_ : Int} {p32_ : Bool} (w : World) : (Instr.buildSlice 73 4 [(0, .agg [.int .i64 p00_, .int .i64 p01_, .bool p02_].toArray), (1, .agg [.int .i64 p10_, .int .i64 p11_, .bool p12_].toArray), (2, .agg [.int .i64 p20_, .int .i64 p21_, .bool p22_].toArray), (3, .agg [.int .i64 p30_, .int .i64 p31_, .bool p32_].toArray)].toArray).run Try.prog w = .ok (.slice (some ⟨w.heap.size, 0, none⟩) 4 4) { w with heap := w.heap.push (blk [.int .i64 p00_, .int .i64 p01_, .bool p02_, .int .i64 p10_, .int .i64 p11_, .bool p12_, .int .i64 p20_, .int .i64 p21_, .bool p22_, .int .i64 p30_, .int .i64 p31_, .bool p32_] 78) } := by kernel_rfl
theorem B75_0_1_2_3 {p00_a : Option Addr} {p00_n : Nat} {p00_c : Nat} {p01_0_ : Int} {p01_1_ : Int} {p1 : Int} {p20_ : Int} {p21_ : Int} {p3a : Option Addr} {p3n : Nat} {p3c : Nat} (w : World) : (Instr.build 75 [(0, .agg [.slice p00_a p00_n p00_c, .int .i64 p01_0_, .int .i64 p01_1_].toArray), (1, .int .i64 p1), (2, .agg [.int .i64 p20_, .int .i64 p21_].toArray), (3, .slice p3a p3n p3c)].toArray).run Try.prog w = .ok (.agg [.slice p00_a p00_n p00_c, .int .i64 p01_0_, .int .i64 p01_1_, .int .i64 p1, .int .i64 p20_, .int .i64 p21_, .slice p3a p3n p3c].toArray) w := by kernel_rfl
theorem B58_0_1_2_3_4 {p00_ : Int} {p01_ : Int} {p10_ : Int} {p11_ : Int} {p2 : Bool} {p30_ : Int} {p31_ : Int} {p40_ : Int} {p41_ : Int} (w : World) : (Instr.build 58 [(0, .agg [.int .i64 p00_, .int .i64 p01_].toArray), (1, .agg [.int .i64 p10_, .int .i64 p11_].toArray), (2, .bool p2), (3, .agg [.int .i64 p30_, .int .i64 p31_].toArray), (4, .agg [.int .i64 p40_, .int .i64 p41_].toArray)].toArray).run Try.prog w = .ok (.agg [.int .i64 p00_, .int .i64 p01_, .int .i64 p10_, .int .i64 p11_, .bool p2, .int .i64 p30_, .int .i64 p31_, .int .i64 p40_, .int .i64 p41_].toArray) w := by kernel_rfl
theorem B151_0 {p00_0_a : Option Addr} {p00_0_n : Nat} {p00_0_c : Nat} {p00_1_0_ : Int} {p00_1_1_ : Int} {p01_ : Int} {p02_0_ : Int} {p02_1_ : Int} {p03_a : Option Addr} {p03_n : Nat} {p03_c : Nat} (w : World) : (Instr.build 151 [(0, .agg [.slice p00_0_a p00_0_n p00_0_c, .int .i64 p00_1_0_, .int .i64 p00_1_1_, .int .i64 p01_, .int .i64 p02_0_, .int .i64 p02_1_, .slice p03_a p03_n p03_c].toArray)].toArray).run Try.prog w = .ok (.agg [.slice p00_0_a p00_0_n p00_0_c, .int .i64 p00_1_0_, .int .i64 p00_1_1_, .int .i64 p01_, .int .i64 p02_0_, .int .i64 p02_1_, .slice p03_a p03_n p03_c, .slice none 0 0].toArray) w := by kernel_rfl
theorem B174_0_1 {p0 : Int} {p10_ : Int} {p11_ : Int} (w : World) : (Instr.build 174 [(0, .int .i64 p0), (1, .agg [.int .i64 p10_, .int .i64 p11_].toArray)].toArray).run Try.prog w = .ok (.agg [.int .i64 p0, .int .i64 p10_, .int .i64 p11_].toArray) w := by kernel_rfl
theorem BS149_1_0 {p0t : TypeId} {p0x : Value} (w : World) : (Instr.buildSlice 149 1 [(0, .iface p0t p0x)].toArray).run Try.prog w = .ok (.slice (some ⟨w.heap.size, 0, none⟩) 1 1) { w with heap := w.heap.push (blk [.iface p0t p0x] 179) } := by kernel_rfl
theorem B175_0_1 {p0 : Int} {p10_ : Int} {p11_ : Int} (w : World) : (Instr.build 175 [(0, .int .i64 p0), (1, .agg [.int .i64 p10_, .int .i64 p11_].toArray)].toArray).run Try.prog w = .ok (.agg [.int .i64 p0, .int .i64 p10_, .int .i64 p11_].toArray) w := by kernel_rfl
theorem B146_0 {p0 : Int} (w : World) : (Instr.build 146 [(0, .int .i64 p0)].toArray).run Try.prog w = .ok (.agg [.int .i64 p0].toArray) w := by kernel_rfl
theorem B171_0_1 {p0 : Int} {p1 : Int} (w : World) : (Instr.build 171 [(0, .int .i64 p0), (1, .int .i64 p1)].toArray).run Try.prog w = .ok (.agg [.int .i64 p0, .int .i64 p1].toArray) w := by kernel_rfl
theorem B97_0_1 {p00_ : Int} {p01_ : Int} {p10_ : Int} {p11_ : Int} (w : World) : (Instr.build 97 [(0, .agg [.int .i64 p00_, .int .i64 p01_].toArray), (1, .agg [.int .i64 p10_, .int .i64 p11_].toArray)].toArray).run Try.prog w = .ok (.agg [.int .i64 p00_, .int .i64 p01_, .int .i64 p10_, .int .i64 p11_].toArray) w := by kernel_rfl
theorem BS70_3_0_1_2 {p00_ : Int} {p01_ : Int} {p10_ : Int} {p11_ : Int} {p20_ : Int} {p21_ : Int} (w : World) : (Instr.buildSlice 70 3 [(0, .agg [.int .i64 p00_, .int .i64 p01_].toArray), (1, .agg [.int .i64 p10_, .int .i64 p11_].toArray), (2, .agg [.int .i64 p20_, .int .i64 p21_].toArray)].toArray).run Try.prog w = .ok (.slice (some ⟨w.heap.size, 0, none⟩) 3 3) { w with heap := w.heap.push (blk [.int .i64 p00_, .int .i64 p01_, .int .i64 p10_, .int .i64 p11_, .int .i64 p20_, .int .i64 p21_] 23) } := by kernel_rfl
theorem BS70_0_  (w : World) : (Instr.buildSlice 70 0 [].toArray).run Try.prog w = .ok (.slice (some ⟨w.heap.size, 0, none⟩) 0 0) { w with heap := w.heap.push (blk [] 23) } := by kernel_rfl
theorem FD23_0 {p0_ : Int} {p1_ : Int} (w : World) : (Instr.field 23 (.agg [.int .i64 p0_, .int .i64 p1_].toArray) 0).run Try.prog w = .ok (.int .i64 p0_) w := by kernel_rfl
theorem FD23_1 {p0_ : Int} {p1_ : Int} (w : World) : (Instr.field 23 (.agg [.int .i64 p0_, .int .i64 p1_].toArray) 1).run Try.prog w = .ok (.int .i64 p1_) w := by kernel_rfl
theorem AP24 : appT Try.prog 24 = some (58, 9, 72) := by kernel_rfl
theorem AP46 : appT Try.prog 46 = some (45, 2, 16) := by kernel_rfl
theorem AP56 : appT Try.prog 56 = some (3, 1, 8) := by kernel_rfl
theorem AP70 : appT Try.prog 70 = some (23, 2, 16) := by kernel_rfl
theorem AP73 : appT Try.prog 73 = some (78, 3, 24) := by kernel_rfl
theorem AP80 : appT Try.prog 80 = some (82, 2, 16) := by kernel_rfl
theorem AP149 : appT Try.prog 149 = some (179, 1, 16) := by kernel_rfl
theorem G23 : Try.prog.eqGuardType Try.prog.depth 23 = false := by kernel_rfl
theorem E23 : eqFs Try.prog 23 = some [(3, 0), (3, 1)] := by kernel_rfl
theorem Q23 {a0 : Int} {a1 : Int} {b0 : Int} {b1 : Int} (w : World) : (Op.equal 23 (.agg [.int .i64 a0, .int .i64 a1].toArray) (.agg [.int .i64 b0, .int .i64 b1].toArray)).run Try.prog w = .ok (decide (a0 = b0 ∧ a1 = b1)) w := by
  rw [equal_step, run_equalIn_fs E23]
  refine Eq.trans (eqAll_int O3 U3 rfl rfl (eqAll_int O3 U3 rfl rfl (eqAll_nil))) ?_
  simp only [and_true]
theorem G58 : Try.prog.eqGuardType Try.prog.depth 58 = false := by kernel_rfl
end Go.Proofs.Ytlcdohhhhlhpmaa
