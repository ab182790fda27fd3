/-
  Facts of the types, in the engine's words.
-/
import Derived.Test.YtnndpimlfibncaaDoorProg
import Derived.Test.YtnndpimlfibncaaDoorKE1
import Derived.KernelRfl
namespace Go.Proofs.YtnndpimlfibncaaDoor.Eng
open Go Go.RowKit
theorem tk3 : tyK Tryd.prog 3 = some (false, 1) := by kernel_rfl
theorem tr3 : tyRow Tryd.prog 3 = some 1 := by kernel_rfl
theorem tu3 : Tryd.prog.underlying 3 = some (TypeDesc.int IntKind.i64) := by kernel_rfl
theorem tz3 : tyZero Tryd.prog 3 = some [Value.int IntKind.i64 0] := by kernel_rfl
theorem tk4 : tyK Tryd.prog 4 = some (false, 1) := by kernel_rfl
theorem tr4 : tyRow Tryd.prog 4 = some 1 := by kernel_rfl
theorem tu4 : Tryd.prog.underlying 4 = some (TypeDesc.bool) := by kernel_rfl
theorem tz4 : tyZero Tryd.prog 4 = some [Value.bool false] := by kernel_rfl
theorem tk5 : tyK Tryd.prog 5 = some (false, 1) := by kernel_rfl
theorem tr5 : tyRow Tryd.prog 5 = some 1 := by kernel_rfl
theorem tu5 : Tryd.prog.underlying 5 = some (TypeDesc.int IntKind.u8) := by kernel_rfl
theorem tz5 : tyZero Tryd.prog 5 = some [Value.int IntKind.u8 0] := by kernel_rfl
theorem tk9 : tyK Tryd.prog 9 = some (false, 1) := by kernel_rfl
theorem tr9 : tyRow Tryd.prog 9 = some 1 := by kernel_rfl
theorem tu9 : Tryd.prog.underlying 9 = some (TypeDesc.string) := by kernel_rfl
theorem tz9 : tyZero Tryd.prog 9 = some [Value.string ByteArray.empty] := by kernel_rfl
theorem tk20 : tyK Tryd.prog 20 = some (false, 1) := by kernel_rfl
theorem tr20 : tyRow Tryd.prog 20 = some 1 := by kernel_rfl
theorem tu20 : Tryd.prog.underlying 20 = some (TypeDesc.interface #[]) := by kernel_rfl
theorem tz20 : tyZero Tryd.prog 20 = some [Value.nilIface] := by kernel_rfl
theorem tk22 : tyK Tryd.prog 22 = some (false, 1) := by kernel_rfl
theorem tr22 : tyRow Tryd.prog 22 = some 1 := by kernel_rfl
theorem tu22 : Tryd.prog.underlying 22 = some (TypeDesc.slice 5) := by kernel_rfl
theorem te22 : tyElem Tryd.prog 22 = some 5 := by kernel_rfl
theorem tb22 : bytesT Tryd.prog 22 = true := by kernel_rfl
theorem tz22 : tyZero Tryd.prog 22 = some [Value.slice none 0 0] := by kernel_rfl
theorem tk24 : tyK Tryd.prog 24 = some (false, 1) := by kernel_rfl
theorem tr24 : tyRow Tryd.prog 24 = some 1 := by kernel_rfl
theorem tu24 : Tryd.prog.underlying 24 = some (TypeDesc.slice 88) := by kernel_rfl
theorem te24 : tyElem Tryd.prog 24 = some 88 := by kernel_rfl
theorem tz24 : tyZero Tryd.prog 24 = some [Value.slice none 0 0] := by kernel_rfl
theorem tk26 : tyK Tryd.prog 26 = some (true, 1) := by kernel_rfl
theorem tr26 : tyRow Tryd.prog 26 = some 1 := by kernel_rfl
theorem tf26_0 : tyField Tryd.prog 26 0 = some (0, 24) := by kernel_rfl
theorem tp26 : tyPlaces Tryd.prog 26 = some [(0, 1)] := by kernel_rfl
theorem tz26 : tyZero Tryd.prog 26 = some [Value.slice none 0 0] := by kernel_rfl
theorem tk27 : tyK Tryd.prog 27 = some (false, 1) := by kernel_rfl
theorem tr27 : tyRow Tryd.prog 27 = some 1 := by kernel_rfl
theorem tu27 : Tryd.prog.underlying 27 = some (TypeDesc.slice 29) := by kernel_rfl
theorem te27 : tyElem Tryd.prog 27 = some 29 := by kernel_rfl
theorem tz27 : tyZero Tryd.prog 27 = some [Value.slice none 0 0] := by kernel_rfl
theorem tk29 : tyK Tryd.prog 29 = some (true, 3) := by kernel_rfl
theorem tr29 : tyRow Tryd.prog 29 = some 3 := by kernel_rfl
theorem tf29_0 : tyField Tryd.prog 29 0 = some (0, 3) := by kernel_rfl
theorem tf29_1 : tyField Tryd.prog 29 1 = some (1, 22) := by kernel_rfl
theorem tf29_2 : tyField Tryd.prog 29 2 = some (2, 27) := by kernel_rfl
theorem tp29 : tyPlaces Tryd.prog 29 = some [(0, 1), (1, 1), (2, 1)] := by kernel_rfl
theorem tz29 : tyZero Tryd.prog 29 = some [Value.int IntKind.i64 0, Value.slice none 0 0, Value.slice none 0 0] := by kernel_rfl
theorem tk52 : tyK Tryd.prog 52 = some (false, 1) := by kernel_rfl
theorem tr52 : tyRow Tryd.prog 52 = some 1 := by kernel_rfl
theorem tu52 : Tryd.prog.underlying 52 = some (TypeDesc.pointer 84) := by kernel_rfl
theorem tz52 : tyZero Tryd.prog 52 = some [Value.pointer none] := by kernel_rfl
theorem tk60 : tyK Tryd.prog 60 = some (false, 1) := by kernel_rfl
theorem tr60 : tyRow Tryd.prog 60 = some 1 := by kernel_rfl
theorem tu60 : Tryd.prog.underlying 60 = some (TypeDesc.pointer 62) := by kernel_rfl
theorem tz60 : tyZero Tryd.prog 60 = some [Value.pointer none] := by kernel_rfl
theorem tk62 : tyK Tryd.prog 62 = some (true, 2) := by kernel_rfl
theorem tr62 : tyRow Tryd.prog 62 = some 2 := by kernel_rfl
theorem tf62_0 : tyField Tryd.prog 62 0 = some (0, 26) := by kernel_rfl
theorem tf62_1 : tyField Tryd.prog 62 1 = some (1, 22) := by kernel_rfl
theorem tp62 : tyPlaces Tryd.prog 62 = some [(0, 1), (1, 1)] := by kernel_rfl
theorem tz62 : tyZero Tryd.prog 62 = some [Value.slice none 0 0, Value.slice none 0 0] := by kernel_rfl
theorem tk64 : tyK Tryd.prog 64 = some (false, 1) := by kernel_rfl
theorem tr64 : tyRow Tryd.prog 64 = some 1 := by kernel_rfl
theorem tu64 : Tryd.prog.underlying 64 = some (TypeDesc.interface #[("Error", 205)]) := by kernel_rfl
theorem tz64 : tyZero Tryd.prog 64 = some [Value.nilIface] := by kernel_rfl
theorem tk67 : tyK Tryd.prog 67 = some (false, 1) := by kernel_rfl
theorem tr67 : tyRow Tryd.prog 67 = some 1 := by kernel_rfl
theorem tu67 : Tryd.prog.underlying 67 = some (TypeDesc.pointer 71) := by kernel_rfl
theorem tz67 : tyZero Tryd.prog 67 = some [Value.pointer none] := by kernel_rfl
theorem tk69 : tyK Tryd.prog 69 = some (false, 1) := by kernel_rfl
theorem tr69 : tyRow Tryd.prog 69 = some 1 := by kernel_rfl
theorem tu69 : Tryd.prog.underlying 69 = some (TypeDesc.pointer 67) := by kernel_rfl
theorem tz69 : tyZero Tryd.prog 69 = some [Value.pointer none] := by kernel_rfl
theorem tk71 : tyK Tryd.prog 71 = some (true, 2) := by kernel_rfl
theorem tr71 : tyRow Tryd.prog 71 = some 2 := by kernel_rfl
theorem tf71_0 : tyField Tryd.prog 71 0 = some (0, 3) := by kernel_rfl
theorem tf71_1 : tyField Tryd.prog 71 1 = some (1, 3) := by kernel_rfl
theorem tq71 : tyFlat Tryd.prog 71 = some [0, 0] := by kernel_rfl
theorem tp71 : tyPlaces Tryd.prog 71 = some [(0, 1), (1, 1)] := by kernel_rfl
theorem tz71 : tyZero Tryd.prog 71 = some [Value.int IntKind.i64 0, Value.int IntKind.i64 0] := by kernel_rfl
theorem tk84 : tyK Tryd.prog 84 = some (true, 3) := by kernel_rfl
theorem tr84 : tyRow Tryd.prog 84 = some 3 := by kernel_rfl
theorem tf84_0 : tyField Tryd.prog 84 0 = some (0, 22) := by kernel_rfl
theorem tf84_1 : tyField Tryd.prog 84 1 = some (1, 3) := by kernel_rfl
theorem tf84_2 : tyField Tryd.prog 84 2 = some (2, 3) := by kernel_rfl
theorem tp84 : tyPlaces Tryd.prog 84 = some [(0, 1), (1, 1), (2, 1)] := by kernel_rfl
theorem tz84 : tyZero Tryd.prog 84 = some [Value.slice none 0 0, Value.int IntKind.i64 0, Value.int IntKind.i64 0] := by kernel_rfl
theorem tk85 : tyK Tryd.prog 85 = some (false, 1) := by kernel_rfl
theorem tr85 : tyRow Tryd.prog 85 = some 1 := by kernel_rfl
theorem tu85 : Tryd.prog.underlying 85 = some (TypeDesc.slice 9) := by kernel_rfl
theorem te85 : tyElem Tryd.prog 85 = some 9 := by kernel_rfl
theorem tz85 : tyZero Tryd.prog 85 = some [Value.slice none 0 0] := by kernel_rfl
theorem tk86 : tyK Tryd.prog 86 = some (false, 1) := by kernel_rfl
theorem tr86 : tyRow Tryd.prog 86 = some 1 := by kernel_rfl
theorem tu86 : Tryd.prog.underlying 86 = some (TypeDesc.slice 3) := by kernel_rfl
theorem te86 : tyElem Tryd.prog 86 = some 3 := by kernel_rfl
theorem tz86 : tyZero Tryd.prog 86 = some [Value.slice none 0 0] := by kernel_rfl
theorem tk88 : tyK Tryd.prog 88 = some (true, 8) := by kernel_rfl
theorem tr88 : tyRow Tryd.prog 88 = some 8 := by kernel_rfl
theorem tf88_0 : tyField Tryd.prog 88 0 = some (0, 9) := by kernel_rfl
theorem tf88_1 : tyField Tryd.prog 88 1 = some (1, 3) := by kernel_rfl
theorem tf88_2 : tyField Tryd.prog 88 2 = some (2, 3) := by kernel_rfl
theorem tf88_3 : tyField Tryd.prog 88 3 = some (3, 4) := by kernel_rfl
theorem tf88_4 : tyField Tryd.prog 88 4 = some (4, 22) := by kernel_rfl
theorem tf88_5 : tyField Tryd.prog 88 5 = some (5, 85) := by kernel_rfl
theorem tf88_6 : tyField Tryd.prog 88 6 = some (6, 86) := by kernel_rfl
theorem tf88_7 : tyField Tryd.prog 88 7 = some (7, 86) := by kernel_rfl
theorem tp88 : tyPlaces Tryd.prog 88 = some [(0, 1), (1, 1), (2, 1), (3, 1), (4, 1), (5, 1), (6, 1), (7, 1)] := by kernel_rfl
theorem tz88 : tyZero Tryd.prog 88 = some [Value.string ByteArray.empty, Value.int IntKind.i64 0, Value.int IntKind.i64 0, Value.bool false, Value.slice none 0 0, Value.slice none 0 0, Value.slice none 0 0, Value.slice none 0 0] := by kernel_rfl
end Go.Proofs.YtnndpimlfibncaaDoor.Eng
