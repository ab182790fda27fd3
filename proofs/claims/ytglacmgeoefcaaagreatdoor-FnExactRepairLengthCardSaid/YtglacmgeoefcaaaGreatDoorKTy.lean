/-
  Facts of the types, in the engine's words.
-/
import Derived.Test.YtglacmgeoefcaaaGreatDoorProg
import Derived.Test.YtglacmgeoefcaaaGreatDoorKE1
import Derived.KernelRfl
namespace Go.Proofs.YtglacmgeoefcaaaGreatDoor.Eng
open Go Go.RowKit
theorem tk3 : tyK Tryz.prog 3 = some (false, 1) := by kernel_rfl
theorem tr3 : tyRow Tryz.prog 3 = some 1 := by kernel_rfl
theorem tu3 : Tryz.prog.underlying 3 = some (TypeDesc.int IntKind.i64) := by kernel_rfl
theorem tz3 : tyZero Tryz.prog 3 = some [Value.int IntKind.i64 0] := by kernel_rfl
theorem tk4 : tyK Tryz.prog 4 = some (false, 1) := by kernel_rfl
theorem tr4 : tyRow Tryz.prog 4 = some 1 := by kernel_rfl
theorem tu4 : Tryz.prog.underlying 4 = some (TypeDesc.bool) := by kernel_rfl
theorem tz4 : tyZero Tryz.prog 4 = some [Value.bool false] := by kernel_rfl
theorem tk5 : tyK Tryz.prog 5 = some (false, 1) := by kernel_rfl
theorem tr5 : tyRow Tryz.prog 5 = some 1 := by kernel_rfl
theorem tu5 : Tryz.prog.underlying 5 = some (TypeDesc.int IntKind.u8) := by kernel_rfl
theorem tz5 : tyZero Tryz.prog 5 = some [Value.int IntKind.u8 0] := by kernel_rfl
theorem tk9 : tyK Tryz.prog 9 = some (false, 1) := by kernel_rfl
theorem tr9 : tyRow Tryz.prog 9 = some 1 := by kernel_rfl
theorem tu9 : Tryz.prog.underlying 9 = some (TypeDesc.string) := by kernel_rfl
theorem tz9 : tyZero Tryz.prog 9 = some [Value.string ByteArray.empty] := by kernel_rfl
theorem tk20 : tyK Tryz.prog 20 = some (false, 1) := by kernel_rfl
theorem tr20 : tyRow Tryz.prog 20 = some 1 := by kernel_rfl
theorem tu20 : Tryz.prog.underlying 20 = some (TypeDesc.interface #[]) := by kernel_rfl
theorem tz20 : tyZero Tryz.prog 20 = some [Value.nilIface] := by kernel_rfl
theorem tk22 : tyK Tryz.prog 22 = some (false, 1) := by kernel_rfl
theorem tr22 : tyRow Tryz.prog 22 = some 1 := by kernel_rfl
theorem tu22 : Tryz.prog.underlying 22 = some (TypeDesc.slice 5) := by kernel_rfl
theorem te22 : tyElem Tryz.prog 22 = some 5 := by kernel_rfl
theorem tb22 : bytesT Tryz.prog 22 = true := by kernel_rfl
theorem tz22 : tyZero Tryz.prog 22 = some [Value.slice none 0 0] := by kernel_rfl
theorem tk24 : tyK Tryz.prog 24 = some (false, 1) := by kernel_rfl
theorem tr24 : tyRow Tryz.prog 24 = some 1 := by kernel_rfl
theorem tu24 : Tryz.prog.underlying 24 = some (TypeDesc.slice 111) := by kernel_rfl
theorem te24 : tyElem Tryz.prog 24 = some 111 := by kernel_rfl
theorem tz24 : tyZero Tryz.prog 24 = some [Value.slice none 0 0] := by kernel_rfl
theorem tk26 : tyK Tryz.prog 26 = some (true, 1) := by kernel_rfl
theorem tr26 : tyRow Tryz.prog 26 = some 1 := by kernel_rfl
theorem tf26_0 : tyField Tryz.prog 26 0 = some (0, 24) := by kernel_rfl
theorem tp26 : tyPlaces Tryz.prog 26 = some [(0, 1)] := by kernel_rfl
theorem tz26 : tyZero Tryz.prog 26 = some [Value.slice none 0 0] := by kernel_rfl
theorem tk30 : tyK Tryz.prog 30 = some (false, 1) := by kernel_rfl
theorem tr30 : tyRow Tryz.prog 30 = some 1 := by kernel_rfl
theorem tu30 : Tryz.prog.underlying 30 = some (TypeDesc.slice 110) := by kernel_rfl
theorem te30 : tyElem Tryz.prog 30 = some 110 := by kernel_rfl
theorem tz30 : tyZero Tryz.prog 30 = some [Value.slice none 0 0] := by kernel_rfl
theorem tk32 : tyK Tryz.prog 32 = some (true, 1) := by kernel_rfl
theorem tr32 : tyRow Tryz.prog 32 = some 1 := by kernel_rfl
theorem tf32_0 : tyField Tryz.prog 32 0 = some (0, 30) := by kernel_rfl
theorem tp32 : tyPlaces Tryz.prog 32 = some [(0, 1)] := by kernel_rfl
theorem tz32 : tyZero Tryz.prog 32 = some [Value.slice none 0 0] := by kernel_rfl
theorem tk34 : tyK Tryz.prog 34 = some (false, 1) := by kernel_rfl
theorem tr34 : tyRow Tryz.prog 34 = some 1 := by kernel_rfl
theorem tu34 : Tryz.prog.underlying 34 = some (TypeDesc.slice 36) := by kernel_rfl
theorem te34 : tyElem Tryz.prog 34 = some 36 := by kernel_rfl
theorem tz34 : tyZero Tryz.prog 34 = some [Value.slice none 0 0] := by kernel_rfl
theorem tk36 : tyK Tryz.prog 36 = some (true, 3) := by kernel_rfl
theorem tr36 : tyRow Tryz.prog 36 = some 3 := by kernel_rfl
theorem tf36_0 : tyField Tryz.prog 36 0 = some (0, 3) := by kernel_rfl
theorem tf36_1 : tyField Tryz.prog 36 1 = some (1, 22) := by kernel_rfl
theorem tf36_2 : tyField Tryz.prog 36 2 = some (2, 34) := by kernel_rfl
theorem tp36 : tyPlaces Tryz.prog 36 = some [(0, 1), (1, 1), (2, 1)] := by kernel_rfl
theorem tz36 : tyZero Tryz.prog 36 = some [Value.int IntKind.i64 0, Value.slice none 0 0, Value.slice none 0 0] := by kernel_rfl
theorem tk51 : tyK Tryz.prog 51 = some (true, 3) := by kernel_rfl
theorem tr51 : tyRow Tryz.prog 51 = some 3 := by kernel_rfl
theorem tf51_0 : tyField Tryz.prog 51 0 = some (0, 3) := by kernel_rfl
theorem tf51_1 : tyField Tryz.prog 51 1 = some (1, 3) := by kernel_rfl
theorem tf51_2 : tyField Tryz.prog 51 2 = some (2, 3) := by kernel_rfl
theorem tq51 : tyFlat Tryz.prog 51 = some [0, 0, 0] := by kernel_rfl
theorem tp51 : tyPlaces Tryz.prog 51 = some [(0, 1), (1, 1), (2, 1)] := by kernel_rfl
theorem tz51 : tyZero Tryz.prog 51 = some [Value.int IntKind.i64 0, Value.int IntKind.i64 0, Value.int IntKind.i64 0] := by kernel_rfl
theorem tk73 : tyK Tryz.prog 73 = some (false, 1) := by kernel_rfl
theorem tr73 : tyRow Tryz.prog 73 = some 1 := by kernel_rfl
theorem tu73 : Tryz.prog.underlying 73 = some (TypeDesc.pointer 75) := by kernel_rfl
theorem tz73 : tyZero Tryz.prog 73 = some [Value.pointer none] := by kernel_rfl
theorem tk75 : tyK Tryz.prog 75 = some (true, 2) := by kernel_rfl
theorem tr75 : tyRow Tryz.prog 75 = some 2 := by kernel_rfl
theorem tf75_0 : tyField Tryz.prog 75 0 = some (0, 26) := by kernel_rfl
theorem tf75_1 : tyField Tryz.prog 75 1 = some (1, 22) := by kernel_rfl
theorem tp75 : tyPlaces Tryz.prog 75 = some [(0, 1), (1, 1)] := by kernel_rfl
theorem tz75 : tyZero Tryz.prog 75 = some [Value.slice none 0 0, Value.slice none 0 0] := by kernel_rfl
theorem tk77 : tyK Tryz.prog 77 = some (false, 1) := by kernel_rfl
theorem tr77 : tyRow Tryz.prog 77 = some 1 := by kernel_rfl
theorem tu77 : Tryz.prog.underlying 77 = some (TypeDesc.interface #[("Error", 224)]) := by kernel_rfl
theorem tz77 : tyZero Tryz.prog 77 = some [Value.nilIface] := by kernel_rfl
theorem tk80 : tyK Tryz.prog 80 = some (false, 1) := by kernel_rfl
theorem tr80 : tyRow Tryz.prog 80 = some 1 := by kernel_rfl
theorem tu80 : Tryz.prog.underlying 80 = some (TypeDesc.pointer 84) := by kernel_rfl
theorem tz80 : tyZero Tryz.prog 80 = some [Value.pointer none] := by kernel_rfl
theorem tk82 : tyK Tryz.prog 82 = some (false, 1) := by kernel_rfl
theorem tr82 : tyRow Tryz.prog 82 = some 1 := by kernel_rfl
theorem tu82 : Tryz.prog.underlying 82 = some (TypeDesc.pointer 80) := by kernel_rfl
theorem tz82 : tyZero Tryz.prog 82 = some [Value.pointer none] := by kernel_rfl
theorem tk84 : tyK Tryz.prog 84 = some (true, 2) := by kernel_rfl
theorem tr84 : tyRow Tryz.prog 84 = some 2 := by kernel_rfl
theorem tf84_0 : tyField Tryz.prog 84 0 = some (0, 3) := by kernel_rfl
theorem tf84_1 : tyField Tryz.prog 84 1 = some (1, 3) := by kernel_rfl
theorem tq84 : tyFlat Tryz.prog 84 = some [0, 0] := by kernel_rfl
theorem tp84 : tyPlaces Tryz.prog 84 = some [(0, 1), (1, 1)] := by kernel_rfl
theorem tz84 : tyZero Tryz.prog 84 = some [Value.int IntKind.i64 0, Value.int IntKind.i64 0] := by kernel_rfl
theorem tk94 : tyK Tryz.prog 94 = some (false, 1) := by kernel_rfl
theorem tr94 : tyRow Tryz.prog 94 = some 1 := by kernel_rfl
theorem tu94 : Tryz.prog.underlying 94 = some (TypeDesc.slice 3) := by kernel_rfl
theorem te94 : tyElem Tryz.prog 94 = some 3 := by kernel_rfl
theorem tz94 : tyZero Tryz.prog 94 = some [Value.slice none 0 0] := by kernel_rfl
theorem tk96 : tyK Tryz.prog 96 = some (false, 1) := by kernel_rfl
theorem tr96 : tyRow Tryz.prog 96 = some 1 := by kernel_rfl
theorem tu96 : Tryz.prog.underlying 96 = some (TypeDesc.slice 9) := by kernel_rfl
theorem te96 : tyElem Tryz.prog 96 = some 9 := by kernel_rfl
theorem tz96 : tyZero Tryz.prog 96 = some [Value.slice none 0 0] := by kernel_rfl
theorem tk110 : tyK Tryz.prog 110 = some (true, 8) := by kernel_rfl
theorem tr110 : tyRow Tryz.prog 110 = some 8 := by kernel_rfl
theorem tf110_0 : tyField Tryz.prog 110 0 = some (0, 9) := by kernel_rfl
theorem tf110_1 : tyField Tryz.prog 110 1 = some (1, 3) := by kernel_rfl
theorem tf110_2 : tyField Tryz.prog 110 2 = some (2, 3) := by kernel_rfl
theorem tf110_3 : tyField Tryz.prog 110 3 = some (3, 4) := by kernel_rfl
theorem tf110_4 : tyField Tryz.prog 110 4 = some (4, 22) := by kernel_rfl
theorem tf110_5 : tyField Tryz.prog 110 5 = some (5, 96) := by kernel_rfl
theorem tf110_6 : tyField Tryz.prog 110 6 = some (6, 94) := by kernel_rfl
theorem tf110_7 : tyField Tryz.prog 110 7 = some (7, 94) := by kernel_rfl
theorem tp110 : tyPlaces Tryz.prog 110 = some [(0, 1), (1, 1), (2, 1), (3, 1), (4, 1), (5, 1), (6, 1), (7, 1)] := by kernel_rfl
theorem tz110 : tyZero Tryz.prog 110 = some [Value.string ByteArray.empty, Value.int IntKind.i64 0, Value.int IntKind.i64 0, Value.bool false, Value.slice none 0 0, Value.slice none 0 0, Value.slice none 0 0, Value.slice none 0 0] := by kernel_rfl
theorem tk111 : tyK Tryz.prog 111 = some (true, 8) := by kernel_rfl
theorem tr111 : tyRow Tryz.prog 111 = some 8 := by kernel_rfl
theorem tf111_0 : tyField Tryz.prog 111 0 = some (0, 9) := by kernel_rfl
theorem tf111_1 : tyField Tryz.prog 111 1 = some (1, 3) := by kernel_rfl
theorem tf111_2 : tyField Tryz.prog 111 2 = some (2, 3) := by kernel_rfl
theorem tf111_3 : tyField Tryz.prog 111 3 = some (3, 4) := by kernel_rfl
theorem tf111_4 : tyField Tryz.prog 111 4 = some (4, 22) := by kernel_rfl
theorem tf111_5 : tyField Tryz.prog 111 5 = some (5, 96) := by kernel_rfl
theorem tf111_6 : tyField Tryz.prog 111 6 = some (6, 94) := by kernel_rfl
theorem tf111_7 : tyField Tryz.prog 111 7 = some (7, 94) := by kernel_rfl
theorem tp111 : tyPlaces Tryz.prog 111 = some [(0, 1), (1, 1), (2, 1), (3, 1), (4, 1), (5, 1), (6, 1), (7, 1)] := by kernel_rfl
theorem tz111 : tyZero Tryz.prog 111 = some [Value.string ByteArray.empty, Value.int IntKind.i64 0, Value.int IntKind.i64 0, Value.bool false, Value.slice none 0 0, Value.slice none 0 0, Value.slice none 0 0, Value.slice none 0 0] := by kernel_rfl
theorem tk175 : tyK Tryz.prog 175 = some (true, 3) := by kernel_rfl
theorem tr175 : tyRow Tryz.prog 175 = some 3 := by kernel_rfl
theorem tu175 : Tryz.prog.underlying 175 = some (TypeDesc.array 3 3) := by kernel_rfl
theorem ta175 : tyArr Tryz.prog 175 = some (3, 3) := by kernel_rfl
theorem tq175 : tyFlat Tryz.prog 175 = some [0, 0, 0] := by kernel_rfl
theorem tp175 : tyPlaces Tryz.prog 175 = some [(0, 1), (1, 1), (2, 1)] := by kernel_rfl
theorem tz175 : tyZero Tryz.prog 175 = some [Value.int IntKind.i64 0, Value.int IntKind.i64 0, Value.int IntKind.i64 0] := by kernel_rfl
end Go.Proofs.YtglacmgeoefcaaaGreatDoor.Eng
