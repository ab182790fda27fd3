/-
  Facts of the types, in the engine's words.
-/
import Derived.Test.YtoegmaebdihnaaaGreatDoorProg
import Derived.Test.YtoegmaebdihnaaaGreatDoorKE1
import Derived.KernelRfl
namespace Go.Proofs.YtoegmaebdihnaaaGreatDoor.Eng
open Go Go.RowKit
theorem tk3 : tyK Tryz.prog 3 = some (false, 1) := by kernel_rfl
theorem tr3 : tyRow Tryz.prog 3 = some 1 := by kernel_rfl
theorem tu3 : Tryz.prog.underlying 3 = some (TypeDesc.int IntKind.i64) := by kernel_rfl
theorem tz3 : tyZero Tryz.prog 3 = some [Value.int IntKind.i64 0] := by kernel_rfl
theorem tk4 : tyK Tryz.prog 4 = some (false, 1) := by kernel_rfl
theorem tr4 : tyRow Tryz.prog 4 = some 1 := by kernel_rfl
theorem tu4 : Tryz.prog.underlying 4 = some (TypeDesc.bool) := by kernel_rfl
theorem tz4 : tyZero Tryz.prog 4 = some [Value.bool false] := by kernel_rfl
theorem tk5 : tyK Tryz.prog 5 = some (false, 1) := by kernel_rfl
theorem tr5 : tyRow Tryz.prog 5 = some 1 := by kernel_rfl
theorem tu5 : Tryz.prog.underlying 5 = some (TypeDesc.int IntKind.u8) := by kernel_rfl
theorem tz5 : tyZero Tryz.prog 5 = some [Value.int IntKind.u8 0] := by kernel_rfl
theorem tk9 : tyK Tryz.prog 9 = some (false, 1) := by kernel_rfl
theorem tr9 : tyRow Tryz.prog 9 = some 1 := by kernel_rfl
theorem tu9 : Tryz.prog.underlying 9 = some (TypeDesc.string) := by kernel_rfl
theorem tz9 : tyZero Tryz.prog 9 = some [Value.string ByteArray.empty] := by kernel_rfl
theorem tk20 : tyK Tryz.prog 20 = some (false, 1) := by kernel_rfl
theorem tr20 : tyRow Tryz.prog 20 = some 1 := by kernel_rfl
theorem tu20 : Tryz.prog.underlying 20 = some (TypeDesc.interface #[]) := by kernel_rfl
theorem tz20 : tyZero Tryz.prog 20 = some [Value.nilIface] := by kernel_rfl
theorem tk22 : tyK Tryz.prog 22 = some (false, 1) := by kernel_rfl
theorem tr22 : tyRow Tryz.prog 22 = some 1 := by kernel_rfl
theorem tu22 : Tryz.prog.underlying 22 = some (TypeDesc.slice 106) := by kernel_rfl
theorem te22 : tyElem Tryz.prog 22 = some 106 := by kernel_rfl
theorem tz22 : tyZero Tryz.prog 22 = some [Value.slice none 0 0] := by kernel_rfl
theorem tk24 : tyK Tryz.prog 24 = some (true, 1) := by kernel_rfl
theorem tr24 : tyRow Tryz.prog 24 = some 1 := by kernel_rfl
theorem tf24_0 : tyField Tryz.prog 24 0 = some (0, 22) := by kernel_rfl
theorem tp24 : tyPlaces Tryz.prog 24 = some [(0, 1)] := by kernel_rfl
theorem tz24 : tyZero Tryz.prog 24 = some [Value.slice none 0 0] := by kernel_rfl
theorem tk25 : tyK Tryz.prog 25 = some (false, 1) := by kernel_rfl
theorem tr25 : tyRow Tryz.prog 25 = some 1 := by kernel_rfl
theorem tu25 : Tryz.prog.underlying 25 = some (TypeDesc.slice 5) := by kernel_rfl
theorem te25 : tyElem Tryz.prog 25 = some 5 := by kernel_rfl
theorem tb25 : bytesT Tryz.prog 25 = true := by kernel_rfl
theorem tz25 : tyZero Tryz.prog 25 = some [Value.slice none 0 0] := by kernel_rfl
theorem tk28 : tyK Tryz.prog 28 = some (false, 1) := by kernel_rfl
theorem tr28 : tyRow Tryz.prog 28 = some 1 := by kernel_rfl
theorem tu28 : Tryz.prog.underlying 28 = some (TypeDesc.slice 107) := by kernel_rfl
theorem te28 : tyElem Tryz.prog 28 = some 107 := by kernel_rfl
theorem tz28 : tyZero Tryz.prog 28 = some [Value.slice none 0 0] := by kernel_rfl
theorem tk30 : tyK Tryz.prog 30 = some (true, 1) := by kernel_rfl
theorem tr30 : tyRow Tryz.prog 30 = some 1 := by kernel_rfl
theorem tf30_0 : tyField Tryz.prog 30 0 = some (0, 28) := by kernel_rfl
theorem tp30 : tyPlaces Tryz.prog 30 = some [(0, 1)] := by kernel_rfl
theorem tz30 : tyZero Tryz.prog 30 = some [Value.slice none 0 0] := by kernel_rfl
theorem tk39 : tyK Tryz.prog 39 = some (false, 1) := by kernel_rfl
theorem tr39 : tyRow Tryz.prog 39 = some 1 := by kernel_rfl
theorem tu39 : Tryz.prog.underlying 39 = some (TypeDesc.slice 41) := by kernel_rfl
theorem te39 : tyElem Tryz.prog 39 = some 41 := by kernel_rfl
theorem tz39 : tyZero Tryz.prog 39 = some [Value.slice none 0 0] := by kernel_rfl
theorem tk41 : tyK Tryz.prog 41 = some (true, 3) := by kernel_rfl
theorem tr41 : tyRow Tryz.prog 41 = some 3 := by kernel_rfl
theorem tf41_0 : tyField Tryz.prog 41 0 = some (0, 3) := by kernel_rfl
theorem tf41_1 : tyField Tryz.prog 41 1 = some (1, 25) := by kernel_rfl
theorem tf41_2 : tyField Tryz.prog 41 2 = some (2, 39) := by kernel_rfl
theorem tp41 : tyPlaces Tryz.prog 41 = some [(0, 1), (1, 1), (2, 1)] := by kernel_rfl
theorem tz41 : tyZero Tryz.prog 41 = some [Value.int IntKind.i64 0, Value.slice none 0 0, Value.slice none 0 0] := by kernel_rfl
theorem tk50 : tyK Tryz.prog 50 = some (false, 1) := by kernel_rfl
theorem tr50 : tyRow Tryz.prog 50 = some 1 := by kernel_rfl
theorem tu50 : Tryz.prog.underlying 50 = some (TypeDesc.slice 24) := by kernel_rfl
theorem te50 : tyElem Tryz.prog 50 = some 24 := by kernel_rfl
theorem tz50 : tyZero Tryz.prog 50 = some [Value.slice none 0 0] := by kernel_rfl
theorem tk52 : tyK Tryz.prog 52 = some (true, 1) := by kernel_rfl
theorem tr52 : tyRow Tryz.prog 52 = some 1 := by kernel_rfl
theorem tf52_0 : tyField Tryz.prog 52 0 = some (0, 50) := by kernel_rfl
theorem tp52 : tyPlaces Tryz.prog 52 = some [(0, 1)] := by kernel_rfl
theorem tz52 : tyZero Tryz.prog 52 = some [Value.slice none 0 0] := by kernel_rfl
theorem tk54 : tyK Tryz.prog 54 = some (false, 1) := by kernel_rfl
theorem tr54 : tyRow Tryz.prog 54 = some 1 := by kernel_rfl
theorem tu54 : Tryz.prog.underlying 54 = some (TypeDesc.slice 3) := by kernel_rfl
theorem te54 : tyElem Tryz.prog 54 = some 3 := by kernel_rfl
theorem tz54 : tyZero Tryz.prog 54 = some [Value.slice none 0 0] := by kernel_rfl
theorem tk56 : tyK Tryz.prog 56 = some (false, 1) := by kernel_rfl
theorem tr56 : tyRow Tryz.prog 56 = some 1 := by kernel_rfl
theorem tu56 : Tryz.prog.underlying 56 = some (TypeDesc.slice 30) := by kernel_rfl
theorem te56 : tyElem Tryz.prog 56 = some 30 := by kernel_rfl
theorem tz56 : tyZero Tryz.prog 56 = some [Value.slice none 0 0] := by kernel_rfl
theorem tk58 : tyK Tryz.prog 58 = some (true, 1) := by kernel_rfl
theorem tr58 : tyRow Tryz.prog 58 = some 1 := by kernel_rfl
theorem tf58_0 : tyField Tryz.prog 58 0 = some (0, 56) := by kernel_rfl
theorem tp58 : tyPlaces Tryz.prog 58 = some [(0, 1)] := by kernel_rfl
theorem tz58 : tyZero Tryz.prog 58 = some [Value.slice none 0 0] := by kernel_rfl
theorem tk79 : tyK Tryz.prog 79 = some (false, 1) := by kernel_rfl
theorem tr79 : tyRow Tryz.prog 79 = some 1 := by kernel_rfl
theorem tu79 : Tryz.prog.underlying 79 = some (TypeDesc.pointer 81) := by kernel_rfl
theorem tz79 : tyZero Tryz.prog 79 = some [Value.pointer none] := by kernel_rfl
theorem tk81 : tyK Tryz.prog 81 = some (true, 2) := by kernel_rfl
theorem tr81 : tyRow Tryz.prog 81 = some 2 := by kernel_rfl
theorem tf81_0 : tyField Tryz.prog 81 0 = some (0, 30) := by kernel_rfl
theorem tf81_1 : tyField Tryz.prog 81 1 = some (1, 25) := by kernel_rfl
theorem tp81 : tyPlaces Tryz.prog 81 = some [(0, 1), (1, 1)] := by kernel_rfl
theorem tz81 : tyZero Tryz.prog 81 = some [Value.slice none 0 0, Value.slice none 0 0] := by kernel_rfl
theorem tk83 : tyK Tryz.prog 83 = some (false, 1) := by kernel_rfl
theorem tr83 : tyRow Tryz.prog 83 = some 1 := by kernel_rfl
theorem tu83 : Tryz.prog.underlying 83 = some (TypeDesc.interface #[("Error", 222)]) := by kernel_rfl
theorem tz83 : tyZero Tryz.prog 83 = some [Value.nilIface] := by kernel_rfl
theorem tk86 : tyK Tryz.prog 86 = some (false, 1) := by kernel_rfl
theorem tr86 : tyRow Tryz.prog 86 = some 1 := by kernel_rfl
theorem tu86 : Tryz.prog.underlying 86 = some (TypeDesc.pointer 90) := by kernel_rfl
theorem tz86 : tyZero Tryz.prog 86 = some [Value.pointer none] := by kernel_rfl
theorem tk88 : tyK Tryz.prog 88 = some (false, 1) := by kernel_rfl
theorem tr88 : tyRow Tryz.prog 88 = some 1 := by kernel_rfl
theorem tu88 : Tryz.prog.underlying 88 = some (TypeDesc.pointer 86) := by kernel_rfl
theorem tz88 : tyZero Tryz.prog 88 = some [Value.pointer none] := by kernel_rfl
theorem tk90 : tyK Tryz.prog 90 = some (true, 2) := by kernel_rfl
theorem tr90 : tyRow Tryz.prog 90 = some 2 := by kernel_rfl
theorem tf90_0 : tyField Tryz.prog 90 0 = some (0, 3) := by kernel_rfl
theorem tf90_1 : tyField Tryz.prog 90 1 = some (1, 3) := by kernel_rfl
theorem tq90 : tyFlat Tryz.prog 90 = some [0, 0] := by kernel_rfl
theorem tp90 : tyPlaces Tryz.prog 90 = some [(0, 1), (1, 1)] := by kernel_rfl
theorem tz90 : tyZero Tryz.prog 90 = some [Value.int IntKind.i64 0, Value.int IntKind.i64 0] := by kernel_rfl
theorem tk104 : tyK Tryz.prog 104 = some (false, 1) := by kernel_rfl
theorem tr104 : tyRow Tryz.prog 104 = some 1 := by kernel_rfl
theorem tu104 : Tryz.prog.underlying 104 = some (TypeDesc.slice 9) := by kernel_rfl
theorem te104 : tyElem Tryz.prog 104 = some 9 := by kernel_rfl
theorem tz104 : tyZero Tryz.prog 104 = some [Value.slice none 0 0] := by kernel_rfl
theorem tk106 : tyK Tryz.prog 106 = some (true, 8) := by kernel_rfl
theorem tr106 : tyRow Tryz.prog 106 = some 8 := by kernel_rfl
theorem tf106_0 : tyField Tryz.prog 106 0 = some (0, 9) := by kernel_rfl
theorem tf106_1 : tyField Tryz.prog 106 1 = some (1, 3) := by kernel_rfl
theorem tf106_2 : tyField Tryz.prog 106 2 = some (2, 3) := by kernel_rfl
theorem tf106_3 : tyField Tryz.prog 106 3 = some (3, 4) := by kernel_rfl
theorem tf106_4 : tyField Tryz.prog 106 4 = some (4, 25) := by kernel_rfl
theorem tf106_5 : tyField Tryz.prog 106 5 = some (5, 104) := by kernel_rfl
theorem tf106_6 : tyField Tryz.prog 106 6 = some (6, 54) := by kernel_rfl
theorem tf106_7 : tyField Tryz.prog 106 7 = some (7, 54) := by kernel_rfl
theorem tp106 : tyPlaces Tryz.prog 106 = some [(0, 1), (1, 1), (2, 1), (3, 1), (4, 1), (5, 1), (6, 1), (7, 1)] := by kernel_rfl
theorem tz106 : tyZero Tryz.prog 106 = some [Value.string ByteArray.empty, Value.int IntKind.i64 0, Value.int IntKind.i64 0, Value.bool false, Value.slice none 0 0, Value.slice none 0 0, Value.slice none 0 0, Value.slice none 0 0] := by kernel_rfl
theorem tk107 : tyK Tryz.prog 107 = some (true, 8) := by kernel_rfl
theorem tr107 : tyRow Tryz.prog 107 = some 8 := by kernel_rfl
theorem tf107_0 : tyField Tryz.prog 107 0 = some (0, 9) := by kernel_rfl
theorem tf107_1 : tyField Tryz.prog 107 1 = some (1, 3) := by kernel_rfl
theorem tf107_2 : tyField Tryz.prog 107 2 = some (2, 3) := by kernel_rfl
theorem tf107_3 : tyField Tryz.prog 107 3 = some (3, 4) := by kernel_rfl
theorem tf107_4 : tyField Tryz.prog 107 4 = some (4, 25) := by kernel_rfl
theorem tf107_5 : tyField Tryz.prog 107 5 = some (5, 104) := by kernel_rfl
theorem tf107_6 : tyField Tryz.prog 107 6 = some (6, 54) := by kernel_rfl
theorem tf107_7 : tyField Tryz.prog 107 7 = some (7, 54) := by kernel_rfl
theorem tp107 : tyPlaces Tryz.prog 107 = some [(0, 1), (1, 1), (2, 1), (3, 1), (4, 1), (5, 1), (6, 1), (7, 1)] := by kernel_rfl
theorem tz107 : tyZero Tryz.prog 107 = some [Value.string ByteArray.empty, Value.int IntKind.i64 0, Value.int IntKind.i64 0, Value.bool false, Value.slice none 0 0, Value.slice none 0 0, Value.slice none 0 0, Value.slice none 0 0] := by kernel_rfl
end Go.Proofs.YtoegmaebdihnaaaGreatDoor.Eng
