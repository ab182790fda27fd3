/-
  Facts of the types, in the engine's words.
-/
import Derived.Test.YtmdohnoimianbaaGreatDoorProg
import Derived.Test.YtmdohnoimianbaaGreatDoorKE1
import Derived.KernelRfl
namespace Go.Proofs.YtmdohnoimianbaaGreatDoor.Eng
open Go Go.RowKit
theorem tk3 : tyK Tryz.prog 3 = some (false, 1) := by kernel_rfl
theorem tr3 : tyRow Tryz.prog 3 = some 1 := by kernel_rfl
theorem tu3 : Tryz.prog.underlying 3 = some (TypeDesc.int IntKind.i64) := by kernel_rfl
theorem tz3 : tyZero Tryz.prog 3 = some [Value.int IntKind.i64 0] := by kernel_rfl
theorem tk4 : tyK Tryz.prog 4 = some (false, 1) := by kernel_rfl
theorem tr4 : tyRow Tryz.prog 4 = some 1 := by kernel_rfl
theorem tu4 : Tryz.prog.underlying 4 = some (TypeDesc.bool) := by kernel_rfl
theorem tz4 : tyZero Tryz.prog 4 = some [Value.bool false] := by kernel_rfl
theorem tk5 : tyK Tryz.prog 5 = some (false, 1) := by kernel_rfl
theorem tr5 : tyRow Tryz.prog 5 = some 1 := by kernel_rfl
theorem tu5 : Tryz.prog.underlying 5 = some (TypeDesc.int IntKind.u8) := by kernel_rfl
theorem tz5 : tyZero Tryz.prog 5 = some [Value.int IntKind.u8 0] := by kernel_rfl
theorem tk9 : tyK Tryz.prog 9 = some (false, 1) := by kernel_rfl
theorem tr9 : tyRow Tryz.prog 9 = some 1 := by kernel_rfl
theorem tu9 : Tryz.prog.underlying 9 = some (TypeDesc.string) := by kernel_rfl
theorem tz9 : tyZero Tryz.prog 9 = some [Value.string ByteArray.empty] := by kernel_rfl
theorem tk20 : tyK Tryz.prog 20 = some (false, 1) := by kernel_rfl
theorem tr20 : tyRow Tryz.prog 20 = some 1 := by kernel_rfl
theorem tu20 : Tryz.prog.underlying 20 = some (TypeDesc.interface #[]) := by kernel_rfl
theorem tz20 : tyZero Tryz.prog 20 = some [Value.nilIface] := by kernel_rfl
theorem tk22 : tyK Tryz.prog 22 = some (false, 1) := by kernel_rfl
theorem tr22 : tyRow Tryz.prog 22 = some 1 := by kernel_rfl
theorem tu22 : Tryz.prog.underlying 22 = some (TypeDesc.slice 76) := by kernel_rfl
theorem te22 : tyElem Tryz.prog 22 = some 76 := by kernel_rfl
theorem tz22 : tyZero Tryz.prog 22 = some [Value.slice none 0 0] := by kernel_rfl
theorem tk24 : tyK Tryz.prog 24 = some (true, 1) := by kernel_rfl
theorem tr24 : tyRow Tryz.prog 24 = some 1 := by kernel_rfl
theorem tf24_0 : tyField Tryz.prog 24 0 = some (0, 22) := by kernel_rfl
theorem tp24 : tyPlaces Tryz.prog 24 = some [(0, 1)] := by kernel_rfl
theorem tz24 : tyZero Tryz.prog 24 = some [Value.slice none 0 0] := by kernel_rfl
theorem tk25 : tyK Tryz.prog 25 = some (false, 1) := by kernel_rfl
theorem tr25 : tyRow Tryz.prog 25 = some 1 := by kernel_rfl
theorem tu25 : Tryz.prog.underlying 25 = some (TypeDesc.slice 5) := by kernel_rfl
theorem te25 : tyElem Tryz.prog 25 = some 5 := by kernel_rfl
theorem tb25 : bytesT Tryz.prog 25 = true := by kernel_rfl
theorem tz25 : tyZero Tryz.prog 25 = some [Value.slice none 0 0] := by kernel_rfl
theorem tk27 : tyK Tryz.prog 27 = some (false, 1) := by kernel_rfl
theorem tr27 : tyRow Tryz.prog 27 = some 1 := by kernel_rfl
theorem tu27 : Tryz.prog.underlying 27 = some (TypeDesc.slice 29) := by kernel_rfl
theorem te27 : tyElem Tryz.prog 27 = some 29 := by kernel_rfl
theorem tz27 : tyZero Tryz.prog 27 = some [Value.slice none 0 0] := by kernel_rfl
theorem tk29 : tyK Tryz.prog 29 = some (true, 3) := by kernel_rfl
theorem tr29 : tyRow Tryz.prog 29 = some 3 := by kernel_rfl
theorem tf29_0 : tyField Tryz.prog 29 0 = some (0, 3) := by kernel_rfl
theorem tf29_1 : tyField Tryz.prog 29 1 = some (1, 25) := by kernel_rfl
theorem tf29_2 : tyField Tryz.prog 29 2 = some (2, 27) := by kernel_rfl
theorem tp29 : tyPlaces Tryz.prog 29 = some [(0, 1), (1, 1), (2, 1)] := by kernel_rfl
theorem tz29 : tyZero Tryz.prog 29 = some [Value.int IntKind.i64 0, Value.slice none 0 0, Value.slice none 0 0] := by kernel_rfl
theorem tk32 : tyK Tryz.prog 32 = some (false, 1) := by kernel_rfl
theorem tr32 : tyRow Tryz.prog 32 = some 1 := by kernel_rfl
theorem tu32 : Tryz.prog.underlying 32 = some (TypeDesc.slice 78) := by kernel_rfl
theorem te32 : tyElem Tryz.prog 32 = some 78 := by kernel_rfl
theorem tz32 : tyZero Tryz.prog 32 = some [Value.slice none 0 0] := by kernel_rfl
theorem tk34 : tyK Tryz.prog 34 = some (true, 1) := by kernel_rfl
theorem tr34 : tyRow Tryz.prog 34 = some 1 := by kernel_rfl
theorem tf34_0 : tyField Tryz.prog 34 0 = some (0, 32) := by kernel_rfl
theorem tp34 : tyPlaces Tryz.prog 34 = some [(0, 1)] := by kernel_rfl
theorem tz34 : tyZero Tryz.prog 34 = some [Value.slice none 0 0] := by kernel_rfl
theorem tk54 : tyK Tryz.prog 54 = some (false, 1) := by kernel_rfl
theorem tr54 : tyRow Tryz.prog 54 = some 1 := by kernel_rfl
theorem tu54 : Tryz.prog.underlying 54 = some (TypeDesc.pointer 56) := by kernel_rfl
theorem tz54 : tyZero Tryz.prog 54 = some [Value.pointer none] := by kernel_rfl
theorem tk56 : tyK Tryz.prog 56 = some (true, 2) := by kernel_rfl
theorem tr56 : tyRow Tryz.prog 56 = some 2 := by kernel_rfl
theorem tf56_0 : tyField Tryz.prog 56 0 = some (0, 34) := by kernel_rfl
theorem tf56_1 : tyField Tryz.prog 56 1 = some (1, 25) := by kernel_rfl
theorem tp56 : tyPlaces Tryz.prog 56 = some [(0, 1), (1, 1)] := by kernel_rfl
theorem tz56 : tyZero Tryz.prog 56 = some [Value.slice none 0 0, Value.slice none 0 0] := by kernel_rfl
theorem tk58 : tyK Tryz.prog 58 = some (false, 1) := by kernel_rfl
theorem tr58 : tyRow Tryz.prog 58 = some 1 := by kernel_rfl
theorem tu58 : Tryz.prog.underlying 58 = some (TypeDesc.interface #[("Error", 163)]) := by kernel_rfl
theorem tz58 : tyZero Tryz.prog 58 = some [Value.nilIface] := by kernel_rfl
theorem tk61 : tyK Tryz.prog 61 = some (false, 1) := by kernel_rfl
theorem tr61 : tyRow Tryz.prog 61 = some 1 := by kernel_rfl
theorem tu61 : Tryz.prog.underlying 61 = some (TypeDesc.pointer 65) := by kernel_rfl
theorem tz61 : tyZero Tryz.prog 61 = some [Value.pointer none] := by kernel_rfl
theorem tk63 : tyK Tryz.prog 63 = some (false, 1) := by kernel_rfl
theorem tr63 : tyRow Tryz.prog 63 = some 1 := by kernel_rfl
theorem tu63 : Tryz.prog.underlying 63 = some (TypeDesc.pointer 61) := by kernel_rfl
theorem tz63 : tyZero Tryz.prog 63 = some [Value.pointer none] := by kernel_rfl
theorem tk65 : tyK Tryz.prog 65 = some (true, 2) := by kernel_rfl
theorem tr65 : tyRow Tryz.prog 65 = some 2 := by kernel_rfl
theorem tf65_0 : tyField Tryz.prog 65 0 = some (0, 3) := by kernel_rfl
theorem tf65_1 : tyField Tryz.prog 65 1 = some (1, 3) := by kernel_rfl
theorem tq65 : tyFlat Tryz.prog 65 = some [0, 0] := by kernel_rfl
theorem tp65 : tyPlaces Tryz.prog 65 = some [(0, 1), (1, 1)] := by kernel_rfl
theorem tz65 : tyZero Tryz.prog 65 = some [Value.int IntKind.i64 0, Value.int IntKind.i64 0] := by kernel_rfl
theorem tk73 : tyK Tryz.prog 73 = some (false, 1) := by kernel_rfl
theorem tr73 : tyRow Tryz.prog 73 = some 1 := by kernel_rfl
theorem tu73 : Tryz.prog.underlying 73 = some (TypeDesc.slice 9) := by kernel_rfl
theorem te73 : tyElem Tryz.prog 73 = some 9 := by kernel_rfl
theorem tz73 : tyZero Tryz.prog 73 = some [Value.slice none 0 0] := by kernel_rfl
theorem tk74 : tyK Tryz.prog 74 = some (false, 1) := by kernel_rfl
theorem tr74 : tyRow Tryz.prog 74 = some 1 := by kernel_rfl
theorem tu74 : Tryz.prog.underlying 74 = some (TypeDesc.slice 3) := by kernel_rfl
theorem te74 : tyElem Tryz.prog 74 = some 3 := by kernel_rfl
theorem tz74 : tyZero Tryz.prog 74 = some [Value.slice none 0 0] := by kernel_rfl
theorem tk76 : tyK Tryz.prog 76 = some (true, 8) := by kernel_rfl
theorem tr76 : tyRow Tryz.prog 76 = some 8 := by kernel_rfl
theorem tf76_0 : tyField Tryz.prog 76 0 = some (0, 9) := by kernel_rfl
theorem tf76_1 : tyField Tryz.prog 76 1 = some (1, 3) := by kernel_rfl
theorem tf76_2 : tyField Tryz.prog 76 2 = some (2, 3) := by kernel_rfl
theorem tf76_3 : tyField Tryz.prog 76 3 = some (3, 4) := by kernel_rfl
theorem tf76_4 : tyField Tryz.prog 76 4 = some (4, 25) := by kernel_rfl
theorem tf76_5 : tyField Tryz.prog 76 5 = some (5, 73) := by kernel_rfl
theorem tf76_6 : tyField Tryz.prog 76 6 = some (6, 74) := by kernel_rfl
theorem tf76_7 : tyField Tryz.prog 76 7 = some (7, 74) := by kernel_rfl
theorem tp76 : tyPlaces Tryz.prog 76 = some [(0, 1), (1, 1), (2, 1), (3, 1), (4, 1), (5, 1), (6, 1), (7, 1)] := by kernel_rfl
theorem tz76 : tyZero Tryz.prog 76 = some [Value.string ByteArray.empty, Value.int IntKind.i64 0, Value.int IntKind.i64 0, Value.bool false, Value.slice none 0 0, Value.slice none 0 0, Value.slice none 0 0, Value.slice none 0 0] := by kernel_rfl
theorem tk78 : tyK Tryz.prog 78 = some (true, 8) := by kernel_rfl
theorem tr78 : tyRow Tryz.prog 78 = some 8 := by kernel_rfl
theorem tf78_0 : tyField Tryz.prog 78 0 = some (0, 9) := by kernel_rfl
theorem tf78_1 : tyField Tryz.prog 78 1 = some (1, 3) := by kernel_rfl
theorem tf78_2 : tyField Tryz.prog 78 2 = some (2, 3) := by kernel_rfl
theorem tf78_3 : tyField Tryz.prog 78 3 = some (3, 4) := by kernel_rfl
theorem tf78_4 : tyField Tryz.prog 78 4 = some (4, 25) := by kernel_rfl
theorem tf78_5 : tyField Tryz.prog 78 5 = some (5, 73) := by kernel_rfl
theorem tf78_6 : tyField Tryz.prog 78 6 = some (6, 74) := by kernel_rfl
theorem tf78_7 : tyField Tryz.prog 78 7 = some (7, 74) := by kernel_rfl
theorem tp78 : tyPlaces Tryz.prog 78 = some [(0, 1), (1, 1), (2, 1), (3, 1), (4, 1), (5, 1), (6, 1), (7, 1)] := by kernel_rfl
theorem tz78 : tyZero Tryz.prog 78 = some [Value.string ByteArray.empty, Value.int IntKind.i64 0, Value.int IntKind.i64 0, Value.bool false, Value.slice none 0 0, Value.slice none 0 0, Value.slice none 0 0, Value.slice none 0 0] := by kernel_rfl
theorem tk138 : tyK Tryz.prog 138 = some (false, 1) := by kernel_rfl
theorem tr138 : tyRow Tryz.prog 138 = some 1 := by kernel_rfl
theorem tu138 : Tryz.prog.underlying 138 = some (TypeDesc.pointer 140) := by kernel_rfl
theorem tz138 : tyZero Tryz.prog 138 = some [Value.pointer none] := by kernel_rfl
theorem tk140 : tyK Tryz.prog 140 = some (true, 2) := by kernel_rfl
theorem tr140 : tyRow Tryz.prog 140 = some 2 := by kernel_rfl
theorem tf140_0 : tyField Tryz.prog 140 0 = some (0, 34) := by kernel_rfl
theorem tf140_1 : tyField Tryz.prog 140 1 = some (1, 25) := by kernel_rfl
theorem tp140 : tyPlaces Tryz.prog 140 = some [(0, 1), (1, 1)] := by kernel_rfl
theorem tz140 : tyZero Tryz.prog 140 = some [Value.slice none 0 0, Value.slice none 0 0] := by kernel_rfl
theorem tk142 : tyK Tryz.prog 142 = some (false, 1) := by kernel_rfl
theorem tr142 : tyRow Tryz.prog 142 = some 1 := by kernel_rfl
theorem tu142 : Tryz.prog.underlying 142 = some (TypeDesc.pointer 29) := by kernel_rfl
theorem tz142 : tyZero Tryz.prog 142 = some [Value.pointer none] := by kernel_rfl
theorem tk162 : tyK Tryz.prog 162 = some (false, 1) := by kernel_rfl
theorem tr162 : tyRow Tryz.prog 162 = some 1 := by kernel_rfl
theorem tu162 : Tryz.prog.underlying 162 = some (TypeDesc.func #[3, 3] #[4] false) := by kernel_rfl
theorem tz162 : tyZero Tryz.prog 162 = some [Value.nilFunc] := by kernel_rfl
end Go.Proofs.YtmdohnoimianbaaGreatDoor.Eng
