/-
  Facts of the types, in the engine's words.
-/
import Derived.Test.YtoegmaebdihnaaaDoorProg
import Derived.Test.YtoegmaebdihnaaaDoorKE1
import Derived.KernelRfl
namespace Go.Proofs.YtoegmaebdihnaaaDoor.Eng
open Go Go.RowKit
theorem tk3 : tyK Tryd.prog 3 = some (false, 1) := by kernel_rfl
theorem tr3 : tyRow Tryd.prog 3 = some 1 := by kernel_rfl
theorem tu3 : Tryd.prog.underlying 3 = some (TypeDesc.int IntKind.i64) := by kernel_rfl
theorem tz3 : tyZero Tryd.prog 3 = some [Value.int IntKind.i64 0] := by kernel_rfl
theorem tk4 : tyK Tryd.prog 4 = some (false, 1) := by kernel_rfl
theorem tr4 : tyRow Tryd.prog 4 = some 1 := by kernel_rfl
theorem tu4 : Tryd.prog.underlying 4 = some (TypeDesc.bool) := by kernel_rfl
theorem tz4 : tyZero Tryd.prog 4 = some [Value.bool false] := by kernel_rfl
theorem tk5 : tyK Tryd.prog 5 = some (false, 1) := by kernel_rfl
theorem tr5 : tyRow Tryd.prog 5 = some 1 := by kernel_rfl
theorem tu5 : Tryd.prog.underlying 5 = some (TypeDesc.int IntKind.u8) := by kernel_rfl
theorem tz5 : tyZero Tryd.prog 5 = some [Value.int IntKind.u8 0] := by kernel_rfl
theorem tk9 : tyK Tryd.prog 9 = some (false, 1) := by kernel_rfl
theorem tr9 : tyRow Tryd.prog 9 = some 1 := by kernel_rfl
theorem tu9 : Tryd.prog.underlying 9 = some (TypeDesc.string) := by kernel_rfl
theorem tz9 : tyZero Tryd.prog 9 = some [Value.string ByteArray.empty] := by kernel_rfl
theorem tk22 : tyK Tryd.prog 22 = some (false, 1) := by kernel_rfl
theorem tr22 : tyRow Tryd.prog 22 = some 1 := by kernel_rfl
theorem tu22 : Tryd.prog.underlying 22 = some (TypeDesc.slice 49) := by kernel_rfl
theorem te22 : tyElem Tryd.prog 22 = some 49 := by kernel_rfl
theorem tz22 : tyZero Tryd.prog 22 = some [Value.slice none 0 0] := by kernel_rfl
theorem tk24 : tyK Tryd.prog 24 = some (true, 1) := by kernel_rfl
theorem tr24 : tyRow Tryd.prog 24 = some 1 := by kernel_rfl
theorem tf24_0 : tyField Tryd.prog 24 0 = some (0, 22) := by kernel_rfl
theorem tp24 : tyPlaces Tryd.prog 24 = some [(0, 1)] := by kernel_rfl
theorem tz24 : tyZero Tryd.prog 24 = some [Value.slice none 0 0] := by kernel_rfl
theorem tk25 : tyK Tryd.prog 25 = some (false, 1) := by kernel_rfl
theorem tr25 : tyRow Tryd.prog 25 = some 1 := by kernel_rfl
theorem tu25 : Tryd.prog.underlying 25 = some (TypeDesc.slice 5) := by kernel_rfl
theorem te25 : tyElem Tryd.prog 25 = some 5 := by kernel_rfl
theorem tb25 : bytesT Tryd.prog 25 = true := by kernel_rfl
theorem tz25 : tyZero Tryd.prog 25 = some [Value.slice none 0 0] := by kernel_rfl
theorem tk28 : tyK Tryd.prog 28 = some (false, 1) := by kernel_rfl
theorem tr28 : tyRow Tryd.prog 28 = some 1 := by kernel_rfl
theorem tu28 : Tryd.prog.underlying 28 = some (TypeDesc.slice 55) := by kernel_rfl
theorem te28 : tyElem Tryd.prog 28 = some 55 := by kernel_rfl
theorem tz28 : tyZero Tryd.prog 28 = some [Value.slice none 0 0] := by kernel_rfl
theorem tk30 : tyK Tryd.prog 30 = some (true, 1) := by kernel_rfl
theorem tr30 : tyRow Tryd.prog 30 = some 1 := by kernel_rfl
theorem tf30_0 : tyField Tryd.prog 30 0 = some (0, 28) := by kernel_rfl
theorem tp30 : tyPlaces Tryd.prog 30 = some [(0, 1)] := by kernel_rfl
theorem tz30 : tyZero Tryd.prog 30 = some [Value.slice none 0 0] := by kernel_rfl
theorem tk42 : tyK Tryd.prog 42 = some (false, 1) := by kernel_rfl
theorem tr42 : tyRow Tryd.prog 42 = some 1 := by kernel_rfl
theorem tu42 : Tryd.prog.underlying 42 = some (TypeDesc.interface #[("Error", 120)]) := by kernel_rfl
theorem tz42 : tyZero Tryd.prog 42 = some [Value.nilIface] := by kernel_rfl
theorem tk46 : tyK Tryd.prog 46 = some (false, 1) := by kernel_rfl
theorem tr46 : tyRow Tryd.prog 46 = some 1 := by kernel_rfl
theorem tu46 : Tryd.prog.underlying 46 = some (TypeDesc.slice 9) := by kernel_rfl
theorem te46 : tyElem Tryd.prog 46 = some 9 := by kernel_rfl
theorem tz46 : tyZero Tryd.prog 46 = some [Value.slice none 0 0] := by kernel_rfl
theorem tk47 : tyK Tryd.prog 47 = some (false, 1) := by kernel_rfl
theorem tr47 : tyRow Tryd.prog 47 = some 1 := by kernel_rfl
theorem tu47 : Tryd.prog.underlying 47 = some (TypeDesc.slice 3) := by kernel_rfl
theorem te47 : tyElem Tryd.prog 47 = some 3 := by kernel_rfl
theorem tz47 : tyZero Tryd.prog 47 = some [Value.slice none 0 0] := by kernel_rfl
theorem tk49 : tyK Tryd.prog 49 = some (true, 8) := by kernel_rfl
theorem tr49 : tyRow Tryd.prog 49 = some 8 := by kernel_rfl
theorem tf49_0 : tyField Tryd.prog 49 0 = some (0, 9) := by kernel_rfl
theorem tf49_1 : tyField Tryd.prog 49 1 = some (1, 3) := by kernel_rfl
theorem tf49_2 : tyField Tryd.prog 49 2 = some (2, 3) := by kernel_rfl
theorem tf49_3 : tyField Tryd.prog 49 3 = some (3, 4) := by kernel_rfl
theorem tf49_4 : tyField Tryd.prog 49 4 = some (4, 25) := by kernel_rfl
theorem tf49_5 : tyField Tryd.prog 49 5 = some (5, 46) := by kernel_rfl
theorem tf49_6 : tyField Tryd.prog 49 6 = some (6, 47) := by kernel_rfl
theorem tf49_7 : tyField Tryd.prog 49 7 = some (7, 47) := by kernel_rfl
theorem tp49 : tyPlaces Tryd.prog 49 = some [(0, 1), (1, 1), (2, 1), (3, 1), (4, 1), (5, 1), (6, 1), (7, 1)] := by kernel_rfl
theorem tz49 : tyZero Tryd.prog 49 = some [Value.string ByteArray.empty, Value.int IntKind.i64 0, Value.int IntKind.i64 0, Value.bool false, Value.slice none 0 0, Value.slice none 0 0, Value.slice none 0 0, Value.slice none 0 0] := by kernel_rfl
theorem tk50 : tyK Tryd.prog 50 = some (false, 1) := by kernel_rfl
theorem tr50 : tyRow Tryd.prog 50 = some 1 := by kernel_rfl
theorem tu50 : Tryd.prog.underlying 50 = some (TypeDesc.slice 52) := by kernel_rfl
theorem te50 : tyElem Tryd.prog 50 = some 52 := by kernel_rfl
theorem tz50 : tyZero Tryd.prog 50 = some [Value.slice none 0 0] := by kernel_rfl
theorem tk52 : tyK Tryd.prog 52 = some (true, 3) := by kernel_rfl
theorem tr52 : tyRow Tryd.prog 52 = some 3 := by kernel_rfl
theorem tf52_0 : tyField Tryd.prog 52 0 = some (0, 3) := by kernel_rfl
theorem tf52_1 : tyField Tryd.prog 52 1 = some (1, 25) := by kernel_rfl
theorem tf52_2 : tyField Tryd.prog 52 2 = some (2, 50) := by kernel_rfl
theorem tp52 : tyPlaces Tryd.prog 52 = some [(0, 1), (1, 1), (2, 1)] := by kernel_rfl
theorem tz52 : tyZero Tryd.prog 52 = some [Value.int IntKind.i64 0, Value.slice none 0 0, Value.slice none 0 0] := by kernel_rfl
theorem tk55 : tyK Tryd.prog 55 = some (true, 8) := by kernel_rfl
theorem tr55 : tyRow Tryd.prog 55 = some 8 := by kernel_rfl
theorem tf55_0 : tyField Tryd.prog 55 0 = some (0, 9) := by kernel_rfl
theorem tf55_1 : tyField Tryd.prog 55 1 = some (1, 3) := by kernel_rfl
theorem tf55_2 : tyField Tryd.prog 55 2 = some (2, 3) := by kernel_rfl
theorem tf55_3 : tyField Tryd.prog 55 3 = some (3, 4) := by kernel_rfl
theorem tf55_4 : tyField Tryd.prog 55 4 = some (4, 25) := by kernel_rfl
theorem tf55_5 : tyField Tryd.prog 55 5 = some (5, 46) := by kernel_rfl
theorem tf55_6 : tyField Tryd.prog 55 6 = some (6, 47) := by kernel_rfl
theorem tf55_7 : tyField Tryd.prog 55 7 = some (7, 47) := by kernel_rfl
theorem tp55 : tyPlaces Tryd.prog 55 = some [(0, 1), (1, 1), (2, 1), (3, 1), (4, 1), (5, 1), (6, 1), (7, 1)] := by kernel_rfl
theorem tz55 : tyZero Tryd.prog 55 = some [Value.string ByteArray.empty, Value.int IntKind.i64 0, Value.int IntKind.i64 0, Value.bool false, Value.slice none 0 0, Value.slice none 0 0, Value.slice none 0 0, Value.slice none 0 0] := by kernel_rfl
theorem tk62 : tyK Tryd.prog 62 = some (false, 1) := by kernel_rfl
theorem tr62 : tyRow Tryd.prog 62 = some 1 := by kernel_rfl
theorem tu62 : Tryd.prog.underlying 62 = some (TypeDesc.pointer 64) := by kernel_rfl
theorem tz62 : tyZero Tryd.prog 62 = some [Value.pointer none] := by kernel_rfl
theorem tk64 : tyK Tryd.prog 64 = some (true, 1) := by kernel_rfl
theorem tr64 : tyRow Tryd.prog 64 = some 1 := by kernel_rfl
theorem tf64_0 : tyField Tryd.prog 64 0 = some (0, 3) := by kernel_rfl
theorem tq64 : tyFlat Tryd.prog 64 = some [0] := by kernel_rfl
theorem tp64 : tyPlaces Tryd.prog 64 = some [(0, 1)] := by kernel_rfl
theorem tz64 : tyZero Tryd.prog 64 = some [Value.int IntKind.i64 0] := by kernel_rfl
theorem tk86 : tyK Tryd.prog 86 = some (true, 2) := by kernel_rfl
theorem tr86 : tyRow Tryd.prog 86 = some 2 := by kernel_rfl
theorem tf86_0 : tyField Tryd.prog 86 0 = some (0, 3) := by kernel_rfl
theorem tf86_1 : tyField Tryd.prog 86 1 = some (1, 3) := by kernel_rfl
theorem tq86 : tyFlat Tryd.prog 86 = some [0, 0] := by kernel_rfl
theorem tp86 : tyPlaces Tryd.prog 86 = some [(0, 1), (1, 1)] := by kernel_rfl
theorem tz86 : tyZero Tryd.prog 86 = some [Value.int IntKind.i64 0, Value.int IntKind.i64 0] := by kernel_rfl
theorem tk91 : tyK Tryd.prog 91 = some (false, 1) := by kernel_rfl
theorem tr91 : tyRow Tryd.prog 91 = some 1 := by kernel_rfl
theorem tu91 : Tryd.prog.underlying 91 = some (TypeDesc.pointer 93) := by kernel_rfl
theorem tz91 : tyZero Tryd.prog 91 = some [Value.pointer none] := by kernel_rfl
theorem tk93 : tyK Tryd.prog 93 = some (true, 3) := by kernel_rfl
theorem tr93 : tyRow Tryd.prog 93 = some 3 := by kernel_rfl
theorem tf93_0 : tyField Tryd.prog 93 0 = some (0, 30) := by kernel_rfl
theorem tf93_1 : tyField Tryd.prog 93 1 = some (1, 25) := by kernel_rfl
theorem tf93_2 : tyField Tryd.prog 93 2 = some (2, 3) := by kernel_rfl
theorem tp93 : tyPlaces Tryd.prog 93 = some [(0, 1), (1, 1), (2, 1)] := by kernel_rfl
theorem tz93 : tyZero Tryd.prog 93 = some [Value.slice none 0 0, Value.slice none 0 0, Value.int IntKind.i64 0] := by kernel_rfl
end Go.Proofs.YtoegmaebdihnaaaDoor.Eng
