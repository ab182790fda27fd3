/-
  Facts of the types, in the engine's words.
-/
import Derived.Test.YtnndpimlfibncaaGreatDoorProg
import Derived.Test.YtnndpimlfibncaaGreatDoorKE1
import Derived.KernelRfl
namespace Go.Proofs.YtnndpimlfibncaaGreatDoor.Eng
open Go Go.RowKit
theorem tk3 : tyK Tryz.prog 3 = some (false, 1) := by kernel_rfl
theorem tr3 : tyRow Tryz.prog 3 = some 1 := by kernel_rfl
theorem tu3 : Tryz.prog.underlying 3 = some (TypeDesc.int IntKind.i64) := by kernel_rfl
theorem tz3 : tyZero Tryz.prog 3 = some [Value.int IntKind.i64 0] := by kernel_rfl
theorem tk4 : tyK Tryz.prog 4 = some (false, 1) := by kernel_rfl
theorem tr4 : tyRow Tryz.prog 4 = some 1 := by kernel_rfl
theorem tu4 : Tryz.prog.underlying 4 = some (TypeDesc.bool) := by kernel_rfl
theorem tz4 : tyZero Tryz.prog 4 = some [Value.bool false] := by kernel_rfl
theorem tk5 : tyK Tryz.prog 5 = some (false, 1) := by kernel_rfl
theorem tr5 : tyRow Tryz.prog 5 = some 1 := by kernel_rfl
theorem tu5 : Tryz.prog.underlying 5 = some (TypeDesc.int IntKind.u8) := by kernel_rfl
theorem tz5 : tyZero Tryz.prog 5 = some [Value.int IntKind.u8 0] := by kernel_rfl
theorem tk9 : tyK Tryz.prog 9 = some (false, 1) := by kernel_rfl
theorem tr9 : tyRow Tryz.prog 9 = some 1 := by kernel_rfl
theorem tu9 : Tryz.prog.underlying 9 = some (TypeDesc.string) := by kernel_rfl
theorem tz9 : tyZero Tryz.prog 9 = some [Value.string ByteArray.empty] := by kernel_rfl
theorem tk20 : tyK Tryz.prog 20 = some (false, 1) := by kernel_rfl
theorem tr20 : tyRow Tryz.prog 20 = some 1 := by kernel_rfl
theorem tu20 : Tryz.prog.underlying 20 = some (TypeDesc.interface #[]) := by kernel_rfl
theorem tz20 : tyZero Tryz.prog 20 = some [Value.nilIface] := by kernel_rfl
theorem tk22 : tyK Tryz.prog 22 = some (false, 1) := by kernel_rfl
theorem tr22 : tyRow Tryz.prog 22 = some 1 := by kernel_rfl
theorem tu22 : Tryz.prog.underlying 22 = some (TypeDesc.slice 5) := by kernel_rfl
theorem te22 : tyElem Tryz.prog 22 = some 5 := by kernel_rfl
theorem tb22 : bytesT Tryz.prog 22 = true := by kernel_rfl
theorem tz22 : tyZero Tryz.prog 22 = some [Value.slice none 0 0] := by kernel_rfl
theorem tk24 : tyK Tryz.prog 24 = some (false, 1) := by kernel_rfl
theorem tr24 : tyRow Tryz.prog 24 = some 1 := by kernel_rfl
theorem tu24 : Tryz.prog.underlying 24 = some (TypeDesc.slice 77) := by kernel_rfl
theorem te24 : tyElem Tryz.prog 24 = some 77 := by kernel_rfl
theorem tz24 : tyZero Tryz.prog 24 = some [Value.slice none 0 0] := by kernel_rfl
theorem tk26 : tyK Tryz.prog 26 = some (true, 1) := by kernel_rfl
theorem tr26 : tyRow Tryz.prog 26 = some 1 := by kernel_rfl
theorem tf26_0 : tyField Tryz.prog 26 0 = some (0, 24) := by kernel_rfl
theorem tp26 : tyPlaces Tryz.prog 26 = some [(0, 1)] := by kernel_rfl
theorem tz26 : tyZero Tryz.prog 26 = some [Value.slice none 0 0] := by kernel_rfl
theorem tk44 : tyK Tryz.prog 44 = some (false, 1) := by kernel_rfl
theorem tr44 : tyRow Tryz.prog 44 = some 1 := by kernel_rfl
theorem tu44 : Tryz.prog.underlying 44 = some (TypeDesc.pointer 62) := by kernel_rfl
theorem tz44 : tyZero Tryz.prog 44 = some [Value.pointer none] := by kernel_rfl
theorem tk47 : tyK Tryz.prog 47 = some (false, 1) := by kernel_rfl
theorem tr47 : tyRow Tryz.prog 47 = some 1 := by kernel_rfl
theorem tu47 : Tryz.prog.underlying 47 = some (TypeDesc.slice 49) := by kernel_rfl
theorem te47 : tyElem Tryz.prog 47 = some 49 := by kernel_rfl
theorem tz47 : tyZero Tryz.prog 47 = some [Value.slice none 0 0] := by kernel_rfl
theorem tk49 : tyK Tryz.prog 49 = some (true, 3) := by kernel_rfl
theorem tr49 : tyRow Tryz.prog 49 = some 3 := by kernel_rfl
theorem tf49_0 : tyField Tryz.prog 49 0 = some (0, 3) := by kernel_rfl
theorem tf49_1 : tyField Tryz.prog 49 1 = some (1, 22) := by kernel_rfl
theorem tf49_2 : tyField Tryz.prog 49 2 = some (2, 47) := by kernel_rfl
theorem tp49 : tyPlaces Tryz.prog 49 = some [(0, 1), (1, 1), (2, 1)] := by kernel_rfl
theorem tz49 : tyZero Tryz.prog 49 = some [Value.int IntKind.i64 0, Value.slice none 0 0, Value.slice none 0 0] := by kernel_rfl
theorem tk55 : tyK Tryz.prog 55 = some (false, 1) := by kernel_rfl
theorem tr55 : tyRow Tryz.prog 55 = some 1 := by kernel_rfl
theorem tu55 : Tryz.prog.underlying 55 = some (TypeDesc.slice 3) := by kernel_rfl
theorem te55 : tyElem Tryz.prog 55 = some 3 := by kernel_rfl
theorem tz55 : tyZero Tryz.prog 55 = some [Value.slice none 0 0] := by kernel_rfl
theorem tk62 : tyK Tryz.prog 62 = some (true, 3) := by kernel_rfl
theorem tr62 : tyRow Tryz.prog 62 = some 3 := by kernel_rfl
theorem tf62_0 : tyField Tryz.prog 62 0 = some (0, 22) := by kernel_rfl
theorem tf62_1 : tyField Tryz.prog 62 1 = some (1, 3) := by kernel_rfl
theorem tf62_2 : tyField Tryz.prog 62 2 = some (2, 3) := by kernel_rfl
theorem tp62 : tyPlaces Tryz.prog 62 = some [(0, 1), (1, 1), (2, 1)] := by kernel_rfl
theorem tz62 : tyZero Tryz.prog 62 = some [Value.slice none 0 0, Value.int IntKind.i64 0, Value.int IntKind.i64 0] := by kernel_rfl
theorem tk75 : tyK Tryz.prog 75 = some (false, 1) := by kernel_rfl
theorem tr75 : tyRow Tryz.prog 75 = some 1 := by kernel_rfl
theorem tu75 : Tryz.prog.underlying 75 = some (TypeDesc.slice 9) := by kernel_rfl
theorem te75 : tyElem Tryz.prog 75 = some 9 := by kernel_rfl
theorem tz75 : tyZero Tryz.prog 75 = some [Value.slice none 0 0] := by kernel_rfl
theorem tk77 : tyK Tryz.prog 77 = some (true, 8) := by kernel_rfl
theorem tr77 : tyRow Tryz.prog 77 = some 8 := by kernel_rfl
theorem tf77_0 : tyField Tryz.prog 77 0 = some (0, 9) := by kernel_rfl
theorem tf77_1 : tyField Tryz.prog 77 1 = some (1, 3) := by kernel_rfl
theorem tf77_2 : tyField Tryz.prog 77 2 = some (2, 3) := by kernel_rfl
theorem tf77_3 : tyField Tryz.prog 77 3 = some (3, 4) := by kernel_rfl
theorem tf77_4 : tyField Tryz.prog 77 4 = some (4, 22) := by kernel_rfl
theorem tf77_5 : tyField Tryz.prog 77 5 = some (5, 75) := by kernel_rfl
theorem tf77_6 : tyField Tryz.prog 77 6 = some (6, 55) := by kernel_rfl
theorem tf77_7 : tyField Tryz.prog 77 7 = some (7, 55) := by kernel_rfl
theorem tp77 : tyPlaces Tryz.prog 77 = some [(0, 1), (1, 1), (2, 1), (3, 1), (4, 1), (5, 1), (6, 1), (7, 1)] := by kernel_rfl
theorem tz77 : tyZero Tryz.prog 77 = some [Value.string ByteArray.empty, Value.int IntKind.i64 0, Value.int IntKind.i64 0, Value.bool false, Value.slice none 0 0, Value.slice none 0 0, Value.slice none 0 0, Value.slice none 0 0] := by kernel_rfl
theorem tk84 : tyK Tryz.prog 84 = some (false, 1) := by kernel_rfl
theorem tr84 : tyRow Tryz.prog 84 = some 1 := by kernel_rfl
theorem tu84 : Tryz.prog.underlying 84 = some (TypeDesc.pointer 86) := by kernel_rfl
theorem tz84 : tyZero Tryz.prog 84 = some [Value.pointer none] := by kernel_rfl
theorem tk86 : tyK Tryz.prog 86 = some (true, 2) := by kernel_rfl
theorem tr86 : tyRow Tryz.prog 86 = some 2 := by kernel_rfl
theorem tf86_0 : tyField Tryz.prog 86 0 = some (0, 26) := by kernel_rfl
theorem tf86_1 : tyField Tryz.prog 86 1 = some (1, 22) := by kernel_rfl
theorem tp86 : tyPlaces Tryz.prog 86 = some [(0, 1), (1, 1)] := by kernel_rfl
theorem tz86 : tyZero Tryz.prog 86 = some [Value.slice none 0 0, Value.slice none 0 0] := by kernel_rfl
theorem tk88 : tyK Tryz.prog 88 = some (false, 1) := by kernel_rfl
theorem tr88 : tyRow Tryz.prog 88 = some 1 := by kernel_rfl
theorem tu88 : Tryz.prog.underlying 88 = some (TypeDesc.interface #[("Error", 178)]) := by kernel_rfl
theorem tz88 : tyZero Tryz.prog 88 = some [Value.nilIface] := by kernel_rfl
theorem tk91 : tyK Tryz.prog 91 = some (false, 1) := by kernel_rfl
theorem tr91 : tyRow Tryz.prog 91 = some 1 := by kernel_rfl
theorem tu91 : Tryz.prog.underlying 91 = some (TypeDesc.pointer 95) := by kernel_rfl
theorem tz91 : tyZero Tryz.prog 91 = some [Value.pointer none] := by kernel_rfl
theorem tk93 : tyK Tryz.prog 93 = some (false, 1) := by kernel_rfl
theorem tr93 : tyRow Tryz.prog 93 = some 1 := by kernel_rfl
theorem tu93 : Tryz.prog.underlying 93 = some (TypeDesc.pointer 91) := by kernel_rfl
theorem tz93 : tyZero Tryz.prog 93 = some [Value.pointer none] := by kernel_rfl
theorem tk95 : tyK Tryz.prog 95 = some (true, 2) := by kernel_rfl
theorem tr95 : tyRow Tryz.prog 95 = some 2 := by kernel_rfl
theorem tf95_0 : tyField Tryz.prog 95 0 = some (0, 3) := by kernel_rfl
theorem tf95_1 : tyField Tryz.prog 95 1 = some (1, 3) := by kernel_rfl
theorem tq95 : tyFlat Tryz.prog 95 = some [0, 0] := by kernel_rfl
theorem tp95 : tyPlaces Tryz.prog 95 = some [(0, 1), (1, 1)] := by kernel_rfl
theorem tz95 : tyZero Tryz.prog 95 = some [Value.int IntKind.i64 0, Value.int IntKind.i64 0] := by kernel_rfl
theorem tk177 : tyK Tryz.prog 177 = some (false, 1) := by kernel_rfl
theorem tr177 : tyRow Tryz.prog 177 = some 1 := by kernel_rfl
theorem tu177 : Tryz.prog.underlying 177 = some (TypeDesc.func #[3, 3] #[4] false) := by kernel_rfl
theorem tz177 : tyZero Tryz.prog 177 = some [Value.nilFunc] := by kernel_rfl
end Go.Proofs.YtnndpimlfibncaaGreatDoor.Eng
