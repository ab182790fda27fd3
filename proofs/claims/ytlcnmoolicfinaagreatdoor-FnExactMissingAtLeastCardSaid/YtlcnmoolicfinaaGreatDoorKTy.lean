/-
  Facts of the types, in the engine's words.
-/
import Derived.Test.YtlcnmoolicfinaaGreatDoorProg
import Derived.Test.YtlcnmoolicfinaaGreatDoorKE1
import Derived.KernelRfl
namespace Go.Proofs.YtlcnmoolicfinaaGreatDoor.Eng
open Go Go.RowKit
theorem tk3 : tyK Tryz.prog 3 = some (false, 1) := by kernel_rfl
theorem tr3 : tyRow Tryz.prog 3 = some 1 := by kernel_rfl
theorem tu3 : Tryz.prog.underlying 3 = some (TypeDesc.int IntKind.i64) := by kernel_rfl
theorem tz3 : tyZero Tryz.prog 3 = some [Value.int IntKind.i64 0] := by kernel_rfl
theorem tk4 : tyK Tryz.prog 4 = some (false, 1) := by kernel_rfl
theorem tr4 : tyRow Tryz.prog 4 = some 1 := by kernel_rfl
theorem tu4 : Tryz.prog.underlying 4 = some (TypeDesc.bool) := by kernel_rfl
theorem tz4 : tyZero Tryz.prog 4 = some [Value.bool false] := by kernel_rfl
theorem tk5 : tyK Tryz.prog 5 = some (false, 1) := by kernel_rfl
theorem tr5 : tyRow Tryz.prog 5 = some 1 := by kernel_rfl
theorem tu5 : Tryz.prog.underlying 5 = some (TypeDesc.int IntKind.u8) := by kernel_rfl
theorem tz5 : tyZero Tryz.prog 5 = some [Value.int IntKind.u8 0] := by kernel_rfl
theorem tk9 : tyK Tryz.prog 9 = some (false, 1) := by kernel_rfl
theorem tr9 : tyRow Tryz.prog 9 = some 1 := by kernel_rfl
theorem tu9 : Tryz.prog.underlying 9 = some (TypeDesc.string) := by kernel_rfl
theorem tz9 : tyZero Tryz.prog 9 = some [Value.string ByteArray.empty] := by kernel_rfl
theorem tk22 : tyK Tryz.prog 22 = some (false, 1) := by kernel_rfl
theorem tr22 : tyRow Tryz.prog 22 = some 1 := by kernel_rfl
theorem tu22 : Tryz.prog.underlying 22 = some (TypeDesc.slice 47) := by kernel_rfl
theorem te22 : tyElem Tryz.prog 22 = some 47 := by kernel_rfl
theorem tz22 : tyZero Tryz.prog 22 = some [Value.slice none 0 0] := by kernel_rfl
theorem tk24 : tyK Tryz.prog 24 = some (true, 1) := by kernel_rfl
theorem tr24 : tyRow Tryz.prog 24 = some 1 := by kernel_rfl
theorem tf24_0 : tyField Tryz.prog 24 0 = some (0, 22) := by kernel_rfl
theorem tp24 : tyPlaces Tryz.prog 24 = some [(0, 1)] := by kernel_rfl
theorem tz24 : tyZero Tryz.prog 24 = some [Value.slice none 0 0] := by kernel_rfl
theorem tk25 : tyK Tryz.prog 25 = some (false, 1) := by kernel_rfl
theorem tr25 : tyRow Tryz.prog 25 = some 1 := by kernel_rfl
theorem tu25 : Tryz.prog.underlying 25 = some (TypeDesc.slice 5) := by kernel_rfl
theorem te25 : tyElem Tryz.prog 25 = some 5 := by kernel_rfl
theorem tb25 : bytesT Tryz.prog 25 = true := by kernel_rfl
theorem tz25 : tyZero Tryz.prog 25 = some [Value.slice none 0 0] := by kernel_rfl
theorem tk28 : tyK Tryz.prog 28 = some (false, 1) := by kernel_rfl
theorem tr28 : tyRow Tryz.prog 28 = some 1 := by kernel_rfl
theorem tu28 : Tryz.prog.underlying 28 = some (TypeDesc.slice 52) := by kernel_rfl
theorem te28 : tyElem Tryz.prog 28 = some 52 := by kernel_rfl
theorem tz28 : tyZero Tryz.prog 28 = some [Value.slice none 0 0] := by kernel_rfl
theorem tk30 : tyK Tryz.prog 30 = some (true, 1) := by kernel_rfl
theorem tr30 : tyRow Tryz.prog 30 = some 1 := by kernel_rfl
theorem tf30_0 : tyField Tryz.prog 30 0 = some (0, 28) := by kernel_rfl
theorem tp30 : tyPlaces Tryz.prog 30 = some [(0, 1)] := by kernel_rfl
theorem tz30 : tyZero Tryz.prog 30 = some [Value.slice none 0 0] := by kernel_rfl
theorem tk38 : tyK Tryz.prog 38 = some (false, 1) := by kernel_rfl
theorem tr38 : tyRow Tryz.prog 38 = some 1 := by kernel_rfl
theorem tu38 : Tryz.prog.underlying 38 = some (TypeDesc.func #[3, 3] #[3] false) := by kernel_rfl
theorem tz38 : tyZero Tryz.prog 38 = some [Value.nilFunc] := by kernel_rfl
theorem tk44 : tyK Tryz.prog 44 = some (false, 1) := by kernel_rfl
theorem tr44 : tyRow Tryz.prog 44 = some 1 := by kernel_rfl
theorem tu44 : Tryz.prog.underlying 44 = some (TypeDesc.slice 9) := by kernel_rfl
theorem te44 : tyElem Tryz.prog 44 = some 9 := by kernel_rfl
theorem tz44 : tyZero Tryz.prog 44 = some [Value.slice none 0 0] := by kernel_rfl
theorem tk45 : tyK Tryz.prog 45 = some (false, 1) := by kernel_rfl
theorem tr45 : tyRow Tryz.prog 45 = some 1 := by kernel_rfl
theorem tu45 : Tryz.prog.underlying 45 = some (TypeDesc.slice 3) := by kernel_rfl
theorem te45 : tyElem Tryz.prog 45 = some 3 := by kernel_rfl
theorem tz45 : tyZero Tryz.prog 45 = some [Value.slice none 0 0] := by kernel_rfl
theorem tk47 : tyK Tryz.prog 47 = some (true, 8) := by kernel_rfl
theorem tr47 : tyRow Tryz.prog 47 = some 8 := by kernel_rfl
theorem tf47_0 : tyField Tryz.prog 47 0 = some (0, 9) := by kernel_rfl
theorem tf47_1 : tyField Tryz.prog 47 1 = some (1, 3) := by kernel_rfl
theorem tf47_2 : tyField Tryz.prog 47 2 = some (2, 3) := by kernel_rfl
theorem tf47_3 : tyField Tryz.prog 47 3 = some (3, 4) := by kernel_rfl
theorem tf47_4 : tyField Tryz.prog 47 4 = some (4, 25) := by kernel_rfl
theorem tf47_5 : tyField Tryz.prog 47 5 = some (5, 44) := by kernel_rfl
theorem tf47_6 : tyField Tryz.prog 47 6 = some (6, 45) := by kernel_rfl
theorem tf47_7 : tyField Tryz.prog 47 7 = some (7, 45) := by kernel_rfl
theorem tp47 : tyPlaces Tryz.prog 47 = some [(0, 1), (1, 1), (2, 1), (3, 1), (4, 1), (5, 1), (6, 1), (7, 1)] := by kernel_rfl
theorem tz47 : tyZero Tryz.prog 47 = some [Value.string ByteArray.empty, Value.int IntKind.i64 0, Value.int IntKind.i64 0, Value.bool false, Value.slice none 0 0, Value.slice none 0 0, Value.slice none 0 0, Value.slice none 0 0] := by kernel_rfl
theorem tk52 : tyK Tryz.prog 52 = some (true, 8) := by kernel_rfl
theorem tr52 : tyRow Tryz.prog 52 = some 8 := by kernel_rfl
theorem tf52_0 : tyField Tryz.prog 52 0 = some (0, 9) := by kernel_rfl
theorem tf52_1 : tyField Tryz.prog 52 1 = some (1, 3) := by kernel_rfl
theorem tf52_2 : tyField Tryz.prog 52 2 = some (2, 3) := by kernel_rfl
theorem tf52_3 : tyField Tryz.prog 52 3 = some (3, 4) := by kernel_rfl
theorem tf52_4 : tyField Tryz.prog 52 4 = some (4, 25) := by kernel_rfl
theorem tf52_5 : tyField Tryz.prog 52 5 = some (5, 44) := by kernel_rfl
theorem tf52_6 : tyField Tryz.prog 52 6 = some (6, 45) := by kernel_rfl
theorem tf52_7 : tyField Tryz.prog 52 7 = some (7, 45) := by kernel_rfl
theorem tp52 : tyPlaces Tryz.prog 52 = some [(0, 1), (1, 1), (2, 1), (3, 1), (4, 1), (5, 1), (6, 1), (7, 1)] := by kernel_rfl
theorem tz52 : tyZero Tryz.prog 52 = some [Value.string ByteArray.empty, Value.int IntKind.i64 0, Value.int IntKind.i64 0, Value.bool false, Value.slice none 0 0, Value.slice none 0 0, Value.slice none 0 0, Value.slice none 0 0] := by kernel_rfl
theorem tk56 : tyK Tryz.prog 56 = some (false, 1) := by kernel_rfl
theorem tr56 : tyRow Tryz.prog 56 = some 1 := by kernel_rfl
theorem tu56 : Tryz.prog.underlying 56 = some (TypeDesc.interface #[("Error", 131)]) := by kernel_rfl
theorem tz56 : tyZero Tryz.prog 56 = some [Value.nilIface] := by kernel_rfl
theorem tk59 : tyK Tryz.prog 59 = some (false, 1) := by kernel_rfl
theorem tr59 : tyRow Tryz.prog 59 = some 1 := by kernel_rfl
theorem tu59 : Tryz.prog.underlying 59 = some (TypeDesc.func #[3, 3] #[4] false) := by kernel_rfl
theorem tz59 : tyZero Tryz.prog 59 = some [Value.nilFunc] := by kernel_rfl
theorem tk61 : tyK Tryz.prog 61 = some (true, 24) := by kernel_rfl
theorem tr61 : tyRow Tryz.prog 61 = some 24 := by kernel_rfl
theorem tu61 : Tryz.prog.underlying 61 = some (TypeDesc.array 24 3) := by kernel_rfl
theorem ta61 : tyArr Tryz.prog 61 = some (3, 24) := by kernel_rfl
theorem tk67 : tyK Tryz.prog 67 = some (false, 1) := by kernel_rfl
theorem tr67 : tyRow Tryz.prog 67 = some 1 := by kernel_rfl
theorem tu67 : Tryz.prog.underlying 67 = some (TypeDesc.slice 69) := by kernel_rfl
theorem te67 : tyElem Tryz.prog 67 = some 69 := by kernel_rfl
theorem tz67 : tyZero Tryz.prog 67 = some [Value.slice none 0 0] := by kernel_rfl
theorem tk69 : tyK Tryz.prog 69 = some (true, 3) := by kernel_rfl
theorem tr69 : tyRow Tryz.prog 69 = some 3 := by kernel_rfl
theorem tf69_0 : tyField Tryz.prog 69 0 = some (0, 3) := by kernel_rfl
theorem tf69_1 : tyField Tryz.prog 69 1 = some (1, 25) := by kernel_rfl
theorem tf69_2 : tyField Tryz.prog 69 2 = some (2, 67) := by kernel_rfl
theorem tp69 : tyPlaces Tryz.prog 69 = some [(0, 1), (1, 1), (2, 1)] := by kernel_rfl
theorem tz69 : tyZero Tryz.prog 69 = some [Value.int IntKind.i64 0, Value.slice none 0 0, Value.slice none 0 0] := by kernel_rfl
theorem tk81 : tyK Tryz.prog 81 = some (false, 1) := by kernel_rfl
theorem tr81 : tyRow Tryz.prog 81 = some 1 := by kernel_rfl
theorem tu81 : Tryz.prog.underlying 81 = some (TypeDesc.pointer 83) := by kernel_rfl
theorem tz81 : tyZero Tryz.prog 81 = some [Value.pointer none] := by kernel_rfl
theorem tk83 : tyK Tryz.prog 83 = some (true, 1) := by kernel_rfl
theorem tr83 : tyRow Tryz.prog 83 = some 1 := by kernel_rfl
theorem tf83_0 : tyField Tryz.prog 83 0 = some (0, 3) := by kernel_rfl
theorem tq83 : tyFlat Tryz.prog 83 = some [0] := by kernel_rfl
theorem tp83 : tyPlaces Tryz.prog 83 = some [(0, 1)] := by kernel_rfl
theorem tz83 : tyZero Tryz.prog 83 = some [Value.int IntKind.i64 0] := by kernel_rfl
theorem tk102 : tyK Tryz.prog 102 = some (true, 2) := by kernel_rfl
theorem tr102 : tyRow Tryz.prog 102 = some 2 := by kernel_rfl
theorem tf102_0 : tyField Tryz.prog 102 0 = some (0, 3) := by kernel_rfl
theorem tf102_1 : tyField Tryz.prog 102 1 = some (1, 3) := by kernel_rfl
theorem tq102 : tyFlat Tryz.prog 102 = some [0, 0] := by kernel_rfl
theorem tp102 : tyPlaces Tryz.prog 102 = some [(0, 1), (1, 1)] := by kernel_rfl
theorem tz102 : tyZero Tryz.prog 102 = some [Value.int IntKind.i64 0, Value.int IntKind.i64 0] := by kernel_rfl
theorem tk106 : tyK Tryz.prog 106 = some (false, 1) := by kernel_rfl
theorem tr106 : tyRow Tryz.prog 106 = some 1 := by kernel_rfl
theorem tu106 : Tryz.prog.underlying 106 = some (TypeDesc.pointer 108) := by kernel_rfl
theorem tz106 : tyZero Tryz.prog 106 = some [Value.pointer none] := by kernel_rfl
theorem tk108 : tyK Tryz.prog 108 = some (true, 3) := by kernel_rfl
theorem tr108 : tyRow Tryz.prog 108 = some 3 := by kernel_rfl
theorem tf108_0 : tyField Tryz.prog 108 0 = some (0, 30) := by kernel_rfl
theorem tf108_1 : tyField Tryz.prog 108 1 = some (1, 25) := by kernel_rfl
theorem tf108_2 : tyField Tryz.prog 108 2 = some (2, 3) := by kernel_rfl
theorem tp108 : tyPlaces Tryz.prog 108 = some [(0, 1), (1, 1), (2, 1)] := by kernel_rfl
theorem tz108 : tyZero Tryz.prog 108 = some [Value.slice none 0 0, Value.slice none 0 0, Value.int IntKind.i64 0] := by kernel_rfl
end Go.Proofs.YtlcnmoolicfinaaGreatDoor.Eng
