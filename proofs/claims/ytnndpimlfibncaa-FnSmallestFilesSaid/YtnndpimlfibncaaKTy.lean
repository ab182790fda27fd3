/-
  Facts of the types, in the engine's words.
-/
import Derived.Test.YtnndpimlfibncaaProg
import Derived.Test.YtnndpimlfibncaaKE1
import Derived.KernelRfl
namespace Go.Proofs.Ytnndpimlfibncaa.Eng
open Go Go.RowKit
theorem tk3 : tyK Try.prog 3 = some (false, 1) := by kernel_rfl
theorem tr3 : tyRow Try.prog 3 = some 1 := by kernel_rfl
theorem tu3 : Try.prog.underlying 3 = some (TypeDesc.int IntKind.i64) := by kernel_rfl
theorem tz3 : tyZero Try.prog 3 = some [Value.int IntKind.i64 0] := by kernel_rfl
theorem tk4 : tyK Try.prog 4 = some (false, 1) := by kernel_rfl
theorem tr4 : tyRow Try.prog 4 = some 1 := by kernel_rfl
theorem tu4 : Try.prog.underlying 4 = some (TypeDesc.bool) := by kernel_rfl
theorem tz4 : tyZero Try.prog 4 = some [Value.bool false] := by kernel_rfl
theorem tk5 : tyK Try.prog 5 = some (false, 1) := by kernel_rfl
theorem tr5 : tyRow Try.prog 5 = some 1 := by kernel_rfl
theorem tu5 : Try.prog.underlying 5 = some (TypeDesc.int IntKind.u8) := by kernel_rfl
theorem tz5 : tyZero Try.prog 5 = some [Value.int IntKind.u8 0] := by kernel_rfl
theorem tk9 : tyK Try.prog 9 = some (false, 1) := by kernel_rfl
theorem tr9 : tyRow Try.prog 9 = some 1 := by kernel_rfl
theorem tu9 : Try.prog.underlying 9 = some (TypeDesc.string) := by kernel_rfl
theorem tz9 : tyZero Try.prog 9 = some [Value.string ByteArray.empty] := by kernel_rfl
theorem tk22 : tyK Try.prog 22 = some (false, 1) := by kernel_rfl
theorem tr22 : tyRow Try.prog 22 = some 1 := by kernel_rfl
theorem tu22 : Try.prog.underlying 22 = some (TypeDesc.slice 5) := by kernel_rfl
theorem te22 : tyElem Try.prog 22 = some 5 := by kernel_rfl
theorem tb22 : bytesT Try.prog 22 = true := by kernel_rfl
theorem tz22 : tyZero Try.prog 22 = some [Value.slice none 0 0] := by kernel_rfl
theorem tk24 : tyK Try.prog 24 = some (false, 1) := by kernel_rfl
theorem tr24 : tyRow Try.prog 24 = some 1 := by kernel_rfl
theorem tu24 : Try.prog.underlying 24 = some (TypeDesc.slice 63) := by kernel_rfl
theorem te24 : tyElem Try.prog 24 = some 63 := by kernel_rfl
theorem tz24 : tyZero Try.prog 24 = some [Value.slice none 0 0] := by kernel_rfl
theorem tk26 : tyK Try.prog 26 = some (true, 1) := by kernel_rfl
theorem tr26 : tyRow Try.prog 26 = some 1 := by kernel_rfl
theorem tf26_0 : tyField Try.prog 26 0 = some (0, 24) := by kernel_rfl
theorem tp26 : tyPlaces Try.prog 26 = some [(0, 1)] := by kernel_rfl
theorem tz26 : tyZero Try.prog 26 = some [Value.slice none 0 0] := by kernel_rfl
theorem tk33 : tyK Try.prog 33 = some (false, 1) := by kernel_rfl
theorem tr33 : tyRow Try.prog 33 = some 1 := by kernel_rfl
theorem tu33 : Try.prog.underlying 33 = some (TypeDesc.slice 37) := by kernel_rfl
theorem te33 : tyElem Try.prog 33 = some 37 := by kernel_rfl
theorem tz33 : tyZero Try.prog 33 = some [Value.slice none 0 0] := by kernel_rfl
theorem tk37 : tyK Try.prog 37 = some (true, 3) := by kernel_rfl
theorem tr37 : tyRow Try.prog 37 = some 3 := by kernel_rfl
theorem tf37_0 : tyField Try.prog 37 0 = some (0, 3) := by kernel_rfl
theorem tf37_1 : tyField Try.prog 37 1 = some (1, 22) := by kernel_rfl
theorem tf37_2 : tyField Try.prog 37 2 = some (2, 33) := by kernel_rfl
theorem tp37 : tyPlaces Try.prog 37 = some [(0, 1), (1, 1), (2, 1)] := by kernel_rfl
theorem tz37 : tyZero Try.prog 37 = some [Value.int IntKind.i64 0, Value.slice none 0 0, Value.slice none 0 0] := by kernel_rfl
theorem tk60 : tyK Try.prog 60 = some (false, 1) := by kernel_rfl
theorem tr60 : tyRow Try.prog 60 = some 1 := by kernel_rfl
theorem tu60 : Try.prog.underlying 60 = some (TypeDesc.slice 9) := by kernel_rfl
theorem te60 : tyElem Try.prog 60 = some 9 := by kernel_rfl
theorem tz60 : tyZero Try.prog 60 = some [Value.slice none 0 0] := by kernel_rfl
theorem tk61 : tyK Try.prog 61 = some (false, 1) := by kernel_rfl
theorem tr61 : tyRow Try.prog 61 = some 1 := by kernel_rfl
theorem tu61 : Try.prog.underlying 61 = some (TypeDesc.slice 3) := by kernel_rfl
theorem te61 : tyElem Try.prog 61 = some 3 := by kernel_rfl
theorem tz61 : tyZero Try.prog 61 = some [Value.slice none 0 0] := by kernel_rfl
theorem tk63 : tyK Try.prog 63 = some (true, 8) := by kernel_rfl
theorem tr63 : tyRow Try.prog 63 = some 8 := by kernel_rfl
theorem tf63_0 : tyField Try.prog 63 0 = some (0, 9) := by kernel_rfl
theorem tf63_1 : tyField Try.prog 63 1 = some (1, 3) := by kernel_rfl
theorem tf63_2 : tyField Try.prog 63 2 = some (2, 3) := by kernel_rfl
theorem tf63_3 : tyField Try.prog 63 3 = some (3, 4) := by kernel_rfl
theorem tf63_4 : tyField Try.prog 63 4 = some (4, 22) := by kernel_rfl
theorem tf63_5 : tyField Try.prog 63 5 = some (5, 60) := by kernel_rfl
theorem tf63_6 : tyField Try.prog 63 6 = some (6, 61) := by kernel_rfl
theorem tf63_7 : tyField Try.prog 63 7 = some (7, 61) := by kernel_rfl
theorem tp63 : tyPlaces Try.prog 63 = some [(0, 1), (1, 1), (2, 1), (3, 1), (4, 1), (5, 1), (6, 1), (7, 1)] := by kernel_rfl
theorem tz63 : tyZero Try.prog 63 = some [Value.string ByteArray.empty, Value.int IntKind.i64 0, Value.int IntKind.i64 0, Value.bool false, Value.slice none 0 0, Value.slice none 0 0, Value.slice none 0 0, Value.slice none 0 0] := by kernel_rfl
theorem tk73 : tyK Try.prog 73 = some (false, 1) := by kernel_rfl
theorem tr73 : tyRow Try.prog 73 = some 1 := by kernel_rfl
theorem tu73 : Try.prog.underlying 73 = some (TypeDesc.pointer 100) := by kernel_rfl
theorem tz73 : tyZero Try.prog 73 = some [Value.pointer none] := by kernel_rfl
theorem tk77 : tyK Try.prog 77 = some (false, 1) := by kernel_rfl
theorem tr77 : tyRow Try.prog 77 = some 1 := by kernel_rfl
theorem tu77 : Try.prog.underlying 77 = some (TypeDesc.func #[3, 3] #[3] false) := by kernel_rfl
theorem tz77 : tyZero Try.prog 77 = some [Value.nilFunc] := by kernel_rfl
theorem tk81 : tyK Try.prog 81 = some (false, 1) := by kernel_rfl
theorem tr81 : tyRow Try.prog 81 = some 1 := by kernel_rfl
theorem tu81 : Try.prog.underlying 81 = some (TypeDesc.pointer 83) := by kernel_rfl
theorem tz81 : tyZero Try.prog 81 = some [Value.pointer none] := by kernel_rfl
theorem tk83 : tyK Try.prog 83 = some (true, 2) := by kernel_rfl
theorem tr83 : tyRow Try.prog 83 = some 2 := by kernel_rfl
theorem tf83_0 : tyField Try.prog 83 0 = some (0, 26) := by kernel_rfl
theorem tf83_1 : tyField Try.prog 83 1 = some (1, 22) := by kernel_rfl
theorem tp83 : tyPlaces Try.prog 83 = some [(0, 1), (1, 1)] := by kernel_rfl
theorem tz83 : tyZero Try.prog 83 = some [Value.slice none 0 0, Value.slice none 0 0] := by kernel_rfl
theorem tk85 : tyK Try.prog 85 = some (false, 1) := by kernel_rfl
theorem tr85 : tyRow Try.prog 85 = some 1 := by kernel_rfl
theorem tu85 : Try.prog.underlying 85 = some (TypeDesc.pointer 37) := by kernel_rfl
theorem tz85 : tyZero Try.prog 85 = some [Value.pointer none] := by kernel_rfl
theorem tk100 : tyK Try.prog 100 = some (true, 3) := by kernel_rfl
theorem tr100 : tyRow Try.prog 100 = some 3 := by kernel_rfl
theorem tf100_0 : tyField Try.prog 100 0 = some (0, 22) := by kernel_rfl
theorem tf100_1 : tyField Try.prog 100 1 = some (1, 3) := by kernel_rfl
theorem tf100_2 : tyField Try.prog 100 2 = some (2, 3) := by kernel_rfl
theorem tp100 : tyPlaces Try.prog 100 = some [(0, 1), (1, 1), (2, 1)] := by kernel_rfl
theorem tz100 : tyZero Try.prog 100 = some [Value.slice none 0 0, Value.int IntKind.i64 0, Value.int IntKind.i64 0] := by kernel_rfl
theorem tk105 : tyK Try.prog 105 = some (false, 1) := by kernel_rfl
theorem tr105 : tyRow Try.prog 105 = some 1 := by kernel_rfl
theorem tu105 : Try.prog.underlying 105 = some (TypeDesc.func #[3, 3] #[4] false) := by kernel_rfl
theorem tz105 : tyZero Try.prog 105 = some [Value.nilFunc] := by kernel_rfl
theorem tk118 : tyK Try.prog 118 = some (true, 24) := by kernel_rfl
theorem tr118 : tyRow Try.prog 118 = some 24 := by kernel_rfl
theorem tu118 : Try.prog.underlying 118 = some (TypeDesc.array 24 3) := by kernel_rfl
theorem ta118 : tyArr Try.prog 118 = some (3, 24) := by kernel_rfl
end Go.Proofs.Ytnndpimlfibncaa.Eng
