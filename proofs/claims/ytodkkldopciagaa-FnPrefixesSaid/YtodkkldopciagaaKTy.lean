/-
 Facts of the types, in the engine's words.
-/
import Derived.Test.YtodkkldopciagaaProg
import Derived.Test.YtodkkldopciagaaKE1
import Derived.KernelRfl
namespace Go.Proofs.Ytodkkldopciagaa.Eng
open Go Go.RowKit
theorem tk3 : tyK Try.prog 3 = some (false, 1) := by kernel_rfl
theorem tr3 : tyRow Try.prog 3 = some 1 := by kernel_rfl
theorem tu3 : Try.prog.underlying 3 = some (TypeDesc.int IntKind.i64) := by kernel_rfl
theorem tz3 : tyZero Try.prog 3 = some [Value.int IntKind.i64 0] := by kernel_rfl
theorem tk4 : tyK Try.prog 4 = some (false, 1) := by kernel_rfl
theorem tr4 : tyRow Try.prog 4 = some 1 := by kernel_rfl
theorem tu4 : Try.prog.underlying 4 = some (TypeDesc.bool) := by kernel_rfl
theorem tz4 : tyZero Try.prog 4 = some [Value.bool false] := by kernel_rfl
theorem tk5 : tyK Try.prog 5 = some (false, 1) := by kernel_rfl
theorem tr5 : tyRow Try.prog 5 = some 1 := by kernel_rfl
theorem tu5 : Try.prog.underlying 5 = some (TypeDesc.int IntKind.u8) := by kernel_rfl
theorem tz5 : tyZero Try.prog 5 = some [Value.int IntKind.u8 0] := by kernel_rfl
theorem tk9 : tyK Try.prog 9 = some (false, 1) := by kernel_rfl
theorem tr9 : tyRow Try.prog 9 = some 1 := by kernel_rfl
theorem tu9 : Try.prog.underlying 9 = some (TypeDesc.string) := by kernel_rfl
theorem tz9 : tyZero Try.prog 9 = some [Value.string ByteArray.empty] := by kernel_rfl
theorem tk22 : tyK Try.prog 22 = some (false, 1) := by kernel_rfl
theorem tr22 : tyRow Try.prog 22 = some 1 := by kernel_rfl
theorem tu22 : Try.prog.underlying 22 = some (TypeDesc.slice 5) := by kernel_rfl
theorem te22 : tyElem Try.prog 22 = some 5 := by kernel_rfl
theorem tb22 : bytesT Try.prog 22 = true := by kernel_rfl
theorem tz22 : tyZero Try.prog 22 = some [Value.slice none 0 0] := by kernel_rfl
theorem tk24 : tyK Try.prog 24 = some (false, 1) := by kernel_rfl
theorem tr24 : tyRow Try.prog 24 = some 1 := by kernel_rfl
theorem tu24 : Try.prog.underlying 24 = some (TypeDesc.slice 67) := by kernel_rfl
theorem te24 : tyElem Try.prog 24 = some 67 := by kernel_rfl
theorem tz24 : tyZero Try.prog 24 = some [Value.slice none 0 0] := by kernel_rfl
theorem tk26 : tyK Try.prog 26 = some (true, 1) := by kernel_rfl
theorem tr26 : tyRow Try.prog 26 = some 1 := by kernel_rfl
theorem tf26_0 : tyField Try.prog 26 0 = some (0, 24) := by kernel_rfl
theorem tp26 : tyPlaces Try.prog 26 = some [(0, 1)] := by kernel_rfl
theorem tz26 : tyZero Try.prog 26 = some [Value.slice none 0 0] := by kernel_rfl
theorem tk33 : tyK Try.prog 33 = some (false, 1) := by kernel_rfl
theorem tr33 : tyRow Try.prog 33 = some 1 := by kernel_rfl
theorem tu33 : Try.prog.underlying 33 = some (TypeDesc.slice 37) := by kernel_rfl
theorem te33 : tyElem Try.prog 33 = some 37 := by kernel_rfl
theorem tz33 : tyZero Try.prog 33 = some [Value.slice none 0 0] := by kernel_rfl
theorem tk37 : tyK Try.prog 37 = some (true, 3) := by kernel_rfl
theorem tr37 : tyRow Try.prog 37 = some 3 := by kernel_rfl
theorem tf37_0 : tyField Try.prog 37 0 = some (0, 3) := by kernel_rfl
theorem tf37_1 : tyField Try.prog 37 1 = some (1, 22) := by kernel_rfl
theorem tf37_2 : tyField Try.prog 37 2 = some (2, 33) := by kernel_rfl
theorem tp37 : tyPlaces Try.prog 37 = some [(0, 1), (1, 1), (2, 1)] := by kernel_rfl
theorem tz37 : tyZero Try.prog 37 = some [Value.int IntKind.i64 0, Value.slice none 0 0, Value.slice none 0 0] := by kernel_rfl
theorem tk64 : tyK Try.prog 64 = some (false, 1) := by kernel_rfl
theorem tr64 : tyRow Try.prog 64 = some 1 := by kernel_rfl
theorem tu64 : Try.prog.underlying 64 = some (TypeDesc.slice 9) := by kernel_rfl
theorem te64 : tyElem Try.prog 64 = some 9 := by kernel_rfl
theorem tz64 : tyZero Try.prog 64 = some [Value.slice none 0 0] := by kernel_rfl
theorem tk65 : tyK Try.prog 65 = some (false, 1) := by kernel_rfl
theorem tr65 : tyRow Try.prog 65 = some 1 := by kernel_rfl
theorem tu65 : Try.prog.underlying 65 = some (TypeDesc.slice 3) := by kernel_rfl
theorem te65 : tyElem Try.prog 65 = some 3 := by kernel_rfl
theorem tz65 : tyZero Try.prog 65 = some [Value.slice none 0 0] := by kernel_rfl
theorem tk67 : tyK Try.prog 67 = some (true, 8) := by kernel_rfl
theorem tr67 : tyRow Try.prog 67 = some 8 := by kernel_rfl
theorem tf67_0 : tyField Try.prog 67 0 = some (0, 9) := by kernel_rfl
theorem tf67_1 : tyField Try.prog 67 1 = some (1, 3) := by kernel_rfl
theorem tf67_2 : tyField Try.prog 67 2 = some (2, 3) := by kernel_rfl
theorem tf67_3 : tyField Try.prog 67 3 = some (3, 4) := by kernel_rfl
theorem tf67_4 : tyField Try.prog 67 4 = some (4, 22) := by kernel_rfl
theorem tf67_5 : tyField Try.prog 67 5 = some (5, 64) := by kernel_rfl
theorem tf67_6 : tyField Try.prog 67 6 = some (6, 65) := by kernel_rfl
theorem tf67_7 : tyField Try.prog 67 7 = some (7, 65) := by kernel_rfl
theorem tp67 : tyPlaces Try.prog 67 = some [(0, 1), (1, 1), (2, 1), (3, 1), (4, 1), (5, 1), (6, 1), (7, 1)] := by kernel_rfl
theorem tz67 : tyZero Try.prog 67 = some [Value.string ByteArray.empty, Value.int IntKind.i64 0, Value.int IntKind.i64 0, Value.bool false, Value.slice none 0 0, Value.slice none 0 0, Value.slice none 0 0, Value.slice none 0 0] := by kernel_rfl
theorem tk68 : tyK Try.prog 68 = some (false, 1) := by kernel_rfl
theorem tr68 : tyRow Try.prog 68 = some 1 := by kernel_rfl
theorem tu68 : Try.prog.underlying 68 = some (TypeDesc.pointer 70) := by kernel_rfl
theorem tz68 : tyZero Try.prog 68 = some [Value.pointer none] := by kernel_rfl
theorem tk70 : tyK Try.prog 70 = some (true, 3) := by kernel_rfl
theorem tr70 : tyRow Try.prog 70 = some 3 := by kernel_rfl
theorem tf70_0 : tyField Try.prog 70 0 = some (0, 26) := by kernel_rfl
theorem tf70_1 : tyField Try.prog 70 1 = some (1, 22) := by kernel_rfl
theorem tf70_2 : tyField Try.prog 70 2 = some (2, 3) := by kernel_rfl
theorem tp70 : tyPlaces Try.prog 70 = some [(0, 1), (1, 1), (2, 1)] := by kernel_rfl
theorem tz70 : tyZero Try.prog 70 = some [Value.slice none 0 0, Value.slice none 0 0, Value.int IntKind.i64 0] := by kernel_rfl
theorem tk72 : tyK Try.prog 72 = some (true, 2) := by kernel_rfl
theorem tr72 : tyRow Try.prog 72 = some 2 := by kernel_rfl
theorem tf72_0 : tyField Try.prog 72 0 = some (0, 3) := by kernel_rfl
theorem tf72_1 : tyField Try.prog 72 1 = some (1, 3) := by kernel_rfl
theorem tq72 : tyFlat Try.prog 72 = some [0, 0] := by kernel_rfl
theorem tp72 : tyPlaces Try.prog 72 = some [(0, 1), (1, 1)] := by kernel_rfl
theorem tz72 : tyZero Try.prog 72 = some [Value.int IntKind.i64 0, Value.int IntKind.i64 0] := by kernel_rfl
theorem tk77 : tyK Try.prog 77 = some (false, 1) := by kernel_rfl
theorem tr77 : tyRow Try.prog 77 = some 1 := by kernel_rfl
theorem tu77 : Try.prog.underlying 77 = some (TypeDesc.pointer 110) := by kernel_rfl
theorem tz77 : tyZero Try.prog 77 = some [Value.pointer none] := by kernel_rfl
theorem tk110 : tyK Try.prog 110 = some (true, 3) := by kernel_rfl
theorem tr110 : tyRow Try.prog 110 = some 3 := by kernel_rfl
theorem tf110_0 : tyField Try.prog 110 0 = some (0, 22) := by kernel_rfl
theorem tf110_1 : tyField Try.prog 110 1 = some (1, 3) := by kernel_rfl
theorem tf110_2 : tyField Try.prog 110 2 = some (2, 3) := by kernel_rfl
theorem tp110 : tyPlaces Try.prog 110 = some [(0, 1), (1, 1), (2, 1)] := by kernel_rfl
theorem tz110 : tyZero Try.prog 110 = some [Value.slice none 0 0, Value.int IntKind.i64 0, Value.int IntKind.i64 0] := by kernel_rfl
theorem tk115 : tyK Try.prog 115 = some (false, 1) := by kernel_rfl
theorem tr115 : tyRow Try.prog 115 = some 1 := by kernel_rfl
theorem tu115 : Try.prog.underlying 115 = some (TypeDesc.func #[3, 3] #[4] false) := by kernel_rfl
theorem tz115 : tyZero Try.prog 115 = some [Value.nilFunc] := by kernel_rfl
end Go.Proofs.Ytodkkldopciagaa.Eng
