/-
  Facts of the types, in the engine's words.
-/
import Derived.Test.YtcpboonjaceneaaProg
import Derived.Test.YtcpboonjaceneaaKE1
import Derived.KernelRfl
namespace Go.Proofs.Ytcpboonjaceneaa.Eng
open Go Go.RowKit
theorem tk3 : tyK Try.prog 3 = some (false, 1) := by kernel_rfl
theorem tr3 : tyRow Try.prog 3 = some 1 := by kernel_rfl
theorem tu3 : Try.prog.underlying 3 = some (TypeDesc.int IntKind.i64) := by kernel_rfl
theorem tz3 : tyZero Try.prog 3 = some [Value.int IntKind.i64 0] := by kernel_rfl
theorem tk4 : tyK Try.prog 4 = some (false, 1) := by kernel_rfl
theorem tr4 : tyRow Try.prog 4 = some 1 := by kernel_rfl
theorem tu4 : Try.prog.underlying 4 = some (TypeDesc.bool) := by kernel_rfl
theorem tz4 : tyZero Try.prog 4 = some [Value.bool false] := by kernel_rfl
theorem tk5 : tyK Try.prog 5 = some (false, 1) := by kernel_rfl
theorem tr5 : tyRow Try.prog 5 = some 1 := by kernel_rfl
theorem tu5 : Try.prog.underlying 5 = some (TypeDesc.int IntKind.u8) := by kernel_rfl
theorem tz5 : tyZero Try.prog 5 = some [Value.int IntKind.u8 0] := by kernel_rfl
theorem tk9 : tyK Try.prog 9 = some (false, 1) := by kernel_rfl
theorem tr9 : tyRow Try.prog 9 = some 1 := by kernel_rfl
theorem tu9 : Try.prog.underlying 9 = some (TypeDesc.string) := by kernel_rfl
theorem tz9 : tyZero Try.prog 9 = some [Value.string ByteArray.empty] := by kernel_rfl
theorem tk22 : tyK Try.prog 22 = some (false, 1) := by kernel_rfl
theorem tr22 : tyRow Try.prog 22 = some 1 := by kernel_rfl
theorem tu22 : Try.prog.underlying 22 = some (TypeDesc.slice 5) := by kernel_rfl
theorem te22 : tyElem Try.prog 22 = some 5 := by kernel_rfl
theorem tz22 : tyZero Try.prog 22 = some [Value.slice none 0 0] := by kernel_rfl
theorem tk24 : tyK Try.prog 24 = some (false, 1) := by kernel_rfl
theorem tr24 : tyRow Try.prog 24 = some 1 := by kernel_rfl
theorem tu24 : Try.prog.underlying 24 = some (TypeDesc.slice 87) := by kernel_rfl
theorem te24 : tyElem Try.prog 24 = some 87 := by kernel_rfl
theorem tz24 : tyZero Try.prog 24 = some [Value.slice none 0 0] := by kernel_rfl
theorem tk26 : tyK Try.prog 26 = some (true, 1) := by kernel_rfl
theorem tr26 : tyRow Try.prog 26 = some 1 := by kernel_rfl
theorem tf26_0 : tyField Try.prog 26 0 = some (0, 24) := by kernel_rfl
theorem tp26 : tyPlaces Try.prog 26 = some [(0, 1)] := by kernel_rfl
theorem tz26 : tyZero Try.prog 26 = some [Value.slice none 0 0] := by kernel_rfl
theorem tk32 : tyK Try.prog 32 = some (false, 1) := by kernel_rfl
theorem tr32 : tyRow Try.prog 32 = some 1 := by kernel_rfl
theorem tu32 : Try.prog.underlying 32 = some (TypeDesc.slice 96) := by kernel_rfl
theorem te32 : tyElem Try.prog 32 = some 96 := by kernel_rfl
theorem tz32 : tyZero Try.prog 32 = some [Value.slice none 0 0] := by kernel_rfl
theorem tk34 : tyK Try.prog 34 = some (true, 1) := by kernel_rfl
theorem tr34 : tyRow Try.prog 34 = some 1 := by kernel_rfl
theorem tf34_0 : tyField Try.prog 34 0 = some (0, 32) := by kernel_rfl
theorem tp34 : tyPlaces Try.prog 34 = some [(0, 1)] := by kernel_rfl
theorem tz34 : tyZero Try.prog 34 = some [Value.slice none 0 0] := by kernel_rfl
theorem tk46 : tyK Try.prog 46 = some (false, 1) := by kernel_rfl
theorem tr46 : tyRow Try.prog 46 = some 1 := by kernel_rfl
theorem tu46 : Try.prog.underlying 46 = some (TypeDesc.slice 22) := by kernel_rfl
theorem te46 : tyElem Try.prog 46 = some 22 := by kernel_rfl
theorem tz46 : tyZero Try.prog 46 = some [Value.slice none 0 0] := by kernel_rfl
theorem tk57 : tyK Try.prog 57 = some (false, 1) := by kernel_rfl
theorem tr57 : tyRow Try.prog 57 = some 1 := by kernel_rfl
theorem tu57 : Try.prog.underlying 57 = some (TypeDesc.slice 59) := by kernel_rfl
theorem te57 : tyElem Try.prog 57 = some 59 := by kernel_rfl
theorem tz57 : tyZero Try.prog 57 = some [Value.slice none 0 0] := by kernel_rfl
theorem tk59 : tyK Try.prog 59 = some (true, 3) := by kernel_rfl
theorem tr59 : tyRow Try.prog 59 = some 3 := by kernel_rfl
theorem tf59_0 : tyField Try.prog 59 0 = some (0, 3) := by kernel_rfl
theorem tf59_1 : tyField Try.prog 59 1 = some (1, 22) := by kernel_rfl
theorem tf59_2 : tyField Try.prog 59 2 = some (2, 57) := by kernel_rfl
theorem tp59 : tyPlaces Try.prog 59 = some [(0, 1), (1, 1), (2, 1)] := by kernel_rfl
theorem tz59 : tyZero Try.prog 59 = some [Value.int IntKind.i64 0, Value.slice none 0 0, Value.slice none 0 0] := by kernel_rfl
theorem tk63 : tyK Try.prog 63 = some (false, 1) := by kernel_rfl
theorem tr63 : tyRow Try.prog 63 = some 1 := by kernel_rfl
theorem tu63 : Try.prog.underlying 63 = some (TypeDesc.pointer 65) := by kernel_rfl
theorem tz63 : tyZero Try.prog 63 = some [Value.pointer none] := by kernel_rfl
theorem tk65 : tyK Try.prog 65 = some (true, 3) := by kernel_rfl
theorem tr65 : tyRow Try.prog 65 = some 3 := by kernel_rfl
theorem tf65_0 : tyField Try.prog 65 0 = some (0, 26) := by kernel_rfl
theorem tf65_1 : tyField Try.prog 65 1 = some (1, 22) := by kernel_rfl
theorem tf65_2 : tyField Try.prog 65 2 = some (2, 3) := by kernel_rfl
theorem tp65 : tyPlaces Try.prog 65 = some [(0, 1), (1, 1), (2, 1)] := by kernel_rfl
theorem tz65 : tyZero Try.prog 65 = some [Value.slice none 0 0, Value.slice none 0 0, Value.int IntKind.i64 0] := by kernel_rfl
theorem tk67 : tyK Try.prog 67 = some (true, 2) := by kernel_rfl
theorem tr67 : tyRow Try.prog 67 = some 2 := by kernel_rfl
theorem tf67_0 : tyField Try.prog 67 0 = some (0, 3) := by kernel_rfl
theorem tf67_1 : tyField Try.prog 67 1 = some (1, 3) := by kernel_rfl
theorem tq67 : tyFlat Try.prog 67 = some [0, 0] := by kernel_rfl
theorem tp67 : tyPlaces Try.prog 67 = some [(0, 1), (1, 1)] := by kernel_rfl
theorem tz67 : tyZero Try.prog 67 = some [Value.int IntKind.i64 0, Value.int IntKind.i64 0] := by kernel_rfl
theorem tk84 : tyK Try.prog 84 = some (false, 1) := by kernel_rfl
theorem tr84 : tyRow Try.prog 84 = some 1 := by kernel_rfl
theorem tu84 : Try.prog.underlying 84 = some (TypeDesc.slice 9) := by kernel_rfl
theorem te84 : tyElem Try.prog 84 = some 9 := by kernel_rfl
theorem tz84 : tyZero Try.prog 84 = some [Value.slice none 0 0] := by kernel_rfl
theorem tk85 : tyK Try.prog 85 = some (false, 1) := by kernel_rfl
theorem tr85 : tyRow Try.prog 85 = some 1 := by kernel_rfl
theorem tu85 : Try.prog.underlying 85 = some (TypeDesc.slice 3) := by kernel_rfl
theorem te85 : tyElem Try.prog 85 = some 3 := by kernel_rfl
theorem tz85 : tyZero Try.prog 85 = some [Value.slice none 0 0] := by kernel_rfl
theorem tk87 : tyK Try.prog 87 = some (true, 8) := by kernel_rfl
theorem tr87 : tyRow Try.prog 87 = some 8 := by kernel_rfl
theorem tf87_0 : tyField Try.prog 87 0 = some (0, 9) := by kernel_rfl
theorem tf87_1 : tyField Try.prog 87 1 = some (1, 3) := by kernel_rfl
theorem tf87_2 : tyField Try.prog 87 2 = some (2, 3) := by kernel_rfl
theorem tf87_3 : tyField Try.prog 87 3 = some (3, 4) := by kernel_rfl
theorem tf87_4 : tyField Try.prog 87 4 = some (4, 22) := by kernel_rfl
theorem tf87_5 : tyField Try.prog 87 5 = some (5, 84) := by kernel_rfl
theorem tf87_6 : tyField Try.prog 87 6 = some (6, 85) := by kernel_rfl
theorem tf87_7 : tyField Try.prog 87 7 = some (7, 85) := by kernel_rfl
theorem tp87 : tyPlaces Try.prog 87 = some [(0, 1), (1, 1), (2, 1), (3, 1), (4, 1), (5, 1), (6, 1), (7, 1)] := by kernel_rfl
theorem tz87 : tyZero Try.prog 87 = some [Value.string ByteArray.empty, Value.int IntKind.i64 0, Value.int IntKind.i64 0, Value.bool false, Value.slice none 0 0, Value.slice none 0 0, Value.slice none 0 0, Value.slice none 0 0] := by kernel_rfl
theorem tk96 : tyK Try.prog 96 = some (true, 8) := by kernel_rfl
theorem tr96 : tyRow Try.prog 96 = some 8 := by kernel_rfl
theorem tf96_0 : tyField Try.prog 96 0 = some (0, 9) := by kernel_rfl
theorem tf96_1 : tyField Try.prog 96 1 = some (1, 3) := by kernel_rfl
theorem tf96_2 : tyField Try.prog 96 2 = some (2, 3) := by kernel_rfl
theorem tf96_3 : tyField Try.prog 96 3 = some (3, 4) := by kernel_rfl
theorem tf96_4 : tyField Try.prog 96 4 = some (4, 22) := by kernel_rfl
theorem tf96_5 : tyField Try.prog 96 5 = some (5, 84) := by kernel_rfl
theorem tf96_6 : tyField Try.prog 96 6 = some (6, 85) := by kernel_rfl
theorem tf96_7 : tyField Try.prog 96 7 = some (7, 85) := by kernel_rfl
theorem tp96 : tyPlaces Try.prog 96 = some [(0, 1), (1, 1), (2, 1), (3, 1), (4, 1), (5, 1), (6, 1), (7, 1)] := by kernel_rfl
theorem tz96 : tyZero Try.prog 96 = some [Value.string ByteArray.empty, Value.int IntKind.i64 0, Value.int IntKind.i64 0, Value.bool false, Value.slice none 0 0, Value.slice none 0 0, Value.slice none 0 0, Value.slice none 0 0] := by kernel_rfl
theorem tk101 : tyK Try.prog 101 = some (false, 1) := by kernel_rfl
theorem tr101 : tyRow Try.prog 101 = some 1 := by kernel_rfl
theorem tu101 : Try.prog.underlying 101 = some (TypeDesc.func #[3, 3] #[4] false) := by kernel_rfl
theorem tz101 : tyZero Try.prog 101 = some [Value.nilFunc] := by kernel_rfl
end Go.Proofs.Ytcpboonjaceneaa.Eng
