/-
  Facts of the types, in the engine's words.
-/
import Derived.Test.YtmpokibohbhoeaaProg
import Derived.Test.YtmpokibohbhoeaaKE1
import Derived.KernelRfl
namespace Go.Proofs.Ytmpokibohbhoeaa.Eng
open Go Go.RowKit
theorem tk3 : tyK Try.prog 3 = some (false, 1) := by kernel_rfl
theorem tr3 : tyRow Try.prog 3 = some 1 := by kernel_rfl
theorem tu3 : Try.prog.underlying 3 = some (TypeDesc.int IntKind.i64) := by kernel_rfl
theorem tz3 : tyZero Try.prog 3 = some [Value.int IntKind.i64 0] := by kernel_rfl
theorem tk4 : tyK Try.prog 4 = some (false, 1) := by kernel_rfl
theorem tr4 : tyRow Try.prog 4 = some 1 := by kernel_rfl
theorem tu4 : Try.prog.underlying 4 = some (TypeDesc.bool) := by kernel_rfl
theorem tz4 : tyZero Try.prog 4 = some [Value.bool false] := by kernel_rfl
theorem tk5 : tyK Try.prog 5 = some (false, 1) := by kernel_rfl
theorem tr5 : tyRow Try.prog 5 = some 1 := by kernel_rfl
theorem tu5 : Try.prog.underlying 5 = some (TypeDesc.int IntKind.u8) := by kernel_rfl
theorem tz5 : tyZero Try.prog 5 = some [Value.int IntKind.u8 0] := by kernel_rfl
theorem tk9 : tyK Try.prog 9 = some (false, 1) := by kernel_rfl
theorem tr9 : tyRow Try.prog 9 = some 1 := by kernel_rfl
theorem tu9 : Try.prog.underlying 9 = some (TypeDesc.string) := by kernel_rfl
theorem tz9 : tyZero Try.prog 9 = some [Value.string ByteArray.empty] := by kernel_rfl
theorem tk22 : tyK Try.prog 22 = some (false, 1) := by kernel_rfl
theorem tr22 : tyRow Try.prog 22 = some 1 := by kernel_rfl
theorem tu22 : Try.prog.underlying 22 = some (TypeDesc.slice 5) := by kernel_rfl
theorem te22 : tyElem Try.prog 22 = some 5 := by kernel_rfl
theorem tb22 : bytesT Try.prog 22 = true := by kernel_rfl
theorem tz22 : tyZero Try.prog 22 = some [Value.slice none 0 0] := by kernel_rfl
theorem tk24 : tyK Try.prog 24 = some (false, 1) := by kernel_rfl
theorem tr24 : tyRow Try.prog 24 = some 1 := by kernel_rfl
theorem tu24 : Try.prog.underlying 24 = some (TypeDesc.slice 109) := by kernel_rfl
theorem te24 : tyElem Try.prog 24 = some 109 := by kernel_rfl
theorem tz24 : tyZero Try.prog 24 = some [Value.slice none 0 0] := by kernel_rfl
theorem tk26 : tyK Try.prog 26 = some (true, 1) := by kernel_rfl
theorem tr26 : tyRow Try.prog 26 = some 1 := by kernel_rfl
theorem tf26_0 : tyField Try.prog 26 0 = some (0, 24) := by kernel_rfl
theorem tp26 : tyPlaces Try.prog 26 = some [(0, 1)] := by kernel_rfl
theorem tz26 : tyZero Try.prog 26 = some [Value.slice none 0 0] := by kernel_rfl
theorem tk32 : tyK Try.prog 32 = some (false, 1) := by kernel_rfl
theorem tr32 : tyRow Try.prog 32 = some 1 := by kernel_rfl
theorem tu32 : Try.prog.underlying 32 = some (TypeDesc.slice 118) := by kernel_rfl
theorem te32 : tyElem Try.prog 32 = some 118 := by kernel_rfl
theorem tz32 : tyZero Try.prog 32 = some [Value.slice none 0 0] := by kernel_rfl
theorem tk34 : tyK Try.prog 34 = some (true, 1) := by kernel_rfl
theorem tr34 : tyRow Try.prog 34 = some 1 := by kernel_rfl
theorem tf34_0 : tyField Try.prog 34 0 = some (0, 32) := by kernel_rfl
theorem tp34 : tyPlaces Try.prog 34 = some [(0, 1)] := by kernel_rfl
theorem tz34 : tyZero Try.prog 34 = some [Value.slice none 0 0] := by kernel_rfl
theorem tk35 : tyK Try.prog 35 = some (false, 1) := by kernel_rfl
theorem tr35 : tyRow Try.prog 35 = some 1 := by kernel_rfl
theorem tu35 : Try.prog.underlying 35 = some (TypeDesc.slice 37) := by kernel_rfl
theorem te35 : tyElem Try.prog 35 = some 37 := by kernel_rfl
theorem tz35 : tyZero Try.prog 35 = some [Value.slice none 0 0] := by kernel_rfl
theorem tk37 : tyK Try.prog 37 = some (true, 3) := by kernel_rfl
theorem tr37 : tyRow Try.prog 37 = some 3 := by kernel_rfl
theorem tf37_0 : tyField Try.prog 37 0 = some (0, 3) := by kernel_rfl
theorem tf37_1 : tyField Try.prog 37 1 = some (1, 22) := by kernel_rfl
theorem tf37_2 : tyField Try.prog 37 2 = some (2, 35) := by kernel_rfl
theorem tp37 : tyPlaces Try.prog 37 = some [(0, 1), (1, 1), (2, 1)] := by kernel_rfl
theorem tz37 : tyZero Try.prog 37 = some [Value.int IntKind.i64 0, Value.slice none 0 0, Value.slice none 0 0] := by kernel_rfl
theorem tk42 : tyK Try.prog 42 = some (false, 1) := by kernel_rfl
theorem tr42 : tyRow Try.prog 42 = some 1 := by kernel_rfl
theorem tu42 : Try.prog.underlying 42 = some (TypeDesc.slice 44) := by kernel_rfl
theorem te42 : tyElem Try.prog 42 = some 44 := by kernel_rfl
theorem tz42 : tyZero Try.prog 42 = some [Value.slice none 0 0] := by kernel_rfl
theorem tk44 : tyK Try.prog 44 = some (true, 3) := by kernel_rfl
theorem tr44 : tyRow Try.prog 44 = some 3 := by kernel_rfl
theorem tf44_0 : tyField Try.prog 44 0 = some (0, 3) := by kernel_rfl
theorem tf44_1 : tyField Try.prog 44 1 = some (1, 22) := by kernel_rfl
theorem tf44_2 : tyField Try.prog 44 2 = some (2, 42) := by kernel_rfl
theorem tp44 : tyPlaces Try.prog 44 = some [(0, 1), (1, 1), (2, 1)] := by kernel_rfl
theorem tz44 : tyZero Try.prog 44 = some [Value.int IntKind.i64 0, Value.slice none 0 0, Value.slice none 0 0] := by kernel_rfl
theorem tk95 : tyK Try.prog 95 = some (false, 1) := by kernel_rfl
theorem tr95 : tyRow Try.prog 95 = some 1 := by kernel_rfl
theorem tu95 : Try.prog.underlying 95 = some (TypeDesc.pointer 97) := by kernel_rfl
theorem tz95 : tyZero Try.prog 95 = some [Value.pointer none] := by kernel_rfl
theorem tk97 : tyK Try.prog 97 = some (true, 2) := by kernel_rfl
theorem tr97 : tyRow Try.prog 97 = some 2 := by kernel_rfl
theorem tf97_0 : tyField Try.prog 97 0 = some (0, 26) := by kernel_rfl
theorem tf97_1 : tyField Try.prog 97 1 = some (1, 22) := by kernel_rfl
theorem tp97 : tyPlaces Try.prog 97 = some [(0, 1), (1, 1)] := by kernel_rfl
theorem tz97 : tyZero Try.prog 97 = some [Value.slice none 0 0, Value.slice none 0 0] := by kernel_rfl
theorem tk99 : tyK Try.prog 99 = some (false, 1) := by kernel_rfl
theorem tr99 : tyRow Try.prog 99 = some 1 := by kernel_rfl
theorem tu99 : Try.prog.underlying 99 = some (TypeDesc.pointer 44) := by kernel_rfl
theorem tz99 : tyZero Try.prog 99 = some [Value.pointer none] := by kernel_rfl
theorem tk106 : tyK Try.prog 106 = some (false, 1) := by kernel_rfl
theorem tr106 : tyRow Try.prog 106 = some 1 := by kernel_rfl
theorem tu106 : Try.prog.underlying 106 = some (TypeDesc.slice 9) := by kernel_rfl
theorem te106 : tyElem Try.prog 106 = some 9 := by kernel_rfl
theorem tz106 : tyZero Try.prog 106 = some [Value.slice none 0 0] := by kernel_rfl
theorem tk107 : tyK Try.prog 107 = some (false, 1) := by kernel_rfl
theorem tr107 : tyRow Try.prog 107 = some 1 := by kernel_rfl
theorem tu107 : Try.prog.underlying 107 = some (TypeDesc.slice 3) := by kernel_rfl
theorem te107 : tyElem Try.prog 107 = some 3 := by kernel_rfl
theorem tz107 : tyZero Try.prog 107 = some [Value.slice none 0 0] := by kernel_rfl
theorem tk109 : tyK Try.prog 109 = some (true, 8) := by kernel_rfl
theorem tr109 : tyRow Try.prog 109 = some 8 := by kernel_rfl
theorem tf109_0 : tyField Try.prog 109 0 = some (0, 9) := by kernel_rfl
theorem tf109_1 : tyField Try.prog 109 1 = some (1, 3) := by kernel_rfl
theorem tf109_2 : tyField Try.prog 109 2 = some (2, 3) := by kernel_rfl
theorem tf109_3 : tyField Try.prog 109 3 = some (3, 4) := by kernel_rfl
theorem tf109_4 : tyField Try.prog 109 4 = some (4, 22) := by kernel_rfl
theorem tf109_5 : tyField Try.prog 109 5 = some (5, 106) := by kernel_rfl
theorem tf109_6 : tyField Try.prog 109 6 = some (6, 107) := by kernel_rfl
theorem tf109_7 : tyField Try.prog 109 7 = some (7, 107) := by kernel_rfl
theorem tp109 : tyPlaces Try.prog 109 = some [(0, 1), (1, 1), (2, 1), (3, 1), (4, 1), (5, 1), (6, 1), (7, 1)] := by kernel_rfl
theorem tz109 : tyZero Try.prog 109 = some [Value.string ByteArray.empty, Value.int IntKind.i64 0, Value.int IntKind.i64 0, Value.bool false, Value.slice none 0 0, Value.slice none 0 0, Value.slice none 0 0, Value.slice none 0 0] := by kernel_rfl
theorem tk115 : tyK Try.prog 115 = some (false, 1) := by kernel_rfl
theorem tr115 : tyRow Try.prog 115 = some 1 := by kernel_rfl
theorem tu115 : Try.prog.underlying 115 = some (TypeDesc.func #[9] #[4] false) := by kernel_rfl
theorem tz115 : tyZero Try.prog 115 = some [Value.nilFunc] := by kernel_rfl
theorem tk118 : tyK Try.prog 118 = some (true, 8) := by kernel_rfl
theorem tr118 : tyRow Try.prog 118 = some 8 := by kernel_rfl
theorem tf118_0 : tyField Try.prog 118 0 = some (0, 9) := by kernel_rfl
theorem tf118_1 : tyField Try.prog 118 1 = some (1, 3) := by kernel_rfl
theorem tf118_2 : tyField Try.prog 118 2 = some (2, 3) := by kernel_rfl
theorem tf118_3 : tyField Try.prog 118 3 = some (3, 4) := by kernel_rfl
theorem tf118_4 : tyField Try.prog 118 4 = some (4, 22) := by kernel_rfl
theorem tf118_5 : tyField Try.prog 118 5 = some (5, 106) := by kernel_rfl
theorem tf118_6 : tyField Try.prog 118 6 = some (6, 107) := by kernel_rfl
theorem tf118_7 : tyField Try.prog 118 7 = some (7, 107) := by kernel_rfl
theorem tp118 : tyPlaces Try.prog 118 = some [(0, 1), (1, 1), (2, 1), (3, 1), (4, 1), (5, 1), (6, 1), (7, 1)] := by kernel_rfl
theorem tz118 : tyZero Try.prog 118 = some [Value.string ByteArray.empty, Value.int IntKind.i64 0, Value.int IntKind.i64 0, Value.bool false, Value.slice none 0 0, Value.slice none 0 0, Value.slice none 0 0, Value.slice none 0 0] := by kernel_rfl
theorem tk136 : tyK Try.prog 136 = some (false, 1) := by kernel_rfl
theorem tr136 : tyRow Try.prog 136 = some 1 := by kernel_rfl
theorem tu136 : Try.prog.underlying 136 = some (TypeDesc.pointer 138) := by kernel_rfl
theorem tz136 : tyZero Try.prog 136 = some [Value.pointer none] := by kernel_rfl
theorem tk138 : tyK Try.prog 138 = some (true, 2) := by kernel_rfl
theorem tr138 : tyRow Try.prog 138 = some 2 := by kernel_rfl
theorem tf138_0 : tyField Try.prog 138 0 = some (0, 26) := by kernel_rfl
theorem tf138_1 : tyField Try.prog 138 1 = some (1, 26) := by kernel_rfl
theorem tp138 : tyPlaces Try.prog 138 = some [(0, 1), (1, 1)] := by kernel_rfl
theorem tz138 : tyZero Try.prog 138 = some [Value.slice none 0 0, Value.slice none 0 0] := by kernel_rfl
theorem tk148 : tyK Try.prog 148 = some (false, 1) := by kernel_rfl
theorem tr148 : tyRow Try.prog 148 = some 1 := by kernel_rfl
theorem tu148 : Try.prog.underlying 148 = some (TypeDesc.func #[3, 3] #[4] false) := by kernel_rfl
theorem tz148 : tyZero Try.prog 148 = some [Value.nilFunc] := by kernel_rfl
theorem tk165 : tyK Try.prog 165 = some (false, 1) := by kernel_rfl
theorem tr165 : tyRow Try.prog 165 = some 1 := by kernel_rfl
theorem tu165 : Try.prog.underlying 165 = some (TypeDesc.func #[3] #[4] false) := by kernel_rfl
theorem tz165 : tyZero Try.prog 165 = some [Value.nilFunc] := by kernel_rfl
end Go.Proofs.Ytmpokibohbhoeaa.Eng
