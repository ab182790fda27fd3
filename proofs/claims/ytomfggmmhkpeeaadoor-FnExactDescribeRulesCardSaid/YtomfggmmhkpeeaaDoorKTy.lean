/-
 Facts of the types, in the engine's words.
-/
import Derived.Test.YtomfggmmhkpeeaaDoorProg
import Derived.Test.YtomfggmmhkpeeaaDoorKE1
import Derived.KernelRfl
namespace Go.Proofs.YtomfggmmhkpeeaaDoor.Eng
open Go Go.RowKit
theorem tk3:tyK Tryd.prog 3=some (false,1):=by kernel_rfl
theorem tr3:tyRow Tryd.prog 3=some 1:=by kernel_rfl
theorem tu3:Tryd.prog.underlying 3=some (TypeDesc.int IntKind.i64):=by kernel_rfl
theorem tz3:tyZero Tryd.prog 3=some [Value.int IntKind.i64 0]:=by kernel_rfl
theorem tk4:tyK Tryd.prog 4=some (false,1):=by kernel_rfl
theorem tr4:tyRow Tryd.prog 4=some 1:=by kernel_rfl
theorem tu4:Tryd.prog.underlying 4=some (TypeDesc.bool):=by kernel_rfl
theorem tz4:tyZero Tryd.prog 4=some [Value.bool false]:=by kernel_rfl
theorem tk5:tyK Tryd.prog 5=some (false,1):=by kernel_rfl
theorem tr5:tyRow Tryd.prog 5=some 1:=by kernel_rfl
theorem tu5:Tryd.prog.underlying 5=some (TypeDesc.int IntKind.u8):=by kernel_rfl
theorem tz5:tyZero Tryd.prog 5=some [Value.int IntKind.u8 0]:=by kernel_rfl
theorem tk9:tyK Tryd.prog 9=some (false,1):=by kernel_rfl
theorem tr9:tyRow Tryd.prog 9=some 1:=by kernel_rfl
theorem tu9:Tryd.prog.underlying 9=some (TypeDesc.string):=by kernel_rfl
theorem tz9:tyZero Tryd.prog 9=some [Value.string ByteArray.empty]:=by kernel_rfl
theorem tk22:tyK Tryd.prog 22=some (false,1):=by kernel_rfl
theorem tr22:tyRow Tryd.prog 22=some 1:=by kernel_rfl
theorem tu22:Tryd.prog.underlying 22=some (TypeDesc.slice 51):=by kernel_rfl
theorem te22:tyElem Tryd.prog 22=some 51:=by kernel_rfl
theorem tz22:tyZero Tryd.prog 22=some [Value.slice none 0 0]:=by kernel_rfl
theorem tk24:tyK Tryd.prog 24=some (true,1):=by kernel_rfl
theorem tr24:tyRow Tryd.prog 24=some 1:=by kernel_rfl
theorem tf24_0:tyField Tryd.prog 24 0=some (0,22):=by kernel_rfl
theorem tp24:tyPlaces Tryd.prog 24=some [(0,1)]:=by kernel_rfl
theorem tz24:tyZero Tryd.prog 24=some [Value.slice none 0 0]:=by kernel_rfl
theorem tk26:tyK Tryd.prog 26=some (false,1):=by kernel_rfl
theorem tr26:tyRow Tryd.prog 26=some 1:=by kernel_rfl
theorem tu26:Tryd.prog.underlying 26=some (TypeDesc.slice 9):=by kernel_rfl
theorem te26:tyElem Tryd.prog 26=some 9:=by kernel_rfl
theorem tz26:tyZero Tryd.prog 26=some [Value.slice none 0 0]:=by kernel_rfl
theorem tk28:tyK Tryd.prog 28=some (false,1):=by kernel_rfl
theorem tr28:tyRow Tryd.prog 28=some 1:=by kernel_rfl
theorem tu28:Tryd.prog.underlying 28=some (TypeDesc.slice 42):=by kernel_rfl
theorem te28:tyElem Tryd.prog 28=some 42:=by kernel_rfl
theorem tz28:tyZero Tryd.prog 28=some [Value.slice none 0 0]:=by kernel_rfl
theorem tk30:tyK Tryd.prog 30=some (true,1):=by kernel_rfl
theorem tr30:tyRow Tryd.prog 30=some 1:=by kernel_rfl
theorem tf30_0:tyField Tryd.prog 30 0=some (0,28):=by kernel_rfl
theorem tp30:tyPlaces Tryd.prog 30=some [(0,1)]:=by kernel_rfl
theorem tz30:tyZero Tryd.prog 30=some [Value.slice none 0 0]:=by kernel_rfl
theorem tk39:tyK Tryd.prog 39=some (false,1):=by kernel_rfl
theorem tr39:tyRow Tryd.prog 39=some 1:=by kernel_rfl
theorem tu39:Tryd.prog.underlying 39=some (TypeDesc.slice 5):=by kernel_rfl
theorem te39:tyElem Tryd.prog 39=some 5:=by kernel_rfl
theorem tb39:bytesT Tryd.prog 39=true:=by kernel_rfl
theorem tz39:tyZero Tryd.prog 39=some [Value.slice none 0 0]:=by kernel_rfl
theorem tk40:tyK Tryd.prog 40=some (false,1):=by kernel_rfl
theorem tr40:tyRow Tryd.prog 40=some 1:=by kernel_rfl
theorem tu40:Tryd.prog.underlying 40=some (TypeDesc.slice 3):=by kernel_rfl
theorem te40:tyElem Tryd.prog 40=some 3:=by kernel_rfl
theorem tz40:tyZero Tryd.prog 40=some [Value.slice none 0 0]:=by kernel_rfl
theorem tk42:tyK Tryd.prog 42=some (true,8):=by kernel_rfl
theorem tr42:tyRow Tryd.prog 42=some 8:=by kernel_rfl
theorem tf42_0:tyField Tryd.prog 42 0=some (0,9):=by kernel_rfl
theorem tf42_1:tyField Tryd.prog 42 1=some (1,3):=by kernel_rfl
theorem tf42_2:tyField Tryd.prog 42 2=some (2,3):=by kernel_rfl
theorem tf42_3:tyField Tryd.prog 42 3=some (3,4):=by kernel_rfl
theorem tf42_4:tyField Tryd.prog 42 4=some (4,39):=by kernel_rfl
theorem tf42_5:tyField Tryd.prog 42 5=some (5,26):=by kernel_rfl
theorem tf42_6:tyField Tryd.prog 42 6=some (6,40):=by kernel_rfl
theorem tf42_7:tyField Tryd.prog 42 7=some (7,40):=by kernel_rfl
theorem tp42:tyPlaces Tryd.prog 42=some [(0,1),(1,1),(2,1),(3,1),(4,1),(5,1),(6,1),(7,1)]:=by kernel_rfl
theorem tz42:tyZero Tryd.prog 42=some [Value.string ByteArray.empty,Value.int IntKind.i64 0,Value.int IntKind.i64 0,Value.bool false,Value.slice none 0 0,Value.slice none 0 0,Value.slice none 0 0,Value.slice none 0 0]:=by kernel_rfl
theorem tk51:tyK Tryd.prog 51=some (true,8):=by kernel_rfl
theorem tr51:tyRow Tryd.prog 51=some 8:=by kernel_rfl
theorem tf51_0:tyField Tryd.prog 51 0=some (0,9):=by kernel_rfl
theorem tf51_1:tyField Tryd.prog 51 1=some (1,3):=by kernel_rfl
theorem tf51_2:tyField Tryd.prog 51 2=some (2,3):=by kernel_rfl
theorem tf51_3:tyField Tryd.prog 51 3=some (3,4):=by kernel_rfl
theorem tf51_4:tyField Tryd.prog 51 4=some (4,39):=by kernel_rfl
theorem tf51_5:tyField Tryd.prog 51 5=some (5,26):=by kernel_rfl
theorem tf51_6:tyField Tryd.prog 51 6=some (6,40):=by kernel_rfl
theorem tf51_7:tyField Tryd.prog 51 7=some (7,40):=by kernel_rfl
theorem tp51:tyPlaces Tryd.prog 51=some [(0,1),(1,1),(2,1),(3,1),(4,1),(5,1),(6,1),(7,1)]:=by kernel_rfl
theorem tz51:tyZero Tryd.prog 51=some [Value.string ByteArray.empty,Value.int IntKind.i64 0,Value.int IntKind.i64 0,Value.bool false,Value.slice none 0 0,Value.slice none 0 0,Value.slice none 0 0,Value.slice none 0 0]:=by kernel_rfl
theorem tk55:tyK Tryd.prog 55=some (false,1):=by kernel_rfl
theorem tr55:tyRow Tryd.prog 55=some 1:=by kernel_rfl
theorem tu55:Tryd.prog.underlying 55=some (TypeDesc.func #[3,3] #[3] false):=by kernel_rfl
theorem tz55:tyZero Tryd.prog 55=some [Value.nilFunc]:=by kernel_rfl
theorem tk59:tyK Tryd.prog 59=some (true,24):=by kernel_rfl
theorem tr59:tyRow Tryd.prog 59=some 24:=by kernel_rfl
theorem tu59:Tryd.prog.underlying 59=some (TypeDesc.array 24 3):=by kernel_rfl
theorem ta59:tyArr Tryd.prog 59=some (3,24):=by kernel_rfl
theorem tk71:tyK Tryd.prog 71=some (false,1):=by kernel_rfl
theorem tr71:tyRow Tryd.prog 71=some 1:=by kernel_rfl
theorem tu71:Tryd.prog.underlying 71=some (TypeDesc.func #[3,3] #[4] false):=by kernel_rfl
theorem tz71:tyZero Tryd.prog 71=some [Value.nilFunc]:=by kernel_rfl
theorem ai {a b:Prop} (h:a) (k:b):a∧b:=⟨h,k⟩
set_option linter.defProp false
def tg3:=ai (ai tk3 tr3) (ai tu3 tz3)
def tg4:=ai (ai tk4 tr4) (ai tu4 tz4)
def tg5:=ai (ai tk5 tr5) (ai tu5 tz5)
def tg9:=ai (ai tk9 tr9) (ai tu9 tz9)
def tg22:=ai (ai tk22 tr22) (ai tu22 (ai te22 tz22))
def tg24:=ai (ai tk24 tr24) (ai tf24_0 (ai tp24 tz24))
def tg26:=ai (ai tk26 tr26) (ai tu26 (ai te26 tz26))
def tg28:=ai (ai tk28 tr28) (ai tu28 (ai te28 tz28))
def tg30:=ai (ai tk30 tr30) (ai tf30_0 (ai tp30 tz30))
def tg39:=ai (ai tk39 (ai tr39 tu39)) (ai te39 (ai tb39 tz39))
def tg40:=ai (ai tk40 tr40) (ai tu40 (ai te40 tz40))
def tg42:=ai (ai (ai tk42 (ai tr42 tf42_0)) (ai tf42_1 (ai tf42_2 tf42_3))) (ai (ai tf42_4 (ai tf42_5 tf42_6)) (ai tf42_7 (ai tp42 tz42)))
def tg51:=ai (ai (ai tk51 (ai tr51 tf51_0)) (ai tf51_1 (ai tf51_2 tf51_3))) (ai (ai tf51_4 (ai tf51_5 tf51_6)) (ai tf51_7 (ai tp51 tz51)))
def tg55:=ai (ai tk55 tr55) (ai tu55 tz55)
def tg59:=ai (ai tk59 tr59) (ai tu59 ta59)
def tg71:=ai (ai tk71 tr71) (ai tu71 tz71)
end Go.Proofs.YtomfggmmhkpeeaaDoor.Eng
