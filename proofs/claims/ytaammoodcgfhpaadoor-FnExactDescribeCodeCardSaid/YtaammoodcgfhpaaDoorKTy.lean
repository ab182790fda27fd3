/-
 Facts of the types, in the engine's words.
-/
import Derived.Test.YtaammoodcgfhpaaDoorProg
import Derived.Test.YtaammoodcgfhpaaDoorKE1
import Derived.KernelRfl
namespace Go.Proofs.YtaammoodcgfhpaaDoor.Eng
open Go Go.RowKit
theorem tk3:tyK Tryd.prog 3=some (false,1):=by kernel_rfl
theorem tr3:tyRow Tryd.prog 3=some 1:=by kernel_rfl
theorem tu3:Tryd.prog.underlying 3=some (TypeDesc.int IntKind.i64):=by kernel_rfl
theorem tz3:tyZero Tryd.prog 3=some [Value.int IntKind.i64 0]:=by kernel_rfl
theorem tk4:tyK Tryd.prog 4=some (false,1):=by kernel_rfl
theorem tr4:tyRow Tryd.prog 4=some 1:=by kernel_rfl
theorem tu4:Tryd.prog.underlying 4=some (TypeDesc.bool):=by kernel_rfl
theorem tz4:tyZero Tryd.prog 4=some [Value.bool false]:=by kernel_rfl
theorem tk5:tyK Tryd.prog 5=some (false,1):=by kernel_rfl
theorem tr5:tyRow Tryd.prog 5=some 1:=by kernel_rfl
theorem tu5:Tryd.prog.underlying 5=some (TypeDesc.int IntKind.u8):=by kernel_rfl
theorem tz5:tyZero Tryd.prog 5=some [Value.int IntKind.u8 0]:=by kernel_rfl
theorem tk9:tyK Tryd.prog 9=some (false,1):=by kernel_rfl
theorem tr9:tyRow Tryd.prog 9=some 1:=by kernel_rfl
theorem tu9:Tryd.prog.underlying 9=some (TypeDesc.string):=by kernel_rfl
theorem tz9:tyZero Tryd.prog 9=some [Value.string ByteArray.empty]:=by kernel_rfl
theorem tk22:tyK Tryd.prog 22=some (false,1):=by kernel_rfl
theorem tr22:tyRow Tryd.prog 22=some 1:=by kernel_rfl
theorem tu22:Tryd.prog.underlying 22=some (TypeDesc.slice 56):=by kernel_rfl
theorem te22:tyElem Tryd.prog 22=some 56:=by kernel_rfl
theorem tz22:tyZero Tryd.prog 22=some [Value.slice none 0 0]:=by kernel_rfl
theorem tk24:tyK Tryd.prog 24=some (true,1):=by kernel_rfl
theorem tr24:tyRow Tryd.prog 24=some 1:=by kernel_rfl
theorem tf24_0:tyField Tryd.prog 24 0=some (0,22):=by kernel_rfl
theorem tp24:tyPlaces Tryd.prog 24=some [(0,1)]:=by kernel_rfl
theorem tz24:tyZero Tryd.prog 24=some [Value.slice none 0 0]:=by kernel_rfl
theorem tk26:tyK Tryd.prog 26=some (false,1):=by kernel_rfl
theorem tr26:tyRow Tryd.prog 26=some 1:=by kernel_rfl
theorem tu26:Tryd.prog.underlying 26=some (TypeDesc.slice 9):=by kernel_rfl
theorem te26:tyElem Tryd.prog 26=some 9:=by kernel_rfl
theorem tz26:tyZero Tryd.prog 26=some [Value.slice none 0 0]:=by kernel_rfl
theorem tk28:tyK Tryd.prog 28=some (false,1):=by kernel_rfl
theorem tr28:tyRow Tryd.prog 28=some 1:=by kernel_rfl
theorem tu28:Tryd.prog.underlying 28=some (TypeDesc.slice 61):=by kernel_rfl
theorem te28:tyElem Tryd.prog 28=some 61:=by kernel_rfl
theorem tz28:tyZero Tryd.prog 28=some [Value.slice none 0 0]:=by kernel_rfl
theorem tk30:tyK Tryd.prog 30=some (true,1):=by kernel_rfl
theorem tr30:tyRow Tryd.prog 30=some 1:=by kernel_rfl
theorem tf30_0:tyField Tryd.prog 30 0=some (0,28):=by kernel_rfl
theorem tp30:tyPlaces Tryd.prog 30=some [(0,1)]:=by kernel_rfl
theorem tz30:tyZero Tryd.prog 30=some [Value.slice none 0 0]:=by kernel_rfl
theorem tk38:tyK Tryd.prog 38=some (false,1):=by kernel_rfl
theorem tr38:tyRow Tryd.prog 38=some 1:=by kernel_rfl
theorem tu38:Tryd.prog.underlying 38=some (TypeDesc.slice 46):=by kernel_rfl
theorem te38:tyElem Tryd.prog 38=some 46:=by kernel_rfl
theorem tz38:tyZero Tryd.prog 38=some [Value.slice none 0 0]:=by kernel_rfl
theorem tk39:tyK Tryd.prog 39=some (false,1):=by kernel_rfl
theorem tr39:tyRow Tryd.prog 39=some 1:=by kernel_rfl
theorem tu39:Tryd.prog.underlying 39=some (TypeDesc.slice 3):=by kernel_rfl
theorem te39:tyElem Tryd.prog 39=some 3:=by kernel_rfl
theorem tz39:tyZero Tryd.prog 39=some [Value.slice none 0 0]:=by kernel_rfl
theorem tk41:tyK Tryd.prog 41=some (true,2):=by kernel_rfl
theorem tr41:tyRow Tryd.prog 41=some 2:=by kernel_rfl
theorem tf41_0:tyField Tryd.prog 41 0=some (0,38):=by kernel_rfl
theorem tf41_1:tyField Tryd.prog 41 1=some (1,39):=by kernel_rfl
theorem tp41:tyPlaces Tryd.prog 41=some [(0,1),(1,1)]:=by kernel_rfl
theorem tz41:tyZero Tryd.prog 41=some [Value.slice none 0 0,Value.slice none 0 0]:=by kernel_rfl
theorem tk46:tyK Tryd.prog 46=some (true,3):=by kernel_rfl
theorem tr46:tyRow Tryd.prog 46=some 3:=by kernel_rfl
theorem tf46_0:tyField Tryd.prog 46 0=some (0,3):=by kernel_rfl
theorem tf46_1:tyField Tryd.prog 46 1=some (1,3):=by kernel_rfl
theorem tf46_2:tyField Tryd.prog 46 2=some (2,3):=by kernel_rfl
theorem tq46:tyFlat Tryd.prog 46=some [0,0,0]:=by kernel_rfl
theorem tp46:tyPlaces Tryd.prog 46=some [(0,1),(1,1),(2,1)]:=by kernel_rfl
theorem tz46:tyZero Tryd.prog 46=some [Value.int IntKind.i64 0,Value.int IntKind.i64 0,Value.int IntKind.i64 0]:=by kernel_rfl
theorem tk54:tyK Tryd.prog 54=some (false,1):=by kernel_rfl
theorem tr54:tyRow Tryd.prog 54=some 1:=by kernel_rfl
theorem tu54:Tryd.prog.underlying 54=some (TypeDesc.slice 5):=by kernel_rfl
theorem te54:tyElem Tryd.prog 54=some 5:=by kernel_rfl
theorem tb54:bytesT Tryd.prog 54=true:=by kernel_rfl
theorem tz54:tyZero Tryd.prog 54=some [Value.slice none 0 0]:=by kernel_rfl
theorem tk56:tyK Tryd.prog 56=some (true,8):=by kernel_rfl
theorem tr56:tyRow Tryd.prog 56=some 8:=by kernel_rfl
theorem tf56_0:tyField Tryd.prog 56 0=some (0,9):=by kernel_rfl
theorem tf56_1:tyField Tryd.prog 56 1=some (1,3):=by kernel_rfl
theorem tf56_2:tyField Tryd.prog 56 2=some (2,3):=by kernel_rfl
theorem tf56_3:tyField Tryd.prog 56 3=some (3,4):=by kernel_rfl
theorem tf56_4:tyField Tryd.prog 56 4=some (4,54):=by kernel_rfl
theorem tf56_5:tyField Tryd.prog 56 5=some (5,26):=by kernel_rfl
theorem tf56_6:tyField Tryd.prog 56 6=some (6,39):=by kernel_rfl
theorem tf56_7:tyField Tryd.prog 56 7=some (7,39):=by kernel_rfl
theorem tp56:tyPlaces Tryd.prog 56=some [(0,1),(1,1),(2,1),(3,1),(4,1),(5,1),(6,1),(7,1)]:=by kernel_rfl
theorem tz56:tyZero Tryd.prog 56=some [Value.string ByteArray.empty,Value.int IntKind.i64 0,Value.int IntKind.i64 0,Value.bool false,Value.slice none 0 0,Value.slice none 0 0,Value.slice none 0 0,Value.slice none 0 0]:=by kernel_rfl
theorem tk61:tyK Tryd.prog 61=some (true,8):=by kernel_rfl
theorem tr61:tyRow Tryd.prog 61=some 8:=by kernel_rfl
theorem tf61_0:tyField Tryd.prog 61 0=some (0,9):=by kernel_rfl
theorem tf61_1:tyField Tryd.prog 61 1=some (1,3):=by kernel_rfl
theorem tf61_2:tyField Tryd.prog 61 2=some (2,3):=by kernel_rfl
theorem tf61_3:tyField Tryd.prog 61 3=some (3,4):=by kernel_rfl
theorem tf61_4:tyField Tryd.prog 61 4=some (4,54):=by kernel_rfl
theorem tf61_5:tyField Tryd.prog 61 5=some (5,26):=by kernel_rfl
theorem tf61_6:tyField Tryd.prog 61 6=some (6,39):=by kernel_rfl
theorem tf61_7:tyField Tryd.prog 61 7=some (7,39):=by kernel_rfl
theorem tp61:tyPlaces Tryd.prog 61=some [(0,1),(1,1),(2,1),(3,1),(4,1),(5,1),(6,1),(7,1)]:=by kernel_rfl
theorem tz61:tyZero Tryd.prog 61=some [Value.string ByteArray.empty,Value.int IntKind.i64 0,Value.int IntKind.i64 0,Value.bool false,Value.slice none 0 0,Value.slice none 0 0,Value.slice none 0 0,Value.slice none 0 0]:=by kernel_rfl
theorem tk76:tyK Tryd.prog 76=some (false,1):=by kernel_rfl
theorem tr76:tyRow Tryd.prog 76=some 1:=by kernel_rfl
theorem tu76:Tryd.prog.underlying 76=some (TypeDesc.func #[78,61] #[] false):=by kernel_rfl
theorem tz76:tyZero Tryd.prog 76=some [Value.nilFunc]:=by kernel_rfl
theorem tk78:tyK Tryd.prog 78=some (false,1):=by kernel_rfl
theorem tr78:tyRow Tryd.prog 78=some 1:=by kernel_rfl
theorem tu78:Tryd.prog.underlying 78=some (TypeDesc.pointer 81):=by kernel_rfl
theorem tz78:tyZero Tryd.prog 78=some [Value.pointer none]:=by kernel_rfl
theorem tk79:tyK Tryd.prog 79=some (false,1):=by kernel_rfl
theorem tr79:tyRow Tryd.prog 79=some 1:=by kernel_rfl
theorem tu79:Tryd.prog.underlying 79=some (TypeDesc.slice 76):=by kernel_rfl
theorem te79:tyElem Tryd.prog 79=some 76:=by kernel_rfl
theorem tz79:tyZero Tryd.prog 79=some [Value.slice none 0 0]:=by kernel_rfl
theorem tk81:tyK Tryd.prog 81=some (true,4):=by kernel_rfl
theorem tr81:tyRow Tryd.prog 81=some 4:=by kernel_rfl
theorem tf81_0:tyField Tryd.prog 81 0=some (0,30):=by kernel_rfl
theorem tf81_1:tyField Tryd.prog 81 1=some (1,3):=by kernel_rfl
theorem tf81_2:tyField Tryd.prog 81 2=some (2,39):=by kernel_rfl
theorem tf81_3:tyField Tryd.prog 81 3=some (3,38):=by kernel_rfl
theorem tp81:tyPlaces Tryd.prog 81=some [(0,1),(1,1),(2,1),(3,1)]:=by kernel_rfl
theorem tz81:tyZero Tryd.prog 81=some [Value.slice none 0 0,Value.int IntKind.i64 0,Value.slice none 0 0,Value.slice none 0 0]:=by kernel_rfl
theorem ai {a b:Prop} (h:a) (k:b):a∧b:=⟨h,k⟩
set_option linter.defProp false
def tg3:=ai (ai tk3 tr3) (ai tu3 tz3)
def tg4:=ai (ai tk4 tr4) (ai tu4 tz4)
def tg5:=ai (ai tk5 tr5) (ai tu5 tz5)
def tg9:=ai (ai tk9 tr9) (ai tu9 tz9)
def tg22:=ai (ai tk22 tr22) (ai tu22 (ai te22 tz22))
def tg24:=ai (ai tk24 tr24) (ai tf24_0 (ai tp24 tz24))
def tg26:=ai (ai tk26 tr26) (ai tu26 (ai te26 tz26))
def tg28:=ai (ai tk28 tr28) (ai tu28 (ai te28 tz28))
def tg30:=ai (ai tk30 tr30) (ai tf30_0 (ai tp30 tz30))
def tg38:=ai (ai tk38 tr38) (ai tu38 (ai te38 tz38))
def tg39:=ai (ai tk39 tr39) (ai tu39 (ai te39 tz39))
def tg41:=ai (ai tk41 (ai tr41 tf41_0)) (ai tf41_1 (ai tp41 tz41))
def tg46:=ai (ai (ai tk46 tr46) (ai tf46_0 tf46_1)) (ai (ai tf46_2 tq46) (ai tp46 tz46))
def tg54:=ai (ai tk54 (ai tr54 tu54)) (ai te54 (ai tb54 tz54))
def tg56:=ai (ai (ai tk56 (ai tr56 tf56_0)) (ai tf56_1 (ai tf56_2 tf56_3))) (ai (ai tf56_4 (ai tf56_5 tf56_6)) (ai tf56_7 (ai tp56 tz56)))
def tg61:=ai (ai (ai tk61 (ai tr61 tf61_0)) (ai tf61_1 (ai tf61_2 tf61_3))) (ai (ai tf61_4 (ai tf61_5 tf61_6)) (ai tf61_7 (ai tp61 tz61)))
def tg76:=ai (ai tk76 tr76) (ai tu76 tz76)
def tg78:=ai (ai tk78 tr78) (ai tu78 tz78)
def tg79:=ai (ai tk79 tr79) (ai tu79 (ai te79 tz79))
def tg81:=ai (ai (ai tk81 tr81) (ai tf81_0 tf81_1)) (ai (ai tf81_2 tf81_3) (ai tp81 tz81))
end Go.Proofs.YtaammoodcgfhpaaDoor.Eng
