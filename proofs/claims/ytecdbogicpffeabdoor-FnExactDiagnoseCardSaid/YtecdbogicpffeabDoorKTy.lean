/-
 Facts of the types, in the engine's words.
-/
import Derived.Test.YtecdbogicpffeabDoorProg
import Derived.Test.YtecdbogicpffeabDoorKE1
import Derived.KernelRfl
namespace Go.Proofs.YtecdbogicpffeabDoor.Eng
open Go Go.RowKit
theorem tk3:tyK Tryd.prog 3=some (false,1):=by kernel_rfl
theorem tr3:tyRow Tryd.prog 3=some 1:=by kernel_rfl
theorem tu3:Tryd.prog.underlying 3=some (TypeDesc.int IntKind.i64):=by kernel_rfl
theorem tz3:tyZero Tryd.prog 3=some [Value.int IntKind.i64 0]:=by kernel_rfl
theorem tk4:tyK Tryd.prog 4=some (false,1):=by kernel_rfl
theorem tr4:tyRow Tryd.prog 4=some 1:=by kernel_rfl
theorem tu4:Tryd.prog.underlying 4=some (TypeDesc.bool):=by kernel_rfl
theorem tz4:tyZero Tryd.prog 4=some [Value.bool false]:=by kernel_rfl
theorem tk5:tyK Tryd.prog 5=some (false,1):=by kernel_rfl
theorem tr5:tyRow Tryd.prog 5=some 1:=by kernel_rfl
theorem tu5:Tryd.prog.underlying 5=some (TypeDesc.int IntKind.u8):=by kernel_rfl
theorem tz5:tyZero Tryd.prog 5=some [Value.int IntKind.u8 0]:=by kernel_rfl
theorem tk9:tyK Tryd.prog 9=some (false,1):=by kernel_rfl
theorem tr9:tyRow Tryd.prog 9=some 1:=by kernel_rfl
theorem tu9:Tryd.prog.underlying 9=some (TypeDesc.string):=by kernel_rfl
theorem tz9:tyZero Tryd.prog 9=some [Value.string ByteArray.empty]:=by kernel_rfl
theorem tk22:tyK Tryd.prog 22=some (false,1):=by kernel_rfl
theorem tr22:tyRow Tryd.prog 22=some 1:=by kernel_rfl
theorem tu22:Tryd.prog.underlying 22=some (TypeDesc.slice 55):=by kernel_rfl
theorem te22:tyElem Tryd.prog 22=some 55:=by kernel_rfl
theorem tz22:tyZero Tryd.prog 22=some [Value.slice none 0 0]:=by kernel_rfl
theorem tk24:tyK Tryd.prog 24=some (true,1):=by kernel_rfl
theorem tr24:tyRow Tryd.prog 24=some 1:=by kernel_rfl
theorem tf24_0:tyField Tryd.prog 24 0=some (0,22):=by kernel_rfl
theorem tp24:tyPlaces Tryd.prog 24=some [(0,1)]:=by kernel_rfl
theorem tz24:tyZero Tryd.prog 24=some [Value.slice none 0 0]:=by kernel_rfl
theorem tk25:tyK Tryd.prog 25=some (false,1):=by kernel_rfl
theorem tr25:tyRow Tryd.prog 25=some 1:=by kernel_rfl
theorem tu25:Tryd.prog.underlying 25=some (TypeDesc.slice 5):=by kernel_rfl
theorem te25:tyElem Tryd.prog 25=some 5:=by kernel_rfl
theorem tb25:bytesT Tryd.prog 25=true:=by kernel_rfl
theorem tz25:tyZero Tryd.prog 25=some [Value.slice none 0 0]:=by kernel_rfl
theorem tk28:tyK Tryd.prog 28=some (true,4):=by kernel_rfl
theorem tr28:tyRow Tryd.prog 28=some 4:=by kernel_rfl
theorem tf28_0:tyField Tryd.prog 28 0=some (0,3):=by kernel_rfl
theorem tf28_1:tyField Tryd.prog 28 1=some (1,3):=by kernel_rfl
theorem tf28_2:tyField Tryd.prog 28 2=some (2,9):=by kernel_rfl
theorem tf28_3:tyField Tryd.prog 28 3=some (3,3):=by kernel_rfl
theorem tq28:tyFlat Tryd.prog 28=some [0,0,2,0]:=by kernel_rfl
theorem tp28:tyPlaces Tryd.prog 28=some [(0,1),(1,1),(2,1),(3,1)]:=by kernel_rfl
theorem tz28:tyZero Tryd.prog 28=some [Value.int IntKind.i64 0,Value.int IntKind.i64 0,Value.string ByteArray.empty,Value.int IntKind.i64 0]:=by kernel_rfl
theorem tk30:tyK Tryd.prog 30=some (false,1):=by kernel_rfl
theorem tr30:tyRow Tryd.prog 30=some 1:=by kernel_rfl
theorem tu30:Tryd.prog.underlying 30=some (TypeDesc.slice 61):=by kernel_rfl
theorem te30:tyElem Tryd.prog 30=some 61:=by kernel_rfl
theorem tz30:tyZero Tryd.prog 30=some [Value.slice none 0 0]:=by kernel_rfl
theorem tk32:tyK Tryd.prog 32=some (true,1):=by kernel_rfl
theorem tr32:tyRow Tryd.prog 32=some 1:=by kernel_rfl
theorem tf32_0:tyField Tryd.prog 32 0=some (0,30):=by kernel_rfl
theorem tp32:tyPlaces Tryd.prog 32=some [(0,1)]:=by kernel_rfl
theorem tz32:tyZero Tryd.prog 32=some [Value.slice none 0 0]:=by kernel_rfl
theorem tk46:tyK Tryd.prog 46=some (false,1):=by kernel_rfl
theorem tr46:tyRow Tryd.prog 46=some 1:=by kernel_rfl
theorem tu46:Tryd.prog.underlying 46=some (TypeDesc.pointer 48):=by kernel_rfl
theorem tz46:tyZero Tryd.prog 46=some [Value.pointer none]:=by kernel_rfl
theorem tk48:tyK Tryd.prog 48=some (true,4):=by kernel_rfl
theorem tr48:tyRow Tryd.prog 48=some 4:=by kernel_rfl
theorem tf48_0:tyField Tryd.prog 48 0=some (0,32):=by kernel_rfl
theorem tf48_1:tyField Tryd.prog 48 1=some (1,25):=by kernel_rfl
theorem tf48_2:tyField Tryd.prog 48 2=some (2,9):=by kernel_rfl
theorem tf48_3:tyField Tryd.prog 48 3=some (3,3):=by kernel_rfl
theorem tp48:tyPlaces Tryd.prog 48=some [(0,1),(1,1),(2,1),(3,1)]:=by kernel_rfl
theorem tz48:tyZero Tryd.prog 48=some [Value.slice none 0 0,Value.slice none 0 0,Value.string ByteArray.empty,Value.int IntKind.i64 0]:=by kernel_rfl
theorem tk52:tyK Tryd.prog 52=some (false,1):=by kernel_rfl
theorem tr52:tyRow Tryd.prog 52=some 1:=by kernel_rfl
theorem tu52:Tryd.prog.underlying 52=some (TypeDesc.slice 9):=by kernel_rfl
theorem te52:tyElem Tryd.prog 52=some 9:=by kernel_rfl
theorem tz52:tyZero Tryd.prog 52=some [Value.slice none 0 0]:=by kernel_rfl
theorem tk53:tyK Tryd.prog 53=some (false,1):=by kernel_rfl
theorem tr53:tyRow Tryd.prog 53=some 1:=by kernel_rfl
theorem tu53:Tryd.prog.underlying 53=some (TypeDesc.slice 3):=by kernel_rfl
theorem te53:tyElem Tryd.prog 53=some 3:=by kernel_rfl
theorem tz53:tyZero Tryd.prog 53=some [Value.slice none 0 0]:=by kernel_rfl
theorem tk55:tyK Tryd.prog 55=some (true,8):=by kernel_rfl
theorem tr55:tyRow Tryd.prog 55=some 8:=by kernel_rfl
theorem tf55_0:tyField Tryd.prog 55 0=some (0,9):=by kernel_rfl
theorem tf55_1:tyField Tryd.prog 55 1=some (1,3):=by kernel_rfl
theorem tf55_2:tyField Tryd.prog 55 2=some (2,3):=by kernel_rfl
theorem tf55_3:tyField Tryd.prog 55 3=some (3,4):=by kernel_rfl
theorem tf55_4:tyField Tryd.prog 55 4=some (4,25):=by kernel_rfl
theorem tf55_5:tyField Tryd.prog 55 5=some (5,52):=by kernel_rfl
theorem tf55_6:tyField Tryd.prog 55 6=some (6,53):=by kernel_rfl
theorem tf55_7:tyField Tryd.prog 55 7=some (7,53):=by kernel_rfl
theorem tp55:tyPlaces Tryd.prog 55=some [(0,1),(1,1),(2,1),(3,1),(4,1),(5,1),(6,1),(7,1)]:=by kernel_rfl
theorem tz55:tyZero Tryd.prog 55=some [Value.string ByteArray.empty,Value.int IntKind.i64 0,Value.int IntKind.i64 0,Value.bool false,Value.slice none 0 0,Value.slice none 0 0,Value.slice none 0 0,Value.slice none 0 0]:=by kernel_rfl
theorem tk56:tyK Tryd.prog 56=some (false,1):=by kernel_rfl
theorem tr56:tyRow Tryd.prog 56=some 1:=by kernel_rfl
theorem tu56:Tryd.prog.underlying 56=some (TypeDesc.slice 58):=by kernel_rfl
theorem te56:tyElem Tryd.prog 56=some 58:=by kernel_rfl
theorem tz56:tyZero Tryd.prog 56=some [Value.slice none 0 0]:=by kernel_rfl
theorem tk58:tyK Tryd.prog 58=some (true,3):=by kernel_rfl
theorem tr58:tyRow Tryd.prog 58=some 3:=by kernel_rfl
theorem tf58_0:tyField Tryd.prog 58 0=some (0,3):=by kernel_rfl
theorem tf58_1:tyField Tryd.prog 58 1=some (1,25):=by kernel_rfl
theorem tf58_2:tyField Tryd.prog 58 2=some (2,56):=by kernel_rfl
theorem tp58:tyPlaces Tryd.prog 58=some [(0,1),(1,1),(2,1)]:=by kernel_rfl
theorem tz58:tyZero Tryd.prog 58=some [Value.int IntKind.i64 0,Value.slice none 0 0,Value.slice none 0 0]:=by kernel_rfl
theorem tk61:tyK Tryd.prog 61=some (true,8):=by kernel_rfl
theorem tr61:tyRow Tryd.prog 61=some 8:=by kernel_rfl
theorem tf61_0:tyField Tryd.prog 61 0=some (0,9):=by kernel_rfl
theorem tf61_1:tyField Tryd.prog 61 1=some (1,3):=by kernel_rfl
theorem tf61_2:tyField Tryd.prog 61 2=some (2,3):=by kernel_rfl
theorem tf61_3:tyField Tryd.prog 61 3=some (3,4):=by kernel_rfl
theorem tf61_4:tyField Tryd.prog 61 4=some (4,25):=by kernel_rfl
theorem tf61_5:tyField Tryd.prog 61 5=some (5,52):=by kernel_rfl
theorem tf61_6:tyField Tryd.prog 61 6=some (6,53):=by kernel_rfl
theorem tf61_7:tyField Tryd.prog 61 7=some (7,53):=by kernel_rfl
theorem tp61:tyPlaces Tryd.prog 61=some [(0,1),(1,1),(2,1),(3,1),(4,1),(5,1),(6,1),(7,1)]:=by kernel_rfl
theorem tz61:tyZero Tryd.prog 61=some [Value.string ByteArray.empty,Value.int IntKind.i64 0,Value.int IntKind.i64 0,Value.bool false,Value.slice none 0 0,Value.slice none 0 0,Value.slice none 0 0,Value.slice none 0 0]:=by kernel_rfl
theorem tk70:tyK Tryd.prog 70=some (true,2):=by kernel_rfl
theorem tr70:tyRow Tryd.prog 70=some 2:=by kernel_rfl
theorem tf70_0:tyField Tryd.prog 70 0=some (0,3):=by kernel_rfl
theorem tf70_1:tyField Tryd.prog 70 1=some (1,3):=by kernel_rfl
theorem tq70:tyFlat Tryd.prog 70=some [0,0]:=by kernel_rfl
theorem tp70:tyPlaces Tryd.prog 70=some [(0,1),(1,1)]:=by kernel_rfl
theorem tz70:tyZero Tryd.prog 70=some [Value.int IntKind.i64 0,Value.int IntKind.i64 0]:=by kernel_rfl
theorem tk75:tyK Tryd.prog 75=some (false,1):=by kernel_rfl
theorem tr75:tyRow Tryd.prog 75=some 1:=by kernel_rfl
theorem tu75:Tryd.prog.underlying 75=some (TypeDesc.func #[3] #[4] false):=by kernel_rfl
theorem tz75:tyZero Tryd.prog 75=some [Value.nilFunc]:=by kernel_rfl
theorem tk92:tyK Tryd.prog 92=some (false,1):=by kernel_rfl
theorem tr92:tyRow Tryd.prog 92=some 1:=by kernel_rfl
theorem tu92:Tryd.prog.underlying 92=some (TypeDesc.pointer 94):=by kernel_rfl
theorem tz92:tyZero Tryd.prog 92=some [Value.pointer none]:=by kernel_rfl
theorem tk94:tyK Tryd.prog 94=some (true,3):=by kernel_rfl
theorem tr94:tyRow Tryd.prog 94=some 3:=by kernel_rfl
theorem tf94_0:tyField Tryd.prog 94 0=some (0,32):=by kernel_rfl
theorem tf94_1:tyField Tryd.prog 94 1=some (1,25):=by kernel_rfl
theorem tf94_2:tyField Tryd.prog 94 2=some (2,3):=by kernel_rfl
theorem tp94:tyPlaces Tryd.prog 94=some [(0,1),(1,1),(2,1)]:=by kernel_rfl
theorem tz94:tyZero Tryd.prog 94=some [Value.slice none 0 0,Value.slice none 0 0,Value.int IntKind.i64 0]:=by kernel_rfl
theorem ai {a b:Prop} (h:a) (k:b):a∧b:=⟨h,k⟩
set_option linter.defProp false
def tg3:=ai (ai tk3 tr3) (ai tu3 tz3)
def tg4:=ai (ai tk4 tr4) (ai tu4 tz4)
def tg5:=ai (ai tk5 tr5) (ai tu5 tz5)
def tg9:=ai (ai tk9 tr9) (ai tu9 tz9)
def tg22:=ai (ai tk22 tr22) (ai tu22 (ai te22 tz22))
def tg24:=ai (ai tk24 tr24) (ai tf24_0 (ai tp24 tz24))
def tg25:=ai (ai tk25 (ai tr25 tu25)) (ai te25 (ai tb25 tz25))
def tg28:=ai (ai (ai tk28 tr28) (ai tf28_0 tf28_1)) (ai (ai tf28_2 tf28_3) (ai tq28 (ai tp28 tz28)))
def tg30:=ai (ai tk30 tr30) (ai tu30 (ai te30 tz30))
def tg32:=ai (ai tk32 tr32) (ai tf32_0 (ai tp32 tz32))
def tg46:=ai (ai tk46 tr46) (ai tu46 tz46)
def tg48:=ai (ai (ai tk48 tr48) (ai tf48_0 tf48_1)) (ai (ai tf48_2 tf48_3) (ai tp48 tz48))
def tg52:=ai (ai tk52 tr52) (ai tu52 (ai te52 tz52))
def tg53:=ai (ai tk53 tr53) (ai tu53 (ai te53 tz53))
def tg55:=ai (ai (ai tk55 (ai tr55 tf55_0)) (ai tf55_1 (ai tf55_2 tf55_3))) (ai (ai tf55_4 (ai tf55_5 tf55_6)) (ai tf55_7 (ai tp55 tz55)))
def tg56:=ai (ai tk56 tr56) (ai tu56 (ai te56 tz56))
def tg58:=ai (ai tk58 (ai tr58 tf58_0)) (ai (ai tf58_1 tf58_2) (ai tp58 tz58))
def tg61:=ai (ai (ai tk61 (ai tr61 tf61_0)) (ai tf61_1 (ai tf61_2 tf61_3))) (ai (ai tf61_4 (ai tf61_5 tf61_6)) (ai tf61_7 (ai tp61 tz61)))
def tg70:=ai (ai tk70 (ai tr70 tf70_0)) (ai (ai tf70_1 tq70) (ai tp70 tz70))
def tg75:=ai (ai tk75 tr75) (ai tu75 tz75)
def tg92:=ai (ai tk92 tr92) (ai tu92 tz92)
def tg94:=ai (ai tk94 (ai tr94 tf94_0)) (ai (ai tf94_1 tf94_2) (ai tp94 tz94))
end Go.Proofs.YtecdbogicpffeabDoor.Eng
