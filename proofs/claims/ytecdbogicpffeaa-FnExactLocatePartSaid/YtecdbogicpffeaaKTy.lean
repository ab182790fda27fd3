/-
 Facts of the types, in the engine's words.
-/
import Derived.Test.YtecdbogicpffeaaProg
import Derived.Test.YtecdbogicpffeaaKE1
import Derived.KernelRfl
namespace Go.Proofs.Ytecdbogicpffeaa.Eng
open Go Go.RowKit
theorem tk3:tyK Try.prog 3=some (false,1):=by kernel_rfl
theorem tr3:tyRow Try.prog 3=some 1:=by kernel_rfl
theorem tu3:Try.prog.underlying 3=some (TypeDesc.int IntKind.i64):=by kernel_rfl
theorem tz3:tyZero Try.prog 3=some [Value.int IntKind.i64 0]:=by kernel_rfl
theorem tk4:tyK Try.prog 4=some (false,1):=by kernel_rfl
theorem tr4:tyRow Try.prog 4=some 1:=by kernel_rfl
theorem tu4:Try.prog.underlying 4=some (TypeDesc.bool):=by kernel_rfl
theorem tz4:tyZero Try.prog 4=some [Value.bool false]:=by kernel_rfl
theorem tk5:tyK Try.prog 5=some (false,1):=by kernel_rfl
theorem tr5:tyRow Try.prog 5=some 1:=by kernel_rfl
theorem tu5:Try.prog.underlying 5=some (TypeDesc.int IntKind.u8):=by kernel_rfl
theorem tz5:tyZero Try.prog 5=some [Value.int IntKind.u8 0]:=by kernel_rfl
theorem tk9:tyK Try.prog 9=some (false,1):=by kernel_rfl
theorem tr9:tyRow Try.prog 9=some 1:=by kernel_rfl
theorem tu9:Try.prog.underlying 9=some (TypeDesc.string):=by kernel_rfl
theorem tz9:tyZero Try.prog 9=some [Value.string ByteArray.empty]:=by kernel_rfl
theorem tk22:tyK Try.prog 22=some (false,1):=by kernel_rfl
theorem tr22:tyRow Try.prog 22=some 1:=by kernel_rfl
theorem tu22:Try.prog.underlying 22=some (TypeDesc.slice 5):=by kernel_rfl
theorem te22:tyElem Try.prog 22=some 5:=by kernel_rfl
theorem tb22:bytesT Try.prog 22=true:=by kernel_rfl
theorem tz22:tyZero Try.prog 22=some [Value.slice none 0 0]:=by kernel_rfl
theorem tk24:tyK Try.prog 24=some (false,1):=by kernel_rfl
theorem tr24:tyRow Try.prog 24=some 1:=by kernel_rfl
theorem tu24:Try.prog.underlying 24=some (TypeDesc.slice 57):=by kernel_rfl
theorem te24:tyElem Try.prog 24=some 57:=by kernel_rfl
theorem tz24:tyZero Try.prog 24=some [Value.slice none 0 0]:=by kernel_rfl
theorem tk26:tyK Try.prog 26=some (true,1):=by kernel_rfl
theorem tr26:tyRow Try.prog 26=some 1:=by kernel_rfl
theorem tf26_0:tyField Try.prog 26 0=some (0,24):=by kernel_rfl
theorem tp26:tyPlaces Try.prog 26=some [(0,1)]:=by kernel_rfl
theorem tz26:tyZero Try.prog 26=some [Value.slice none 0 0]:=by kernel_rfl
theorem tk28:tyK Try.prog 28=some (false,1):=by kernel_rfl
theorem tr28:tyRow Try.prog 28=some 1:=by kernel_rfl
theorem tu28:Try.prog.underlying 28=some (TypeDesc.slice 33):=by kernel_rfl
theorem te28:tyElem Try.prog 28=some 33:=by kernel_rfl
theorem tz28:tyZero Try.prog 28=some [Value.slice none 0 0]:=by kernel_rfl
theorem tk33:tyK Try.prog 33=some (true,3):=by kernel_rfl
theorem tr33:tyRow Try.prog 33=some 3:=by kernel_rfl
theorem tf33_0:tyField Try.prog 33 0=some (0,3):=by kernel_rfl
theorem tf33_1:tyField Try.prog 33 1=some (1,22):=by kernel_rfl
theorem tf33_2:tyField Try.prog 33 2=some (2,28):=by kernel_rfl
theorem tp33:tyPlaces Try.prog 33=some [(0,1),(1,1),(2,1)]:=by kernel_rfl
theorem tz33:tyZero Try.prog 33=some [Value.int IntKind.i64 0,Value.slice none 0 0,Value.slice none 0 0]:=by kernel_rfl
theorem tk54:tyK Try.prog 54=some (false,1):=by kernel_rfl
theorem tr54:tyRow Try.prog 54=some 1:=by kernel_rfl
theorem tu54:Try.prog.underlying 54=some (TypeDesc.slice 9):=by kernel_rfl
theorem te54:tyElem Try.prog 54=some 9:=by kernel_rfl
theorem tz54:tyZero Try.prog 54=some [Value.slice none 0 0]:=by kernel_rfl
theorem tk55:tyK Try.prog 55=some (false,1):=by kernel_rfl
theorem tr55:tyRow Try.prog 55=some 1:=by kernel_rfl
theorem tu55:Try.prog.underlying 55=some (TypeDesc.slice 3):=by kernel_rfl
theorem te55:tyElem Try.prog 55=some 3:=by kernel_rfl
theorem tz55:tyZero Try.prog 55=some [Value.slice none 0 0]:=by kernel_rfl
theorem tk57:tyK Try.prog 57=some (true,8):=by kernel_rfl
theorem tr57:tyRow Try.prog 57=some 8:=by kernel_rfl
theorem tf57_0:tyField Try.prog 57 0=some (0,9):=by kernel_rfl
theorem tf57_1:tyField Try.prog 57 1=some (1,3):=by kernel_rfl
theorem tf57_2:tyField Try.prog 57 2=some (2,3):=by kernel_rfl
theorem tf57_3:tyField Try.prog 57 3=some (3,4):=by kernel_rfl
theorem tf57_4:tyField Try.prog 57 4=some (4,22):=by kernel_rfl
theorem tf57_5:tyField Try.prog 57 5=some (5,54):=by kernel_rfl
theorem tf57_6:tyField Try.prog 57 6=some (6,55):=by kernel_rfl
theorem tf57_7:tyField Try.prog 57 7=some (7,55):=by kernel_rfl
theorem tp57:tyPlaces Try.prog 57=some [(0,1),(1,1),(2,1),(3,1),(4,1),(5,1),(6,1),(7,1)]:=by kernel_rfl
theorem tz57:tyZero Try.prog 57=some [Value.string ByteArray.empty,Value.int IntKind.i64 0,Value.int IntKind.i64 0,Value.bool false,Value.slice none 0 0,Value.slice none 0 0,Value.slice none 0 0,Value.slice none 0 0]:=by kernel_rfl
theorem tk58:tyK Try.prog 58=some (false,1):=by kernel_rfl
theorem tr58:tyRow Try.prog 58=some 1:=by kernel_rfl
theorem tu58:Try.prog.underlying 58=some (TypeDesc.slice 143):=by kernel_rfl
theorem te58:tyElem Try.prog 58=some 143:=by kernel_rfl
theorem tz58:tyZero Try.prog 58=some [Value.slice none 0 0]:=by kernel_rfl
theorem tk60:tyK Try.prog 60=some (true,1):=by kernel_rfl
theorem tr60:tyRow Try.prog 60=some 1:=by kernel_rfl
theorem tf60_0:tyField Try.prog 60 0=some (0,58):=by kernel_rfl
theorem tp60:tyPlaces Try.prog 60=some [(0,1)]:=by kernel_rfl
theorem tz60:tyZero Try.prog 60=some [Value.slice none 0 0]:=by kernel_rfl
theorem tk63:tyK Try.prog 63=some (true,4):=by kernel_rfl
theorem tr63:tyRow Try.prog 63=some 4:=by kernel_rfl
theorem tf63_0:tyField Try.prog 63 0=some (0,9):=by kernel_rfl
theorem tf63_1:tyField Try.prog 63 1=some (1,3):=by kernel_rfl
theorem tf63_2:tyField Try.prog 63 2=some (2,3):=by kernel_rfl
theorem tf63_3:tyField Try.prog 63 3=some (3,3):=by kernel_rfl
theorem tq63:tyFlat Try.prog 63=some [2,0,0,0]:=by kernel_rfl
theorem tp63:tyPlaces Try.prog 63=some [(0,1),(1,1),(2,1),(3,1)]:=by kernel_rfl
theorem tz63:tyZero Try.prog 63=some [Value.string ByteArray.empty,Value.int IntKind.i64 0,Value.int IntKind.i64 0,Value.int IntKind.i64 0]:=by kernel_rfl
theorem tk104:tyK Try.prog 104=some (false,1):=by kernel_rfl
theorem tr104:tyRow Try.prog 104=some 1:=by kernel_rfl
theorem tu104:Try.prog.underlying 104=some (TypeDesc.pointer 106):=by kernel_rfl
theorem tz104:tyZero Try.prog 104=some [Value.pointer none]:=by kernel_rfl
theorem tk106:tyK Try.prog 106=some (true,4):=by kernel_rfl
theorem tr106:tyRow Try.prog 106=some 4:=by kernel_rfl
theorem tf106_0:tyField Try.prog 106 0=some (0,26):=by kernel_rfl
theorem tf106_1:tyField Try.prog 106 1=some (1,22):=by kernel_rfl
theorem tf106_2:tyField Try.prog 106 2=some (2,3):=by kernel_rfl
theorem tf106_3:tyField Try.prog 106 3=some (3,3):=by kernel_rfl
theorem tp106:tyPlaces Try.prog 106=some [(0,1),(1,1),(2,1),(3,1)]:=by kernel_rfl
theorem tz106:tyZero Try.prog 106=some [Value.slice none 0 0,Value.slice none 0 0,Value.int IntKind.i64 0,Value.int IntKind.i64 0]:=by kernel_rfl
theorem tk107:tyK Try.prog 107=some (false,1):=by kernel_rfl
theorem tr107:tyRow Try.prog 107=some 1:=by kernel_rfl
theorem tu107:Try.prog.underlying 107=some (TypeDesc.func #[9] #[4] false):=by kernel_rfl
theorem tz107:tyZero Try.prog 107=some [Value.nilFunc]:=by kernel_rfl
theorem tk108:tyK Try.prog 108=some (false,1):=by kernel_rfl
theorem tr108:tyRow Try.prog 108=some 1:=by kernel_rfl
theorem tu108:Try.prog.underlying 108=some (TypeDesc.func #[3] #[4] false):=by kernel_rfl
theorem tz108:tyZero Try.prog 108=some [Value.nilFunc]:=by kernel_rfl
theorem tk116:tyK Try.prog 116=some (false,1):=by kernel_rfl
theorem tr116:tyRow Try.prog 116=some 1:=by kernel_rfl
theorem tu116:Try.prog.underlying 116=some (TypeDesc.func #[3,3] #[4] false):=by kernel_rfl
theorem tz116:tyZero Try.prog 116=some [Value.nilFunc]:=by kernel_rfl
theorem tk143:tyK Try.prog 143=some (true,8):=by kernel_rfl
theorem tr143:tyRow Try.prog 143=some 8:=by kernel_rfl
theorem tf143_0:tyField Try.prog 143 0=some (0,9):=by kernel_rfl
theorem tf143_1:tyField Try.prog 143 1=some (1,3):=by kernel_rfl
theorem tf143_2:tyField Try.prog 143 2=some (2,3):=by kernel_rfl
theorem tf143_3:tyField Try.prog 143 3=some (3,4):=by kernel_rfl
theorem tf143_4:tyField Try.prog 143 4=some (4,22):=by kernel_rfl
theorem tf143_5:tyField Try.prog 143 5=some (5,54):=by kernel_rfl
theorem tf143_6:tyField Try.prog 143 6=some (6,55):=by kernel_rfl
theorem tf143_7:tyField Try.prog 143 7=some (7,55):=by kernel_rfl
theorem tp143:tyPlaces Try.prog 143=some [(0,1),(1,1),(2,1),(3,1),(4,1),(5,1),(6,1),(7,1)]:=by kernel_rfl
theorem tz143:tyZero Try.prog 143=some [Value.string ByteArray.empty,Value.int IntKind.i64 0,Value.int IntKind.i64 0,Value.bool false,Value.slice none 0 0,Value.slice none 0 0,Value.slice none 0 0,Value.slice none 0 0]:=by kernel_rfl
theorem tk184:tyK Try.prog 184=some (false,1):=by kernel_rfl
theorem tr184:tyRow Try.prog 184=some 1:=by kernel_rfl
theorem tu184:Try.prog.underlying 184=some (TypeDesc.pointer 186):=by kernel_rfl
theorem tz184:tyZero Try.prog 184=some [Value.pointer none]:=by kernel_rfl
theorem tk186:tyK Try.prog 186=some (true,3):=by kernel_rfl
theorem tr186:tyRow Try.prog 186=some 3:=by kernel_rfl
theorem tf186_0:tyField Try.prog 186 0=some (0,26):=by kernel_rfl
theorem tf186_1:tyField Try.prog 186 1=some (1,22):=by kernel_rfl
theorem tf186_2:tyField Try.prog 186 2=some (2,3):=by kernel_rfl
theorem tp186:tyPlaces Try.prog 186=some [(0,1),(1,1),(2,1)]:=by kernel_rfl
theorem tz186:tyZero Try.prog 186=some [Value.slice none 0 0,Value.slice none 0 0,Value.int IntKind.i64 0]:=by kernel_rfl
theorem tk188:tyK Try.prog 188=some (true,2):=by kernel_rfl
theorem tr188:tyRow Try.prog 188=some 2:=by kernel_rfl
theorem tf188_0:tyField Try.prog 188 0=some (0,3):=by kernel_rfl
theorem tf188_1:tyField Try.prog 188 1=some (1,3):=by kernel_rfl
theorem tq188:tyFlat Try.prog 188=some [0,0]:=by kernel_rfl
theorem tp188:tyPlaces Try.prog 188=some [(0,1),(1,1)]:=by kernel_rfl
theorem tz188:tyZero Try.prog 188=some [Value.int IntKind.i64 0,Value.int IntKind.i64 0]:=by kernel_rfl
theorem ai {a b:Prop} (h:a) (k:b):a∧b:=⟨h,k⟩
set_option linter.defProp false
def tg3:=ai (ai tk3 tr3) (ai tu3 tz3)
def tg4:=ai (ai tk4 tr4) (ai tu4 tz4)
def tg5:=ai (ai tk5 tr5) (ai tu5 tz5)
def tg9:=ai (ai tk9 tr9) (ai tu9 tz9)
def tg22:=ai (ai tk22 (ai tr22 tu22)) (ai te22 (ai tb22 tz22))
def tg24:=ai (ai tk24 tr24) (ai tu24 (ai te24 tz24))
def tg26:=ai (ai tk26 tr26) (ai tf26_0 (ai tp26 tz26))
def tg28:=ai (ai tk28 tr28) (ai tu28 (ai te28 tz28))
def tg33:=ai (ai tk33 (ai tr33 tf33_0)) (ai (ai tf33_1 tf33_2) (ai tp33 tz33))
def tg54:=ai (ai tk54 tr54) (ai tu54 (ai te54 tz54))
def tg55:=ai (ai tk55 tr55) (ai tu55 (ai te55 tz55))
def tg57:=ai (ai (ai tk57 (ai tr57 tf57_0)) (ai tf57_1 (ai tf57_2 tf57_3))) (ai (ai tf57_4 (ai tf57_5 tf57_6)) (ai tf57_7 (ai tp57 tz57)))
def tg58:=ai (ai tk58 tr58) (ai tu58 (ai te58 tz58))
def tg60:=ai (ai tk60 tr60) (ai tf60_0 (ai tp60 tz60))
def tg63:=ai (ai (ai tk63 tr63) (ai tf63_0 tf63_1)) (ai (ai tf63_2 tf63_3) (ai tq63 (ai tp63 tz63)))
def tg104:=ai (ai tk104 tr104) (ai tu104 tz104)
def tg106:=ai (ai (ai tk106 tr106) (ai tf106_0 tf106_1)) (ai (ai tf106_2 tf106_3) (ai tp106 tz106))
def tg107:=ai (ai tk107 tr107) (ai tu107 tz107)
def tg108:=ai (ai tk108 tr108) (ai tu108 tz108)
def tg116:=ai (ai tk116 tr116) (ai tu116 tz116)
def tg143:=ai (ai (ai tk143 (ai tr143 tf143_0)) (ai tf143_1 (ai tf143_2 tf143_3))) (ai (ai tf143_4 (ai tf143_5 tf143_6)) (ai tf143_7 (ai tp143 tz143)))
def tg184:=ai (ai tk184 tr184) (ai tu184 tz184)
def tg186:=ai (ai tk186 (ai tr186 tf186_0)) (ai (ai tf186_1 tf186_2) (ai tp186 tz186))
def tg188:=ai (ai tk188 (ai tr188 tf188_0)) (ai (ai tf188_1 tq188) (ai tp188 tz188))
end Go.Proofs.Ytecdbogicpffeaa.Eng
