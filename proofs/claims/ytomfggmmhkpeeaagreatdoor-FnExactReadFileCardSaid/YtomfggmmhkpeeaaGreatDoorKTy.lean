/-
 Facts of the types, in the engine's words.
-/
import Derived.Test.YtomfggmmhkpeeaaGreatDoorProg
import Derived.Test.YtomfggmmhkpeeaaGreatDoorKE1
import Derived.KernelRfl
namespace Go.Proofs.YtomfggmmhkpeeaaGreatDoor.Eng
open Go Go.RowKit
theorem tk3:tyK Tryz.prog 3=some (false,1):=by kernel_rfl
theorem tr3:tyRow Tryz.prog 3=some 1:=by kernel_rfl
theorem tu3:Tryz.prog.underlying 3=some (TypeDesc.int IntKind.i64):=by kernel_rfl
theorem tz3:tyZero Tryz.prog 3=some [Value.int IntKind.i64 0]:=by kernel_rfl
theorem tk4:tyK Tryz.prog 4=some (false,1):=by kernel_rfl
theorem tr4:tyRow Tryz.prog 4=some 1:=by kernel_rfl
theorem tu4:Tryz.prog.underlying 4=some (TypeDesc.bool):=by kernel_rfl
theorem tz4:tyZero Tryz.prog 4=some [Value.bool false]:=by kernel_rfl
theorem tk5:tyK Tryz.prog 5=some (false,1):=by kernel_rfl
theorem tr5:tyRow Tryz.prog 5=some 1:=by kernel_rfl
theorem tu5:Tryz.prog.underlying 5=some (TypeDesc.int IntKind.u8):=by kernel_rfl
theorem tz5:tyZero Tryz.prog 5=some [Value.int IntKind.u8 0]:=by kernel_rfl
theorem tk9:tyK Tryz.prog 9=some (false,1):=by kernel_rfl
theorem tr9:tyRow Tryz.prog 9=some 1:=by kernel_rfl
theorem tu9:Tryz.prog.underlying 9=some (TypeDesc.string):=by kernel_rfl
theorem tz9:tyZero Tryz.prog 9=some [Value.string ByteArray.empty]:=by kernel_rfl
theorem tk20:tyK Tryz.prog 20=some (false,1):=by kernel_rfl
theorem tr20:tyRow Tryz.prog 20=some 1:=by kernel_rfl
theorem tu20:Tryz.prog.underlying 20=some (TypeDesc.interface #[]):=by kernel_rfl
theorem tz20:tyZero Tryz.prog 20=some [Value.nilIface]:=by kernel_rfl
theorem tk22:tyK Tryz.prog 22=some (false,1):=by kernel_rfl
theorem tr22:tyRow Tryz.prog 22=some 1:=by kernel_rfl
theorem tu22:Tryz.prog.underlying 22=some (TypeDesc.slice 91):=by kernel_rfl
theorem te22:tyElem Tryz.prog 22=some 91:=by kernel_rfl
theorem tz22:tyZero Tryz.prog 22=some [Value.slice none 0 0]:=by kernel_rfl
theorem tk24:tyK Tryz.prog 24=some (true,1):=by kernel_rfl
theorem tr24:tyRow Tryz.prog 24=some 1:=by kernel_rfl
theorem tf24_0:tyField Tryz.prog 24 0=some (0,22):=by kernel_rfl
theorem tp24:tyPlaces Tryz.prog 24=some [(0,1)]:=by kernel_rfl
theorem tz24:tyZero Tryz.prog 24=some [Value.slice none 0 0]:=by kernel_rfl
theorem tk25:tyK Tryz.prog 25=some (false,1):=by kernel_rfl
theorem tr25:tyRow Tryz.prog 25=some 1:=by kernel_rfl
theorem tu25:Tryz.prog.underlying 25=some (TypeDesc.slice 5):=by kernel_rfl
theorem te25:tyElem Tryz.prog 25=some 5:=by kernel_rfl
theorem tb25:bytesT Tryz.prog 25=true:=by kernel_rfl
theorem tz25:tyZero Tryz.prog 25=some [Value.slice none 0 0]:=by kernel_rfl
theorem tk27:tyK Tryz.prog 27=some (false,1):=by kernel_rfl
theorem tr27:tyRow Tryz.prog 27=some 1:=by kernel_rfl
theorem tu27:Tryz.prog.underlying 27=some (TypeDesc.slice 29):=by kernel_rfl
theorem te27:tyElem Tryz.prog 27=some 29:=by kernel_rfl
theorem tz27:tyZero Tryz.prog 27=some [Value.slice none 0 0]:=by kernel_rfl
theorem tk29:tyK Tryz.prog 29=some (true,3):=by kernel_rfl
theorem tr29:tyRow Tryz.prog 29=some 3:=by kernel_rfl
theorem tf29_0:tyField Tryz.prog 29 0=some (0,3):=by kernel_rfl
theorem tf29_1:tyField Tryz.prog 29 1=some (1,25):=by kernel_rfl
theorem tf29_2:tyField Tryz.prog 29 2=some (2,27):=by kernel_rfl
theorem tp29:tyPlaces Tryz.prog 29=some [(0,1),(1,1),(2,1)]:=by kernel_rfl
theorem tz29:tyZero Tryz.prog 29=some [Value.int IntKind.i64 0,Value.slice none 0 0,Value.slice none 0 0]:=by kernel_rfl
theorem tk32:tyK Tryz.prog 32=some (false,1):=by kernel_rfl
theorem tr32:tyRow Tryz.prog 32=some 1:=by kernel_rfl
theorem tu32:Tryz.prog.underlying 32=some (TypeDesc.slice 89):=by kernel_rfl
theorem te32:tyElem Tryz.prog 32=some 89:=by kernel_rfl
theorem tz32:tyZero Tryz.prog 32=some [Value.slice none 0 0]:=by kernel_rfl
theorem tk34:tyK Tryz.prog 34=some (true,1):=by kernel_rfl
theorem tr34:tyRow Tryz.prog 34=some 1:=by kernel_rfl
theorem tf34_0:tyField Tryz.prog 34 0=some (0,32):=by kernel_rfl
theorem tp34:tyPlaces Tryz.prog 34=some [(0,1)]:=by kernel_rfl
theorem tz34:tyZero Tryz.prog 34=some [Value.slice none 0 0]:=by kernel_rfl
theorem tk57:tyK Tryz.prog 57=some (false,1):=by kernel_rfl
theorem tr57:tyRow Tryz.prog 57=some 1:=by kernel_rfl
theorem tu57:Tryz.prog.underlying 57=some (TypeDesc.pointer 59):=by kernel_rfl
theorem tz57:tyZero Tryz.prog 57=some [Value.pointer none]:=by kernel_rfl
theorem tk59:tyK Tryz.prog 59=some (true,2):=by kernel_rfl
theorem tr59:tyRow Tryz.prog 59=some 2:=by kernel_rfl
theorem tf59_0:tyField Tryz.prog 59 0=some (0,34):=by kernel_rfl
theorem tf59_1:tyField Tryz.prog 59 1=some (1,25):=by kernel_rfl
theorem tp59:tyPlaces Tryz.prog 59=some [(0,1),(1,1)]:=by kernel_rfl
theorem tz59:tyZero Tryz.prog 59=some [Value.slice none 0 0,Value.slice none 0 0]:=by kernel_rfl
theorem tk61:tyK Tryz.prog 61=some (false,1):=by kernel_rfl
theorem tr61:tyRow Tryz.prog 61=some 1:=by kernel_rfl
theorem tu61 : Tryz.prog.underlying 61 = some (TypeDesc.interface #[("Error", 215)]) := by kernel_rfl
theorem tz61:tyZero Tryz.prog 61=some [Value.nilIface]:=by kernel_rfl
theorem tk64:tyK Tryz.prog 64=some (false,1):=by kernel_rfl
theorem tr64:tyRow Tryz.prog 64=some 1:=by kernel_rfl
theorem tu64:Tryz.prog.underlying 64=some (TypeDesc.pointer 68):=by kernel_rfl
theorem tz64:tyZero Tryz.prog 64=some [Value.pointer none]:=by kernel_rfl
theorem tk66:tyK Tryz.prog 66=some (false,1):=by kernel_rfl
theorem tr66:tyRow Tryz.prog 66=some 1:=by kernel_rfl
theorem tu66:Tryz.prog.underlying 66=some (TypeDesc.pointer 64):=by kernel_rfl
theorem tz66:tyZero Tryz.prog 66=some [Value.pointer none]:=by kernel_rfl
theorem tk68:tyK Tryz.prog 68=some (true,2):=by kernel_rfl
theorem tr68:tyRow Tryz.prog 68=some 2:=by kernel_rfl
theorem tf68_0:tyField Tryz.prog 68 0=some (0,3):=by kernel_rfl
theorem tf68_1:tyField Tryz.prog 68 1=some (1,3):=by kernel_rfl
theorem tq68:tyFlat Tryz.prog 68=some [0,0]:=by kernel_rfl
theorem tp68:tyPlaces Tryz.prog 68=some [(0,1),(1,1)]:=by kernel_rfl
theorem tz68:tyZero Tryz.prog 68=some [Value.int IntKind.i64 0,Value.int IntKind.i64 0]:=by kernel_rfl
theorem tk86:tyK Tryz.prog 86=some (false,1):=by kernel_rfl
theorem tr86:tyRow Tryz.prog 86=some 1:=by kernel_rfl
theorem tu86:Tryz.prog.underlying 86=some (TypeDesc.slice 9):=by kernel_rfl
theorem te86:tyElem Tryz.prog 86=some 9:=by kernel_rfl
theorem tz86:tyZero Tryz.prog 86=some [Value.slice none 0 0]:=by kernel_rfl
theorem tk87:tyK Tryz.prog 87=some (false,1):=by kernel_rfl
theorem tr87:tyRow Tryz.prog 87=some 1:=by kernel_rfl
theorem tu87:Tryz.prog.underlying 87=some (TypeDesc.slice 3):=by kernel_rfl
theorem te87:tyElem Tryz.prog 87=some 3:=by kernel_rfl
theorem tz87:tyZero Tryz.prog 87=some [Value.slice none 0 0]:=by kernel_rfl
theorem tk89:tyK Tryz.prog 89=some (true,8):=by kernel_rfl
theorem tr89:tyRow Tryz.prog 89=some 8:=by kernel_rfl
theorem tf89_0:tyField Tryz.prog 89 0=some (0,9):=by kernel_rfl
theorem tf89_1:tyField Tryz.prog 89 1=some (1,3):=by kernel_rfl
theorem tf89_2:tyField Tryz.prog 89 2=some (2,3):=by kernel_rfl
theorem tf89_3:tyField Tryz.prog 89 3=some (3,4):=by kernel_rfl
theorem tf89_4:tyField Tryz.prog 89 4=some (4,25):=by kernel_rfl
theorem tf89_5:tyField Tryz.prog 89 5=some (5,86):=by kernel_rfl
theorem tf89_6:tyField Tryz.prog 89 6=some (6,87):=by kernel_rfl
theorem tf89_7:tyField Tryz.prog 89 7=some (7,87):=by kernel_rfl
theorem tp89:tyPlaces Tryz.prog 89=some [(0,1),(1,1),(2,1),(3,1),(4,1),(5,1),(6,1),(7,1)]:=by kernel_rfl
theorem tz89:tyZero Tryz.prog 89=some [Value.string ByteArray.empty,Value.int IntKind.i64 0,Value.int IntKind.i64 0,Value.bool false,Value.slice none 0 0,Value.slice none 0 0,Value.slice none 0 0,Value.slice none 0 0]:=by kernel_rfl
theorem tk91:tyK Tryz.prog 91=some (true,8):=by kernel_rfl
theorem tr91:tyRow Tryz.prog 91=some 8:=by kernel_rfl
theorem tf91_0:tyField Tryz.prog 91 0=some (0,9):=by kernel_rfl
theorem tf91_1:tyField Tryz.prog 91 1=some (1,3):=by kernel_rfl
theorem tf91_2:tyField Tryz.prog 91 2=some (2,3):=by kernel_rfl
theorem tf91_3:tyField Tryz.prog 91 3=some (3,4):=by kernel_rfl
theorem tf91_4:tyField Tryz.prog 91 4=some (4,25):=by kernel_rfl
theorem tf91_5:tyField Tryz.prog 91 5=some (5,86):=by kernel_rfl
theorem tf91_6:tyField Tryz.prog 91 6=some (6,87):=by kernel_rfl
theorem tf91_7:tyField Tryz.prog 91 7=some (7,87):=by kernel_rfl
theorem tp91:tyPlaces Tryz.prog 91=some [(0,1),(1,1),(2,1),(3,1),(4,1),(5,1),(6,1),(7,1)]:=by kernel_rfl
theorem tz91:tyZero Tryz.prog 91=some [Value.string ByteArray.empty,Value.int IntKind.i64 0,Value.int IntKind.i64 0,Value.bool false,Value.slice none 0 0,Value.slice none 0 0,Value.slice none 0 0,Value.slice none 0 0]:=by kernel_rfl
theorem tk138:tyK Tryz.prog 138=some (false,1):=by kernel_rfl
theorem tr138:tyRow Tryz.prog 138=some 1:=by kernel_rfl
theorem tu138:Tryz.prog.underlying 138=some (TypeDesc.func #[9] #[4] false):=by kernel_rfl
theorem tz138:tyZero Tryz.prog 138=some [Value.nilFunc]:=by kernel_rfl
theorem tk151:tyK Tryz.prog 151=some (true,4):=by kernel_rfl
theorem tr151:tyRow Tryz.prog 151=some 4:=by kernel_rfl
theorem tf151_0:tyField Tryz.prog 151 0=some (0,9):=by kernel_rfl
theorem tf151_1:tyField Tryz.prog 151 1=some (1,3):=by kernel_rfl
theorem tf151_2:tyField Tryz.prog 151 2=some (2,3):=by kernel_rfl
theorem tf151_3:tyField Tryz.prog 151 3=some (3,3):=by kernel_rfl
theorem tq151:tyFlat Tryz.prog 151=some [2,0,0,0]:=by kernel_rfl
theorem tp151:tyPlaces Tryz.prog 151=some [(0,1),(1,1),(2,1),(3,1)]:=by kernel_rfl
theorem tz151:tyZero Tryz.prog 151=some [Value.string ByteArray.empty,Value.int IntKind.i64 0,Value.int IntKind.i64 0,Value.int IntKind.i64 0]:=by kernel_rfl
theorem tk192:tyK Tryz.prog 192=some (false,1):=by kernel_rfl
theorem tr192:tyRow Tryz.prog 192=some 1:=by kernel_rfl
theorem tu192:Tryz.prog.underlying 192=some (TypeDesc.pointer 194):=by kernel_rfl
theorem tz192:tyZero Tryz.prog 192=some [Value.pointer none]:=by kernel_rfl
theorem tk194:tyK Tryz.prog 194=some (true,4):=by kernel_rfl
theorem tr194:tyRow Tryz.prog 194=some 4:=by kernel_rfl
theorem tf194_0:tyField Tryz.prog 194 0=some (0,34):=by kernel_rfl
theorem tf194_1:tyField Tryz.prog 194 1=some (1,25):=by kernel_rfl
theorem tf194_2:tyField Tryz.prog 194 2=some (2,3):=by kernel_rfl
theorem tf194_3:tyField Tryz.prog 194 3=some (3,3):=by kernel_rfl
theorem tp194:tyPlaces Tryz.prog 194=some [(0,1),(1,1),(2,1),(3,1)]:=by kernel_rfl
theorem tz194:tyZero Tryz.prog 194=some [Value.slice none 0 0,Value.slice none 0 0,Value.int IntKind.i64 0,Value.int IntKind.i64 0]:=by kernel_rfl
theorem tk195:tyK Tryz.prog 195=some (false,1):=by kernel_rfl
theorem tr195:tyRow Tryz.prog 195=some 1:=by kernel_rfl
theorem tu195:Tryz.prog.underlying 195=some (TypeDesc.func #[3] #[4] false):=by kernel_rfl
theorem tz195:tyZero Tryz.prog 195=some [Value.nilFunc]:=by kernel_rfl
theorem tk223:tyK Tryz.prog 223=some (false,1):=by kernel_rfl
theorem tr223:tyRow Tryz.prog 223=some 1:=by kernel_rfl
theorem tu223:Tryz.prog.underlying 223=some (TypeDesc.pointer 225):=by kernel_rfl
theorem tz223:tyZero Tryz.prog 223=some [Value.pointer none]:=by kernel_rfl
theorem tk225:tyK Tryz.prog 225=some (true,3):=by kernel_rfl
theorem tr225:tyRow Tryz.prog 225=some 3:=by kernel_rfl
theorem tf225_0:tyField Tryz.prog 225 0=some (0,34):=by kernel_rfl
theorem tf225_1:tyField Tryz.prog 225 1=some (1,25):=by kernel_rfl
theorem tf225_2:tyField Tryz.prog 225 2=some (2,3):=by kernel_rfl
theorem tp225:tyPlaces Tryz.prog 225=some [(0,1),(1,1),(2,1)]:=by kernel_rfl
theorem tz225:tyZero Tryz.prog 225=some [Value.slice none 0 0,Value.slice none 0 0,Value.int IntKind.i64 0]:=by kernel_rfl
theorem tk227:tyK Tryz.prog 227=some (true,2):=by kernel_rfl
theorem tr227:tyRow Tryz.prog 227=some 2:=by kernel_rfl
theorem tf227_0:tyField Tryz.prog 227 0=some (0,3):=by kernel_rfl
theorem tf227_1:tyField Tryz.prog 227 1=some (1,3):=by kernel_rfl
theorem tq227:tyFlat Tryz.prog 227=some [0,0]:=by kernel_rfl
theorem tp227:tyPlaces Tryz.prog 227=some [(0,1),(1,1)]:=by kernel_rfl
theorem tz227:tyZero Tryz.prog 227=some [Value.int IntKind.i64 0,Value.int IntKind.i64 0]:=by kernel_rfl
theorem tk230:tyK Tryz.prog 230=some (false,1):=by kernel_rfl
theorem tr230:tyRow Tryz.prog 230=some 1:=by kernel_rfl
theorem tu230:Tryz.prog.underlying 230=some (TypeDesc.func #[3,3] #[4] false):=by kernel_rfl
theorem tz230:tyZero Tryz.prog 230=some [Value.nilFunc]:=by kernel_rfl
theorem ai {a b:Prop} (h:a) (k:b):a∧b:=⟨h,k⟩
set_option linter.defProp false
def tg3:=ai (ai tk3 tr3) (ai tu3 tz3)
def tg4:=ai (ai tk4 tr4) (ai tu4 tz4)
def tg5:=ai (ai tk5 tr5) (ai tu5 tz5)
def tg9:=ai (ai tk9 tr9) (ai tu9 tz9)
def tg20:=ai (ai tk20 tr20) (ai tu20 tz20)
def tg22:=ai (ai tk22 tr22) (ai tu22 (ai te22 tz22))
def tg24:=ai (ai tk24 tr24) (ai tf24_0 (ai tp24 tz24))
def tg25:=ai (ai tk25 (ai tr25 tu25)) (ai te25 (ai tb25 tz25))
def tg27:=ai (ai tk27 tr27) (ai tu27 (ai te27 tz27))
def tg29:=ai (ai tk29 (ai tr29 tf29_0)) (ai (ai tf29_1 tf29_2) (ai tp29 tz29))
def tg32:=ai (ai tk32 tr32) (ai tu32 (ai te32 tz32))
def tg34:=ai (ai tk34 tr34) (ai tf34_0 (ai tp34 tz34))
def tg57:=ai (ai tk57 tr57) (ai tu57 tz57)
def tg59:=ai (ai tk59 (ai tr59 tf59_0)) (ai tf59_1 (ai tp59 tz59))
def tg61:=ai (ai tk61 tr61) (ai tu61 tz61)
def tg64:=ai (ai tk64 tr64) (ai tu64 tz64)
def tg66:=ai (ai tk66 tr66) (ai tu66 tz66)
def tg68:=ai (ai tk68 (ai tr68 tf68_0)) (ai (ai tf68_1 tq68) (ai tp68 tz68))
def tg86:=ai (ai tk86 tr86) (ai tu86 (ai te86 tz86))
def tg87:=ai (ai tk87 tr87) (ai tu87 (ai te87 tz87))
def tg89:=ai (ai (ai tk89 (ai tr89 tf89_0)) (ai tf89_1 (ai tf89_2 tf89_3))) (ai (ai tf89_4 (ai tf89_5 tf89_6)) (ai tf89_7 (ai tp89 tz89)))
def tg91:=ai (ai (ai tk91 (ai tr91 tf91_0)) (ai tf91_1 (ai tf91_2 tf91_3))) (ai (ai tf91_4 (ai tf91_5 tf91_6)) (ai tf91_7 (ai tp91 tz91)))
def tg138:=ai (ai tk138 tr138) (ai tu138 tz138)
def tg151:=ai (ai (ai tk151 tr151) (ai tf151_0 tf151_1)) (ai (ai tf151_2 tf151_3) (ai tq151 (ai tp151 tz151)))
def tg192:=ai (ai tk192 tr192) (ai tu192 tz192)
def tg194:=ai (ai (ai tk194 tr194) (ai tf194_0 tf194_1)) (ai (ai tf194_2 tf194_3) (ai tp194 tz194))
def tg195:=ai (ai tk195 tr195) (ai tu195 tz195)
def tg223:=ai (ai tk223 tr223) (ai tu223 tz223)
def tg225:=ai (ai tk225 (ai tr225 tf225_0)) (ai (ai tf225_1 tf225_2) (ai tp225 tz225))
def tg227:=ai (ai tk227 (ai tr227 tf227_0)) (ai (ai tf227_1 tq227) (ai tp227 tz227))
def tg230:=ai (ai tk230 tr230) (ai tu230 tz230)
end Go.Proofs.YtomfggmmhkpeeaaGreatDoor.Eng
