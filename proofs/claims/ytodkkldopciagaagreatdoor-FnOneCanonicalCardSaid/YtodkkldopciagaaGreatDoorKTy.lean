/-
 Facts of the types, in the engine's words.
-/
import Derived.Test.YtodkkldopciagaaGreatDoorProg
import Derived.Test.YtodkkldopciagaaGreatDoorKE1
import Derived.KernelRfl
namespace Go.Proofs.YtodkkldopciagaaGreatDoor.Eng
open Go Go.RowKit
theorem tk3:tyK Tryz.prog 3=some (false,1):=by kernel_rfl
theorem tr3:tyRow Tryz.prog 3=some 1:=by kernel_rfl
theorem tu3:Tryz.prog.underlying 3=some (TypeDesc.int IntKind.i64):=by kernel_rfl
theorem tz3:tyZero Tryz.prog 3=some [Value.int IntKind.i64 0]:=by kernel_rfl
theorem tk4:tyK Tryz.prog 4=some (false,1):=by kernel_rfl
theorem tr4:tyRow Tryz.prog 4=some 1:=by kernel_rfl
theorem tu4:Tryz.prog.underlying 4=some (TypeDesc.bool):=by kernel_rfl
theorem tz4:tyZero Tryz.prog 4=some [Value.bool false]:=by kernel_rfl
theorem tk5:tyK Tryz.prog 5=some (false,1):=by kernel_rfl
theorem tr5:tyRow Tryz.prog 5=some 1:=by kernel_rfl
theorem tu5:Tryz.prog.underlying 5=some (TypeDesc.int IntKind.u8):=by kernel_rfl
theorem tz5:tyZero Tryz.prog 5=some [Value.int IntKind.u8 0]:=by kernel_rfl
theorem tk9:tyK Tryz.prog 9=some (false,1):=by kernel_rfl
theorem tr9:tyRow Tryz.prog 9=some 1:=by kernel_rfl
theorem tu9:Tryz.prog.underlying 9=some (TypeDesc.string):=by kernel_rfl
theorem tz9:tyZero Tryz.prog 9=some [Value.string ByteArray.empty]:=by kernel_rfl
theorem tk20:tyK Tryz.prog 20=some (false,1):=by kernel_rfl
theorem tr20:tyRow Tryz.prog 20=some 1:=by kernel_rfl
theorem tu20:Tryz.prog.underlying 20=some (TypeDesc.interface #[]):=by kernel_rfl
theorem tz20:tyZero Tryz.prog 20=some [Value.nilIface]:=by kernel_rfl
theorem tk22:tyK Tryz.prog 22=some (false,1):=by kernel_rfl
theorem tr22:tyRow Tryz.prog 22=some 1:=by kernel_rfl
theorem tu22:Tryz.prog.underlying 22=some (TypeDesc.slice 5):=by kernel_rfl
theorem te22:tyElem Tryz.prog 22=some 5:=by kernel_rfl
theorem tb22:bytesT Tryz.prog 22=true:=by kernel_rfl
theorem tz22:tyZero Tryz.prog 22=some [Value.slice none 0 0]:=by kernel_rfl
theorem tk24:tyK Tryz.prog 24=some (false,1):=by kernel_rfl
theorem tr24:tyRow Tryz.prog 24=some 1:=by kernel_rfl
theorem tu24:Tryz.prog.underlying 24=some (TypeDesc.slice 62):=by kernel_rfl
theorem te24:tyElem Tryz.prog 24=some 62:=by kernel_rfl
theorem tz24:tyZero Tryz.prog 24=some [Value.slice none 0 0]:=by kernel_rfl
theorem tk26:tyK Tryz.prog 26=some (true,1):=by kernel_rfl
theorem tr26:tyRow Tryz.prog 26=some 1:=by kernel_rfl
theorem tf26_0:tyField Tryz.prog 26 0=some (0,24):=by kernel_rfl
theorem tp26:tyPlaces Tryz.prog 26=some [(0,1)]:=by kernel_rfl
theorem tz26:tyZero Tryz.prog 26=some [Value.slice none 0 0]:=by kernel_rfl
theorem tk38:tyK Tryz.prog 38=some (false,1):=by kernel_rfl
theorem tr38:tyRow Tryz.prog 38=some 1:=by kernel_rfl
theorem tu38:Tryz.prog.underlying 38=some (TypeDesc.slice 40):=by kernel_rfl
theorem te38:tyElem Tryz.prog 38=some 40:=by kernel_rfl
theorem tz38:tyZero Tryz.prog 38=some [Value.slice none 0 0]:=by kernel_rfl
theorem tk40:tyK Tryz.prog 40=some (true,3):=by kernel_rfl
theorem tr40:tyRow Tryz.prog 40=some 3:=by kernel_rfl
theorem tf40_0:tyField Tryz.prog 40 0=some (0,3):=by kernel_rfl
theorem tf40_1:tyField Tryz.prog 40 1=some (1,22):=by kernel_rfl
theorem tf40_2:tyField Tryz.prog 40 2=some (2,38):=by kernel_rfl
theorem tp40:tyPlaces Tryz.prog 40=some [(0,1),(1,1),(2,1)]:=by kernel_rfl
theorem tz40:tyZero Tryz.prog 40=some [Value.int IntKind.i64 0,Value.slice none 0 0,Value.slice none 0 0]:=by kernel_rfl
theorem tk45:tyK Tryz.prog 45=some (false,1):=by kernel_rfl
theorem tr45:tyRow Tryz.prog 45=some 1:=by kernel_rfl
theorem tu45:Tryz.prog.underlying 45=some (TypeDesc.pointer 55):=by kernel_rfl
theorem tz45:tyZero Tryz.prog 45=some [Value.pointer none]:=by kernel_rfl
theorem tk55:tyK Tryz.prog 55=some (true,3):=by kernel_rfl
theorem tr55:tyRow Tryz.prog 55=some 3:=by kernel_rfl
theorem tf55_0:tyField Tryz.prog 55 0=some (0,22):=by kernel_rfl
theorem tf55_1:tyField Tryz.prog 55 1=some (1,3):=by kernel_rfl
theorem tf55_2:tyField Tryz.prog 55 2=some (2,3):=by kernel_rfl
theorem tp55:tyPlaces Tryz.prog 55=some [(0,1),(1,1),(2,1)]:=by kernel_rfl
theorem tz55:tyZero Tryz.prog 55=some [Value.slice none 0 0,Value.int IntKind.i64 0,Value.int IntKind.i64 0]:=by kernel_rfl
theorem tk58:tyK Tryz.prog 58=some (false,1):=by kernel_rfl
theorem tr58:tyRow Tryz.prog 58=some 1:=by kernel_rfl
theorem tu58:Tryz.prog.underlying 58=some (TypeDesc.slice 3):=by kernel_rfl
theorem te58:tyElem Tryz.prog 58=some 3:=by kernel_rfl
theorem tz58:tyZero Tryz.prog 58=some [Value.slice none 0 0]:=by kernel_rfl
theorem tk60:tyK Tryz.prog 60=some (false,1):=by kernel_rfl
theorem tr60:tyRow Tryz.prog 60=some 1:=by kernel_rfl
theorem tu60:Tryz.prog.underlying 60=some (TypeDesc.slice 9):=by kernel_rfl
theorem te60:tyElem Tryz.prog 60=some 9:=by kernel_rfl
theorem tz60:tyZero Tryz.prog 60=some [Value.slice none 0 0]:=by kernel_rfl
theorem tk62:tyK Tryz.prog 62=some (true,8):=by kernel_rfl
theorem tr62:tyRow Tryz.prog 62=some 8:=by kernel_rfl
theorem tf62_0:tyField Tryz.prog 62 0=some (0,9):=by kernel_rfl
theorem tf62_1:tyField Tryz.prog 62 1=some (1,3):=by kernel_rfl
theorem tf62_2:tyField Tryz.prog 62 2=some (2,3):=by kernel_rfl
theorem tf62_3:tyField Tryz.prog 62 3=some (3,4):=by kernel_rfl
theorem tf62_4:tyField Tryz.prog 62 4=some (4,22):=by kernel_rfl
theorem tf62_5:tyField Tryz.prog 62 5=some (5,60):=by kernel_rfl
theorem tf62_6:tyField Tryz.prog 62 6=some (6,58):=by kernel_rfl
theorem tf62_7:tyField Tryz.prog 62 7=some (7,58):=by kernel_rfl
theorem tp62:tyPlaces Tryz.prog 62=some [(0,1),(1,1),(2,1),(3,1),(4,1),(5,1),(6,1),(7,1)]:=by kernel_rfl
theorem tz62:tyZero Tryz.prog 62=some [Value.string ByteArray.empty,Value.int IntKind.i64 0,Value.int IntKind.i64 0,Value.bool false,Value.slice none 0 0,Value.slice none 0 0,Value.slice none 0 0,Value.slice none 0 0]:=by kernel_rfl
theorem tk67:tyK Tryz.prog 67=some (false,1):=by kernel_rfl
theorem tr67:tyRow Tryz.prog 67=some 1:=by kernel_rfl
theorem tu67:Tryz.prog.underlying 67=some (TypeDesc.pointer 69):=by kernel_rfl
theorem tz67:tyZero Tryz.prog 67=some [Value.pointer none]:=by kernel_rfl
theorem tk69:tyK Tryz.prog 69=some (true,2):=by kernel_rfl
theorem tr69:tyRow Tryz.prog 69=some 2:=by kernel_rfl
theorem tf69_0:tyField Tryz.prog 69 0=some (0,26):=by kernel_rfl
theorem tf69_1:tyField Tryz.prog 69 1=some (1,22):=by kernel_rfl
theorem tp69:tyPlaces Tryz.prog 69=some [(0,1),(1,1)]:=by kernel_rfl
theorem tz69:tyZero Tryz.prog 69=some [Value.slice none 0 0,Value.slice none 0 0]:=by kernel_rfl
theorem tk71:tyK Tryz.prog 71=some (false,1):=by kernel_rfl
theorem tr71:tyRow Tryz.prog 71=some 1:=by kernel_rfl
theorem tu71 : Tryz.prog.underlying 71 = some (TypeDesc.interface #[("Error", 161)]) := by kernel_rfl
theorem tz71:tyZero Tryz.prog 71=some [Value.nilIface]:=by kernel_rfl
theorem tk74:tyK Tryz.prog 74=some (false,1):=by kernel_rfl
theorem tr74:tyRow Tryz.prog 74=some 1:=by kernel_rfl
theorem tu74:Tryz.prog.underlying 74=some (TypeDesc.pointer 78):=by kernel_rfl
theorem tz74:tyZero Tryz.prog 74=some [Value.pointer none]:=by kernel_rfl
theorem tk76:tyK Tryz.prog 76=some (false,1):=by kernel_rfl
theorem tr76:tyRow Tryz.prog 76=some 1:=by kernel_rfl
theorem tu76:Tryz.prog.underlying 76=some (TypeDesc.pointer 74):=by kernel_rfl
theorem tz76:tyZero Tryz.prog 76=some [Value.pointer none]:=by kernel_rfl
theorem tk78:tyK Tryz.prog 78=some (true,2):=by kernel_rfl
theorem tr78:tyRow Tryz.prog 78=some 2:=by kernel_rfl
theorem tf78_0:tyField Tryz.prog 78 0=some (0,3):=by kernel_rfl
theorem tf78_1:tyField Tryz.prog 78 1=some (1,3):=by kernel_rfl
theorem tq78:tyFlat Tryz.prog 78=some [0,0]:=by kernel_rfl
theorem tp78:tyPlaces Tryz.prog 78=some [(0,1),(1,1)]:=by kernel_rfl
theorem tz78:tyZero Tryz.prog 78=some [Value.int IntKind.i64 0,Value.int IntKind.i64 0]:=by kernel_rfl
theorem tk80:tyK Tryz.prog 80=some (false,1):=by kernel_rfl
theorem tr80:tyRow Tryz.prog 80=some 1:=by kernel_rfl
theorem tu80:Tryz.prog.underlying 80=some (TypeDesc.pointer 82):=by kernel_rfl
theorem tz80:tyZero Tryz.prog 80=some [Value.pointer none]:=by kernel_rfl
theorem tk82:tyK Tryz.prog 82=some (true,2):=by kernel_rfl
theorem tr82:tyRow Tryz.prog 82=some 2:=by kernel_rfl
theorem tf82_0:tyField Tryz.prog 82 0=some (0,26):=by kernel_rfl
theorem tf82_1:tyField Tryz.prog 82 1=some (1,22):=by kernel_rfl
theorem tp82:tyPlaces Tryz.prog 82=some [(0,1),(1,1)]:=by kernel_rfl
theorem tz82:tyZero Tryz.prog 82=some [Value.slice none 0 0,Value.slice none 0 0]:=by kernel_rfl
theorem tk84:tyK Tryz.prog 84=some (false,1):=by kernel_rfl
theorem tr84:tyRow Tryz.prog 84=some 1:=by kernel_rfl
theorem tu84:Tryz.prog.underlying 84=some (TypeDesc.pointer 40):=by kernel_rfl
theorem tz84:tyZero Tryz.prog 84=some [Value.pointer none]:=by kernel_rfl
theorem tk89:tyK Tryz.prog 89=some (true,24):=by kernel_rfl
theorem tr89:tyRow Tryz.prog 89=some 24:=by kernel_rfl
theorem tu89:Tryz.prog.underlying 89=some (TypeDesc.array 24 4):=by kernel_rfl
theorem ta89:tyArr Tryz.prog 89=some (4,24):=by kernel_rfl
theorem tz89:tyZero Tryz.prog 89=some [Value.bool false,Value.bool false,Value.bool false,Value.bool false,Value.bool false,Value.bool false,Value.bool false,Value.bool false,Value.bool false,Value.bool false,Value.bool false,Value.bool false,Value.bool false,Value.bool false,Value.bool false,Value.bool false,Value.bool false,Value.bool false,Value.bool false,Value.bool false,Value.bool false,Value.bool false,Value.bool false,Value.bool false]:=by kernel_rfl
theorem tk159:tyK Tryz.prog 159=some (false,1):=by kernel_rfl
theorem tr159:tyRow Tryz.prog 159=some 1:=by kernel_rfl
theorem tu159:Tryz.prog.underlying 159=some (TypeDesc.func #[3,3] #[4] false):=by kernel_rfl
theorem tz159:tyZero Tryz.prog 159=some [Value.nilFunc]:=by kernel_rfl
theorem ai {a b:Prop} (h:a) (k:b):a∧b:=⟨h,k⟩
set_option linter.defProp false
def tg3:=ai (ai tk3 tr3) (ai tu3 tz3)
def tg4:=ai (ai tk4 tr4) (ai tu4 tz4)
def tg5:=ai (ai tk5 tr5) (ai tu5 tz5)
def tg9:=ai (ai tk9 tr9) (ai tu9 tz9)
def tg20:=ai (ai tk20 tr20) (ai tu20 tz20)
def tg22:=ai (ai tk22 (ai tr22 tu22)) (ai te22 (ai tb22 tz22))
def tg24:=ai (ai tk24 tr24) (ai tu24 (ai te24 tz24))
def tg26:=ai (ai tk26 tr26) (ai tf26_0 (ai tp26 tz26))
def tg38:=ai (ai tk38 tr38) (ai tu38 (ai te38 tz38))
def tg40:=ai (ai tk40 (ai tr40 tf40_0)) (ai (ai tf40_1 tf40_2) (ai tp40 tz40))
def tg45:=ai (ai tk45 tr45) (ai tu45 tz45)
def tg55:=ai (ai tk55 (ai tr55 tf55_0)) (ai (ai tf55_1 tf55_2) (ai tp55 tz55))
def tg58:=ai (ai tk58 tr58) (ai tu58 (ai te58 tz58))
def tg60:=ai (ai tk60 tr60) (ai tu60 (ai te60 tz60))
def tg62:=ai (ai (ai tk62 (ai tr62 tf62_0)) (ai tf62_1 (ai tf62_2 tf62_3))) (ai (ai tf62_4 (ai tf62_5 tf62_6)) (ai tf62_7 (ai tp62 tz62)))
def tg67:=ai (ai tk67 tr67) (ai tu67 tz67)
def tg69:=ai (ai tk69 (ai tr69 tf69_0)) (ai tf69_1 (ai tp69 tz69))
def tg71:=ai (ai tk71 tr71) (ai tu71 tz71)
def tg74:=ai (ai tk74 tr74) (ai tu74 tz74)
def tg76:=ai (ai tk76 tr76) (ai tu76 tz76)
def tg78:=ai (ai tk78 (ai tr78 tf78_0)) (ai (ai tf78_1 tq78) (ai tp78 tz78))
def tg80:=ai (ai tk80 tr80) (ai tu80 tz80)
def tg82:=ai (ai tk82 (ai tr82 tf82_0)) (ai tf82_1 (ai tp82 tz82))
def tg84:=ai (ai tk84 tr84) (ai tu84 tz84)
def tg89:=ai (ai tk89 tr89) (ai tu89 (ai ta89 tz89))
def tg159:=ai (ai tk159 tr159) (ai tu159 tz159)
end Go.Proofs.YtodkkldopciagaaGreatDoor.Eng
