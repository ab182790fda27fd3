/-
 Facts of the types, in the engine's words.
-/
import Derived.Test.YtecdbogicpffeaaGreatDoorProg
import Derived.Test.YtecdbogicpffeaaGreatDoorKE1
import Derived.KernelRfl
namespace Go.Proofs.YtecdbogicpffeaaGreatDoor.Eng
open Go Go.RowKit
theorem tk3:tyK Tryz.prog 3=some (false,1):=by kernel_rfl
theorem tr3:tyRow Tryz.prog 3=some 1:=by kernel_rfl
theorem tu3:Tryz.prog.underlying 3=some (TypeDesc.int IntKind.i64):=by kernel_rfl
theorem tz3:tyZero Tryz.prog 3=some [Value.int IntKind.i64 0]:=by kernel_rfl
theorem tk4:tyK Tryz.prog 4=some (false,1):=by kernel_rfl
theorem tr4:tyRow Tryz.prog 4=some 1:=by kernel_rfl
theorem tu4:Tryz.prog.underlying 4=some (TypeDesc.bool):=by kernel_rfl
theorem tz4:tyZero Tryz.prog 4=some [Value.bool false]:=by kernel_rfl
theorem tk5:tyK Tryz.prog 5=some (false,1):=by kernel_rfl
theorem tr5:tyRow Tryz.prog 5=some 1:=by kernel_rfl
theorem tu5:Tryz.prog.underlying 5=some (TypeDesc.int IntKind.u8):=by kernel_rfl
theorem tz5:tyZero Tryz.prog 5=some [Value.int IntKind.u8 0]:=by kernel_rfl
theorem tk9:tyK Tryz.prog 9=some (false,1):=by kernel_rfl
theorem tr9:tyRow Tryz.prog 9=some 1:=by kernel_rfl
theorem tu9:Tryz.prog.underlying 9=some (TypeDesc.string):=by kernel_rfl
theorem tz9:tyZero Tryz.prog 9=some [Value.string ByteArray.empty]:=by kernel_rfl
theorem tk20:tyK Tryz.prog 20=some (false,1):=by kernel_rfl
theorem tr20:tyRow Tryz.prog 20=some 1:=by kernel_rfl
theorem tu20:Tryz.prog.underlying 20=some (TypeDesc.interface #[]):=by kernel_rfl
theorem tz20:tyZero Tryz.prog 20=some [Value.nilIface]:=by kernel_rfl
theorem tk22:tyK Tryz.prog 22=some (false,1):=by kernel_rfl
theorem tr22:tyRow Tryz.prog 22=some 1:=by kernel_rfl
theorem tu22:Tryz.prog.underlying 22=some (TypeDesc.slice 125):=by kernel_rfl
theorem te22:tyElem Tryz.prog 22=some 125:=by kernel_rfl
theorem tz22:tyZero Tryz.prog 22=some [Value.slice none 0 0]:=by kernel_rfl
theorem tk24:tyK Tryz.prog 24=some (true,1):=by kernel_rfl
theorem tr24:tyRow Tryz.prog 24=some 1:=by kernel_rfl
theorem tf24_0:tyField Tryz.prog 24 0=some (0,22):=by kernel_rfl
theorem tp24:tyPlaces Tryz.prog 24=some [(0,1)]:=by kernel_rfl
theorem tz24:tyZero Tryz.prog 24=some [Value.slice none 0 0]:=by kernel_rfl
theorem tk25:tyK Tryz.prog 25=some (false,1):=by kernel_rfl
theorem tr25:tyRow Tryz.prog 25=some 1:=by kernel_rfl
theorem tu25:Tryz.prog.underlying 25=some (TypeDesc.slice 5):=by kernel_rfl
theorem te25:tyElem Tryz.prog 25=some 5:=by kernel_rfl
theorem tb25:bytesT Tryz.prog 25=true:=by kernel_rfl
theorem tz25:tyZero Tryz.prog 25=some [Value.slice none 0 0]:=by kernel_rfl
theorem tk29:tyK Tryz.prog 29=some (false,1):=by kernel_rfl
theorem tr29:tyRow Tryz.prog 29=some 1:=by kernel_rfl
theorem tu29:Tryz.prog.underlying 29=some (TypeDesc.slice 83):=by kernel_rfl
theorem te29:tyElem Tryz.prog 29=some 83:=by kernel_rfl
theorem tz29:tyZero Tryz.prog 29=some [Value.slice none 0 0]:=by kernel_rfl
theorem tk31:tyK Tryz.prog 31=some (true,1):=by kernel_rfl
theorem tr31:tyRow Tryz.prog 31=some 1:=by kernel_rfl
theorem tf31_0:tyField Tryz.prog 31 0=some (0,29):=by kernel_rfl
theorem tp31:tyPlaces Tryz.prog 31=some [(0,1)]:=by kernel_rfl
theorem tz31:tyZero Tryz.prog 31=some [Value.slice none 0 0]:=by kernel_rfl
theorem tk40:tyK Tryz.prog 40=some (false,1):=by kernel_rfl
theorem tr40:tyRow Tryz.prog 40=some 1:=by kernel_rfl
theorem tu40:Tryz.prog.underlying 40=some (TypeDesc.slice 42):=by kernel_rfl
theorem te40:tyElem Tryz.prog 40=some 42:=by kernel_rfl
theorem tz40:tyZero Tryz.prog 40=some [Value.slice none 0 0]:=by kernel_rfl
theorem tk42:tyK Tryz.prog 42=some (true,3):=by kernel_rfl
theorem tr42:tyRow Tryz.prog 42=some 3:=by kernel_rfl
theorem tf42_0:tyField Tryz.prog 42 0=some (0,3):=by kernel_rfl
theorem tf42_1:tyField Tryz.prog 42 1=some (1,25):=by kernel_rfl
theorem tf42_2:tyField Tryz.prog 42 2=some (2,40):=by kernel_rfl
theorem tp42:tyPlaces Tryz.prog 42=some [(0,1),(1,1),(2,1)]:=by kernel_rfl
theorem tz42:tyZero Tryz.prog 42=some [Value.int IntKind.i64 0,Value.slice none 0 0,Value.slice none 0 0]:=by kernel_rfl
theorem tk80:tyK Tryz.prog 80=some (false,1):=by kernel_rfl
theorem tr80:tyRow Tryz.prog 80=some 1:=by kernel_rfl
theorem tu80:Tryz.prog.underlying 80=some (TypeDesc.slice 9):=by kernel_rfl
theorem te80:tyElem Tryz.prog 80=some 9:=by kernel_rfl
theorem tz80:tyZero Tryz.prog 80=some [Value.slice none 0 0]:=by kernel_rfl
theorem tk81:tyK Tryz.prog 81=some (false,1):=by kernel_rfl
theorem tr81:tyRow Tryz.prog 81=some 1:=by kernel_rfl
theorem tu81:Tryz.prog.underlying 81=some (TypeDesc.slice 3):=by kernel_rfl
theorem te81:tyElem Tryz.prog 81=some 3:=by kernel_rfl
theorem tz81:tyZero Tryz.prog 81=some [Value.slice none 0 0]:=by kernel_rfl
theorem tk83:tyK Tryz.prog 83=some (true,8):=by kernel_rfl
theorem tr83:tyRow Tryz.prog 83=some 8:=by kernel_rfl
theorem tf83_0:tyField Tryz.prog 83 0=some (0,9):=by kernel_rfl
theorem tf83_1:tyField Tryz.prog 83 1=some (1,3):=by kernel_rfl
theorem tf83_2:tyField Tryz.prog 83 2=some (2,3):=by kernel_rfl
theorem tf83_3:tyField Tryz.prog 83 3=some (3,4):=by kernel_rfl
theorem tf83_4:tyField Tryz.prog 83 4=some (4,25):=by kernel_rfl
theorem tf83_5:tyField Tryz.prog 83 5=some (5,80):=by kernel_rfl
theorem tf83_6:tyField Tryz.prog 83 6=some (6,81):=by kernel_rfl
theorem tf83_7:tyField Tryz.prog 83 7=some (7,81):=by kernel_rfl
theorem tp83:tyPlaces Tryz.prog 83=some [(0,1),(1,1),(2,1),(3,1),(4,1),(5,1),(6,1),(7,1)]:=by kernel_rfl
theorem tz83:tyZero Tryz.prog 83=some [Value.string ByteArray.empty,Value.int IntKind.i64 0,Value.int IntKind.i64 0,Value.bool false,Value.slice none 0 0,Value.slice none 0 0,Value.slice none 0 0,Value.slice none 0 0]:=by kernel_rfl
theorem tk110:tyK Tryz.prog 110=some (false,1):=by kernel_rfl
theorem tr110:tyRow Tryz.prog 110=some 1:=by kernel_rfl
theorem tu110:Tryz.prog.underlying 110=some (TypeDesc.pointer 112):=by kernel_rfl
theorem tz110:tyZero Tryz.prog 110=some [Value.pointer none]:=by kernel_rfl
theorem tk112:tyK Tryz.prog 112=some (true,2):=by kernel_rfl
theorem tr112:tyRow Tryz.prog 112=some 2:=by kernel_rfl
theorem tf112_0:tyField Tryz.prog 112 0=some (0,31):=by kernel_rfl
theorem tf112_1:tyField Tryz.prog 112 1=some (1,25):=by kernel_rfl
theorem tp112:tyPlaces Tryz.prog 112=some [(0,1),(1,1)]:=by kernel_rfl
theorem tz112:tyZero Tryz.prog 112=some [Value.slice none 0 0,Value.slice none 0 0]:=by kernel_rfl
theorem tk114:tyK Tryz.prog 114=some (false,1):=by kernel_rfl
theorem tr114:tyRow Tryz.prog 114=some 1:=by kernel_rfl
theorem tu114 : Tryz.prog.underlying 114 = some (TypeDesc.interface #[("Error", 301)]) := by kernel_rfl
theorem tz114:tyZero Tryz.prog 114=some [Value.nilIface]:=by kernel_rfl
theorem tk117:tyK Tryz.prog 117=some (false,1):=by kernel_rfl
theorem tr117:tyRow Tryz.prog 117=some 1:=by kernel_rfl
theorem tu117:Tryz.prog.underlying 117=some (TypeDesc.pointer 121):=by kernel_rfl
theorem tz117:tyZero Tryz.prog 117=some [Value.pointer none]:=by kernel_rfl
theorem tk119:tyK Tryz.prog 119=some (false,1):=by kernel_rfl
theorem tr119:tyRow Tryz.prog 119=some 1:=by kernel_rfl
theorem tu119:Tryz.prog.underlying 119=some (TypeDesc.pointer 117):=by kernel_rfl
theorem tz119:tyZero Tryz.prog 119=some [Value.pointer none]:=by kernel_rfl
theorem tk121:tyK Tryz.prog 121=some (true,2):=by kernel_rfl
theorem tr121:tyRow Tryz.prog 121=some 2:=by kernel_rfl
theorem tf121_0:tyField Tryz.prog 121 0=some (0,3):=by kernel_rfl
theorem tf121_1:tyField Tryz.prog 121 1=some (1,3):=by kernel_rfl
theorem tq121:tyFlat Tryz.prog 121=some [0,0]:=by kernel_rfl
theorem tp121:tyPlaces Tryz.prog 121=some [(0,1),(1,1)]:=by kernel_rfl
theorem tz121:tyZero Tryz.prog 121=some [Value.int IntKind.i64 0,Value.int IntKind.i64 0]:=by kernel_rfl
theorem tk125:tyK Tryz.prog 125=some (true,8):=by kernel_rfl
theorem tr125:tyRow Tryz.prog 125=some 8:=by kernel_rfl
theorem tf125_0:tyField Tryz.prog 125 0=some (0,9):=by kernel_rfl
theorem tf125_1:tyField Tryz.prog 125 1=some (1,3):=by kernel_rfl
theorem tf125_2:tyField Tryz.prog 125 2=some (2,3):=by kernel_rfl
theorem tf125_3:tyField Tryz.prog 125 3=some (3,4):=by kernel_rfl
theorem tf125_4:tyField Tryz.prog 125 4=some (4,25):=by kernel_rfl
theorem tf125_5:tyField Tryz.prog 125 5=some (5,80):=by kernel_rfl
theorem tf125_6:tyField Tryz.prog 125 6=some (6,81):=by kernel_rfl
theorem tf125_7:tyField Tryz.prog 125 7=some (7,81):=by kernel_rfl
theorem tp125:tyPlaces Tryz.prog 125=some [(0,1),(1,1),(2,1),(3,1),(4,1),(5,1),(6,1),(7,1)]:=by kernel_rfl
theorem tz125:tyZero Tryz.prog 125=some [Value.string ByteArray.empty,Value.int IntKind.i64 0,Value.int IntKind.i64 0,Value.bool false,Value.slice none 0 0,Value.slice none 0 0,Value.slice none 0 0,Value.slice none 0 0]:=by kernel_rfl
theorem tk127:tyK Tryz.prog 127=some (true,4):=by kernel_rfl
theorem tr127:tyRow Tryz.prog 127=some 4:=by kernel_rfl
theorem tf127_0:tyField Tryz.prog 127 0=some (0,9):=by kernel_rfl
theorem tf127_1:tyField Tryz.prog 127 1=some (1,3):=by kernel_rfl
theorem tf127_2:tyField Tryz.prog 127 2=some (2,3):=by kernel_rfl
theorem tf127_3:tyField Tryz.prog 127 3=some (3,3):=by kernel_rfl
theorem tq127:tyFlat Tryz.prog 127=some [2,0,0,0]:=by kernel_rfl
theorem tp127:tyPlaces Tryz.prog 127=some [(0,1),(1,1),(2,1),(3,1)]:=by kernel_rfl
theorem tz127:tyZero Tryz.prog 127=some [Value.string ByteArray.empty,Value.int IntKind.i64 0,Value.int IntKind.i64 0,Value.int IntKind.i64 0]:=by kernel_rfl
theorem tk204:tyK Tryz.prog 204=some (false,1):=by kernel_rfl
theorem tr204:tyRow Tryz.prog 204=some 1:=by kernel_rfl
theorem tu204:Tryz.prog.underlying 204=some (TypeDesc.pointer 206):=by kernel_rfl
theorem tz204:tyZero Tryz.prog 204=some [Value.pointer none]:=by kernel_rfl
theorem tk206:tyK Tryz.prog 206=some (true,4):=by kernel_rfl
theorem tr206:tyRow Tryz.prog 206=some 4:=by kernel_rfl
theorem tf206_0:tyField Tryz.prog 206 0=some (0,31):=by kernel_rfl
theorem tf206_1:tyField Tryz.prog 206 1=some (1,25):=by kernel_rfl
theorem tf206_2:tyField Tryz.prog 206 2=some (2,3):=by kernel_rfl
theorem tf206_3:tyField Tryz.prog 206 3=some (3,3):=by kernel_rfl
theorem tp206:tyPlaces Tryz.prog 206=some [(0,1),(1,1),(2,1),(3,1)]:=by kernel_rfl
theorem tz206:tyZero Tryz.prog 206=some [Value.slice none 0 0,Value.slice none 0 0,Value.int IntKind.i64 0,Value.int IntKind.i64 0]:=by kernel_rfl
theorem tk207:tyK Tryz.prog 207=some (false,1):=by kernel_rfl
theorem tr207:tyRow Tryz.prog 207=some 1:=by kernel_rfl
theorem tu207:Tryz.prog.underlying 207=some (TypeDesc.func #[9] #[4] false):=by kernel_rfl
theorem tz207:tyZero Tryz.prog 207=some [Value.nilFunc]:=by kernel_rfl
theorem tk208:tyK Tryz.prog 208=some (false,1):=by kernel_rfl
theorem tr208:tyRow Tryz.prog 208=some 1:=by kernel_rfl
theorem tu208:Tryz.prog.underlying 208=some (TypeDesc.func #[3] #[4] false):=by kernel_rfl
theorem tz208:tyZero Tryz.prog 208=some [Value.nilFunc]:=by kernel_rfl
theorem tk284:tyK Tryz.prog 284=some (false,1):=by kernel_rfl
theorem tr284:tyRow Tryz.prog 284=some 1:=by kernel_rfl
theorem tu284:Tryz.prog.underlying 284=some (TypeDesc.pointer 286):=by kernel_rfl
theorem tz284:tyZero Tryz.prog 284=some [Value.pointer none]:=by kernel_rfl
theorem tk286:tyK Tryz.prog 286=some (true,3):=by kernel_rfl
theorem tr286:tyRow Tryz.prog 286=some 3:=by kernel_rfl
theorem tf286_0:tyField Tryz.prog 286 0=some (0,31):=by kernel_rfl
theorem tf286_1:tyField Tryz.prog 286 1=some (1,25):=by kernel_rfl
theorem tf286_2:tyField Tryz.prog 286 2=some (2,3):=by kernel_rfl
theorem tp286:tyPlaces Tryz.prog 286=some [(0,1),(1,1),(2,1)]:=by kernel_rfl
theorem tz286:tyZero Tryz.prog 286=some [Value.slice none 0 0,Value.slice none 0 0,Value.int IntKind.i64 0]:=by kernel_rfl
theorem tk288:tyK Tryz.prog 288=some (true,2):=by kernel_rfl
theorem tr288:tyRow Tryz.prog 288=some 2:=by kernel_rfl
theorem tf288_0:tyField Tryz.prog 288 0=some (0,3):=by kernel_rfl
theorem tf288_1:tyField Tryz.prog 288 1=some (1,3):=by kernel_rfl
theorem tq288:tyFlat Tryz.prog 288=some [0,0]:=by kernel_rfl
theorem tp288:tyPlaces Tryz.prog 288=some [(0,1),(1,1)]:=by kernel_rfl
theorem tz288:tyZero Tryz.prog 288=some [Value.int IntKind.i64 0,Value.int IntKind.i64 0]:=by kernel_rfl
theorem tk299:tyK Tryz.prog 299=some (false,1):=by kernel_rfl
theorem tr299:tyRow Tryz.prog 299=some 1:=by kernel_rfl
theorem tu299:Tryz.prog.underlying 299=some (TypeDesc.func #[3,3] #[4] false):=by kernel_rfl
theorem tz299:tyZero Tryz.prog 299=some [Value.nilFunc]:=by kernel_rfl
theorem ai {a b:Prop} (h:a) (k:b):a∧b:=⟨h,k⟩
set_option linter.defProp false
def tg3:=ai (ai tk3 tr3) (ai tu3 tz3)
def tg4:=ai (ai tk4 tr4) (ai tu4 tz4)
def tg5:=ai (ai tk5 tr5) (ai tu5 tz5)
def tg9:=ai (ai tk9 tr9) (ai tu9 tz9)
def tg20:=ai (ai tk20 tr20) (ai tu20 tz20)
def tg22:=ai (ai tk22 tr22) (ai tu22 (ai te22 tz22))
def tg24:=ai (ai tk24 tr24) (ai tf24_0 (ai tp24 tz24))
def tg25:=ai (ai tk25 (ai tr25 tu25)) (ai te25 (ai tb25 tz25))
def tg29:=ai (ai tk29 tr29) (ai tu29 (ai te29 tz29))
def tg31:=ai (ai tk31 tr31) (ai tf31_0 (ai tp31 tz31))
def tg40:=ai (ai tk40 tr40) (ai tu40 (ai te40 tz40))
def tg42:=ai (ai tk42 (ai tr42 tf42_0)) (ai (ai tf42_1 tf42_2) (ai tp42 tz42))
def tg80:=ai (ai tk80 tr80) (ai tu80 (ai te80 tz80))
def tg81:=ai (ai tk81 tr81) (ai tu81 (ai te81 tz81))
def tg83:=ai (ai (ai tk83 (ai tr83 tf83_0)) (ai tf83_1 (ai tf83_2 tf83_3))) (ai (ai tf83_4 (ai tf83_5 tf83_6)) (ai tf83_7 (ai tp83 tz83)))
def tg110:=ai (ai tk110 tr110) (ai tu110 tz110)
def tg112:=ai (ai tk112 (ai tr112 tf112_0)) (ai tf112_1 (ai tp112 tz112))
def tg114:=ai (ai tk114 tr114) (ai tu114 tz114)
def tg117:=ai (ai tk117 tr117) (ai tu117 tz117)
def tg119:=ai (ai tk119 tr119) (ai tu119 tz119)
def tg121:=ai (ai tk121 (ai tr121 tf121_0)) (ai (ai tf121_1 tq121) (ai tp121 tz121))
def tg125:=ai (ai (ai tk125 (ai tr125 tf125_0)) (ai tf125_1 (ai tf125_2 tf125_3))) (ai (ai tf125_4 (ai tf125_5 tf125_6)) (ai tf125_7 (ai tp125 tz125)))
def tg127:=ai (ai (ai tk127 tr127) (ai tf127_0 tf127_1)) (ai (ai tf127_2 tf127_3) (ai tq127 (ai tp127 tz127)))
def tg204:=ai (ai tk204 tr204) (ai tu204 tz204)
def tg206:=ai (ai (ai tk206 tr206) (ai tf206_0 tf206_1)) (ai (ai tf206_2 tf206_3) (ai tp206 tz206))
def tg207:=ai (ai tk207 tr207) (ai tu207 tz207)
def tg208:=ai (ai tk208 tr208) (ai tu208 tz208)
def tg284:=ai (ai tk284 tr284) (ai tu284 tz284)
def tg286:=ai (ai tk286 (ai tr286 tf286_0)) (ai (ai tf286_1 tf286_2) (ai tp286 tz286))
def tg288:=ai (ai tk288 (ai tr288 tf288_0)) (ai (ai tf288_1 tq288) (ai tp288 tz288))
def tg299:=ai (ai tk299 tr299) (ai tu299 tz299)
end Go.Proofs.YtecdbogicpffeaaGreatDoor.Eng
