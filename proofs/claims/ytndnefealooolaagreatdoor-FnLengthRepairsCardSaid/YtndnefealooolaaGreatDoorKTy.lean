/-
 Facts of the types, in the engine's words.
-/
import Derived.Test.YtndnefealooolaaGreatDoorProg
import Derived.Test.YtndnefealooolaaGreatDoorKE1
import Derived.KernelRfl
namespace Go.Proofs.YtndnefealooolaaGreatDoor.Eng
open Go Go.RowKit
theorem tk3:tyK Tryz.prog 3=some (false,1):=by kernel_rfl
theorem tr3:tyRow Tryz.prog 3=some 1:=by kernel_rfl
theorem tu3:Tryz.prog.underlying 3=some (TypeDesc.int IntKind.i64):=by kernel_rfl
theorem tz3:tyZero Tryz.prog 3=some [Value.int IntKind.i64 0]:=by kernel_rfl
theorem tk4:tyK Tryz.prog 4=some (false,1):=by kernel_rfl
theorem tr4:tyRow Tryz.prog 4=some 1:=by kernel_rfl
theorem tu4:Tryz.prog.underlying 4=some (TypeDesc.bool):=by kernel_rfl
theorem tz4:tyZero Tryz.prog 4=some [Value.bool false]:=by kernel_rfl
theorem tk5:tyK Tryz.prog 5=some (false,1):=by kernel_rfl
theorem tr5:tyRow Tryz.prog 5=some 1:=by kernel_rfl
theorem tu5:Tryz.prog.underlying 5=some (TypeDesc.int IntKind.u8):=by kernel_rfl
theorem tz5:tyZero Tryz.prog 5=some [Value.int IntKind.u8 0]:=by kernel_rfl
theorem tk9:tyK Tryz.prog 9=some (false,1):=by kernel_rfl
theorem tr9:tyRow Tryz.prog 9=some 1:=by kernel_rfl
theorem tu9:Tryz.prog.underlying 9=some (TypeDesc.string):=by kernel_rfl
theorem tz9:tyZero Tryz.prog 9=some [Value.string ByteArray.empty]:=by kernel_rfl
theorem tk20:tyK Tryz.prog 20=some (false,1):=by kernel_rfl
theorem tr20:tyRow Tryz.prog 20=some 1:=by kernel_rfl
theorem tu20:Tryz.prog.underlying 20=some (TypeDesc.interface #[]):=by kernel_rfl
theorem tz20:tyZero Tryz.prog 20=some [Value.nilIface]:=by kernel_rfl
theorem tk22:tyK Tryz.prog 22=some (false,1):=by kernel_rfl
theorem tr22:tyRow Tryz.prog 22=some 1:=by kernel_rfl
theorem tu22:Tryz.prog.underlying 22=some (TypeDesc.slice 5):=by kernel_rfl
theorem te22:tyElem Tryz.prog 22=some 5:=by kernel_rfl
theorem tb22:bytesT Tryz.prog 22=true:=by kernel_rfl
theorem tz22:tyZero Tryz.prog 22=some [Value.slice none 0 0]:=by kernel_rfl
theorem tk24:tyK Tryz.prog 24=some (false,1):=by kernel_rfl
theorem tr24:tyRow Tryz.prog 24=some 1:=by kernel_rfl
theorem tu24:Tryz.prog.underlying 24=some (TypeDesc.slice 97):=by kernel_rfl
theorem te24:tyElem Tryz.prog 24=some 97:=by kernel_rfl
theorem tz24:tyZero Tryz.prog 24=some [Value.slice none 0 0]:=by kernel_rfl
theorem tk26:tyK Tryz.prog 26=some (true,1):=by kernel_rfl
theorem tr26:tyRow Tryz.prog 26=some 1:=by kernel_rfl
theorem tf26_0:tyField Tryz.prog 26 0=some (0,24):=by kernel_rfl
theorem tp26:tyPlaces Tryz.prog 26=some [(0,1)]:=by kernel_rfl
theorem tz26:tyZero Tryz.prog 26=some [Value.slice none 0 0]:=by kernel_rfl
theorem tk30:tyK Tryz.prog 30=some (true,3):=by kernel_rfl
theorem tr30:tyRow Tryz.prog 30=some 3:=by kernel_rfl
theorem tf30_0:tyField Tryz.prog 30 0=some (0,3):=by kernel_rfl
theorem tf30_1:tyField Tryz.prog 30 1=some (1,3):=by kernel_rfl
theorem tf30_2:tyField Tryz.prog 30 2=some (2,3):=by kernel_rfl
theorem tq30:tyFlat Tryz.prog 30=some [0,0,0]:=by kernel_rfl
theorem tp30:tyPlaces Tryz.prog 30=some [(0,1),(1,1),(2,1)]:=by kernel_rfl
theorem tz30:tyZero Tryz.prog 30=some [Value.int IntKind.i64 0,Value.int IntKind.i64 0,Value.int IntKind.i64 0]:=by kernel_rfl
theorem tk37:tyK Tryz.prog 37=some (false,1):=by kernel_rfl
theorem tr37:tyRow Tryz.prog 37=some 1:=by kernel_rfl
theorem tu37:Tryz.prog.underlying 37=some (TypeDesc.slice 39):=by kernel_rfl
theorem te37:tyElem Tryz.prog 37=some 39:=by kernel_rfl
theorem tz37:tyZero Tryz.prog 37=some [Value.slice none 0 0]:=by kernel_rfl
theorem tk39:tyK Tryz.prog 39=some (true,3):=by kernel_rfl
theorem tr39:tyRow Tryz.prog 39=some 3:=by kernel_rfl
theorem tf39_0:tyField Tryz.prog 39 0=some (0,3):=by kernel_rfl
theorem tf39_1:tyField Tryz.prog 39 1=some (1,22):=by kernel_rfl
theorem tf39_2:tyField Tryz.prog 39 2=some (2,37):=by kernel_rfl
theorem tp39:tyPlaces Tryz.prog 39=some [(0,1),(1,1),(2,1)]:=by kernel_rfl
theorem tz39:tyZero Tryz.prog 39=some [Value.int IntKind.i64 0,Value.slice none 0 0,Value.slice none 0 0]:=by kernel_rfl
theorem tk45:tyK Tryz.prog 45=some (false,1):=by kernel_rfl
theorem tr45:tyRow Tryz.prog 45=some 1:=by kernel_rfl
theorem tu45:Tryz.prog.underlying 45=some (TypeDesc.slice 96):=by kernel_rfl
theorem te45:tyElem Tryz.prog 45=some 96:=by kernel_rfl
theorem tz45:tyZero Tryz.prog 45=some [Value.slice none 0 0]:=by kernel_rfl
theorem tk47:tyK Tryz.prog 47=some (true,1):=by kernel_rfl
theorem tr47:tyRow Tryz.prog 47=some 1:=by kernel_rfl
theorem tf47_0:tyField Tryz.prog 47 0=some (0,45):=by kernel_rfl
theorem tp47:tyPlaces Tryz.prog 47=some [(0,1)]:=by kernel_rfl
theorem tz47:tyZero Tryz.prog 47=some [Value.slice none 0 0]:=by kernel_rfl
theorem tk57:tyK Tryz.prog 57=some (false,1):=by kernel_rfl
theorem tr57:tyRow Tryz.prog 57=some 1:=by kernel_rfl
theorem tu57:Tryz.prog.underlying 57=some (TypeDesc.slice 3):=by kernel_rfl
theorem te57:tyElem Tryz.prog 57=some 3:=by kernel_rfl
theorem tz57:tyZero Tryz.prog 57=some [Value.slice none 0 0]:=by kernel_rfl
theorem tk59:tyK Tryz.prog 59=some (false,1):=by kernel_rfl
theorem tr59:tyRow Tryz.prog 59=some 1:=by kernel_rfl
theorem tu59:Tryz.prog.underlying 59=some (TypeDesc.pointer 73):=by kernel_rfl
theorem tz59:tyZero Tryz.prog 59=some [Value.pointer none]:=by kernel_rfl
theorem tk65:tyK Tryz.prog 65=some (false,1):=by kernel_rfl
theorem tr65:tyRow Tryz.prog 65=some 1:=by kernel_rfl
theorem tu65:Tryz.prog.underlying 65=some (TypeDesc.slice 9):=by kernel_rfl
theorem te65:tyElem Tryz.prog 65=some 9:=by kernel_rfl
theorem tz65:tyZero Tryz.prog 65=some [Value.slice none 0 0]:=by kernel_rfl
theorem tk73:tyK Tryz.prog 73=some (true,3):=by kernel_rfl
theorem tr73:tyRow Tryz.prog 73=some 3:=by kernel_rfl
theorem tf73_0:tyField Tryz.prog 73 0=some (0,22):=by kernel_rfl
theorem tf73_1:tyField Tryz.prog 73 1=some (1,3):=by kernel_rfl
theorem tf73_2:tyField Tryz.prog 73 2=some (2,3):=by kernel_rfl
theorem tp73:tyPlaces Tryz.prog 73=some [(0,1),(1,1),(2,1)]:=by kernel_rfl
theorem tz73:tyZero Tryz.prog 73=some [Value.slice none 0 0,Value.int IntKind.i64 0,Value.int IntKind.i64 0]:=by kernel_rfl
theorem tk82:tyK Tryz.prog 82=some (false,1):=by kernel_rfl
theorem tr82:tyRow Tryz.prog 82=some 1:=by kernel_rfl
theorem tu82:Tryz.prog.underlying 82=some (TypeDesc.pointer 84):=by kernel_rfl
theorem tz82:tyZero Tryz.prog 82=some [Value.pointer none]:=by kernel_rfl
theorem tk84:tyK Tryz.prog 84=some (true,2):=by kernel_rfl
theorem tr84:tyRow Tryz.prog 84=some 2:=by kernel_rfl
theorem tf84_0:tyField Tryz.prog 84 0=some (0,26):=by kernel_rfl
theorem tf84_1:tyField Tryz.prog 84 1=some (1,22):=by kernel_rfl
theorem tp84:tyPlaces Tryz.prog 84=some [(0,1),(1,1)]:=by kernel_rfl
theorem tz84:tyZero Tryz.prog 84=some [Value.slice none 0 0,Value.slice none 0 0]:=by kernel_rfl
theorem tk86:tyK Tryz.prog 86=some (false,1):=by kernel_rfl
theorem tr86:tyRow Tryz.prog 86=some 1:=by kernel_rfl
theorem tu86 : Tryz.prog.underlying 86 = some (TypeDesc.interface #[("Error", 193)]) := by kernel_rfl
theorem tz86:tyZero Tryz.prog 86=some [Value.nilIface]:=by kernel_rfl
theorem tk89:tyK Tryz.prog 89=some (false,1):=by kernel_rfl
theorem tr89:tyRow Tryz.prog 89=some 1:=by kernel_rfl
theorem tu89:Tryz.prog.underlying 89=some (TypeDesc.pointer 93):=by kernel_rfl
theorem tz89:tyZero Tryz.prog 89=some [Value.pointer none]:=by kernel_rfl
theorem tk91:tyK Tryz.prog 91=some (false,1):=by kernel_rfl
theorem tr91:tyRow Tryz.prog 91=some 1:=by kernel_rfl
theorem tu91:Tryz.prog.underlying 91=some (TypeDesc.pointer 89):=by kernel_rfl
theorem tz91:tyZero Tryz.prog 91=some [Value.pointer none]:=by kernel_rfl
theorem tk93:tyK Tryz.prog 93=some (true,2):=by kernel_rfl
theorem tr93:tyRow Tryz.prog 93=some 2:=by kernel_rfl
theorem tf93_0:tyField Tryz.prog 93 0=some (0,3):=by kernel_rfl
theorem tf93_1:tyField Tryz.prog 93 1=some (1,3):=by kernel_rfl
theorem tq93:tyFlat Tryz.prog 93=some [0,0]:=by kernel_rfl
theorem tp93:tyPlaces Tryz.prog 93=some [(0,1),(1,1)]:=by kernel_rfl
theorem tz93:tyZero Tryz.prog 93=some [Value.int IntKind.i64 0,Value.int IntKind.i64 0]:=by kernel_rfl
theorem tk96:tyK Tryz.prog 96=some (true,8):=by kernel_rfl
theorem tr96:tyRow Tryz.prog 96=some 8:=by kernel_rfl
theorem tf96_0:tyField Tryz.prog 96 0=some (0,9):=by kernel_rfl
theorem tf96_1:tyField Tryz.prog 96 1=some (1,3):=by kernel_rfl
theorem tf96_2:tyField Tryz.prog 96 2=some (2,3):=by kernel_rfl
theorem tf96_3:tyField Tryz.prog 96 3=some (3,4):=by kernel_rfl
theorem tf96_4:tyField Tryz.prog 96 4=some (4,22):=by kernel_rfl
theorem tf96_5:tyField Tryz.prog 96 5=some (5,65):=by kernel_rfl
theorem tf96_6:tyField Tryz.prog 96 6=some (6,57):=by kernel_rfl
theorem tf96_7:tyField Tryz.prog 96 7=some (7,57):=by kernel_rfl
theorem tp96:tyPlaces Tryz.prog 96=some [(0,1),(1,1),(2,1),(3,1),(4,1),(5,1),(6,1),(7,1)]:=by kernel_rfl
theorem tz96:tyZero Tryz.prog 96=some [Value.string ByteArray.empty,Value.int IntKind.i64 0,Value.int IntKind.i64 0,Value.bool false,Value.slice none 0 0,Value.slice none 0 0,Value.slice none 0 0,Value.slice none 0 0]:=by kernel_rfl
theorem tk97:tyK Tryz.prog 97=some (true,8):=by kernel_rfl
theorem tr97:tyRow Tryz.prog 97=some 8:=by kernel_rfl
theorem tf97_0:tyField Tryz.prog 97 0=some (0,9):=by kernel_rfl
theorem tf97_1:tyField Tryz.prog 97 1=some (1,3):=by kernel_rfl
theorem tf97_2:tyField Tryz.prog 97 2=some (2,3):=by kernel_rfl
theorem tf97_3:tyField Tryz.prog 97 3=some (3,4):=by kernel_rfl
theorem tf97_4:tyField Tryz.prog 97 4=some (4,22):=by kernel_rfl
theorem tf97_5:tyField Tryz.prog 97 5=some (5,65):=by kernel_rfl
theorem tf97_6:tyField Tryz.prog 97 6=some (6,57):=by kernel_rfl
theorem tf97_7:tyField Tryz.prog 97 7=some (7,57):=by kernel_rfl
theorem tp97:tyPlaces Tryz.prog 97=some [(0,1),(1,1),(2,1),(3,1),(4,1),(5,1),(6,1),(7,1)]:=by kernel_rfl
theorem tz97:tyZero Tryz.prog 97=some [Value.string ByteArray.empty,Value.int IntKind.i64 0,Value.int IntKind.i64 0,Value.bool false,Value.slice none 0 0,Value.slice none 0 0,Value.slice none 0 0,Value.slice none 0 0]:=by kernel_rfl
theorem tk102:tyK Tryz.prog 102=some (true,3):=by kernel_rfl
theorem tr102:tyRow Tryz.prog 102=some 3:=by kernel_rfl
theorem tu102:Tryz.prog.underlying 102=some (TypeDesc.array 3 3):=by kernel_rfl
theorem ta102:tyArr Tryz.prog 102=some (3,3):=by kernel_rfl
theorem tq102:tyFlat Tryz.prog 102=some [0,0,0]:=by kernel_rfl
theorem tp102:tyPlaces Tryz.prog 102=some [(0,1),(1,1),(2,1)]:=by kernel_rfl
theorem tz102:tyZero Tryz.prog 102=some [Value.int IntKind.i64 0,Value.int IntKind.i64 0,Value.int IntKind.i64 0]:=by kernel_rfl
theorem tk170:tyK Tryz.prog 170=some (false,1):=by kernel_rfl
theorem tr170:tyRow Tryz.prog 170=some 1:=by kernel_rfl
theorem tu170:Tryz.prog.underlying 170=some (TypeDesc.pointer 3):=by kernel_rfl
theorem tz170:tyZero Tryz.prog 170=some [Value.pointer none]:=by kernel_rfl
theorem ai {a b:Prop} (h:a) (k:b):a∧b:=⟨h,k⟩
set_option linter.defProp false
def tg3:=ai (ai tk3 tr3) (ai tu3 tz3)
def tg4:=ai (ai tk4 tr4) (ai tu4 tz4)
def tg5:=ai (ai tk5 tr5) (ai tu5 tz5)
def tg9:=ai (ai tk9 tr9) (ai tu9 tz9)
def tg20:=ai (ai tk20 tr20) (ai tu20 tz20)
def tg22:=ai (ai tk22 (ai tr22 tu22)) (ai te22 (ai tb22 tz22))
def tg24:=ai (ai tk24 tr24) (ai tu24 (ai te24 tz24))
def tg26:=ai (ai tk26 tr26) (ai tf26_0 (ai tp26 tz26))
def tg30:=ai (ai (ai tk30 tr30) (ai tf30_0 tf30_1)) (ai (ai tf30_2 tq30) (ai tp30 tz30))
def tg37:=ai (ai tk37 tr37) (ai tu37 (ai te37 tz37))
def tg39:=ai (ai tk39 (ai tr39 tf39_0)) (ai (ai tf39_1 tf39_2) (ai tp39 tz39))
def tg45:=ai (ai tk45 tr45) (ai tu45 (ai te45 tz45))
def tg47:=ai (ai tk47 tr47) (ai tf47_0 (ai tp47 tz47))
def tg57:=ai (ai tk57 tr57) (ai tu57 (ai te57 tz57))
def tg59:=ai (ai tk59 tr59) (ai tu59 tz59)
def tg65:=ai (ai tk65 tr65) (ai tu65 (ai te65 tz65))
def tg73:=ai (ai tk73 (ai tr73 tf73_0)) (ai (ai tf73_1 tf73_2) (ai tp73 tz73))
def tg82:=ai (ai tk82 tr82) (ai tu82 tz82)
def tg84:=ai (ai tk84 (ai tr84 tf84_0)) (ai tf84_1 (ai tp84 tz84))
def tg86:=ai (ai tk86 tr86) (ai tu86 tz86)
def tg89:=ai (ai tk89 tr89) (ai tu89 tz89)
def tg91:=ai (ai tk91 tr91) (ai tu91 tz91)
def tg93:=ai (ai tk93 (ai tr93 tf93_0)) (ai (ai tf93_1 tq93) (ai tp93 tz93))
def tg96:=ai (ai (ai tk96 (ai tr96 tf96_0)) (ai tf96_1 (ai tf96_2 tf96_3))) (ai (ai tf96_4 (ai tf96_5 tf96_6)) (ai tf96_7 (ai tp96 tz96)))
def tg97:=ai (ai (ai tk97 (ai tr97 tf97_0)) (ai tf97_1 (ai tf97_2 tf97_3))) (ai (ai tf97_4 (ai tf97_5 tf97_6)) (ai tf97_7 (ai tp97 tz97)))
def tg102:=ai (ai tk102 (ai tr102 tu102)) (ai (ai ta102 tq102) (ai tp102 tz102))
def tg170:=ai (ai tk170 tr170) (ai tu170 tz170)
end Go.Proofs.YtndnefealooolaaGreatDoor.Eng
