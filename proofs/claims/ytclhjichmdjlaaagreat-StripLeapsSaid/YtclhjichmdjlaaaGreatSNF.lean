/- Walks of the functions of the seat over those rules, and plain laws of what they compute. No conditions beyond those in each theorem. -/
import Derived.Test.YtclhjichmdjlaaaGreatEL
import Derived.Test.YtclhjichmdjlaaaGreatProg
set_option linter.unusedSimpArgs false
set_option linter.unusedVariables false
namespace Go.Eng
open Go.RowKit Go.Proofs
noncomputable abbrev Pg:Program:=Tryz.prog
theorem T3.z:zer Pg 3=some [(Value.int IntKind.i64 0)]:=by kernel_rfl
theorem T3.sc:scal Pg 3=true:=by kernel_rfl
theorem T3.u:Pg.underlying 3=some (TypeDesc.int IntKind.i64):=by kernel_rfl
theorem T3.z1:zer1 Pg 3 (Value.int IntKind.i64 0):=zer1.mk (by kernel_rfl)
theorem T3.ko:KeyOk Pg 3 (Value.int .i64):=keyOk_int T3.u
theorem T4.z:zer Pg 4=some [(Value.bool false)]:=by kernel_rfl
theorem T4.sc:scal Pg 4=true:=by kernel_rfl
theorem T4.u:Pg.underlying 4=some TypeDesc.bool:=by kernel_rfl
theorem T5.z:zer Pg 5=some [(Value.int IntKind.u8 0)]:=by kernel_rfl
theorem T5.sc:scal Pg 5=true:=by kernel_rfl
theorem T5.u:Pg.underlying 5=some (TypeDesc.int IntKind.u8):=by kernel_rfl
theorem T9.sc:scal Pg 9=true:=by kernel_rfl
theorem T9.u:Pg.underlying 9=some TypeDesc.string:=by kernel_rfl
theorem T9.ko:KeyOk Pg 9 Value.string:=keyOk_string T9.u
theorem T20.i:ifcB Pg 20=true:=by kernel_rfl
theorem T22.sc:scal Pg 22=true:=by kernel_rfl
theorem T22.u:Pg.underlying 22=some (TypeDesc.int IntKind.u16):=by kernel_rfl
theorem T24.z:zer Pg 24=some [(Value.int IntKind.u8 0),(Value.int IntKind.u16 0),(Value.int IntKind.u16 0)]:=by kernel_rfl
theorem T24.ag:agg Pg 24=some 3:=by kernel_rfl
theorem T24.b:bldS Pg 24=some [(0,1),(1,1),(2,1)]:=by kernel_rfl
theorem T24.u:Pg.underlying 24=some (TypeDesc.struct #[(Field.mk "Hood" 5 0 false "" "" 0),(Field.mk "Born" 22 1 false "" "" 2),(Field.mk "Stay" 22 2 false "" "" 4)]):=by kernel_rfl
theorem T24.f0:fldOff Pg 24 0=some 0:=by kernel_rfl
theorem T24.f1:fldOff Pg 24 1=some 1:=by kernel_rfl
theorem T24.f2:fldOff Pg 24 2=some 2:=by kernel_rfl
theorem T26.z:zer Pg 26=some [(Value.int IntKind.u8 0),(Value.int IntKind.u16 0),(Value.int IntKind.u16 0),(Value.int IntKind.i64 0)]:=by kernel_rfl
theorem T26.ag:agg Pg 26=some 4:=by kernel_rfl
theorem T26.b:bldS Pg 26=some [(0,3),(3,1)]:=by kernel_rfl
theorem T26.u:Pg.underlying 26=some (TypeDesc.struct #[(Field.mk "Life" 24 0 false "" "" 0),(Field.mk "States" 3 3 false "" "" 8)]):=by kernel_rfl
theorem T26.f0:fldOff Pg 26 0=some 0:=by kernel_rfl
theorem T26.f1:fldOff Pg 26 1=some 3:=by kernel_rfl
theorem T27.sc:scal Pg 27=true:=by kernel_rfl
theorem T27.sl:slcE Pg 27=some (93,2,40):=by kernel_rfl
theorem T27.u:Pg.underlying 27=some (TypeDesc.slice 93):=by kernel_rfl
theorem T28.sc:scal Pg 28=true:=by kernel_rfl
theorem T28.sl:slcE Pg 28=some (50,5,56):=by kernel_rfl
theorem T28.u:Pg.underlying 28=some (TypeDesc.slice 50):=by kernel_rfl
theorem T30.ag:agg Pg 30=some 5:=by kernel_rfl
theorem T30.u:Pg.underlying 30=some (TypeDesc.struct #[(Field.mk "States" 3 0 false "" "" 0),(Field.mk "Hood" 5 1 false "" "" 8),(Field.mk "Symmetry" 5 2 false "" "" 9),(Field.mk "Vars" 27 3 false "" "" 16),(Field.mk "Rows" 28 4 false "" "" 40)]):=by kernel_rfl
theorem T30.f0:fldOff Pg 30 0=some 0:=by kernel_rfl
theorem T30.f1:fldOff Pg 30 1=some 1:=by kernel_rfl
theorem T30.f2:fldOff Pg 30 2=some 2:=by kernel_rfl
theorem T30.f3:fldOff Pg 30 3=some 3:=by kernel_rfl
theorem T30.f4:fldOff Pg 30 4=some 4:=by kernel_rfl
theorem T32.z:zer Pg 32=some [(Value.int IntKind.u8 0),(Value.int IntKind.u8 0),(Value.int IntKind.u16 0),(Value.int IntKind.u16 0),(Value.int IntKind.i64 0),(Value.string (ByteArray.mk #[])),(Value.int IntKind.i64 0),(Value.int IntKind.u8 0),(Value.int IntKind.u8 0),(Value.slice none 0 0),(Value.slice none 0 0)]:=by kernel_rfl
theorem T32.ag:agg Pg 32=some 11:=by kernel_rfl
theorem T32.b:bldS Pg 32=some [(0,1),(1,4),(5,1),(6,5)]:=by kernel_rfl
theorem T32.u:Pg.underlying 32=some (TypeDesc.struct #[(Field.mk "Kind" 5 0 false "" "" 0),(Field.mk "Gens" 26 1 false "" "" 8),(Field.mk "Name" 9 5 false "" "" 24),(Field.mk "Table" 30 6 false "" "" 40)]):=by kernel_rfl
theorem T32.f0:fldOff Pg 32 0=some 0:=by kernel_rfl
theorem T32.f1:fldOff Pg 32 1=some 1:=by kernel_rfl
theorem T32.f2:fldOff Pg 32 2=some 5:=by kernel_rfl
theorem T32.f3:fldOff Pg 32 3=some 6:=by kernel_rfl
theorem T34.z:zer Pg 34=some [(Value.int IntKind.u8 0),(Value.int IntKind.i64 0),(Value.int IntKind.i64 0),(Value.int IntKind.u8 0),(Value.int IntKind.i64 0)]:=by kernel_rfl
theorem T34.ag:agg Pg 34=some 5:=by kernel_rfl
theorem T34.b:bldS Pg 34=some [(0,1),(1,1),(2,1),(3,1),(4,1)]:=by kernel_rfl
theorem T34.u:Pg.underlying 34=some (TypeDesc.struct #[(Field.mk "Kind" 5 0 false "" "" 0),(Field.mk "W" 3 1 false "" "" 8),(Field.mk "H" 3 2 false "" "" 16),(Field.mk "Turn" 5 3 false "" "" 24),(Field.mk "Shift" 3 4 false "" "" 32)]):=by kernel_rfl
theorem T34.f0:fldOff Pg 34 0=some 0:=by kernel_rfl
theorem T34.f1:fldOff Pg 34 1=some 1:=by kernel_rfl
theorem T34.f2:fldOff Pg 34 2=some 2:=by kernel_rfl
theorem T34.f3:fldOff Pg 34 3=some 3:=by kernel_rfl
theorem T34.f4:fldOff Pg 34 4=some 4:=by kernel_rfl
theorem T38.sc:scal Pg 38=true:=by kernel_rfl
theorem T38.u:Pg.underlying 38=some (TypeDesc.pointer 59):=by kernel_rfl
theorem T39.z:zer Pg 39=some [(Value.int IntKind.i64 0)]:=by kernel_rfl
theorem T39.sc:scal Pg 39=true:=by kernel_rfl
theorem T47.z:zer Pg 47=some [(Value.int IntKind.u8 0),(Value.int IntKind.i64 0)]:=by kernel_rfl
theorem T47.ag:agg Pg 47=some 2:=by kernel_rfl
theorem T47.u:Pg.underlying 47=some (TypeDesc.struct #[(Field.mk "State" 5 0 false "" "" 0),(Field.mk "Var" 3 1 false "" "" 8)]):=by kernel_rfl
theorem T47.f0:fldOff Pg 47 0=some 0:=by kernel_rfl
theorem T47.f1:fldOff Pg 47 1=some 1:=by kernel_rfl
theorem T48.sc:scal Pg 48=true:=by kernel_rfl
theorem T48.sl:slcE Pg 48=some (47,2,16):=by kernel_rfl
theorem T48.u:Pg.underlying 48=some (TypeDesc.slice 47):=by kernel_rfl
theorem T50.z:zer Pg 50=some [(Value.int IntKind.u8 0),(Value.int IntKind.i64 0),(Value.slice none 0 0),(Value.int IntKind.u8 0),(Value.int IntKind.i64 0)]:=by kernel_rfl
theorem T50.ag:agg Pg 50=some 5:=by kernel_rfl
theorem T50.u:Pg.underlying 50=some (TypeDesc.struct #[(Field.mk "Centre" 47 0 false "" "" 0),(Field.mk "Around" 48 2 false "" "" 16),(Field.mk "Out" 47 3 false "" "" 40)]):=by kernel_rfl
theorem T50.f0:fldOff Pg 50 0=some 0:=by kernel_rfl
theorem T50.f1:fldOff Pg 50 1=some 2:=by kernel_rfl
theorem T50.f2:fldOff Pg 50 2=some 3:=by kernel_rfl
theorem T51.z:zer Pg 51=some [(Value.slice none 0 0)]:=by kernel_rfl
theorem T51.sc:scal Pg 51=true:=by kernel_rfl
theorem T51.sl:slcE Pg 51=some (111,4,40):=by kernel_rfl
theorem T52.sc:scal Pg 52=true:=by kernel_rfl
theorem T52.m:mapT Pg 52 171 3=true:=by kernel_rfl
theorem T53.sc:scal Pg 53=true:=by kernel_rfl
theorem T53.m:mapT Pg 53 9 3=true:=by kernel_rfl
theorem T54.sc:scal Pg 54=true:=by kernel_rfl
theorem T54.m:mapT Pg 54 173 3=true:=by kernel_rfl
theorem T55.sc:scal Pg 55=true:=by kernel_rfl
theorem T55.m:mapT Pg 55 204 3=true:=by kernel_rfl
theorem T56.z:zer Pg 56=some [(Value.slice none 0 0)]:=by kernel_rfl
theorem T56.sc:scal Pg 56=true:=by kernel_rfl
theorem T56.sl:slcE Pg 56=some (3,1,8):=by kernel_rfl
theorem T57.z:zer Pg 57=some [(Value.map none)]:=by kernel_rfl
theorem T57.sc:scal Pg 57=true:=by kernel_rfl
theorem T57.m:mapT Pg 57 3 3=true:=by kernel_rfl
theorem T59.z:zer Pg 59=some [(Value.int IntKind.u8 0),(Value.int IntKind.u8 0),(Value.int IntKind.u16 0),(Value.int IntKind.u16 0),(Value.int IntKind.i64 0),(Value.string (ByteArray.mk #[])),(Value.int IntKind.i64 0),(Value.int IntKind.u8 0),(Value.int IntKind.u8 0),(Value.slice none 0 0),(Value.slice none 0 0),(Value.int IntKind.u8 0),(Value.int IntKind.i64 0),(Value.int IntKind.i64 0),(Value.int IntKind.u8 0),(Value.int IntKind.i64 0),(Value.int IntKind.i64 0),(Value.int IntKind.i64 0),(Value.slice none 0 0),(Value.map none),(Value.map none),(Value.map none),(Value.map none),(Value.slice none 0 0),(Value.map none),(Value.map none)]:=by kernel_rfl
theorem T59.b:bldS Pg 59=some [(0,11),(11,5),(16,1),(17,1),(18,1),(19,1),(20,1),(21,1),(22,1),(23,1),(24,1),(25,1)]:=by kernel_rfl
theorem T59.f0:fldOff Pg 59 0=some 0:=by kernel_rfl
theorem T59.f1:fldOff Pg 59 1=some 11:=by kernel_rfl
theorem T59.f2:fldOff Pg 59 2=some 16:=by kernel_rfl
theorem T59.f3:fldOff Pg 59 3=some 17:=by kernel_rfl
theorem T59.f4:fldOff Pg 59 4=some 18:=by kernel_rfl
theorem T59.f5:fldOff Pg 59 5=some 19:=by kernel_rfl
theorem T59.f6:fldOff Pg 59 6=some 20:=by kernel_rfl
theorem T59.f7:fldOff Pg 59 7=some 21:=by kernel_rfl
theorem T59.f8:fldOff Pg 59 8=some 22:=by kernel_rfl
theorem T59.f9:fldOff Pg 59 9=some 23:=by kernel_rfl
theorem T59.f10:fldOff Pg 59 10=some 24:=by kernel_rfl
theorem T59.f11:fldOff Pg 59 11=some 25:=by kernel_rfl
theorem T60.z:zer Pg 60=some [(Value.slice none 0 0)]:=by kernel_rfl
theorem T60.sc:scal Pg 60=true:=by kernel_rfl
theorem T60.sl:slcE Pg 60=some (5,1,1):=by kernel_rfl
theorem T60.u:Pg.underlying 60=some (TypeDesc.slice 5):=by kernel_rfl
theorem T61.sc:scal Pg 61=true:=by kernel_rfl
theorem T61.sl:slcE Pg 61=some (60,1,24):=by kernel_rfl
theorem T61.u:Pg.underlying 61=some (TypeDesc.slice 60):=by kernel_rfl
theorem T63.z:zer Pg 63=some [(Value.int IntKind.i64 0),(Value.int IntKind.i64 0),(Value.slice none 0 0)]:=by kernel_rfl
theorem T63.ag:agg Pg 63=some 3:=by kernel_rfl
theorem T63.b:bldS Pg 63=some [(0,1),(1,1),(2,1)]:=by kernel_rfl
theorem T63.u:Pg.underlying 63=some (TypeDesc.struct #[(Field.mk "W" 3 0 false "" "" 0),(Field.mk "At" 3 1 false "" "" 8),(Field.mk "Rows" 61 2 false "" "" 16)]):=by kernel_rfl
theorem T63.f0:fldOff Pg 63 0=some 0:=by kernel_rfl
theorem T63.f1:fldOff Pg 63 1=some 1:=by kernel_rfl
theorem T63.f2:fldOff Pg 63 2=some 2:=by kernel_rfl
theorem T93.z:zer Pg 93=some [(Value.string (ByteArray.mk #[])),(Value.slice none 0 0)]:=by kernel_rfl
theorem T93.ag:agg Pg 93=some 2:=by kernel_rfl
theorem T93.u:Pg.underlying 93=some (TypeDesc.struct #[(Field.mk "Name" 9 0 false "" "" 0),(Field.mk "States" 60 1 false "" "" 16)]):=by kernel_rfl
theorem T93.f0:fldOff Pg 93 0=some 0:=by kernel_rfl
theorem T93.f1:fldOff Pg 93 1=some 1:=by kernel_rfl
theorem T108.sc:scal Pg 108=true:=by kernel_rfl
theorem T111.z:zer Pg 111=some [(Value.int IntKind.i64 0),(Value.int IntKind.i64 0),(Value.int IntKind.i64 0),(Value.string (ByteArray.mk #[]))]:=by kernel_rfl
theorem T111.ag:agg Pg 111=some 4:=by kernel_rfl
theorem T111.b:bldS Pg 111=some [(0,1),(1,1),(2,1),(3,1)]:=by kernel_rfl
theorem T111.f0:fldOff Pg 111 0=some 0:=by kernel_rfl
theorem T111.f1:fldOff Pg 111 1=some 1:=by kernel_rfl
theorem T111.f2:fldOff Pg 111 2=some 2:=by kernel_rfl
theorem T111.f3:fldOff Pg 111 3=some 3:=by kernel_rfl
theorem T115.z:zer Pg 115=some [(Value.slice none 0 0),(Value.slice none 0 0),(Value.slice none 0 0)]:=by kernel_rfl
theorem T115.ag:agg Pg 115=some 3:=by kernel_rfl
theorem T115.ar:arrE Pg 115=some (3,1,false):=by kernel_rfl
theorem T122.sc:scal Pg 122=true:=by kernel_rfl
theorem T127.sl:slcE Pg 127=some (132,2,16):=by kernel_rfl
theorem T132.z:zer Pg 132=some [(Value.int IntKind.i64 0),(Value.int IntKind.i64 0)]:=by kernel_rfl
theorem T132.ag:agg Pg 132=some 2:=by kernel_rfl
theorem T132.b:bldS Pg 132=some [(0,1),(1,1)]:=by kernel_rfl
theorem T132.f0:fldOff Pg 132 0=some 0:=by kernel_rfl
theorem T132.f1:fldOff Pg 132 1=some 1:=by kernel_rfl
theorem T135.z:zer Pg 135=some [Value.nilIface]:=by kernel_rfl
theorem T135.sc:scal Pg 135=true:=by kernel_rfl
theorem T142.z:zer Pg 142=some [Value.nilFunc]:=by kernel_rfl
theorem T142.sc:scal Pg 142=true:=by kernel_rfl
theorem T163.ag:agg Pg 163=some 0:=by kernel_rfl
theorem T163.b:bldS Pg 163=some []:=by kernel_rfl
theorem T163.u:Pg.underlying 163=some (TypeDesc.struct #[]):=by kernel_rfl
theorem T171.z:zer Pg 171=some [(Value.int IntKind.i64 0),(Value.int IntKind.i64 0)]:=by kernel_rfl
theorem T171.ag:agg Pg 171=some 2:=by kernel_rfl
theorem T171.b:bldS Pg 171=some [(0,1),(1,1)]:=by kernel_rfl
theorem T171.ss:intsS Pg 171 2 .i64=true:=by kernel_rfl
theorem T171.ko:KeyOk Pg 171 (encS .i64 2):=keyOk_struct T171.ss
theorem T173.z:zer Pg 173=some [(Value.int IntKind.i64 0),(Value.int IntKind.i64 0)]:=by kernel_rfl
theorem T173.ag:agg Pg 173=some 2:=by kernel_rfl
theorem T173.b:bldS Pg 173=some [(0,1),(1,1)]:=by kernel_rfl
theorem T173.ss:intsS Pg 173 2 .i64=true:=by kernel_rfl
theorem T173.ko:KeyOk Pg 173 (encS .i64 2):=keyOk_struct T173.ss
theorem T177.u:Pg.underlying 177=some (TypeDesc.int IntKind.u64):=by kernel_rfl
theorem T196.z:zer Pg 196=some [(Value.int IntKind.u8 0),(Value.int IntKind.u16 0),(Value.int IntKind.u16 0)]:=by kernel_rfl
theorem T196.b:bldS Pg 196=some [(0,3)]:=by kernel_rfl
theorem T196.u:Pg.underlying 196=some (TypeDesc.struct #[(Field.mk "l" 24 0 false "" "vivarium/rule" 0)]):=by kernel_rfl
theorem T196.f0:fldOff Pg 196 0=some 0:=by kernel_rfl
theorem T198.z:zer Pg 198=some [(Value.int IntKind.u8 0),(Value.int IntKind.u16 0),(Value.int IntKind.u16 0),(Value.int IntKind.i64 0)]:=by kernel_rfl
theorem T198.b:bldS Pg 198=some [(0,4)]:=by kernel_rfl
theorem T198.u:Pg.underlying 198=some (TypeDesc.struct #[(Field.mk "g" 26 0 false "" "vivarium/rule" 0)]):=by kernel_rfl
theorem T198.f0:fldOff Pg 198 0=some 0:=by kernel_rfl
theorem T200.z:zer Pg 200=some [(Value.string (ByteArray.mk #[])),(Value.int IntKind.i64 0),(Value.int IntKind.u8 0),(Value.int IntKind.u8 0),(Value.slice none 0 0),(Value.slice none 0 0)]:=by kernel_rfl
theorem T200.b:bldS Pg 200=some [(0,1),(1,5)]:=by kernel_rfl
theorem T200.u:Pg.underlying 200=some (TypeDesc.struct #[(Field.mk "name" 9 0 false "" "vivarium/rule" 0),(Field.mk "t" 30 1 false "" "vivarium/rule" 16)]):=by kernel_rfl
theorem T200.f0:fldOff Pg 200 0=some 0:=by kernel_rfl
theorem T200.f1:fldOff Pg 200 1=some 1:=by kernel_rfl
theorem T204.z:zer Pg 204=some [(Value.int IntKind.i64 0),(Value.int IntKind.i64 0),(Value.int IntKind.i64 0)]:=by kernel_rfl
theorem T204.ag:agg Pg 204=some 3:=by kernel_rfl
theorem T204.b:bldS Pg 204=some [(0,1),(1,1),(2,1)]:=by kernel_rfl
theorem T204.ss:intsS Pg 204 3 .i64=true:=by kernel_rfl
theorem T204.ko:KeyOk Pg 204 (encS .i64 3):=keyOk_struct T204.ss
theorem T205.z:zer Pg 205=some [(Value.bool false),(Value.bool false),(Value.bool false),(Value.bool false),(Value.bool false),(Value.bool false),(Value.bool false),(Value.bool false)]:=by kernel_rfl
theorem T205.ag:agg Pg 205=some 8:=by kernel_rfl
theorem T205.ar:arrE Pg 205=some (8,1,false):=by kernel_rfl
theorem T208.z:zer Pg 208=some [(Value.int IntKind.i64 0),(Value.int IntKind.i64 0),(Value.int IntKind.i64 0),(Value.int IntKind.i64 0),(Value.int IntKind.i64 0),(Value.int IntKind.i64 0),(Value.int IntKind.i64 0),(Value.int IntKind.i64 0),(Value.int IntKind.i64 0),(Value.int IntKind.i64 0),(Value.int IntKind.i64 0),(Value.int IntKind.i64 0),(Value.int IntKind.i64 0),(Value.int IntKind.i64 0),(Value.int IntKind.i64 0),(Value.int IntKind.i64 0)]:=by kernel_rfl
theorem T208.ag:agg Pg 208=some 16:=by kernel_rfl
theorem T208.ar:arrE Pg 208=some (8,2,true):=by kernel_rfl
theorem T214.u:Pg.underlying 214=some (TypeDesc.int IntKind.u64):=by kernel_rfl
theorem T239.sl:slcE Pg 239=some (56,1,24):=by kernel_rfl
theorem T265.z:zer Pg 265=some [(Value.int IntKind.u8 0),(Value.int IntKind.u16 0),(Value.int IntKind.u16 0)]:=by kernel_rfl
theorem T265.ag:agg Pg 265=some 3:=by kernel_rfl
theorem T265.b:bldS Pg 265=some [(0,3)]:=by kernel_rfl
theorem T265.f0:fldOff Pg 265 0=some 0:=by kernel_rfl
theorem T267.z:zer Pg 267=some [(Value.int IntKind.u8 0),(Value.int IntKind.u16 0),(Value.int IntKind.u16 0),(Value.int IntKind.i64 0)]:=by kernel_rfl
theorem T267.b:bldS Pg 267=some [(0,3),(3,1)]:=by kernel_rfl
theorem T267.f0:fldOff Pg 267 0=some 0:=by kernel_rfl
theorem T267.f1:fldOff Pg 267 1=some 3:=by kernel_rfl
theorem T269.u:Pg.underlying 269=some (TypeDesc.pointer 277):=by kernel_rfl
theorem T274.sc:scal Pg 274=true:=by kernel_rfl
theorem T275.sc:scal Pg 275=true:=by kernel_rfl
theorem T277.z:zer Pg 277=some [(Value.string (ByteArray.mk #[])),(Value.int IntKind.i64 0),(Value.bool false)]:=by kernel_rfl
theorem T277.b:bldS Pg 277=some [(0,1),(1,1),(2,1)]:=by kernel_rfl
theorem T277.f0:fldOff Pg 277 0=some 0:=by kernel_rfl
theorem T277.f1:fldOff Pg 277 1=some 1:=by kernel_rfl
theorem T277.f2:fldOff Pg 277 2=some 2:=by kernel_rfl
theorem T280.ar:arrE Pg 280=some (64,1,false):=by kernel_rfl
theorem T281.ar:arrE Pg 281=some (64,1,false):=by kernel_rfl
theorem T283.ag:agg Pg 283=some 130:=by kernel_rfl
theorem T283.b:bldS Pg 283=some [(0,1),(1,1),(2,64),(66,64)]:=by kernel_rfl
theorem T283.f0:fldOff Pg 283 0=some 0:=by kernel_rfl
theorem T283.f1:fldOff Pg 283 1=some 1:=by kernel_rfl
theorem T283.f2:fldOff Pg 283 2=some 2:=by kernel_rfl
theorem T283.f3:fldOff Pg 283 3=some 66:=by kernel_rfl
theorem T287.ar:arrE Pg 287=some (256,1,false):=by kernel_rfl
theorem F8.fn:IsFn Pg 8:=IsFn.mk Tryz.func8 (by kernel_rfl)
theorem F10.fn:IsFn Pg 10:=IsFn.mk Tryz.func10 (by kernel_rfl)
theorem F14.fn:IsFn Pg 14:=IsFn.mk Tryz.func14 (by kernel_rfl)
theorem F15.fn:IsFn Pg 15:=IsFn.mk Tryz.func15 (by kernel_rfl)
theorem F16.fn:IsFn Pg 16:=IsFn.mk Tryz.func16 (by kernel_rfl)
theorem F17.fn:IsFn Pg 17:=IsFn.mk Tryz.func17 (by kernel_rfl)
theorem F18.fn:IsFn Pg 18:=IsFn.mk Tryz.func18 (by kernel_rfl)
theorem F20.fn:IsFn Pg 20:=IsFn.mk Tryz.func20 (by kernel_rfl)
theorem F21.fn:IsFn Pg 21:=IsFn.mk Tryz.func21 (by kernel_rfl)
theorem F23.fn:IsFn Pg 23:=IsFn.mk Tryz.func23 (by kernel_rfl)
theorem F24.fn:IsFn Pg 24:=IsFn.mk Tryz.func24 (by kernel_rfl)
theorem F32.fn:IsFn Pg 32:=IsFn.mk Tryz.func32 (by kernel_rfl)
theorem F33.fn:IsFn Pg 33:=IsFn.mk Tryz.func33 (by kernel_rfl)
theorem F34.fn:IsFn Pg 34:=IsFn.mk Tryz.func34 (by kernel_rfl)
theorem F35.fn:IsFn Pg 35:=IsFn.mk Tryz.func35 (by kernel_rfl)
theorem F44.fn:IsFn Pg 44:=IsFn.mk Tryz.func44 (by kernel_rfl)
theorem F45.fn:IsFn Pg 45:=IsFn.mk Tryz.func45 (by kernel_rfl)
theorem F46.fn:IsFn Pg 46:=IsFn.mk Tryz.func46 (by kernel_rfl)
theorem F47.fn:IsFn Pg 47:=IsFn.mk Tryz.func47 (by kernel_rfl)
theorem F48.fn:IsFn Pg 48:=IsFn.mk Tryz.func48 (by kernel_rfl)
theorem F49.fn:IsFn Pg 49:=IsFn.mk Tryz.func49 (by kernel_rfl)
theorem F50.fn:IsFn Pg 50:=IsFn.mk Tryz.func50 (by kernel_rfl)
theorem F51.fn:IsFn Pg 51:=IsFn.mk Tryz.func51 (by kernel_rfl)
theorem F52.fn:IsFn Pg 52:=IsFn.mk Tryz.func52 (by kernel_rfl)
theorem F53.fn:IsFn Pg 53:=IsFn.mk Tryz.func53 (by kernel_rfl)
theorem F54.fn:IsFn Pg 54:=IsFn.mk Tryz.func54 (by kernel_rfl)
theorem F55.fn:IsFn Pg 55:=IsFn.mk Tryz.func55 (by kernel_rfl)
theorem F56.fn:IsFn Pg 56:=IsFn.mk Tryz.func56 (by kernel_rfl)
theorem F59.fn:IsFn Pg 59:=IsFn.mk Tryz.func59 (by kernel_rfl)
theorem F60.fn:IsFn Pg 60:=IsFn.mk Tryz.func60 (by kernel_rfl)
theorem F61.fn:IsFn Pg 61:=IsFn.mk Tryz.func61 (by kernel_rfl)
theorem F62.fn:IsFn Pg 62:=IsFn.mk Tryz.func62 (by kernel_rfl)
theorem F63.fn:IsFn Pg 63:=IsFn.mk Tryz.func63 (by kernel_rfl)
theorem F64.fn:IsFn Pg 64:=IsFn.mk Tryz.func64 (by kernel_rfl)
theorem F65.fn:IsFn Pg 65:=IsFn.mk Tryz.func65 (by kernel_rfl)
theorem F66.fn:IsFn Pg 66:=IsFn.mk Tryz.func66 (by kernel_rfl)
theorem F69.fn:IsFn Pg 69:=IsFn.mk Tryz.func69 (by kernel_rfl)
theorem F70.fn:IsFn Pg 70:=IsFn.mk Tryz.func70 (by kernel_rfl)
theorem F78.fn:IsFn Pg 78:=IsFn.mk Tryz.func78 (by kernel_rfl)
theorem F79.fn:IsFn Pg 79:=IsFn.mk Tryz.func79 (by kernel_rfl)
theorem F80.fn:IsFn Pg 80:=IsFn.mk Tryz.func80 (by kernel_rfl)
theorem F81.fn:IsFn Pg 81:=IsFn.mk Tryz.func81 (by kernel_rfl)
theorem F82.fn:IsFn Pg 82:=IsFn.mk Tryz.func82 (by kernel_rfl)
theorem F102.fn:IsFn Pg 102:=IsFn.mk Tryz.func102 (by kernel_rfl)
theorem F103.fn:IsFn Pg 103:=IsFn.mk Tryz.func103 (by kernel_rfl)
theorem F104.fn:IsFn Pg 104:=IsFn.mk Tryz.func104 (by kernel_rfl)
theorem F105.fn:IsFn Pg 105:=IsFn.mk Tryz.func105 (by kernel_rfl)
theorem F106.fn:IsFn Pg 106:=IsFn.mk Tryz.func106 (by kernel_rfl)
theorem F107.fn:IsFn Pg 107:=IsFn.mk Tryz.func107 (by kernel_rfl)
theorem F108.fn:IsFn Pg 108:=IsFn.mk Tryz.func108 (by kernel_rfl)
theorem F109.fn:IsFn Pg 109:=IsFn.mk Tryz.func109 (by kernel_rfl)
theorem F110.fn:IsFn Pg 110:=IsFn.mk Tryz.func110 (by kernel_rfl)
theorem F111.fn:IsFn Pg 111:=IsFn.mk Tryz.func111 (by kernel_rfl)
theorem F112.fn:IsFn Pg 112:=IsFn.mk Tryz.func112 (by kernel_rfl)
theorem F113.fn:IsFn Pg 113:=IsFn.mk Tryz.func113 (by kernel_rfl)
theorem F114.fn:IsFn Pg 114:=IsFn.mk Tryz.func114 (by kernel_rfl)
theorem F115.fn:IsFn Pg 115:=IsFn.mk Tryz.func115 (by kernel_rfl)
theorem F116.fn:IsFn Pg 116:=IsFn.mk Tryz.func116 (by kernel_rfl)
theorem F117.fn:IsFn Pg 117:=IsFn.mk Tryz.func117 (by kernel_rfl)
theorem F120.fn:IsFn Pg 120:=IsFn.mk Tryz.func120 (by kernel_rfl)
theorem F121.fn:IsFn Pg 121:=IsFn.mk Tryz.func121 (by kernel_rfl)
theorem F122.fn:IsFn Pg 122:=IsFn.mk Tryz.func122 (by kernel_rfl)
theorem F123.fn:IsFn Pg 123:=IsFn.mk Tryz.func123 (by kernel_rfl)
theorem F124.fn:IsFn Pg 124:=IsFn.mk Tryz.func124 (by kernel_rfl)
theorem F125.fn:IsFn Pg 125:=IsFn.mk Tryz.func125 (by kernel_rfl)
theorem F141.fn:IsFn Pg 141:=IsFn.mk Tryz.func141 (by kernel_rfl)
theorem F142.fn:IsFn Pg 142:=IsFn.mk Tryz.func142 (by kernel_rfl)
theorem F143.fn:IsFn Pg 143:=IsFn.mk Tryz.func143 (by kernel_rfl)
theorem F144.fn:IsFn Pg 144:=IsFn.mk Tryz.func144 (by kernel_rfl)
theorem F145.fn:IsFn Pg 145:=IsFn.mk Tryz.func145 (by kernel_rfl)
theorem F146.fn:IsFn Pg 146:=IsFn.mk Tryz.func146 (by kernel_rfl)
theorem F148.fn:IsFn Pg 148:=IsFn.mk Tryz.func148 (by kernel_rfl)
theorem F193.fn:IsFn Pg 193:=IsFn.mk Tryz.func193 (by kernel_rfl)
theorem F194.fn:IsFn Pg 194:=IsFn.mk Tryz.func194 (by kernel_rfl)
theorem F195.fn:IsFn Pg 195:=IsFn.mk Tryz.func195 (by kernel_rfl)
theorem F197.fn:IsFn Pg 197:=IsFn.mk Tryz.func197 (by kernel_rfl)
theorem F198.fn:IsFn Pg 198:=IsFn.mk Tryz.func198 (by kernel_rfl)
theorem F199.fn:IsFn Pg 199:=IsFn.mk Tryz.func199 (by kernel_rfl)
theorem F200.fn:IsFn Pg 200:=IsFn.mk Tryz.func200 (by kernel_rfl)
theorem F201.fn:IsFn Pg 201:=IsFn.mk Tryz.func201 (by kernel_rfl)
theorem F202.fn:IsFn Pg 202:=IsFn.mk Tryz.func202 (by kernel_rfl)
theorem F203.fn:IsFn Pg 203:=IsFn.mk Tryz.func203 (by kernel_rfl)
theorem F204.fn:IsFn Pg 204:=IsFn.mk Tryz.func204 (by kernel_rfl)
theorem F206.fn:IsFn Pg 206:=IsFn.mk Tryz.func206 (by kernel_rfl)
theorem F207.fn:IsFn Pg 207:=IsFn.mk Tryz.func207 (by kernel_rfl)
theorem F208.fn:IsFn Pg 208:=IsFn.mk Tryz.func208 (by kernel_rfl)
theorem F209.fn:IsFn Pg 209:=IsFn.mk Tryz.func209 (by kernel_rfl)
theorem F210.fn:IsFn Pg 210:=IsFn.mk Tryz.func210 (by kernel_rfl)
theorem F211.fn:IsFn Pg 211:=IsFn.mk Tryz.func211 (by kernel_rfl)
theorem F212.fn:IsFn Pg 212:=IsFn.mk Tryz.func212 (by kernel_rfl)
theorem F213.fn:IsFn Pg 213:=IsFn.mk Tryz.func213 (by kernel_rfl)
theorem F215.fn:IsFn Pg 215:=IsFn.mk Tryz.func215 (by kernel_rfl)
theorem F216.fn:IsFn Pg 216:=IsFn.mk Tryz.func216 (by kernel_rfl)
theorem F217.fn:IsFn Pg 217:=IsFn.mk Tryz.func217 (by kernel_rfl)
theorem F218.fn:IsFn Pg 218:=IsFn.mk Tryz.func218 (by kernel_rfl)
theorem F219.fn:IsFn Pg 219:=IsFn.mk Tryz.func219 (by kernel_rfl)
theorem F220.fn:IsFn Pg 220:=IsFn.mk Tryz.func220 (by kernel_rfl)
theorem F221.fn:IsFn Pg 221:=IsFn.mk Tryz.func221 (by kernel_rfl)
theorem F222.fn:IsFn Pg 222:=IsFn.mk Tryz.func222 (by kernel_rfl)
theorem F223.fn:IsFn Pg 223:=IsFn.mk Tryz.func223 (by kernel_rfl)
theorem F224.fn:IsFn Pg 224:=IsFn.mk Tryz.func224 (by kernel_rfl)
theorem F225.fn:IsFn Pg 225:=IsFn.mk Tryz.func225 (by kernel_rfl)
theorem F226.fn:IsFn Pg 226:=IsFn.mk Tryz.func226 (by kernel_rfl)
theorem F227.fn:IsFn Pg 227:=IsFn.mk Tryz.func227 (by kernel_rfl)
theorem F228.fn:IsFn Pg 228:=IsFn.mk Tryz.func228 (by kernel_rfl)
theorem F229.fn:IsFn Pg 229:=IsFn.mk Tryz.func229 (by kernel_rfl)
theorem F230.fn:IsFn Pg 230:=IsFn.mk Tryz.func230 (by kernel_rfl)
theorem F231.fn:IsFn Pg 231:=IsFn.mk Tryz.func231 (by kernel_rfl)
theorem F232.fn:IsFn Pg 232:=IsFn.mk Tryz.func232 (by kernel_rfl)
theorem F233.fn:IsFn Pg 233:=IsFn.mk Tryz.func233 (by kernel_rfl)
theorem F234.fn:IsFn Pg 234:=IsFn.mk Tryz.func234 (by kernel_rfl)
theorem F235.fn:IsFn Pg 235:=IsFn.mk Tryz.func235 (by kernel_rfl)
theorem F236.fn:IsFn Pg 236:=IsFn.mk Tryz.func236 (by kernel_rfl)
theorem F237.fn:IsFn Pg 237:=IsFn.mk Tryz.func237 (by kernel_rfl)
theorem F238.fn:IsFn Pg 238:=IsFn.mk Tryz.func238 (by kernel_rfl)
theorem F239.fn:IsFn Pg 239:=IsFn.mk Tryz.func239 (by kernel_rfl)
open Go.RowKit Go.Proofs
theorem F22.fn:IsFn Pg 22:=IsFn.mk Tryz.func22 (by kernel_rfl)
theorem F25.fn:IsFn Pg 25:=IsFn.mk Tryz.func25 (by kernel_rfl)
theorem F26.fn:IsFn Pg 26:=IsFn.mk Tryz.func26 (by kernel_rfl)
theorem F67.fn:IsFn Pg 67:=IsFn.mk Tryz.func67 (by kernel_rfl)
theorem F68.fn:IsFn Pg 68:=IsFn.mk Tryz.func68 (by kernel_rfl)
theorem F118.fn:IsFn Pg 118:=IsFn.mk Tryz.func118 (by kernel_rfl)
theorem F119.fn:IsFn Pg 119:=IsFn.mk Tryz.func119 (by kernel_rfl)
end Go.Eng
