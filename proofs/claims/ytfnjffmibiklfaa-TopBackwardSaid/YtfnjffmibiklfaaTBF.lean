/- Walks of the seat's functions over those rules, and plain laws of what they compute. No conditions beyond those in each theorem. -/
import Derived.Test.YtfnjffmibiklfaaEL
import Derived.Test.YtfnjffmibiklfaaProg
namespace Go.Eng
open Go.RowKit Go.Proofs
set_option linter.unusedSimpArgs false
set_option linter.unusedVariables false
noncomputable abbrev Pg : Program := Try.prog
theorem T0.z : zer Pg 0 = some [(Value.tuple #[])] := by kernel_rfl
theorem T0.sc : scal Pg 0 = true := by kernel_rfl
theorem T1.z : zer Pg 1 = some [Value.nilFunc] := by kernel_rfl
theorem T1.sc : scal Pg 1 = true := by kernel_rfl
theorem T2.z : zer Pg 2 = some [(Value.int IntKind.i64 0)] := by kernel_rfl
theorem T2.sc : scal Pg 2 = true := by kernel_rfl
theorem T2.u : Pg.underlying 2 = some (TypeDesc.int IntKind.i64) := by kernel_rfl
theorem T3.z : zer Pg 3 = some [(Value.int IntKind.i64 0)] := by kernel_rfl
theorem T3.sc : scal Pg 3 = true := by kernel_rfl
theorem T3.u : Pg.underlying 3 = some (TypeDesc.int IntKind.i64) := by kernel_rfl
theorem T4.z : zer Pg 4 = some [(Value.bool false)] := by kernel_rfl
theorem T4.sc : scal Pg 4 = true := by kernel_rfl
theorem T4.u : Pg.underlying 4 = some TypeDesc.bool := by kernel_rfl
theorem T5.z : zer Pg 5 = some [(Value.int IntKind.u8 0)] := by kernel_rfl
theorem T5.sc : scal Pg 5 = true := by kernel_rfl
theorem T5.u : Pg.underlying 5 = some (TypeDesc.int IntKind.u8) := by kernel_rfl
theorem T9.z : zer Pg 9 = some [(Value.string (ByteArray.mk #[]))] := by kernel_rfl
theorem T9.sc : scal Pg 9 = true := by kernel_rfl
theorem T9.u : Pg.underlying 9 = some TypeDesc.string := by kernel_rfl
theorem T22.z : zer Pg 22 = some [(Value.int IntKind.u8 0), (Value.int IntKind.u8 0), (Value.int IntKind.u8 0), (Value.int IntKind.u8 0), (Value.int IntKind.u8 0), (Value.int IntKind.u8 0), (Value.int IntKind.u8 0), (Value.int IntKind.u8 0), (Value.int IntKind.u8 0), (Value.int IntKind.u8 0), (Value.int IntKind.u8 0), (Value.int IntKind.u8 0), (Value.int IntKind.u8 0), (Value.int IntKind.u8 0), (Value.int IntKind.u8 0), (Value.int IntKind.u8 0)] := by kernel_rfl
theorem T22.ag : agg Pg 22 = some 16 := by kernel_rfl
theorem T22.ar : arrE Pg 22 = some (16, 1, false) := by kernel_rfl
theorem T22.eg : Pg.eqGuardType Pg.depth 22 = false := by kernel_rfl
theorem T22.u : Pg.underlying 22 = some (TypeDesc.array 16 5) := by kernel_rfl
theorem T24.z : zer Pg 24 = some [(Value.int IntKind.u8 0), (Value.int IntKind.i64 0), (Value.int IntKind.i64 0), (Value.int IntKind.u8 0), (Value.int IntKind.i64 0)] := by kernel_rfl
theorem T24.ag : agg Pg 24 = some 5 := by kernel_rfl
theorem T24.b : bldS Pg 24 = some [(0, 1), (1, 1), (2, 1), (3, 1), (4, 1)] := by kernel_rfl
theorem T24.u : Pg.underlying 24 = some (TypeDesc.struct #[(Field.mk "Kind" 5 0 false "" "" 0), (Field.mk "W" 3 1 false "" "" 8), (Field.mk "H" 3 2 false "" "" 16), (Field.mk "Turn" 5 3 false "" "" 24), (Field.mk "Shift" 3 4 false "" "" 32)]) := by kernel_rfl
theorem T24.f0 : fldOff Pg 24 0 = some 0 := by kernel_rfl
theorem T24.f1 : fldOff Pg 24 1 = some 1 := by kernel_rfl
theorem T24.f2 : fldOff Pg 24 2 = some 2 := by kernel_rfl
theorem T24.f3 : fldOff Pg 24 3 = some 3 := by kernel_rfl
theorem T24.f4 : fldOff Pg 24 4 = some 4 := by kernel_rfl
theorem T25.z : zer Pg 25 = some [(Value.slice none 0 0)] := by kernel_rfl
theorem T25.sc : scal Pg 25 = true := by kernel_rfl
theorem T25.sl : slcE Pg 25 = some (5, 1, 1) := by kernel_rfl
theorem T25.u : Pg.underlying 25 = some (TypeDesc.slice 5) := by kernel_rfl
theorem T26.z : zer Pg 26 = some [(Value.int IntKind.i64 0)] := by kernel_rfl
theorem T26.sc : scal Pg 26 = true := by kernel_rfl
theorem T26.u : Pg.underlying 26 = some (TypeDesc.int IntKind.i64) := by kernel_rfl
theorem T30.z : zer Pg 30 = some [(Value.pointer none)] := by kernel_rfl
theorem T30.sc : scal Pg 30 = true := by kernel_rfl
theorem T30.u : Pg.underlying 30 = some (TypeDesc.pointer 46) := by kernel_rfl
theorem T41.z : zer Pg 41 = some [(Value.int IntKind.i64 0), (Value.int IntKind.i64 0), (Value.int IntKind.i64 0)] := by kernel_rfl
theorem T41.ag : agg Pg 41 = some 3 := by kernel_rfl
theorem T41.b : bldS Pg 41 = some [(0, 1), (1, 1), (2, 1)] := by kernel_rfl
theorem T41.u : Pg.underlying 41 = some (TypeDesc.struct #[(Field.mk "w" 3 0 false "" "vivarium/field" 0), (Field.mk "h" 3 1 false "" "vivarium/field" 8), (Field.mk "states" 3 2 false "" "vivarium/field" 16)]) := by kernel_rfl
theorem T41.ss : intsS Pg 41 3 .i64 = true := by kernel_rfl
theorem T41.f0 : fldOff Pg 41 0 = some 0 := by kernel_rfl
theorem T41.f1 : fldOff Pg 41 1 = some 1 := by kernel_rfl
theorem T41.f2 : fldOff Pg 41 2 = some 2 := by kernel_rfl
theorem T43.z : zer Pg 43 = some [Value.nilIface] := by kernel_rfl
theorem T43.sc : scal Pg 43 = true := by kernel_rfl
theorem T43.i : ifcB Pg 43 = true := by kernel_rfl
theorem T46.z : zer Pg 46 = some [(Value.int IntKind.i64 0), (Value.int IntKind.i64 0), (Value.int IntKind.i64 0), (Value.bool false), Value.nilIface] := by kernel_rfl
theorem T46.ag : agg Pg 46 = some 5 := by kernel_rfl
theorem T46.b : bldS Pg 46 = some [(0, 3), (3, 1), (4, 1)] := by kernel_rfl
theorem T46.u : Pg.underlying 46 = some (TypeDesc.struct #[(Field.mk "shape" 41 0 true "" "vivarium/field" 0), (Field.mk "packed" 4 3 false "" "vivarium/field" 24), (Field.mk "cells" 43 4 false "" "vivarium/field" 32)]) := by kernel_rfl
theorem T46.f0 : fldOff Pg 46 0 = some 0 := by kernel_rfl
theorem T46.f1 : fldOff Pg 46 1 = some 3 := by kernel_rfl
theorem T46.f2 : fldOff Pg 46 2 = some 4 := by kernel_rfl
theorem T53.z : zer Pg 53 = some [(Value.slice none 0 0)] := by kernel_rfl
theorem T53.sc : scal Pg 53 = true := by kernel_rfl
theorem T53.sl : slcE Pg 53 = some (59, 8, 64) := by kernel_rfl
theorem T53.u : Pg.underlying 53 = some (TypeDesc.slice 59) := by kernel_rfl
theorem T55.z : zer Pg 55 = some [(Value.slice none 0 0), (Value.slice none 0 0)] := by kernel_rfl
theorem T55.ag : agg Pg 55 = some 2 := by kernel_rfl
theorem T55.ar : arrE Pg 55 = some (2, 1, false) := by kernel_rfl
theorem T55.eg : Pg.eqGuardType Pg.depth 55 = false := by kernel_rfl
theorem T55.u : Pg.underlying 55 = some (TypeDesc.array 2 53) := by kernel_rfl
theorem T58.z : zer Pg 58 = some [(Value.int IntKind.i64 0), (Value.int IntKind.i64 0)] := by kernel_rfl
theorem T58.ag : agg Pg 58 = some 2 := by kernel_rfl
theorem T58.b : bldS Pg 58 = some [(0, 1), (1, 1)] := by kernel_rfl
theorem T58.u : Pg.underlying 58 = some (TypeDesc.struct #[(Field.mk "X" 3 0 false "" "" 0), (Field.mk "Y" 3 1 false "" "" 8)]) := by kernel_rfl
theorem T58.ss : intsS Pg 58 2 .i64 = true := by kernel_rfl
theorem T58.f0 : fldOff Pg 58 0 = some 0 := by kernel_rfl
theorem T58.f1 : fldOff Pg 58 1 = some 1 := by kernel_rfl
theorem T59.z : zer Pg 59 = some [(Value.int IntKind.i64 0), (Value.int IntKind.i64 0), (Value.int IntKind.i64 0), (Value.int IntKind.i64 0), (Value.int IntKind.i64 0), (Value.int IntKind.i64 0), (Value.int IntKind.i64 0), (Value.int IntKind.i64 0)] := by kernel_rfl
theorem T59.ag : agg Pg 59 = some 8 := by kernel_rfl
theorem T59.ar : arrE Pg 59 = some (4, 2, true) := by kernel_rfl
theorem T59.eg : Pg.eqGuardType Pg.depth 59 = false := by kernel_rfl
theorem T59.u : Pg.underlying 59 = some (TypeDesc.array 4 58) := by kernel_rfl
theorem T63.z : zer Pg 63 = some [(Value.int IntKind.u64 0)] := by kernel_rfl
theorem T63.sc : scal Pg 63 = true := by kernel_rfl
theorem T63.u : Pg.underlying 63 = some (TypeDesc.int IntKind.u64) := by kernel_rfl
theorem T70.z : zer Pg 70 = some [(Value.slice none 0 0)] := by kernel_rfl
theorem T70.sc : scal Pg 70 = true := by kernel_rfl
theorem T70.sl : slcE Pg 70 = some (75, 2, 32) := by kernel_rfl
theorem T70.u : Pg.underlying 70 = some (TypeDesc.slice 75) := by kernel_rfl
theorem T72.z : zer Pg 72 = some [(Value.slice none 0 0)] := by kernel_rfl
theorem T72.ag : agg Pg 72 = some 1 := by kernel_rfl
theorem T72.b : bldS Pg 72 = some [(0, 1)] := by kernel_rfl
theorem T72.u : Pg.underlying 72 = some (TypeDesc.struct #[(Field.mk "rows" 70 0 false "" "vivarium/field" 0)]) := by kernel_rfl
theorem T72.f0 : fldOff Pg 72 0 = some 0 := by kernel_rfl
theorem T73.z : zer Pg 73 = some [(Value.slice none 0 0)] := by kernel_rfl
theorem T73.sc : scal Pg 73 = true := by kernel_rfl
theorem T73.sl : slcE Pg 73 = some (88, 1, 8) := by kernel_rfl
theorem T73.u : Pg.underlying 73 = some (TypeDesc.slice 88) := by kernel_rfl
theorem T75.z : zer Pg 75 = some [(Value.int IntKind.i64 0), (Value.slice none 0 0)] := by kernel_rfl
theorem T75.ag : agg Pg 75 = some 2 := by kernel_rfl
theorem T75.b : bldS Pg 75 = some [(0, 1), (1, 1)] := by kernel_rfl
theorem T75.u : Pg.underlying 75 = some (TypeDesc.struct #[(Field.mk "N" 3 0 false "" "" 0), (Field.mk "Words" 73 1 false "" "" 8)]) := by kernel_rfl
theorem T75.f0 : fldOff Pg 75 0 = some 0 := by kernel_rfl
theorem T75.f1 : fldOff Pg 75 1 = some 1 := by kernel_rfl
theorem T78.z : zer Pg 78 = some [(Value.slice none 0 0)] := by kernel_rfl
theorem T78.sc : scal Pg 78 = true := by kernel_rfl
theorem T78.sl : slcE Pg 78 = some (25, 1, 24) := by kernel_rfl
theorem T78.u : Pg.underlying 78 = some (TypeDesc.slice 25) := by kernel_rfl
theorem T80.z : zer Pg 80 = some [(Value.slice none 0 0)] := by kernel_rfl
theorem T80.ag : agg Pg 80 = some 1 := by kernel_rfl
theorem T80.b : bldS Pg 80 = some [(0, 1)] := by kernel_rfl
theorem T80.u : Pg.underlying 80 = some (TypeDesc.struct #[(Field.mk "rows" 78 0 false "" "vivarium/field" 0)]) := by kernel_rfl
theorem T80.f0 : fldOff Pg 80 0 = some 0 := by kernel_rfl
theorem T86.z : zer Pg 86 = some [(Value.int IntKind.u32 0)] := by kernel_rfl
theorem T86.sc : scal Pg 86 = true := by kernel_rfl
theorem T86.u : Pg.underlying 86 = some (TypeDesc.int IntKind.u32) := by kernel_rfl
theorem T88.z : zer Pg 88 = some [(Value.int IntKind.u64 0)] := by kernel_rfl
theorem T88.sc : scal Pg 88 = true := by kernel_rfl
theorem T88.u : Pg.underlying 88 = some (TypeDesc.int IntKind.u64) := by kernel_rfl
theorem T96.z : zer Pg 96 = some [(Value.int IntKind.u8 0), (Value.int IntKind.i64 0), (Value.int IntKind.i64 0), (Value.int IntKind.u8 0), (Value.int IntKind.i64 0), (Value.int IntKind.i64 0), (Value.int IntKind.i64 0)] := by kernel_rfl
theorem T96.ag : agg Pg 96 = some 7 := by kernel_rfl
theorem T96.b : bldS Pg 96 = some [(0, 5), (5, 1), (6, 1)] := by kernel_rfl
theorem T96.u : Pg.underlying 96 = some (TypeDesc.struct #[(Field.mk "Topo" 24 0 true "" "" 0), (Field.mk "left" 3 5 false "" "vivarium/fold" 40), (Field.mk "top" 3 6 false "" "vivarium/fold" 48)]) := by kernel_rfl
theorem T96.f0 : fldOff Pg 96 0 = some 0 := by kernel_rfl
theorem T96.f1 : fldOff Pg 96 1 = some 5 := by kernel_rfl
theorem T96.f2 : fldOff Pg 96 2 = some 6 := by kernel_rfl
theorem T100.z : zer Pg 100 = some [(Value.slice none 0 0)] := by kernel_rfl
theorem T100.sc : scal Pg 100 = true := by kernel_rfl
theorem T100.sl : slcE Pg 100 = some (58, 2, 16) := by kernel_rfl
theorem T100.u : Pg.underlying 100 = some (TypeDesc.slice 58) := by kernel_rfl
theorem T103.z : zer Pg 103 = some [(Value.int IntKind.i64 0), (Value.int IntKind.i64 0), (Value.int IntKind.i64 0), (Value.int IntKind.i64 0)] := by kernel_rfl
theorem T103.ag : agg Pg 103 = some 4 := by kernel_rfl
theorem T103.b : bldS Pg 103 = some [(0, 1), (1, 1), (2, 1), (3, 1)] := by kernel_rfl
theorem T103.u : Pg.underlying 103 = some (TypeDesc.struct #[(Field.mk "X" 3 0 false "" "" 0), (Field.mk "Y" 3 1 false "" "" 8), (Field.mk "W" 3 2 false "" "" 16), (Field.mk "H" 3 3 false "" "" 24)]) := by kernel_rfl
theorem T103.ss : intsS Pg 103 4 .i64 = true := by kernel_rfl
theorem T103.f0 : fldOff Pg 103 0 = some 0 := by kernel_rfl
theorem T103.f1 : fldOff Pg 103 1 = some 1 := by kernel_rfl
theorem T109.z : zer Pg 109 = some [Value.nilFunc] := by kernel_rfl
theorem T109.sc : scal Pg 109 = true := by kernel_rfl
theorem T113.z : zer Pg 113 = some [Value.nilFunc, Value.nilFunc, Value.nilFunc, Value.nilFunc, Value.nilFunc, Value.nilFunc] := by kernel_rfl
theorem T113.ag : agg Pg 113 = some 6 := by kernel_rfl
theorem T113.ar : arrE Pg 113 = some (6, 1, false) := by kernel_rfl
theorem T113.eg : Pg.eqGuardType Pg.depth 113 = false := by kernel_rfl
theorem T113.u : Pg.underlying 113 = some (TypeDesc.array 6 109) := by kernel_rfl
theorem F3.fn : IsFn Pg 3 := IsFn.mk Try.func3 (by kernel_rfl)   -- vivarium/vivariumtop.TopBackward
theorem F4.fn : IsFn Pg 4 := IsFn.mk Try.func4 (by kernel_rfl)   -- vivarium/block.Turns
theorem F5.fn : IsFn Pg 5 := IsFn.mk Try.func5 (by kernel_rfl)   -- vivarium/vivariumtop.ends
theorem F6.fn : IsFn Pg 6 := IsFn.mk Try.func6 (by kernel_rfl)   -- vivarium/field.New
theorem F7.fn : IsFn Pg 7 := IsFn.mk Try.func7 (by kernel_rfl)   -- (*vivarium/field.Field).Set
theorem F8.fn : IsFn Pg 8 := IsFn.mk Try.func8 (by kernel_rfl)   -- vivarium/block.Run
theorem F9.fn : IsFn Pg 9 := IsFn.mk Try.func9 (by kernel_rfl)   -- vivarium/block.Counts
theorem F10.fn : IsFn Pg 10 := IsFn.mk Try.func10 (by kernel_rfl)   -- (*vivarium/field.Field).Pop
theorem F11.fn : IsFn Pg 11 := IsFn.mk Try.func11 (by kernel_rfl)   -- (*vivarium/field.Field).Same
theorem F12.fn : IsFn Pg 12 := IsFn.mk Try.func12 (by kernel_rfl)   -- vivarium/block.Check
theorem F13.fn : IsFn Pg 13 := IsFn.mk Try.func13 (by kernel_rfl)   -- vivarium/vivariumref04.Check
theorem F14.fn : IsFn Pg 14 := IsFn.mk Try.func14 (by kernel_rfl)   -- (vivarium/field.shape).fresh
theorem F15.fn : IsFn Pg 15 := IsFn.mk Try.func15 (by kernel_rfl)   -- (*vivarium/field.Field).none
theorem F16.fn : IsFn Pg 16 := IsFn.mk Try.func16 (by kernel_rfl)   -- (vivarium/field.shape).has
theorem F17.fn : IsFn Pg 17 := IsFn.mk Try.func17 (by kernel_rfl)   -- (vivarium/field.shape).knows
theorem F18.fn : IsFn Pg 18 := IsFn.mk Try.func18 (by kernel_rfl)   -- vivarium/block.asked
theorem F19.fn : IsFn Pg 19 := IsFn.mk Try.func19 (by kernel_rfl)   -- (*vivarium/field.Field).Clone
theorem F20.fn : IsFn Pg 20 := IsFn.mk Try.func20 (by kernel_rfl)   -- vivarium/block.blocks
theorem F21.fn : IsFn Pg 21 := IsFn.mk Try.func21 (by kernel_rfl)   -- vivarium/block.back
theorem F22.fn : IsFn Pg 22 := IsFn.mk Try.func22 (by kernel_rfl)   -- (*vivarium/field.Field).Get
theorem F23.fn : IsFn Pg 23 := IsFn.mk Try.func23 (by kernel_rfl)   -- math/bits.OnesCount
theorem F24.fn : IsFn Pg 24 := IsFn.mk Try.func24 (by kernel_rfl)   -- math/bits.OnesCount8
theorem F25.fn : IsFn Pg 25 := IsFn.mk Try.func25 (by kernel_rfl)   -- (*vivarium/field.Field).living
theorem F26.fn : IsFn Pg 26 := IsFn.mk Try.func26 (by kernel_rfl)   -- vivarium/vivariumref04.side
theorem F27.fn : IsFn Pg 27 := IsFn.mk Try.func27 (by kernel_rfl)   -- vivarium/words.New
theorem F28.fn : IsFn Pg 28 := IsFn.mk Try.func28 (by kernel_rfl)   -- (*vivarium/field.Field).W
theorem F29.fn : IsFn Pg 29 := IsFn.mk Try.func29 (by kernel_rfl)   -- vivarium/block.grid
theorem F30.fn : IsFn Pg 30 := IsFn.mk Try.func30 (by kernel_rfl)   -- (*vivarium/field.Field).H
theorem F31.fn : IsFn Pg 31 := IsFn.mk Try.func31 (by kernel_rfl)   -- (*vivarium/field.Field).States
theorem F32.fn : IsFn Pg 32 := IsFn.mk Try.func32 (by kernel_rfl)   -- vivarium/block.span
theorem F33.fn : IsFn Pg 33 := IsFn.mk Try.func33 (by kernel_rfl)   -- vivarium/block.cell
theorem F34.fn : IsFn Pg 34 := IsFn.mk Try.func34 (by kernel_rfl)   -- math/bits.OnesCount32
theorem F35.fn : IsFn Pg 35 := IsFn.mk Try.func35 (by kernel_rfl)   -- math/bits.OnesCount64
theorem F36.fn : IsFn Pg 36 := IsFn.mk Try.func36 (by kernel_rfl)   -- (*vivarium/field.Field).living$1
theorem F37.fn : IsFn Pg 37 := IsFn.mk Try.func37 (by kernel_rfl)   -- vivarium/words.blank
theorem F38.fn : IsFn Pg 38 := IsFn.mk Try.func38 (by kernel_rfl)   -- vivarium/topo.Check
theorem F39.fn : IsFn Pg 39 := IsFn.mk Try.func39 (by kernel_rfl)   -- vivarium/whole.Add[int]
theorem F40.fn : IsFn Pg 40 := IsFn.mk Try.func40 (by kernel_rfl)   -- vivarium/fold.Cell
theorem F41.fn : IsFn Pg 41 := IsFn.mk Try.func41 (by kernel_rfl)   -- vivarium/topo.turned
theorem F42.fn : IsFn Pg 42 := IsFn.mk Try.func42 (by kernel_rfl)   -- vivarium/fold.of
theorem F43.fn : IsFn Pg 43 := IsFn.mk Try.func43 (by kernel_rfl)   -- (vivarium/fold.grid).cell
theorem F44.fn : IsFn Pg 44 := IsFn.mk Try.func44 (by kernel_rfl)   -- vivarium/fold.near
theorem F45.fn : IsFn Pg 45 := IsFn.mk Try.func45 (by kernel_rfl)   -- vivarium/topo.Home
theorem F46.fn : IsFn Pg 46 := IsFn.mk Try.func46 (by kernel_rfl)   -- (vivarium/fold.grid).home
theorem F47.fn : IsFn Pg 47 := IsFn.mk Try.func47 (by kernel_rfl)   -- (vivarium/fold.grid).glued
theorem F48.fn : IsFn Pg 48 := IsFn.mk Try.func48 (by kernel_rfl)   -- vivarium/fold.on
theorem F49.fn : IsFn Pg 49 := IsFn.mk Try.func49 (by kernel_rfl)   -- vivarium/fold.way
theorem F50.fn : IsFn Pg 50 := IsFn.mk Try.func50 (by kernel_rfl)   -- (vivarium/fold.grid).place
theorem F51.fn : IsFn Pg 51 := IsFn.mk Try.func51 (by kernel_rfl)   -- (vivarium/fold.grid).flat
theorem F52.fn : IsFn Pg 52 := IsFn.mk Try.func52 (by kernel_rfl)   -- (vivarium/fold.grid).torus
theorem F53.fn : IsFn Pg 53 := IsFn.mk Try.func53 (by kernel_rfl)   -- (vivarium/fold.grid).klein
theorem F54.fn : IsFn Pg 54 := IsFn.mk Try.func54 (by kernel_rfl)   -- (vivarium/fold.grid).cross
theorem F55.fn : IsFn Pg 55 := IsFn.mk Try.func55 (by kernel_rfl)   -- (vivarium/fold.grid).sphere
theorem F56.fn : IsFn Pg 56 := IsFn.mk Try.func56 (by kernel_rfl)   -- vivarium/fold.cut
theorem F57.fn : IsFn Pg 57 := IsFn.mk Try.func57 (by kernel_rfl)   -- vivarium/fold.round
theorem F58.fn : IsFn Pg 58 := IsFn.mk Try.func58 (by kernel_rfl)   -- vivarium/whole.Div[int]
theorem F59.fn : IsFn Pg 59 := IsFn.mk Try.func59 (by kernel_rfl)   -- vivarium/whole.Mod[int]
theorem F77.fn : IsFn Pg 77 := IsFn.mk Try.func77 (by kernel_rfl)   -- (vivarium/field.bitwise).copied
theorem F78.fn : IsFn Pg 78 := IsFn.mk Try.func78 (by kernel_rfl)   -- (vivarium/field.bitwise).get
theorem F79.fn : IsFn Pg 79 := IsFn.mk Try.func79 (by kernel_rfl)   -- (vivarium/field.bitwise).set
theorem F81.fn : IsFn Pg 81 := IsFn.mk Try.func81 (by kernel_rfl)   -- (vivarium/field.bytewise).copied
theorem F82.fn : IsFn Pg 82 := IsFn.mk Try.func82 (by kernel_rfl)   -- (vivarium/field.bytewise).get
theorem F83.fn : IsFn Pg 83 := IsFn.mk Try.func83 (by kernel_rfl)   -- (vivarium/field.bytewise).set
end Go.Eng
