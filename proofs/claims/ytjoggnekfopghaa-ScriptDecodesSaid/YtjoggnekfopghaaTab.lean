/- What the tables say of types, as closed facts; which functions may be entered. Written by gentab.py. -/
import Derived.Test.YtjoggnekfopghaaProg
import Derived.Test.YtjoggnekfopghaaKc
import Derived.KernelRfl
namespace Gp
open Go Go.Proofs

theorem mixed : Try.prog.follows .mixedOrders = true := by kernel_rfl
theorem sz1 : tsz Try.prog 1 = some 1 := by kernel_rfl
theorem ak1 : agk Try.prog 1 = some false := by kernel_rfl
theorem by1 : tby Try.prog 1 = some 8 := by kernel_rfl
theorem zc1 : zcells Try.prog 1 = some [Value.nilFunc] := by kernel_rfl
theorem sz2 : tsz Try.prog 2 = some 1 := by kernel_rfl
theorem ak2 : agk Try.prog 2 = some false := by kernel_rfl
theorem by2 : tby Try.prog 2 = some 8 := by kernel_rfl
theorem zc2 : zcells Try.prog 2 = some [Value.int .i64 0] := by kernel_rfl
theorem sz3 : tsz Try.prog 3 = some 1 := by kernel_rfl
theorem ak3 : agk Try.prog 3 = some false := by kernel_rfl
theorem by3 : tby Try.prog 3 = some 8 := by kernel_rfl
theorem zc3 : zcells Try.prog 3 = some [Value.int .i64 0] := by kernel_rfl
theorem sz4 : tsz Try.prog 4 = some 1 := by kernel_rfl
theorem ak4 : agk Try.prog 4 = some false := by kernel_rfl
theorem by4 : tby Try.prog 4 = some 1 := by kernel_rfl
theorem zc4 : zcells Try.prog 4 = some [Value.bool false] := by kernel_rfl
theorem sz5 : tsz Try.prog 5 = some 1 := by kernel_rfl
theorem ak5 : agk Try.prog 5 = some false := by kernel_rfl
theorem by5 : tby Try.prog 5 = some 1 := by kernel_rfl
theorem zc5 : zcells Try.prog 5 = some [Value.int .u8 0] := by kernel_rfl
theorem sz6 : tsz Try.prog 6 = some 1 := by kernel_rfl
theorem ak6 : agk Try.prog 6 = some false := by kernel_rfl
theorem by6 : tby Try.prog 6 = some 1 := by kernel_rfl
theorem zc6 : zcells Try.prog 6 = some [Value.int .u8 0] := by kernel_rfl
theorem sz7 : tsz Try.prog 7 = some 4 := by kernel_rfl
theorem ak7 : agk Try.prog 7 = some true := by kernel_rfl
theorem fo7_0 : fo Try.prog 7 0 = some 0 := by kernel_rfl
theorem fo7_1 : fo Try.prog 7 1 = some 1 := by kernel_rfl
theorem fo7_2 : fo Try.prog 7 2 = some 2 := by kernel_rfl
theorem fo7_3 : fo Try.prog 7 3 = some 3 := by kernel_rfl
theorem pc7 : plc Try.prog 7 = some [(0, 1), (1, 1), (2, 1), (3, 1)] := by kernel_rfl
theorem by7 : tby Try.prog 7 = some 24 := by kernel_rfl
theorem zc7 : zcells Try.prog 7 = some [Value.int .i64 0, Value.int .i64 0, Value.bool false, Value.int .u8 0] := by kernel_rfl
theorem sz8 : tsz Try.prog 8 = some 4 := by kernel_rfl
theorem ak8 : agk Try.prog 8 = some true := by kernel_rfl
theorem fo8_0 : fo Try.prog 8 0 = some 0 := by kernel_rfl
theorem fo8_1 : fo Try.prog 8 1 = some 1 := by kernel_rfl
theorem fo8_2 : fo Try.prog 8 2 = some 2 := by kernel_rfl
theorem fo8_3 : fo Try.prog 8 3 = some 3 := by kernel_rfl
theorem pc8 : plc Try.prog 8 = some [(0, 1), (1, 1), (2, 1), (3, 1)] := by kernel_rfl
theorem by8 : tby Try.prog 8 = some 24 := by kernel_rfl
theorem zc8 : zcells Try.prog 8 = some [Value.int .i64 0, Value.int .i64 0, Value.bool false, Value.int .u8 0] := by kernel_rfl
theorem sz9 : tsz Try.prog 9 = some 1 := by kernel_rfl
theorem ak9 : agk Try.prog 9 = some false := by kernel_rfl
theorem by9 : tby Try.prog 9 = some 16 := by kernel_rfl
theorem zc9 : zcells Try.prog 9 = some [Value.string ⟨#[]⟩] := by kernel_rfl
theorem sz10 : tsz Try.prog 10 = some 1 := by kernel_rfl
theorem ak10 : agk Try.prog 10 = some false := by kernel_rfl
theorem by10 : tby Try.prog 10 = some 16 := by kernel_rfl
theorem zc10 : zcells Try.prog 10 = some [Value.string ⟨#[]⟩] := by kernel_rfl
theorem sz11 : tsz Try.prog 11 = some 1 := by kernel_rfl
theorem ak11 : agk Try.prog 11 = some false := by kernel_rfl
theorem by11 : tby Try.prog 11 = some 16 := by kernel_rfl
theorem zc11 : zcells Try.prog 11 = some [Value.string ⟨#[]⟩] := by kernel_rfl
theorem sz12 : tsz Try.prog 12 = some 1 := by kernel_rfl
theorem ak12 : agk Try.prog 12 = some false := by kernel_rfl
theorem by12 : tby Try.prog 12 = some 8 := by kernel_rfl
theorem zc12 : zcells Try.prog 12 = some [Value.int .u64 0] := by kernel_rfl
theorem sz13 : tsz Try.prog 13 = some 2 := by kernel_rfl
theorem ak13 : agk Try.prog 13 = some true := by kernel_rfl
theorem fo13_0 : fo Try.prog 13 0 = some 0 := by kernel_rfl
theorem fo13_1 : fo Try.prog 13 1 = some 1 := by kernel_rfl
theorem pc13 : plc Try.prog 13 = some [(0, 1), (1, 1)] := by kernel_rfl
theorem by13 : tby Try.prog 13 = some 24 := by kernel_rfl
theorem zc13 : zcells Try.prog 13 = some [Value.string ⟨#[]⟩, Value.int .u64 0] := by kernel_rfl
theorem sz14 : tsz Try.prog 14 = some 2 := by kernel_rfl
theorem ak14 : agk Try.prog 14 = some true := by kernel_rfl
theorem fo14_0 : fo Try.prog 14 0 = some 0 := by kernel_rfl
theorem fo14_1 : fo Try.prog 14 1 = some 1 := by kernel_rfl
theorem pc14 : plc Try.prog 14 = some [(0, 1), (1, 1)] := by kernel_rfl
theorem by14 : tby Try.prog 14 = some 24 := by kernel_rfl
theorem zc14 : zcells Try.prog 14 = some [Value.string ⟨#[]⟩, Value.int .u64 0] := by kernel_rfl
theorem sz15 : tsz Try.prog 15 = some 1 := by kernel_rfl
theorem ak15 : agk Try.prog 15 = some false := by kernel_rfl
theorem by15 : tby Try.prog 15 = some 8 := by kernel_rfl
theorem zc15 : zcells Try.prog 15 = some [Value.pointer none] := by kernel_rfl
theorem sz16 : tsz Try.prog 16 = some 1 := by kernel_rfl
theorem ak16 : agk Try.prog 16 = some false := by kernel_rfl
theorem by16 : tby Try.prog 16 = some 8 := by kernel_rfl
theorem zc16 : zcells Try.prog 16 = some [Value.pointer none] := by kernel_rfl
theorem sz17 : tsz Try.prog 17 = some 1 := by kernel_rfl
theorem ak17 : agk Try.prog 17 = some false := by kernel_rfl
theorem by17 : tby Try.prog 17 = some 8 := by kernel_rfl
theorem zc17 : zcells Try.prog 17 = some [Value.pointer none] := by kernel_rfl
theorem sz18 : tsz Try.prog 18 = some 1 := by kernel_rfl
theorem ak18 : agk Try.prog 18 = some true := by kernel_rfl
theorem fo18_0 : fo Try.prog 18 0 = some 0 := by kernel_rfl
theorem pc18 : plc Try.prog 18 = some [(0, 1)] := by kernel_rfl
theorem by18 : tby Try.prog 18 = some 8 := by kernel_rfl
theorem zc18 : zcells Try.prog 18 = some [Value.pointer none] := by kernel_rfl
theorem sz19 : tsz Try.prog 19 = some 1 := by kernel_rfl
theorem ak19 : agk Try.prog 19 = some true := by kernel_rfl
theorem fo19_0 : fo Try.prog 19 0 = some 0 := by kernel_rfl
theorem pc19 : plc Try.prog 19 = some [(0, 1)] := by kernel_rfl
theorem by19 : tby Try.prog 19 = some 8 := by kernel_rfl
theorem zc19 : zcells Try.prog 19 = some [Value.pointer none] := by kernel_rfl
theorem sz20 : tsz Try.prog 20 = some 1 := by kernel_rfl
theorem ak20 : agk Try.prog 20 = some false := by kernel_rfl
theorem by20 : tby Try.prog 20 = some 16 := by kernel_rfl
theorem zc20 : zcells Try.prog 20 = some [Value.nilIface] := by kernel_rfl
theorem sz21 : tsz Try.prog 21 = some 1 := by kernel_rfl
theorem ak21 : agk Try.prog 21 = some false := by kernel_rfl
theorem by21 : tby Try.prog 21 = some 4 := by kernel_rfl
theorem zc21 : zcells Try.prog 21 = some [Value.int .i32 0] := by kernel_rfl
theorem sz22 : tsz Try.prog 22 = some 1 := by kernel_rfl
theorem ak22 : agk Try.prog 22 = some false := by kernel_rfl
theorem sl22 : sle Try.prog 22 = some (38, 24) := by kernel_rfl
theorem by22 : tby Try.prog 22 = some 24 := by kernel_rfl
theorem zc22 : zcells Try.prog 22 = some [Value.slice none 0 0] := by kernel_rfl
theorem sz23 : tsz Try.prog 23 = some 1 := by kernel_rfl
theorem ak23 : agk Try.prog 23 = some false := by kernel_rfl
theorem by23 : tby Try.prog 23 = some 8 := by kernel_rfl
theorem zc23 : zcells Try.prog 23 = some [Value.nilFunc] := by kernel_rfl
theorem sz24 : tsz Try.prog 24 = some 1 := by kernel_rfl
theorem ak24 : agk Try.prog 24 = some false := by kernel_rfl
theorem sl24 : sle Try.prog 24 = some (39, 24) := by kernel_rfl
theorem by24 : tby Try.prog 24 = some 24 := by kernel_rfl
theorem zc24 : zcells Try.prog 24 = some [Value.slice none 0 0] := by kernel_rfl
theorem sz25 : tsz Try.prog 25 = some 1 := by kernel_rfl
theorem ak25 : agk Try.prog 25 = some false := by kernel_rfl
theorem by25 : tby Try.prog 25 = some 8 := by kernel_rfl
theorem zc25 : zcells Try.prog 25 = some [Value.nilFunc] := by kernel_rfl
theorem sz26 : tsz Try.prog 26 = some 3 := by kernel_rfl
theorem ak26 : agk Try.prog 26 = some true := by kernel_rfl
theorem fo26_0 : fo Try.prog 26 0 = some 0 := by kernel_rfl
theorem fo26_1 : fo Try.prog 26 1 = some 1 := by kernel_rfl
theorem fo26_2 : fo Try.prog 26 2 = some 2 := by kernel_rfl
theorem pc26 : plc Try.prog 26 = some [(0, 1), (1, 1), (2, 1)] := by kernel_rfl
theorem ck26 : ck Try.prog 9 26 = some [.b, .s, .i] := by kernel_rfl
theorem eg26 : Try.prog.eqGuardType Try.prog.depth 26 = false := by kernel_rfl
theorem by26 : tby Try.prog 26 = some 32 := by kernel_rfl
theorem zc26 : zcells Try.prog 26 = some [Value.bool false, Value.string ⟨#[]⟩, Value.int .i64 0] := by kernel_rfl
theorem sz27 : tsz Try.prog 27 = some 3 := by kernel_rfl
theorem ak27 : agk Try.prog 27 = some true := by kernel_rfl
theorem fo27_0 : fo Try.prog 27 0 = some 0 := by kernel_rfl
theorem fo27_1 : fo Try.prog 27 1 = some 1 := by kernel_rfl
theorem fo27_2 : fo Try.prog 27 2 = some 2 := by kernel_rfl
theorem pc27 : plc Try.prog 27 = some [(0, 1), (1, 1), (2, 1)] := by kernel_rfl
theorem ck27 : ck Try.prog 9 27 = some [.b, .s, .i] := by kernel_rfl
theorem eg27 : Try.prog.eqGuardType Try.prog.depth 27 = false := by kernel_rfl
theorem by27 : tby Try.prog 27 = some 32 := by kernel_rfl
theorem zc27 : zcells Try.prog 27 = some [Value.bool false, Value.string ⟨#[]⟩, Value.int .i64 0] := by kernel_rfl
theorem sz28 : tsz Try.prog 28 = some 5 := by kernel_rfl
theorem ak28 : agk Try.prog 28 = some true := by kernel_rfl
theorem fo28_0 : fo Try.prog 28 0 = some 0 := by kernel_rfl
theorem fo28_1 : fo Try.prog 28 1 = some 3 := by kernel_rfl
theorem fo28_2 : fo Try.prog 28 2 = some 4 := by kernel_rfl
theorem pc28 : plc Try.prog 28 = some [(0, 3), (3, 1), (4, 1)] := by kernel_rfl
theorem ck28 : ck Try.prog 9 28 = some [.b, .s, .i, .s, .s] := by kernel_rfl
theorem eg28 : Try.prog.eqGuardType Try.prog.depth 28 = false := by kernel_rfl
theorem by28 : tby Try.prog 28 = some 64 := by kernel_rfl
theorem zc28 : zcells Try.prog 28 = some [Value.bool false, Value.string ⟨#[]⟩, Value.int .i64 0, Value.string ⟨#[]⟩, Value.string ⟨#[]⟩] := by kernel_rfl
theorem sz29 : tsz Try.prog 29 = some 5 := by kernel_rfl
theorem ak29 : agk Try.prog 29 = some true := by kernel_rfl
theorem fo29_0 : fo Try.prog 29 0 = some 0 := by kernel_rfl
theorem fo29_1 : fo Try.prog 29 1 = some 3 := by kernel_rfl
theorem fo29_2 : fo Try.prog 29 2 = some 4 := by kernel_rfl
theorem pc29 : plc Try.prog 29 = some [(0, 3), (3, 1), (4, 1)] := by kernel_rfl
theorem ck29 : ck Try.prog 9 29 = some [.b, .s, .i, .s, .s] := by kernel_rfl
theorem eg29 : Try.prog.eqGuardType Try.prog.depth 29 = false := by kernel_rfl
theorem by29 : tby Try.prog 29 = some 64 := by kernel_rfl
theorem zc29 : zcells Try.prog 29 = some [Value.bool false, Value.string ⟨#[]⟩, Value.int .i64 0, Value.string ⟨#[]⟩, Value.string ⟨#[]⟩] := by kernel_rfl
theorem sz30 : tsz Try.prog 30 = some 1 := by kernel_rfl
theorem ak30 : agk Try.prog 30 = some false := by kernel_rfl
theorem sl30 : sle Try.prog 30 = some (52, 2) := by kernel_rfl
theorem by30 : tby Try.prog 30 = some 24 := by kernel_rfl
theorem zc30 : zcells Try.prog 30 = some [Value.slice none 0 0] := by kernel_rfl
theorem sz31 : tsz Try.prog 31 = some 13 := by kernel_rfl
theorem ak31 : agk Try.prog 31 = some true := by kernel_rfl
theorem fo31_0 : fo Try.prog 31 0 = some 0 := by kernel_rfl
theorem fo31_1 : fo Try.prog 31 1 = some 1 := by kernel_rfl
theorem fo31_2 : fo Try.prog 31 2 = some 4 := by kernel_rfl
theorem fo31_3 : fo Try.prog 31 3 = some 9 := by kernel_rfl
theorem fo31_4 : fo Try.prog 31 4 = some 10 := by kernel_rfl
theorem fo31_5 : fo Try.prog 31 5 = some 11 := by kernel_rfl
theorem fo31_6 : fo Try.prog 31 6 = some 12 := by kernel_rfl
theorem pc31 : plc Try.prog 31 = some [(0, 1), (1, 3), (4, 5), (9, 1), (10, 1), (11, 1), (12, 1)] := by kernel_rfl
theorem by31 : tby Try.prog 31 = some 168 := by kernel_rfl
theorem zc31 : zcells Try.prog 31 = some [Value.int .i64 0, Value.bool false, Value.string ⟨#[]⟩, Value.int .i64 0, Value.bool false, Value.string ⟨#[]⟩, Value.int .i64 0, Value.string ⟨#[]⟩, Value.string ⟨#[]⟩, Value.string ⟨#[]⟩, Value.slice none 0 0, Value.bool false, Value.string ⟨#[]⟩] := by kernel_rfl
theorem sz32 : tsz Try.prog 32 = some 13 := by kernel_rfl
theorem ak32 : agk Try.prog 32 = some true := by kernel_rfl
theorem fo32_0 : fo Try.prog 32 0 = some 0 := by kernel_rfl
theorem fo32_1 : fo Try.prog 32 1 = some 1 := by kernel_rfl
theorem fo32_2 : fo Try.prog 32 2 = some 4 := by kernel_rfl
theorem fo32_3 : fo Try.prog 32 3 = some 9 := by kernel_rfl
theorem fo32_4 : fo Try.prog 32 4 = some 10 := by kernel_rfl
theorem fo32_5 : fo Try.prog 32 5 = some 11 := by kernel_rfl
theorem fo32_6 : fo Try.prog 32 6 = some 12 := by kernel_rfl
theorem pc32 : plc Try.prog 32 = some [(0, 1), (1, 3), (4, 5), (9, 1), (10, 1), (11, 1), (12, 1)] := by kernel_rfl
theorem by32 : tby Try.prog 32 = some 168 := by kernel_rfl
theorem zc32 : zcells Try.prog 32 = some [Value.int .i64 0, Value.bool false, Value.string ⟨#[]⟩, Value.int .i64 0, Value.bool false, Value.string ⟨#[]⟩, Value.int .i64 0, Value.string ⟨#[]⟩, Value.string ⟨#[]⟩, Value.string ⟨#[]⟩, Value.slice none 0 0, Value.bool false, Value.string ⟨#[]⟩] := by kernel_rfl
theorem sz33 : tsz Try.prog 33 = some 2 := by kernel_rfl
theorem ak33 : agk Try.prog 33 = some true := by kernel_rfl
theorem fo33_0 : fo Try.prog 33 0 = some 0 := by kernel_rfl
theorem fo33_1 : fo Try.prog 33 1 = some 1 := by kernel_rfl
theorem pc33 : plc Try.prog 33 = some [(0, 1), (1, 1)] := by kernel_rfl
theorem ck33 : ck Try.prog 9 33 = some [.s, .s] := by kernel_rfl
theorem eg33 : Try.prog.eqGuardType Try.prog.depth 33 = false := by kernel_rfl
theorem by33 : tby Try.prog 33 = some 32 := by kernel_rfl
theorem zc33 : zcells Try.prog 33 = some [Value.string ⟨#[]⟩, Value.string ⟨#[]⟩] := by kernel_rfl
theorem sz34 : tsz Try.prog 34 = some 2 := by kernel_rfl
theorem ak34 : agk Try.prog 34 = some true := by kernel_rfl
theorem fo34_0 : fo Try.prog 34 0 = some 0 := by kernel_rfl
theorem fo34_1 : fo Try.prog 34 1 = some 1 := by kernel_rfl
theorem pc34 : plc Try.prog 34 = some [(0, 1), (1, 1)] := by kernel_rfl
theorem ck34 : ck Try.prog 9 34 = some [.s, .s] := by kernel_rfl
theorem eg34 : Try.prog.eqGuardType Try.prog.depth 34 = false := by kernel_rfl
theorem by34 : tby Try.prog 34 = some 32 := by kernel_rfl
theorem zc34 : zcells Try.prog 34 = some [Value.string ⟨#[]⟩, Value.string ⟨#[]⟩] := by kernel_rfl
theorem sz35 : tsz Try.prog 35 = some 22 := by kernel_rfl
theorem ak35 : agk Try.prog 35 = some true := by kernel_rfl
theorem fo35_0 : fo Try.prog 35 0 = some 0 := by kernel_rfl
theorem fo35_1 : fo Try.prog 35 1 = some 1 := by kernel_rfl
theorem fo35_2 : fo Try.prog 35 2 = some 14 := by kernel_rfl
theorem fo35_3 : fo Try.prog 35 3 = some 15 := by kernel_rfl
theorem fo35_4 : fo Try.prog 35 4 = some 16 := by kernel_rfl
theorem fo35_5 : fo Try.prog 35 5 = some 18 := by kernel_rfl
theorem fo35_6 : fo Try.prog 35 6 = some 19 := by kernel_rfl
theorem fo35_7 : fo Try.prog 35 7 = some 20 := by kernel_rfl
theorem fo35_8 : fo Try.prog 35 8 = some 21 := by kernel_rfl
theorem pc35 : plc Try.prog 35 = some [(0, 1), (1, 13), (14, 1), (15, 1), (16, 2), (18, 1), (19, 1), (20, 1), (21, 1)] := by kernel_rfl
theorem by35 : tby Try.prog 35 = some 272 := by kernel_rfl
theorem zc35 : zcells Try.prog 35 = some [Value.int .i64 0, Value.int .i64 0, Value.bool false, Value.string ⟨#[]⟩, Value.int .i64 0, Value.bool false, Value.string ⟨#[]⟩, Value.int .i64 0, Value.string ⟨#[]⟩, Value.string ⟨#[]⟩, Value.string ⟨#[]⟩, Value.slice none 0 0, Value.bool false, Value.string ⟨#[]⟩, Value.bool false, Value.string ⟨#[]⟩, Value.string ⟨#[]⟩, Value.string ⟨#[]⟩, Value.string ⟨#[]⟩, Value.int .i64 0, Value.bool false, Value.int .i64 0] := by kernel_rfl
theorem sz36 : tsz Try.prog 36 = some 22 := by kernel_rfl
theorem ak36 : agk Try.prog 36 = some true := by kernel_rfl
theorem fo36_0 : fo Try.prog 36 0 = some 0 := by kernel_rfl
theorem fo36_1 : fo Try.prog 36 1 = some 1 := by kernel_rfl
theorem fo36_2 : fo Try.prog 36 2 = some 14 := by kernel_rfl
theorem fo36_3 : fo Try.prog 36 3 = some 15 := by kernel_rfl
theorem fo36_4 : fo Try.prog 36 4 = some 16 := by kernel_rfl
theorem fo36_5 : fo Try.prog 36 5 = some 18 := by kernel_rfl
theorem fo36_6 : fo Try.prog 36 6 = some 19 := by kernel_rfl
theorem fo36_7 : fo Try.prog 36 7 = some 20 := by kernel_rfl
theorem fo36_8 : fo Try.prog 36 8 = some 21 := by kernel_rfl
theorem pc36 : plc Try.prog 36 = some [(0, 1), (1, 13), (14, 1), (15, 1), (16, 2), (18, 1), (19, 1), (20, 1), (21, 1)] := by kernel_rfl
theorem by36 : tby Try.prog 36 = some 272 := by kernel_rfl
theorem zc36 : zcells Try.prog 36 = some [Value.int .i64 0, Value.int .i64 0, Value.bool false, Value.string ⟨#[]⟩, Value.int .i64 0, Value.bool false, Value.string ⟨#[]⟩, Value.int .i64 0, Value.string ⟨#[]⟩, Value.string ⟨#[]⟩, Value.string ⟨#[]⟩, Value.slice none 0 0, Value.bool false, Value.string ⟨#[]⟩, Value.bool false, Value.string ⟨#[]⟩, Value.string ⟨#[]⟩, Value.string ⟨#[]⟩, Value.string ⟨#[]⟩, Value.int .i64 0, Value.bool false, Value.int .i64 0] := by kernel_rfl
theorem sz37 : tsz Try.prog 37 = some 24 := by kernel_rfl
theorem ak37 : agk Try.prog 37 = some true := by kernel_rfl
theorem fo37_0 : fo Try.prog 37 0 = some 0 := by kernel_rfl
theorem fo37_1 : fo Try.prog 37 1 = some 1 := by kernel_rfl
theorem fo37_2 : fo Try.prog 37 2 = some 2 := by kernel_rfl
theorem pc37 : plc Try.prog 37 = some [(0, 1), (1, 1), (2, 22)] := by kernel_rfl
theorem by37 : tby Try.prog 37 = some 288 := by kernel_rfl
theorem zc37 : zcells Try.prog 37 = some [Value.int .i64 0, Value.int .i64 0, Value.int .i64 0, Value.int .i64 0, Value.bool false, Value.string ⟨#[]⟩, Value.int .i64 0, Value.bool false, Value.string ⟨#[]⟩, Value.int .i64 0, Value.string ⟨#[]⟩, Value.string ⟨#[]⟩, Value.string ⟨#[]⟩, Value.slice none 0 0, Value.bool false, Value.string ⟨#[]⟩, Value.bool false, Value.string ⟨#[]⟩, Value.string ⟨#[]⟩, Value.string ⟨#[]⟩, Value.string ⟨#[]⟩, Value.int .i64 0, Value.bool false, Value.int .i64 0] := by kernel_rfl
theorem sz38 : tsz Try.prog 38 = some 24 := by kernel_rfl
theorem ak38 : agk Try.prog 38 = some true := by kernel_rfl
theorem fo38_0 : fo Try.prog 38 0 = some 0 := by kernel_rfl
theorem fo38_1 : fo Try.prog 38 1 = some 1 := by kernel_rfl
theorem fo38_2 : fo Try.prog 38 2 = some 2 := by kernel_rfl
theorem pc38 : plc Try.prog 38 = some [(0, 1), (1, 1), (2, 22)] := by kernel_rfl
theorem by38 : tby Try.prog 38 = some 288 := by kernel_rfl
theorem zc38 : zcells Try.prog 38 = some [Value.int .i64 0, Value.int .i64 0, Value.int .i64 0, Value.int .i64 0, Value.bool false, Value.string ⟨#[]⟩, Value.int .i64 0, Value.bool false, Value.string ⟨#[]⟩, Value.int .i64 0, Value.string ⟨#[]⟩, Value.string ⟨#[]⟩, Value.string ⟨#[]⟩, Value.slice none 0 0, Value.bool false, Value.string ⟨#[]⟩, Value.bool false, Value.string ⟨#[]⟩, Value.string ⟨#[]⟩, Value.string ⟨#[]⟩, Value.string ⟨#[]⟩, Value.int .i64 0, Value.bool false, Value.int .i64 0] := by kernel_rfl
theorem sz39 : tsz Try.prog 39 = some 24 := by kernel_rfl
theorem ak39 : agk Try.prog 39 = some true := by kernel_rfl
theorem fo39_0 : fo Try.prog 39 0 = some 0 := by kernel_rfl
theorem fo39_1 : fo Try.prog 39 1 = some 1 := by kernel_rfl
theorem fo39_2 : fo Try.prog 39 2 = some 2 := by kernel_rfl
theorem pc39 : plc Try.prog 39 = some [(0, 1), (1, 1), (2, 22)] := by kernel_rfl
theorem by39 : tby Try.prog 39 = some 288 := by kernel_rfl
theorem zc39 : zcells Try.prog 39 = some [Value.int .i64 0, Value.int .i64 0, Value.int .i64 0, Value.int .i64 0, Value.bool false, Value.string ⟨#[]⟩, Value.int .i64 0, Value.bool false, Value.string ⟨#[]⟩, Value.int .i64 0, Value.string ⟨#[]⟩, Value.string ⟨#[]⟩, Value.string ⟨#[]⟩, Value.slice none 0 0, Value.bool false, Value.string ⟨#[]⟩, Value.bool false, Value.string ⟨#[]⟩, Value.string ⟨#[]⟩, Value.string ⟨#[]⟩, Value.string ⟨#[]⟩, Value.int .i64 0, Value.bool false, Value.int .i64 0] := by kernel_rfl
theorem sz40 : tsz Try.prog 40 = some 1 := by kernel_rfl
theorem ak40 : agk Try.prog 40 = some false := by kernel_rfl
theorem by40 : tby Try.prog 40 = some 8 := by kernel_rfl
theorem zc40 : zcells Try.prog 40 = some [Value.nilFunc] := by kernel_rfl
theorem sz41 : tsz Try.prog 41 = some 1 := by kernel_rfl
theorem ak41 : agk Try.prog 41 = some false := by kernel_rfl
theorem by41 : tby Try.prog 41 = some 8 := by kernel_rfl
theorem zc41 : zcells Try.prog 41 = some [Value.nilFunc] := by kernel_rfl
theorem sz42 : tsz Try.prog 42 = some 1 := by kernel_rfl
theorem ak42 : agk Try.prog 42 = some false := by kernel_rfl
theorem sl42 : sle Try.prog 42 = some (5, 1) := by kernel_rfl
theorem by42 : tby Try.prog 42 = some 24 := by kernel_rfl
theorem zc42 : zcells Try.prog 42 = some [Value.slice none 0 0] := by kernel_rfl
theorem sz43 : tsz Try.prog 43 = some 1 := by kernel_rfl
theorem ak43 : agk Try.prog 43 = some false := by kernel_rfl
theorem by43 : tby Try.prog 43 = some 8 := by kernel_rfl
theorem zc43 : zcells Try.prog 43 = some [Value.nilFunc] := by kernel_rfl
theorem sz44 : tsz Try.prog 44 = some 1 := by kernel_rfl
theorem ak44 : agk Try.prog 44 = some false := by kernel_rfl
theorem sl44 : sle Try.prog 44 = some (9, 1) := by kernel_rfl
theorem by44 : tby Try.prog 44 = some 24 := by kernel_rfl
theorem zc44 : zcells Try.prog 44 = some [Value.slice none 0 0] := by kernel_rfl
theorem sz45 : tsz Try.prog 45 = some 1 := by kernel_rfl
theorem ak45 : agk Try.prog 45 = some false := by kernel_rfl
theorem by45 : tby Try.prog 45 = some 8 := by kernel_rfl
theorem zc45 : zcells Try.prog 45 = some [Value.nilFunc] := by kernel_rfl
theorem sz46 : tsz Try.prog 46 = some 1 := by kernel_rfl
theorem ak46 : agk Try.prog 46 = some false := by kernel_rfl
theorem by46 : tby Try.prog 46 = some 8 := by kernel_rfl
theorem zc46 : zcells Try.prog 46 = some [Value.int .i64 0] := by kernel_rfl
theorem sz48 : tsz Try.prog 48 = some 1 := by kernel_rfl
theorem ak48 : agk Try.prog 48 = some false := by kernel_rfl
theorem by48 : tby Try.prog 48 = some 8 := by kernel_rfl
theorem zc48 : zcells Try.prog 48 = some [Value.nilFunc] := by kernel_rfl
theorem sz49 : tsz Try.prog 49 = some 1 := by kernel_rfl
theorem ak49 : agk Try.prog 49 = some false := by kernel_rfl
theorem by49 : tby Try.prog 49 = some 8 := by kernel_rfl
theorem zc49 : zcells Try.prog 49 = some [Value.nilFunc] := by kernel_rfl
theorem sz50 : tsz Try.prog 50 = some 1 := by kernel_rfl
theorem ak50 : agk Try.prog 50 = some false := by kernel_rfl
theorem by50 : tby Try.prog 50 = some 8 := by kernel_rfl
theorem zc50 : zcells Try.prog 50 = some [Value.pointer none] := by kernel_rfl
theorem sz51 : tsz Try.prog 51 = some 2 := by kernel_rfl
theorem ak51 : agk Try.prog 51 = some true := by kernel_rfl
theorem fo51_0 : fo Try.prog 51 0 = some 0 := by kernel_rfl
theorem fo51_1 : fo Try.prog 51 1 = some 1 := by kernel_rfl
theorem pc51 : plc Try.prog 51 = some [(0, 1), (1, 1)] := by kernel_rfl
theorem ck51 : ck Try.prog 9 51 = some [.s, .s] := by kernel_rfl
theorem eg51 : Try.prog.eqGuardType Try.prog.depth 51 = false := by kernel_rfl
theorem by51 : tby Try.prog 51 = some 32 := by kernel_rfl
theorem zc51 : zcells Try.prog 51 = some [Value.string ⟨#[]⟩, Value.string ⟨#[]⟩] := by kernel_rfl
theorem sz52 : tsz Try.prog 52 = some 2 := by kernel_rfl
theorem ak52 : agk Try.prog 52 = some true := by kernel_rfl
theorem fo52_0 : fo Try.prog 52 0 = some 0 := by kernel_rfl
theorem fo52_1 : fo Try.prog 52 1 = some 1 := by kernel_rfl
theorem pc52 : plc Try.prog 52 = some [(0, 1), (1, 1)] := by kernel_rfl
theorem ck52 : ck Try.prog 9 52 = some [.s, .s] := by kernel_rfl
theorem eg52 : Try.prog.eqGuardType Try.prog.depth 52 = false := by kernel_rfl
theorem by52 : tby Try.prog 52 = some 32 := by kernel_rfl
theorem zc52 : zcells Try.prog 52 = some [Value.string ⟨#[]⟩, Value.string ⟨#[]⟩] := by kernel_rfl
theorem sz53 : tsz Try.prog 53 = some 1 := by kernel_rfl
theorem ak53 : agk Try.prog 53 = some false := by kernel_rfl
theorem by53 : tby Try.prog 53 = some 8 := by kernel_rfl
theorem zc53 : zcells Try.prog 53 = some [Value.pointer none] := by kernel_rfl
theorem sz54 : tsz Try.prog 54 = some 1 := by kernel_rfl
theorem ak54 : agk Try.prog 54 = some true := by kernel_rfl
theorem fo54_0 : fo Try.prog 54 0 = some 0 := by kernel_rfl
theorem pc54 : plc Try.prog 54 = some [(0, 1)] := by kernel_rfl
theorem ck54 : ck Try.prog 9 54 = some [.s] := by kernel_rfl
theorem eg54 : Try.prog.eqGuardType Try.prog.depth 54 = false := by kernel_rfl
theorem by54 : tby Try.prog 54 = some 16 := by kernel_rfl
theorem zc54 : zcells Try.prog 54 = some [Value.string ⟨#[]⟩] := by kernel_rfl
theorem sz55 : tsz Try.prog 55 = some 1 := by kernel_rfl
theorem ak55 : agk Try.prog 55 = some true := by kernel_rfl
theorem fo55_0 : fo Try.prog 55 0 = some 0 := by kernel_rfl
theorem pc55 : plc Try.prog 55 = some [(0, 1)] := by kernel_rfl
theorem ck55 : ck Try.prog 9 55 = some [.s] := by kernel_rfl
theorem eg55 : Try.prog.eqGuardType Try.prog.depth 55 = false := by kernel_rfl
theorem by55 : tby Try.prog 55 = some 16 := by kernel_rfl
theorem zc55 : zcells Try.prog 55 = some [Value.string ⟨#[]⟩] := by kernel_rfl
theorem sz56 : tsz Try.prog 56 = some 1 := by kernel_rfl
theorem ak56 : agk Try.prog 56 = some false := by kernel_rfl
theorem by56 : tby Try.prog 56 = some 8 := by kernel_rfl
theorem zc56 : zcells Try.prog 56 = some [Value.nilFunc] := by kernel_rfl
theorem sz57 : tsz Try.prog 57 = some 1 := by kernel_rfl
theorem ak57 : agk Try.prog 57 = some false := by kernel_rfl
theorem by57 : tby Try.prog 57 = some 8 := by kernel_rfl
theorem zc57 : zcells Try.prog 57 = some [Value.nilFunc] := by kernel_rfl
theorem sz58 : tsz Try.prog 58 = some 1 := by kernel_rfl
theorem ak58 : agk Try.prog 58 = some false := by kernel_rfl
theorem by58 : tby Try.prog 58 = some 8 := by kernel_rfl
theorem zc58 : zcells Try.prog 58 = some [Value.nilFunc] := by kernel_rfl
theorem sz59 : tsz Try.prog 59 = some 1 := by kernel_rfl
theorem ak59 : agk Try.prog 59 = some false := by kernel_rfl
theorem by59 : tby Try.prog 59 = some 8 := by kernel_rfl
theorem zc59 : zcells Try.prog 59 = some [Value.nilFunc] := by kernel_rfl
theorem sz60 : tsz Try.prog 60 = some 1 := by kernel_rfl
theorem ak60 : agk Try.prog 60 = some false := by kernel_rfl
theorem by60 : tby Try.prog 60 = some 8 := by kernel_rfl
theorem zc60 : zcells Try.prog 60 = some [Value.nilFunc] := by kernel_rfl
theorem sz61 : tsz Try.prog 61 = some 1 := by kernel_rfl
theorem ak61 : agk Try.prog 61 = some false := by kernel_rfl
theorem by61 : tby Try.prog 61 = some 8 := by kernel_rfl
theorem zc61 : zcells Try.prog 61 = some [Value.nilFunc] := by kernel_rfl
theorem sz62 : tsz Try.prog 62 = some 1 := by kernel_rfl
theorem ak62 : agk Try.prog 62 = some false := by kernel_rfl
theorem by62 : tby Try.prog 62 = some 8 := by kernel_rfl
theorem zc62 : zcells Try.prog 62 = some [Value.nilFunc] := by kernel_rfl
theorem sz63 : tsz Try.prog 63 = some 1 := by kernel_rfl
theorem ak63 : agk Try.prog 63 = some false := by kernel_rfl
theorem by63 : tby Try.prog 63 = some 8 := by kernel_rfl
theorem zc63 : zcells Try.prog 63 = some [Value.pointer none] := by kernel_rfl
theorem sz64 : tsz Try.prog 64 = some 3 := by kernel_rfl
theorem ak64 : agk Try.prog 64 = some true := by kernel_rfl
theorem pc64 : plc Try.prog 64 = some [(0, 1), (1, 1), (2, 1)] := by kernel_rfl
theorem by64 : tby Try.prog 64 = some 48 := by kernel_rfl
theorem zc64 : zcells Try.prog 64 = some [Value.string ⟨#[]⟩, Value.string ⟨#[]⟩, Value.string ⟨#[]⟩] := by kernel_rfl
theorem sz65 : tsz Try.prog 65 = some 1 := by kernel_rfl
theorem ak65 : agk Try.prog 65 = some false := by kernel_rfl
theorem by65 : tby Try.prog 65 = some 8 := by kernel_rfl
theorem zc65 : zcells Try.prog 65 = some [Value.nilFunc] := by kernel_rfl
theorem sz66 : tsz Try.prog 66 = some 1 := by kernel_rfl
theorem ak66 : agk Try.prog 66 = some false := by kernel_rfl
theorem by66 : tby Try.prog 66 = some 8 := by kernel_rfl
theorem zc66 : zcells Try.prog 66 = some [Value.nilFunc] := by kernel_rfl
theorem sz67 : tsz Try.prog 67 = some 1 := by kernel_rfl
theorem ak67 : agk Try.prog 67 = some false := by kernel_rfl
theorem by67 : tby Try.prog 67 = some 8 := by kernel_rfl
theorem zc67 : zcells Try.prog 67 = some [Value.map none] := by kernel_rfl
theorem sz68 : tsz Try.prog 68 = some 4 := by kernel_rfl
theorem ak68 : agk Try.prog 68 = some true := by kernel_rfl
theorem pc68 : plc Try.prog 68 = some [(0, 1), (1, 1), (2, 1), (3, 1)] := by kernel_rfl
theorem by68 : tby Try.prog 68 = some 64 := by kernel_rfl
theorem zc68 : zcells Try.prog 68 = some [Value.string ⟨#[]⟩, Value.string ⟨#[]⟩, Value.string ⟨#[]⟩, Value.string ⟨#[]⟩] := by kernel_rfl
theorem sz69 : tsz Try.prog 69 = some 1 := by kernel_rfl
theorem ak69 : agk Try.prog 69 = some false := by kernel_rfl
theorem by69 : tby Try.prog 69 = some 8 := by kernel_rfl
theorem zc69 : zcells Try.prog 69 = some [Value.int .u64 0] := by kernel_rfl
theorem sz70 : tsz Try.prog 70 = some 1 := by kernel_rfl
theorem ak70 : agk Try.prog 70 = some false := by kernel_rfl
theorem by70 : tby Try.prog 70 = some 4 := by kernel_rfl
theorem zc70 : zcells Try.prog 70 = some [Value.int .u32 0] := by kernel_rfl
theorem sz72 : tsz Try.prog 72 = some 1 := by kernel_rfl
theorem ak72 : agk Try.prog 72 = some false := by kernel_rfl
theorem by72 : tby Try.prog 72 = some 8 := by kernel_rfl
theorem zc72 : zcells Try.prog 72 = some [Value.nilFunc] := by kernel_rfl
theorem sz73 : tsz Try.prog 73 = some 1 := by kernel_rfl
theorem ak73 : agk Try.prog 73 = some false := by kernel_rfl
theorem by73 : tby Try.prog 73 = some 8 := by kernel_rfl
theorem zc73 : zcells Try.prog 73 = some [Value.nilFunc] := by kernel_rfl
theorem sz74 : tsz Try.prog 74 = some 4 := by kernel_rfl
theorem ak74 : agk Try.prog 74 = some true := by kernel_rfl
theorem fo74_0 : fo Try.prog 74 0 = some 0 := by kernel_rfl
theorem fo74_1 : fo Try.prog 74 1 = some 1 := by kernel_rfl
theorem fo74_2 : fo Try.prog 74 2 = some 2 := by kernel_rfl
theorem fo74_3 : fo Try.prog 74 3 = some 3 := by kernel_rfl
theorem pc74 : plc Try.prog 74 = some [(0, 1), (1, 1), (2, 1), (3, 1)] := by kernel_rfl
theorem by74 : tby Try.prog 74 = some 40 := by kernel_rfl
theorem zc74 : zcells Try.prog 74 = some [Value.pointer none, Value.pointer none, Value.pointer none, Value.string ⟨#[]⟩] := by kernel_rfl
theorem sz75 : tsz Try.prog 75 = some 4 := by kernel_rfl
theorem ak75 : agk Try.prog 75 = some true := by kernel_rfl
theorem fo75_0 : fo Try.prog 75 0 = some 0 := by kernel_rfl
theorem fo75_1 : fo Try.prog 75 1 = some 1 := by kernel_rfl
theorem fo75_2 : fo Try.prog 75 2 = some 2 := by kernel_rfl
theorem fo75_3 : fo Try.prog 75 3 = some 3 := by kernel_rfl
theorem pc75 : plc Try.prog 75 = some [(0, 1), (1, 1), (2, 1), (3, 1)] := by kernel_rfl
theorem by75 : tby Try.prog 75 = some 40 := by kernel_rfl
theorem zc75 : zcells Try.prog 75 = some [Value.pointer none, Value.pointer none, Value.pointer none, Value.string ⟨#[]⟩] := by kernel_rfl
theorem sz76 : tsz Try.prog 76 = some 0 := by kernel_rfl
theorem ak76 : agk Try.prog 76 = some true := by kernel_rfl
theorem by76 : tby Try.prog 76 = some 0 := by kernel_rfl
theorem sz77 : tsz Try.prog 77 = some 0 := by kernel_rfl
theorem ak77 : agk Try.prog 77 = some true := by kernel_rfl
theorem pc77 : plc Try.prog 77 = some [(0, 0)] := by kernel_rfl
theorem by77 : tby Try.prog 77 = some 0 := by kernel_rfl
theorem sz78 : tsz Try.prog 78 = some 0 := by kernel_rfl
theorem ak78 : agk Try.prog 78 = some true := by kernel_rfl
theorem pc78 : plc Try.prog 78 = some [(0, 0)] := by kernel_rfl
theorem by78 : tby Try.prog 78 = some 0 := by kernel_rfl
theorem sz79 : tsz Try.prog 79 = some 1 := by kernel_rfl
theorem ak79 : agk Try.prog 79 = some false := by kernel_rfl
theorem by79 : tby Try.prog 79 = some 8 := by kernel_rfl
theorem zc79 : zcells Try.prog 79 = some [Value.nilFunc] := by kernel_rfl
theorem sz80 : tsz Try.prog 80 = some 1 := by kernel_rfl
theorem ak80 : agk Try.prog 80 = some false := by kernel_rfl
theorem by80 : tby Try.prog 80 = some 1 := by kernel_rfl
theorem zc80 : zcells Try.prog 80 = some [Value.int .u8 0] := by kernel_rfl
theorem sz81 : tsz Try.prog 81 = some 1 := by kernel_rfl
theorem ak81 : agk Try.prog 81 = some false := by kernel_rfl
theorem by81 : tby Try.prog 81 = some 1 := by kernel_rfl
theorem zc81 : zcells Try.prog 81 = some [Value.int .u8 0] := by kernel_rfl
theorem sz82 : tsz Try.prog 82 = some 1 := by kernel_rfl
theorem ak82 : agk Try.prog 82 = some false := by kernel_rfl
theorem by82 : tby Try.prog 82 = some 8 := by kernel_rfl
theorem zc82 : zcells Try.prog 82 = some [Value.nilFunc] := by kernel_rfl
theorem sz83 : tsz Try.prog 83 = some 1 := by kernel_rfl
theorem ak83 : agk Try.prog 83 = some false := by kernel_rfl
theorem by83 : tby Try.prog 83 = some 8 := by kernel_rfl
theorem zc83 : zcells Try.prog 83 = some [Value.pointer none] := by kernel_rfl
theorem sz84 : tsz Try.prog 84 = some 1 := by kernel_rfl
theorem ak84 : agk Try.prog 84 = some false := by kernel_rfl
theorem by84 : tby Try.prog 84 = some 4 := by kernel_rfl
theorem zc84 : zcells Try.prog 84 = some [Value.int .i32 0] := by kernel_rfl
theorem sz85 : tsz Try.prog 85 = some 1 := by kernel_rfl
theorem ak85 : agk Try.prog 85 = some false := by kernel_rfl
theorem by85 : tby Try.prog 85 = some 4 := by kernel_rfl
theorem zc85 : zcells Try.prog 85 = some [Value.int .i32 0] := by kernel_rfl
theorem sz86 : tsz Try.prog 86 = some 11 := by kernel_rfl
theorem ak86 : agk Try.prog 86 = some true := by kernel_rfl
theorem fo86_0 : fo Try.prog 86 0 = some 0 := by kernel_rfl
theorem fo86_1 : fo Try.prog 86 1 = some 1 := by kernel_rfl
theorem fo86_2 : fo Try.prog 86 2 = some 2 := by kernel_rfl
theorem fo86_3 : fo Try.prog 86 3 = some 3 := by kernel_rfl
theorem fo86_4 : fo Try.prog 86 4 = some 4 := by kernel_rfl
theorem fo86_5 : fo Try.prog 86 5 = some 5 := by kernel_rfl
theorem fo86_6 : fo Try.prog 86 6 = some 6 := by kernel_rfl
theorem fo86_7 : fo Try.prog 86 7 = some 7 := by kernel_rfl
theorem fo86_8 : fo Try.prog 86 8 = some 8 := by kernel_rfl
theorem fo86_9 : fo Try.prog 86 9 = some 9 := by kernel_rfl
theorem fo86_10 : fo Try.prog 86 10 = some 10 := by kernel_rfl
theorem pc86 : plc Try.prog 86 = some [(0, 1), (1, 1), (2, 1), (3, 1), (4, 1), (5, 1), (6, 1), (7, 1), (8, 1), (9, 1), (10, 1)] := by kernel_rfl
theorem by86 : tby Try.prog 86 = some 48 := by kernel_rfl
theorem zc86 : zcells Try.prog 86 = some [Value.int .u64 0, Value.int .u64 0, Value.int .u32 0, Value.int .u8 0, Value.int .u8 0, Value.int .u8 0, Value.int .u8 0, Value.nilFunc, Value.pointer none, Value.int .i32 0, Value.int .i32 0] := by kernel_rfl
theorem sz87 : tsz Try.prog 87 = some 11 := by kernel_rfl
theorem ak87 : agk Try.prog 87 = some true := by kernel_rfl
theorem fo87_0 : fo Try.prog 87 0 = some 0 := by kernel_rfl
theorem fo87_1 : fo Try.prog 87 1 = some 1 := by kernel_rfl
theorem fo87_2 : fo Try.prog 87 2 = some 2 := by kernel_rfl
theorem fo87_3 : fo Try.prog 87 3 = some 3 := by kernel_rfl
theorem fo87_4 : fo Try.prog 87 4 = some 4 := by kernel_rfl
theorem fo87_5 : fo Try.prog 87 5 = some 5 := by kernel_rfl
theorem fo87_6 : fo Try.prog 87 6 = some 6 := by kernel_rfl
theorem fo87_7 : fo Try.prog 87 7 = some 7 := by kernel_rfl
theorem fo87_8 : fo Try.prog 87 8 = some 8 := by kernel_rfl
theorem fo87_9 : fo Try.prog 87 9 = some 9 := by kernel_rfl
theorem fo87_10 : fo Try.prog 87 10 = some 10 := by kernel_rfl
theorem pc87 : plc Try.prog 87 = some [(0, 1), (1, 1), (2, 1), (3, 1), (4, 1), (5, 1), (6, 1), (7, 1), (8, 1), (9, 1), (10, 1)] := by kernel_rfl
theorem by87 : tby Try.prog 87 = some 48 := by kernel_rfl
theorem zc87 : zcells Try.prog 87 = some [Value.int .u64 0, Value.int .u64 0, Value.int .u32 0, Value.int .u8 0, Value.int .u8 0, Value.int .u8 0, Value.int .u8 0, Value.nilFunc, Value.pointer none, Value.int .i32 0, Value.int .i32 0] := by kernel_rfl
theorem sz88 : tsz Try.prog 88 = some 1 := by kernel_rfl
theorem ak88 : agk Try.prog 88 = some false := by kernel_rfl
theorem by88 : tby Try.prog 88 = some 8 := by kernel_rfl
theorem zc88 : zcells Try.prog 88 = some [Value.pointer none] := by kernel_rfl
theorem ent2 : Ent Try.prog 2 := ⟨_, Try.func2, by rfl, by rfl⟩
theorem ent3 : Ent Try.prog 3 := ⟨_, Try.func3, by rfl, by rfl⟩
theorem ent4 : Ent Try.prog 4 := ⟨_, Try.func4, by rfl, by rfl⟩
theorem ent5 : Ent Try.prog 5 := ⟨_, Try.func5, by rfl, by rfl⟩
theorem ent6 : Ent Try.prog 6 := ⟨_, Try.func6, by rfl, by rfl⟩
theorem ent7 : Ent Try.prog 7 := ⟨_, Try.func7, by rfl, by rfl⟩
theorem ent8 : Ent Try.prog 8 := ⟨_, Try.func8, by rfl, by rfl⟩
theorem ent9 : Ent Try.prog 9 := ⟨_, Try.func9, by rfl, by rfl⟩
theorem ent10 : Ent Try.prog 10 := ⟨_, Try.func10, by rfl, by rfl⟩
theorem ent11 : Ent Try.prog 11 := ⟨_, Try.func11, by rfl, by rfl⟩
theorem ent12 : Ent Try.prog 12 := ⟨_, Try.func12, by rfl, by rfl⟩
theorem ent13 : Ent Try.prog 13 := ⟨_, Try.func13, by rfl, by rfl⟩
theorem ent14 : Ent Try.prog 14 := ⟨_, Try.func14, by rfl, by rfl⟩
theorem ent15 : Ent Try.prog 15 := ⟨_, Try.func15, by rfl, by rfl⟩
theorem ent16 : Ent Try.prog 16 := ⟨_, Try.func16, by rfl, by rfl⟩
theorem ent17 : Ent Try.prog 17 := ⟨_, Try.func17, by rfl, by rfl⟩
theorem ent18 : Ent Try.prog 18 := ⟨_, Try.func18, by rfl, by rfl⟩
theorem ent19 : Ent Try.prog 19 := ⟨_, Try.func19, by rfl, by rfl⟩
theorem ent20 : Ent Try.prog 20 := ⟨_, Try.func20, by rfl, by rfl⟩
theorem ent21 : Ent Try.prog 21 := ⟨_, Try.func21, by rfl, by rfl⟩
theorem ent22 : Ent Try.prog 22 := ⟨_, Try.func22, by rfl, by rfl⟩
theorem ent23 : Ent Try.prog 23 := ⟨_, Try.func23, by rfl, by rfl⟩
theorem ent24 : Ent Try.prog 24 := ⟨_, Try.func24, by rfl, by rfl⟩
theorem ent25 : Ent Try.prog 25 := ⟨_, Try.func25, by rfl, by rfl⟩
theorem ent27 : Ent Try.prog 27 := ⟨_, Try.func27, by rfl, by rfl⟩
theorem ent28 : Ent Try.prog 28 := ⟨_, Try.func28, by rfl, by rfl⟩
theorem ent30 : Ent Try.prog 30 := ⟨_, Try.func30, by rfl, by rfl⟩
end Gp
