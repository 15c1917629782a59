/- Parts of the proof: contracts of functions. No condition. -/
import Derived.Test.YtloaefllpokkaaaKTm2
set_option linter.unusedSimpArgs false
set_option linter.unusedVariables false
namespace Go.Proofs.Ytloaefllpokkaaa
open Go.RowKit
theorem ty1 : TyIs Try.prog 1 ⟨.func, 1, 8, .nilFunc⟩ := ⟨by kernel_rfl, by kernel_rfl⟩
theorem ty2 : TyIs Try.prog 2 ⟨.int .i64, 1, 8, .int .i64 0⟩ := ⟨by kernel_rfl, by kernel_rfl⟩
theorem ty3 : TyIs Try.prog 3 ⟨.int .i64, 1, 8, .int .i64 0⟩ := ⟨by kernel_rfl, by kernel_rfl⟩
theorem ty4 : TyIs Try.prog 4 ⟨.bool, 1, 1, .bool false⟩ := ⟨by kernel_rfl, by kernel_rfl⟩
theorem ty5 : TyIs Try.prog 5 ⟨.int .u8, 1, 1, .int .u8 0⟩ := ⟨by kernel_rfl, by kernel_rfl⟩
theorem ty6 : TyIs Try.prog 6 ⟨.int .u8, 1, 1, .int .u8 0⟩ := ⟨by kernel_rfl, by kernel_rfl⟩
theorem ty7 : TyIs Try.prog 7 ⟨.struct [(2, 0), (3, 1), (4, 2), (6, 3)], 4, 24, .agg #[.int .i64 0, .int .i64 0, .bool false, .int .u8 0]⟩ := ⟨by kernel_rfl, by kernel_rfl⟩
theorem ty8 : TyIs Try.prog 8 ⟨.struct [(2, 0), (3, 1), (4, 2), (6, 3)], 4, 24, .agg #[.int .i64 0, .int .i64 0, .bool false, .int .u8 0]⟩ := ⟨by kernel_rfl, by kernel_rfl⟩
theorem ty12 : TyIs Try.prog 12 ⟨.int .u64, 1, 8, .int .u64 0⟩ := ⟨by kernel_rfl, by kernel_rfl⟩
theorem ty15 : TyIs Try.prog 15 ⟨.ptr 151, 1, 8, .pointer none⟩ := ⟨by kernel_rfl, by kernel_rfl⟩
theorem ty16 : TyIs Try.prog 16 ⟨.ptr 154, 1, 8, .pointer none⟩ := ⟨by kernel_rfl, by kernel_rfl⟩
theorem ty17 : TyIs Try.prog 17 ⟨.ptr 163, 1, 8, .pointer none⟩ := ⟨by kernel_rfl, by kernel_rfl⟩
theorem ty18 : TyIs Try.prog 18 ⟨.struct [(17, 0)], 1, 8, .agg #[.pointer none]⟩ := ⟨by kernel_rfl, by kernel_rfl⟩
theorem ty19 : TyIs Try.prog 19 ⟨.struct [(17, 0)], 1, 8, .agg #[.pointer none]⟩ := ⟨by kernel_rfl, by kernel_rfl⟩
theorem ty20 : TyIs Try.prog 20 ⟨.iface true, 1, 16, .nilIface⟩ := ⟨by kernel_rfl, by kernel_rfl⟩
theorem ty21 : TyIs Try.prog 21 ⟨.int .i32, 1, 4, .int .i32 0⟩ := ⟨by kernel_rfl, by kernel_rfl⟩
theorem ty22 : TyIs Try.prog 22 ⟨.slice 3, 1, 24, .slice none 0 0⟩ := ⟨by kernel_rfl, by kernel_rfl⟩
theorem ty23 : TyIs Try.prog 23 ⟨.struct [(22, 0), (22, 1), (3, 2), (3, 3), (3, 4), (22, 5)], 6, 96, .agg #[.slice none 0 0, .slice none 0 0, .int .i64 0, .int .i64 0, .int .i64 0, .slice none 0 0]⟩ := ⟨by kernel_rfl, by kernel_rfl⟩
theorem ty24 : TyIs Try.prog 24 ⟨.struct [(22, 0), (22, 1), (3, 2), (3, 3), (3, 4), (22, 5)], 6, 96, .agg #[.slice none 0 0, .slice none 0 0, .int .i64 0, .int .i64 0, .int .i64 0, .slice none 0 0]⟩ := ⟨by kernel_rfl, by kernel_rfl⟩
theorem ty25 : TyIs Try.prog 25 ⟨.func, 1, 8, .nilFunc⟩ := ⟨by kernel_rfl, by kernel_rfl⟩
theorem ty26 : TyIs Try.prog 26 ⟨.func, 1, 8, .nilFunc⟩ := ⟨by kernel_rfl, by kernel_rfl⟩
theorem ty27 : TyIs Try.prog 27 ⟨.int .i64, 1, 8, .int .i64 0⟩ := ⟨by kernel_rfl, by kernel_rfl⟩
theorem ty29 : TyIs Try.prog 29 ⟨.func, 1, 8, .nilFunc⟩ := ⟨by kernel_rfl, by kernel_rfl⟩
theorem ty30 : TyIs Try.prog 30 ⟨.slice 60, 1, 24, .slice none 0 0⟩ := ⟨by kernel_rfl, by kernel_rfl⟩
theorem ty32 : TyIs Try.prog 32 ⟨.func, 1, 8, .nilFunc⟩ := ⟨by kernel_rfl, by kernel_rfl⟩
theorem ty34 : TyIs Try.prog 34 ⟨.func, 1, 8, .nilFunc⟩ := ⟨by kernel_rfl, by kernel_rfl⟩
theorem ty36 : TyIs Try.prog 36 ⟨.func, 1, 8, .nilFunc⟩ := ⟨by kernel_rfl, by kernel_rfl⟩
theorem ty37 : TyIs Try.prog 37 ⟨.struct [(3, 0), (3, 1)], 2, 16, .agg #[.int .i64 0, .int .i64 0]⟩ := ⟨by kernel_rfl, by kernel_rfl⟩
theorem ty38 : TyIs Try.prog 38 ⟨.struct [(3, 0), (3, 1)], 2, 16, .agg #[.int .i64 0, .int .i64 0]⟩ := ⟨by kernel_rfl, by kernel_rfl⟩
theorem ty40 : TyIs Try.prog 40 ⟨.func, 1, 8, .nilFunc⟩ := ⟨by kernel_rfl, by kernel_rfl⟩
theorem ty42 : TyIs Try.prog 42 ⟨.func, 1, 8, .nilFunc⟩ := ⟨by kernel_rfl, by kernel_rfl⟩
theorem ty43 : TyIs Try.prog 43 ⟨.func, 1, 8, .nilFunc⟩ := ⟨by kernel_rfl, by kernel_rfl⟩
theorem ty44 : TyIs Try.prog 44 ⟨.struct [(3, 0), (3, 1), (3, 2), (3, 3), (3, 4)], 5, 40, .agg #[.int .i64 0, .int .i64 0, .int .i64 0, .int .i64 0, .int .i64 0]⟩ := ⟨by kernel_rfl, by kernel_rfl⟩
theorem ty45 : TyIs Try.prog 45 ⟨.struct [(3, 0), (3, 1), (3, 2), (3, 3), (3, 4)], 5, 40, .agg #[.int .i64 0, .int .i64 0, .int .i64 0, .int .i64 0, .int .i64 0]⟩ := ⟨by kernel_rfl, by kernel_rfl⟩
theorem ty46 : TyIs Try.prog 46 ⟨.slice 22, 1, 24, .slice none 0 0⟩ := ⟨by kernel_rfl, by kernel_rfl⟩
theorem ty47 : TyIs Try.prog 47 ⟨.slice 22, 1, 24, .slice none 0 0⟩ := ⟨by kernel_rfl, by kernel_rfl⟩
theorem ty49 : TyIs Try.prog 49 ⟨.func, 1, 8, .nilFunc⟩ := ⟨by kernel_rfl, by kernel_rfl⟩
theorem ty50 : TyIs Try.prog 50 ⟨.func, 1, 8, .nilFunc⟩ := ⟨by kernel_rfl, by kernel_rfl⟩
theorem ty51 : TyIs Try.prog 51 ⟨.func, 1, 8, .nilFunc⟩ := ⟨by kernel_rfl, by kernel_rfl⟩
theorem ty52 : TyIs Try.prog 52 ⟨.func, 1, 8, .nilFunc⟩ := ⟨by kernel_rfl, by kernel_rfl⟩
theorem ty53 : TyIs Try.prog 53 ⟨.func, 1, 8, .nilFunc⟩ := ⟨by kernel_rfl, by kernel_rfl⟩
theorem ty54 : TyIs Try.prog 54 ⟨.func, 1, 8, .nilFunc⟩ := ⟨by kernel_rfl, by kernel_rfl⟩
theorem ty55 : TyIs Try.prog 55 ⟨.int .i16, 1, 2, .int .i16 0⟩ := ⟨by kernel_rfl, by kernel_rfl⟩
theorem ty56 : TyIs Try.prog 56 ⟨.func, 1, 8, .nilFunc⟩ := ⟨by kernel_rfl, by kernel_rfl⟩
theorem ty57 : TyIs Try.prog 57 ⟨.struct [(3, 0), (3, 1), (3, 2), (3, 3), (3, 4)], 5, 40, .agg #[.int .i64 0, .int .i64 0, .int .i64 0, .int .i64 0, .int .i64 0]⟩ := ⟨by kernel_rfl, by kernel_rfl⟩
theorem ty58 : TyIs Try.prog 58 ⟨.struct [(3, 0), (3, 1), (3, 2), (3, 3), (3, 4)], 5, 40, .agg #[.int .i64 0, .int .i64 0, .int .i64 0, .int .i64 0, .int .i64 0]⟩ := ⟨by kernel_rfl, by kernel_rfl⟩
theorem ty59 : TyIs Try.prog 59 ⟨.struct [(3, 0), (3, 1)], 2, 16, .agg #[.int .i64 0, .int .i64 0]⟩ := ⟨by kernel_rfl, by kernel_rfl⟩
theorem ty60 : TyIs Try.prog 60 ⟨.struct [(3, 0), (3, 1)], 2, 16, .agg #[.int .i64 0, .int .i64 0]⟩ := ⟨by kernel_rfl, by kernel_rfl⟩
theorem ty61 : TyIs Try.prog 61 ⟨.slice 65, 1, 24, .slice none 0 0⟩ := ⟨by kernel_rfl, by kernel_rfl⟩
theorem ty62 : TyIs Try.prog 62 ⟨.struct [(58, 0), (3, 5), (3, 6), (3, 7), (60, 8), (3, 10), (3, 11), (61, 12)], 13, 120, .agg #[.int .i64 0, .int .i64 0, .int .i64 0, .int .i64 0, .int .i64 0, .int .i64 0, .int .i64 0, .int .i64 0, .int .i64 0, .int .i64 0, .int .i64 0, .int .i64 0, .slice none 0 0]⟩ := ⟨by kernel_rfl, by kernel_rfl⟩
theorem ty63 : TyIs Try.prog 63 ⟨.struct [(58, 0), (3, 5), (3, 6), (3, 7), (60, 8), (3, 10), (3, 11), (61, 12)], 13, 120, .agg #[.int .i64 0, .int .i64 0, .int .i64 0, .int .i64 0, .int .i64 0, .int .i64 0, .int .i64 0, .int .i64 0, .int .i64 0, .int .i64 0, .int .i64 0, .int .i64 0, .slice none 0 0]⟩ := ⟨by kernel_rfl, by kernel_rfl⟩
theorem ty64 : TyIs Try.prog 64 ⟨.struct [(30, 0), (3, 1), (4, 2)], 3, 40, .agg #[.slice none 0 0, .int .i64 0, .bool false]⟩ := ⟨by kernel_rfl, by kernel_rfl⟩
theorem ty65 : TyIs Try.prog 65 ⟨.struct [(30, 0), (3, 1), (4, 2)], 3, 40, .agg #[.slice none 0 0, .int .i64 0, .bool false]⟩ := ⟨by kernel_rfl, by kernel_rfl⟩
theorem ty66 : TyIs Try.prog 66 ⟨.slice 104, 1, 24, .slice none 0 0⟩ := ⟨by kernel_rfl, by kernel_rfl⟩
theorem ty68 : TyIs Try.prog 68 ⟨.func, 1, 8, .nilFunc⟩ := ⟨by kernel_rfl, by kernel_rfl⟩
theorem ty69 : TyIs Try.prog 69 ⟨.func, 1, 8, .nilFunc⟩ := ⟨by kernel_rfl, by kernel_rfl⟩
theorem ty70 : TyIs Try.prog 70 ⟨.func, 1, 8, .nilFunc⟩ := ⟨by kernel_rfl, by kernel_rfl⟩
theorem ty71 : TyIs Try.prog 71 ⟨.func, 1, 8, .nilFunc⟩ := ⟨by kernel_rfl, by kernel_rfl⟩
theorem ty72 : TyIs Try.prog 72 ⟨.ptr 78, 1, 8, .pointer none⟩ := ⟨by kernel_rfl, by kernel_rfl⟩
theorem ty74 : TyIs Try.prog 74 ⟨.func, 1, 8, .nilFunc⟩ := ⟨by kernel_rfl, by kernel_rfl⟩
theorem ty75 : TyIs Try.prog 75 ⟨.func, 1, 8, .nilFunc⟩ := ⟨by kernel_rfl, by kernel_rfl⟩
theorem ty76 : TyIs Try.prog 76 ⟨.array 13 3, 13, 104, .agg #[.int .i64 0, .int .i64 0, .int .i64 0, .int .i64 0, .int .i64 0, .int .i64 0, .int .i64 0, .int .i64 0, .int .i64 0, .int .i64 0, .int .i64 0, .int .i64 0, .int .i64 0]⟩ := ⟨by kernel_rfl, by kernel_rfl⟩
theorem ty77 : TyIs Try.prog 77 ⟨.struct [(24, 0), (22, 6), (3, 7), (3, 8), (3, 9), (76, 10)], 23, 248, .agg #[.slice none 0 0, .slice none 0 0, .int .i64 0, .int .i64 0, .int .i64 0, .slice none 0 0, .slice none 0 0, .int .i64 0, .int .i64 0, .int .i64 0, .int .i64 0, .int .i64 0, .int .i64 0, .int .i64 0, .int .i64 0, .int .i64 0, .int .i64 0, .int .i64 0, .int .i64 0, .int .i64 0, .int .i64 0, .int .i64 0, .int .i64 0]⟩ := ⟨by kernel_rfl, by kernel_rfl⟩
theorem ty78 : TyIs Try.prog 78 ⟨.struct [(24, 0), (22, 6), (3, 7), (3, 8), (3, 9), (76, 10)], 23, 248, .agg #[.slice none 0 0, .slice none 0 0, .int .i64 0, .int .i64 0, .int .i64 0, .slice none 0 0, .slice none 0 0, .int .i64 0, .int .i64 0, .int .i64 0, .int .i64 0, .int .i64 0, .int .i64 0, .int .i64 0, .int .i64 0, .int .i64 0, .int .i64 0, .int .i64 0, .int .i64 0, .int .i64 0, .int .i64 0, .int .i64 0, .int .i64 0]⟩ := ⟨by kernel_rfl, by kernel_rfl⟩
theorem ty79 : TyIs Try.prog 79 ⟨.func, 1, 8, .nilFunc⟩ := ⟨by kernel_rfl, by kernel_rfl⟩
theorem ty80 : TyIs Try.prog 80 ⟨.func, 1, 8, .nilFunc⟩ := ⟨by kernel_rfl, by kernel_rfl⟩
theorem ty81 : TyIs Try.prog 81 ⟨.slice 30, 1, 24, .slice none 0 0⟩ := ⟨by kernel_rfl, by kernel_rfl⟩
theorem ty82 : TyIs Try.prog 82 ⟨.func, 1, 8, .nilFunc⟩ := ⟨by kernel_rfl, by kernel_rfl⟩
theorem ty83 : TyIs Try.prog 83 ⟨.func, 1, 8, .nilFunc⟩ := ⟨by kernel_rfl, by kernel_rfl⟩
theorem ty84 : TyIs Try.prog 84 ⟨.struct [(3, 0), (3, 1)], 2, 16, .agg #[.int .i64 0, .int .i64 0]⟩ := ⟨by kernel_rfl, by kernel_rfl⟩
theorem ty85 : TyIs Try.prog 85 ⟨.struct [(3, 0), (3, 1)], 2, 16, .agg #[.int .i64 0, .int .i64 0]⟩ := ⟨by kernel_rfl, by kernel_rfl⟩
theorem ty86 : TyIs Try.prog 86 ⟨.slice 60, 1, 24, .slice none 0 0⟩ := ⟨by kernel_rfl, by kernel_rfl⟩
theorem ty87 : TyIs Try.prog 87 ⟨.func, 1, 8, .nilFunc⟩ := ⟨by kernel_rfl, by kernel_rfl⟩
theorem ty88 : TyIs Try.prog 88 ⟨.func, 1, 8, .nilFunc⟩ := ⟨by kernel_rfl, by kernel_rfl⟩
theorem ty89 : TyIs Try.prog 89 ⟨.func, 1, 8, .nilFunc⟩ := ⟨by kernel_rfl, by kernel_rfl⟩
theorem ty90 : TyIs Try.prog 90 ⟨.func, 1, 8, .nilFunc⟩ := ⟨by kernel_rfl, by kernel_rfl⟩
theorem ty91 : TyIs Try.prog 91 ⟨.func, 1, 8, .nilFunc⟩ := ⟨by kernel_rfl, by kernel_rfl⟩
theorem ty92 : TyIs Try.prog 92 ⟨.slice 119, 1, 24, .slice none 0 0⟩ := ⟨by kernel_rfl, by kernel_rfl⟩
theorem ty93 : TyIs Try.prog 93 ⟨.func, 1, 8, .nilFunc⟩ := ⟨by kernel_rfl, by kernel_rfl⟩
theorem ty94 : TyIs Try.prog 94 ⟨.func, 1, 8, .nilFunc⟩ := ⟨by kernel_rfl, by kernel_rfl⟩
theorem ty95 : TyIs Try.prog 95 ⟨.func, 1, 8, .nilFunc⟩ := ⟨by kernel_rfl, by kernel_rfl⟩
theorem ty96 : TyIs Try.prog 96 ⟨.func, 1, 8, .nilFunc⟩ := ⟨by kernel_rfl, by kernel_rfl⟩
theorem ty97 : TyIs Try.prog 97 ⟨.func, 1, 8, .nilFunc⟩ := ⟨by kernel_rfl, by kernel_rfl⟩
theorem ty98 : TyIs Try.prog 98 ⟨.func, 1, 8, .nilFunc⟩ := ⟨by kernel_rfl, by kernel_rfl⟩
theorem ty99 : TyIs Try.prog 99 ⟨.slice 102, 1, 24, .slice none 0 0⟩ := ⟨by kernel_rfl, by kernel_rfl⟩
theorem ty100 : TyIs Try.prog 100 ⟨.func, 1, 8, .nilFunc⟩ := ⟨by kernel_rfl, by kernel_rfl⟩
theorem ty101 : TyIs Try.prog 101 ⟨.struct [(86, 0), (86, 1), (3, 2), (3, 3), (3, 4), (4, 5)], 6, 80, .agg #[.slice none 0 0, .slice none 0 0, .int .i64 0, .int .i64 0, .int .i64 0, .bool false]⟩ := ⟨by kernel_rfl, by kernel_rfl⟩
theorem ty102 : TyIs Try.prog 102 ⟨.struct [(86, 0), (86, 1), (3, 2), (3, 3), (3, 4), (4, 5)], 6, 80, .agg #[.slice none 0 0, .slice none 0 0, .int .i64 0, .int .i64 0, .int .i64 0, .bool false]⟩ := ⟨by kernel_rfl, by kernel_rfl⟩
theorem ty103 : TyIs Try.prog 103 ⟨.struct [(3, 0), (3, 1)], 2, 16, .agg #[.int .i64 0, .int .i64 0]⟩ := ⟨by kernel_rfl, by kernel_rfl⟩
theorem ty104 : TyIs Try.prog 104 ⟨.struct [(3, 0), (3, 1)], 2, 16, .agg #[.int .i64 0, .int .i64 0]⟩ := ⟨by kernel_rfl, by kernel_rfl⟩
theorem ty105 : TyIs Try.prog 105 ⟨.func, 1, 8, .nilFunc⟩ := ⟨by kernel_rfl, by kernel_rfl⟩
theorem ty106 : TyIs Try.prog 106 ⟨.func, 1, 8, .nilFunc⟩ := ⟨by kernel_rfl, by kernel_rfl⟩
theorem ty107 : TyIs Try.prog 107 ⟨.func, 1, 8, .nilFunc⟩ := ⟨by kernel_rfl, by kernel_rfl⟩
theorem ty108 : TyIs Try.prog 108 ⟨.func, 1, 8, .nilFunc⟩ := ⟨by kernel_rfl, by kernel_rfl⟩
theorem ty109 : TyIs Try.prog 109 ⟨.func, 1, 8, .nilFunc⟩ := ⟨by kernel_rfl, by kernel_rfl⟩
theorem ty110 : TyIs Try.prog 110 ⟨.func, 1, 8, .nilFunc⟩ := ⟨by kernel_rfl, by kernel_rfl⟩
theorem ty111 : TyIs Try.prog 111 ⟨.func, 1, 8, .nilFunc⟩ := ⟨by kernel_rfl, by kernel_rfl⟩
theorem ty112 : TyIs Try.prog 112 ⟨.func, 1, 8, .nilFunc⟩ := ⟨by kernel_rfl, by kernel_rfl⟩
theorem ty113 : TyIs Try.prog 113 ⟨.func, 1, 8, .nilFunc⟩ := ⟨by kernel_rfl, by kernel_rfl⟩
theorem ty114 : TyIs Try.prog 114 ⟨.array 4 85, 8, 64, .agg #[.int .i64 0, .int .i64 0, .int .i64 0, .int .i64 0, .int .i64 0, .int .i64 0, .int .i64 0, .int .i64 0]⟩ := ⟨by kernel_rfl, by kernel_rfl⟩
theorem ty115 : TyIs Try.prog 115 ⟨.func, 1, 8, .nilFunc⟩ := ⟨by kernel_rfl, by kernel_rfl⟩
theorem ty116 : TyIs Try.prog 116 ⟨.func, 1, 8, .nilFunc⟩ := ⟨by kernel_rfl, by kernel_rfl⟩
theorem ty117 : TyIs Try.prog 117 ⟨.func, 1, 8, .nilFunc⟩ := ⟨by kernel_rfl, by kernel_rfl⟩
theorem ty118 : TyIs Try.prog 118 ⟨.struct [(3, 0), (3, 1), (3, 2)], 3, 24, .agg #[.int .i64 0, .int .i64 0, .int .i64 0]⟩ := ⟨by kernel_rfl, by kernel_rfl⟩
theorem ty119 : TyIs Try.prog 119 ⟨.struct [(3, 0), (3, 1), (3, 2)], 3, 24, .agg #[.int .i64 0, .int .i64 0, .int .i64 0]⟩ := ⟨by kernel_rfl, by kernel_rfl⟩
theorem ty120 : TyIs Try.prog 120 ⟨.func, 1, 8, .nilFunc⟩ := ⟨by kernel_rfl, by kernel_rfl⟩
theorem ty121 : TyIs Try.prog 121 ⟨.func, 1, 8, .nilFunc⟩ := ⟨by kernel_rfl, by kernel_rfl⟩
theorem ty122 : TyIs Try.prog 122 ⟨.func, 1, 8, .nilFunc⟩ := ⟨by kernel_rfl, by kernel_rfl⟩
theorem ty123 : TyIs Try.prog 123 ⟨.func, 1, 8, .nilFunc⟩ := ⟨by kernel_rfl, by kernel_rfl⟩
theorem ty125 : TyIs Try.prog 125 ⟨.func, 1, 8, .nilFunc⟩ := ⟨by kernel_rfl, by kernel_rfl⟩
theorem ty126 : TyIs Try.prog 126 ⟨.func, 1, 8, .nilFunc⟩ := ⟨by kernel_rfl, by kernel_rfl⟩
theorem ty127 : TyIs Try.prog 127 ⟨.func, 1, 8, .nilFunc⟩ := ⟨by kernel_rfl, by kernel_rfl⟩
theorem ty128 : TyIs Try.prog 128 ⟨.func, 1, 8, .nilFunc⟩ := ⟨by kernel_rfl, by kernel_rfl⟩
theorem ty129 : TyIs Try.prog 129 ⟨.int .u64, 1, 8, .int .u64 0⟩ := ⟨by kernel_rfl, by kernel_rfl⟩
theorem ty131 : TyIs Try.prog 131 ⟨.func, 1, 8, .nilFunc⟩ := ⟨by kernel_rfl, by kernel_rfl⟩
theorem ty132 : TyIs Try.prog 132 ⟨.func, 1, 8, .nilFunc⟩ := ⟨by kernel_rfl, by kernel_rfl⟩
theorem ty133 : TyIs Try.prog 133 ⟨.struct [(3, 0), (3, 1)], 2, 16, .agg #[.int .i64 0, .int .i64 0]⟩ := ⟨by kernel_rfl, by kernel_rfl⟩
theorem ty134 : TyIs Try.prog 134 ⟨.struct [(3, 0), (3, 1)], 2, 16, .agg #[.int .i64 0, .int .i64 0]⟩ := ⟨by kernel_rfl, by kernel_rfl⟩
theorem ty135 : TyIs Try.prog 135 ⟨.func, 1, 8, .nilFunc⟩ := ⟨by kernel_rfl, by kernel_rfl⟩
theorem ty136 : TyIs Try.prog 136 ⟨.func, 1, 8, .nilFunc⟩ := ⟨by kernel_rfl, by kernel_rfl⟩
theorem ty137 : TyIs Try.prog 137 ⟨.func, 1, 8, .nilFunc⟩ := ⟨by kernel_rfl, by kernel_rfl⟩
theorem ty138 : TyIs Try.prog 138 ⟨.slice 128, 1, 24, .slice none 0 0⟩ := ⟨by kernel_rfl, by kernel_rfl⟩
theorem ty139 : TyIs Try.prog 139 ⟨.func, 1, 8, .nilFunc⟩ := ⟨by kernel_rfl, by kernel_rfl⟩
theorem ty140 : TyIs Try.prog 140 ⟨.func, 1, 8, .nilFunc⟩ := ⟨by kernel_rfl, by kernel_rfl⟩
theorem ty141 : TyIs Try.prog 141 ⟨.func, 1, 8, .nilFunc⟩ := ⟨by kernel_rfl, by kernel_rfl⟩
theorem ty142 : TyIs Try.prog 142 ⟨.func, 1, 8, .nilFunc⟩ := ⟨by kernel_rfl, by kernel_rfl⟩
theorem ty143 : TyIs Try.prog 143 ⟨.int .u64, 1, 8, .int .u64 0⟩ := ⟨by kernel_rfl, by kernel_rfl⟩
theorem ty144 : TyIs Try.prog 144 ⟨.func, 1, 8, .nilFunc⟩ := ⟨by kernel_rfl, by kernel_rfl⟩
theorem ty145 : TyIs Try.prog 145 ⟨.func, 1, 8, .nilFunc⟩ := ⟨by kernel_rfl, by kernel_rfl⟩
theorem ty146 : TyIs Try.prog 146 ⟨.func, 1, 8, .nilFunc⟩ := ⟨by kernel_rfl, by kernel_rfl⟩
theorem ty147 : TyIs Try.prog 147 ⟨.func, 1, 8, .nilFunc⟩ := ⟨by kernel_rfl, by kernel_rfl⟩
theorem ty148 : TyIs Try.prog 148 ⟨.func, 1, 8, .nilFunc⟩ := ⟨by kernel_rfl, by kernel_rfl⟩
theorem ty149 : TyIs Try.prog 149 ⟨.func, 1, 8, .nilFunc⟩ := ⟨by kernel_rfl, by kernel_rfl⟩
theorem ty155 : TyIs Try.prog 155 ⟨.int .u32, 1, 4, .int .u32 0⟩ := ⟨by kernel_rfl, by kernel_rfl⟩
theorem ty156 : TyIs Try.prog 156 ⟨.int .u8, 1, 1, .int .u8 0⟩ := ⟨by kernel_rfl, by kernel_rfl⟩
theorem ty157 : TyIs Try.prog 157 ⟨.int .u8, 1, 1, .int .u8 0⟩ := ⟨by kernel_rfl, by kernel_rfl⟩
theorem ty158 : TyIs Try.prog 158 ⟨.func, 1, 8, .nilFunc⟩ := ⟨by kernel_rfl, by kernel_rfl⟩
theorem ty159 : TyIs Try.prog 159 ⟨.ptr 5, 1, 8, .pointer none⟩ := ⟨by kernel_rfl, by kernel_rfl⟩
theorem ty160 : TyIs Try.prog 160 ⟨.int .i32, 1, 4, .int .i32 0⟩ := ⟨by kernel_rfl, by kernel_rfl⟩
theorem ty161 : TyIs Try.prog 161 ⟨.int .i32, 1, 4, .int .i32 0⟩ := ⟨by kernel_rfl, by kernel_rfl⟩
theorem ty162 : TyIs Try.prog 162 ⟨.struct [(12, 0), (12, 1), (155, 2), (156, 3), (5, 4), (5, 5), (157, 6), (158, 7), (159, 8), (160, 9), (161, 10)], 11, 48, .agg #[.int .u64 0, .int .u64 0, .int .u32 0, .int .u8 0, .int .u8 0, .int .u8 0, .int .u8 0, .nilFunc, .pointer none, .int .i32 0, .int .i32 0]⟩ := ⟨by kernel_rfl, by kernel_rfl⟩
theorem ty163 : TyIs Try.prog 163 ⟨.struct [(12, 0), (12, 1), (155, 2), (156, 3), (5, 4), (5, 5), (157, 6), (158, 7), (159, 8), (160, 9), (161, 10)], 11, 48, .agg #[.int .u64 0, .int .u64 0, .int .u32 0, .int .u8 0, .int .u8 0, .int .u8 0, .int .u8 0, .nilFunc, .pointer none, .int .i32 0, .int .i32 0]⟩ := ⟨by kernel_rfl, by kernel_rfl⟩
theorem sq7 : SeqOk Try.prog 7 [(2, 0, false), (3, 1, false), (4, 2, false), (6, 3, false)] := ⟨by kernel_rfl, by kernel_rfl, by kernel_rfl, by kernel_rfl⟩
theorem sq8 : SeqOk Try.prog 8 [(2, 0, false), (3, 1, false), (4, 2, false), (6, 3, false)] := ⟨by kernel_rfl, by kernel_rfl, by kernel_rfl, by kernel_rfl⟩
theorem sq37 : SeqOk Try.prog 37 [(3, 0, false), (3, 1, false)] := ⟨by kernel_rfl, by kernel_rfl, by kernel_rfl, by kernel_rfl⟩
theorem sq38 : SeqOk Try.prog 38 [(3, 0, false), (3, 1, false)] := ⟨by kernel_rfl, by kernel_rfl, by kernel_rfl, by kernel_rfl⟩
theorem sq44 : SeqOk Try.prog 44 [(3, 0, false), (3, 1, false), (3, 2, false), (3, 3, false), (3, 4, false)] := ⟨by kernel_rfl, by kernel_rfl, by kernel_rfl, by kernel_rfl⟩
theorem sq45 : SeqOk Try.prog 45 [(3, 0, false), (3, 1, false), (3, 2, false), (3, 3, false), (3, 4, false)] := ⟨by kernel_rfl, by kernel_rfl, by kernel_rfl, by kernel_rfl⟩
theorem sq57 : SeqOk Try.prog 57 [(3, 0, false), (3, 1, false), (3, 2, false), (3, 3, false), (3, 4, false)] := ⟨by kernel_rfl, by kernel_rfl, by kernel_rfl, by kernel_rfl⟩
theorem sq58 : SeqOk Try.prog 58 [(3, 0, false), (3, 1, false), (3, 2, false), (3, 3, false), (3, 4, false)] := ⟨by kernel_rfl, by kernel_rfl, by kernel_rfl, by kernel_rfl⟩
theorem sq59 : SeqOk Try.prog 59 [(3, 0, false), (3, 1, false)] := ⟨by kernel_rfl, by kernel_rfl, by kernel_rfl, by kernel_rfl⟩
theorem sq60 : SeqOk Try.prog 60 [(3, 0, false), (3, 1, false)] := ⟨by kernel_rfl, by kernel_rfl, by kernel_rfl, by kernel_rfl⟩
theorem sq84 : SeqOk Try.prog 84 [(3, 0, false), (3, 1, false)] := ⟨by kernel_rfl, by kernel_rfl, by kernel_rfl, by kernel_rfl⟩
theorem sq85 : SeqOk Try.prog 85 [(3, 0, false), (3, 1, false)] := ⟨by kernel_rfl, by kernel_rfl, by kernel_rfl, by kernel_rfl⟩
theorem sq103 : SeqOk Try.prog 103 [(3, 0, false), (3, 1, false)] := ⟨by kernel_rfl, by kernel_rfl, by kernel_rfl, by kernel_rfl⟩
theorem sq104 : SeqOk Try.prog 104 [(3, 0, false), (3, 1, false)] := ⟨by kernel_rfl, by kernel_rfl, by kernel_rfl, by kernel_rfl⟩
theorem sq118 : SeqOk Try.prog 118 [(3, 0, false), (3, 1, false), (3, 2, false)] := ⟨by kernel_rfl, by kernel_rfl, by kernel_rfl, by kernel_rfl⟩
theorem sq119 : SeqOk Try.prog 119 [(3, 0, false), (3, 1, false), (3, 2, false)] := ⟨by kernel_rfl, by kernel_rfl, by kernel_rfl, by kernel_rfl⟩
theorem sq133 : SeqOk Try.prog 133 [(3, 0, false), (3, 1, false)] := ⟨by kernel_rfl, by kernel_rfl, by kernel_rfl, by kernel_rfl⟩
theorem sq134 : SeqOk Try.prog 134 [(3, 0, false), (3, 1, false)] := ⟨by kernel_rfl, by kernel_rfl, by kernel_rfl, by kernel_rfl⟩
inductive TyT where
  | leaf
  | node (l : TyT) (k : Nat) (d : TyD) (r : TyT)
def tyL : TyT := (.node (.node (.node (.node (.node (.node (.node (.node .leaf 1 ⟨.func, 1, 8, .nilFunc⟩ .leaf) 2 ⟨.int .i64, 1, 8, .int .i64 0⟩ .leaf) 3 ⟨.int .i64, 1, 8, .int .i64 0⟩ (.node .leaf 4 ⟨.bool, 1, 1, .bool false⟩ .leaf)) 5 ⟨.int .u8, 1, 1, .int .u8 0⟩ (.node (.node .leaf 6 ⟨.int .u8, 1, 1, .int .u8 0⟩ .leaf) 7 ⟨.struct [(2, 0), (3, 1), (4, 2), (6, 3)], 4, 24, .agg #[.int .i64 0, .int .i64 0, .bool false, .int .u8 0]⟩ (.node .leaf 8 ⟨.struct [(2, 0), (3, 1), (4, 2), (6, 3)], 4, 24, .agg #[.int .i64 0, .int .i64 0, .bool false, .int .u8 0]⟩ .leaf))) 12 ⟨.int .u64, 1, 8, .int .u64 0⟩ (.node (.node (.node (.node .leaf 15 ⟨.ptr 151, 1, 8, .pointer none⟩ .leaf) 16 ⟨.ptr 154, 1, 8, .pointer none⟩ .leaf) 17 ⟨.ptr 163, 1, 8, .pointer none⟩ (.node .leaf 18 ⟨.struct [(17, 0)], 1, 8, .agg #[.pointer none]⟩ .leaf)) 19 ⟨.struct [(17, 0)], 1, 8, .agg #[.pointer none]⟩ (.node (.node .leaf 20 ⟨.iface true, 1, 16, .nilIface⟩ .leaf) 21 ⟨.int .i32, 1, 4, .int .i32 0⟩ (.node .leaf 22 ⟨.slice 3, 1, 24, .slice none 0 0⟩ .leaf)))) 23 ⟨.struct [(22, 0), (22, 1), (3, 2), (3, 3), (3, 4), (22, 5)], 6, 96, .agg #[.slice none 0 0, .slice none 0 0, .int .i64 0, .int .i64 0, .int .i64 0, .slice none 0 0]⟩ (.node (.node (.node (.node (.node .leaf 24 ⟨.struct [(22, 0), (22, 1), (3, 2), (3, 3), (3, 4), (22, 5)], 6, 96, .agg #[.slice none 0 0, .slice none 0 0, .int .i64 0, .int .i64 0, .int .i64 0, .slice none 0 0]⟩ .leaf) 25 ⟨.func, 1, 8, .nilFunc⟩ .leaf) 26 ⟨.func, 1, 8, .nilFunc⟩ (.node .leaf 27 ⟨.int .i64, 1, 8, .int .i64 0⟩ .leaf)) 29 ⟨.func, 1, 8, .nilFunc⟩ (.node (.node .leaf 30 ⟨.slice 60, 1, 24, .slice none 0 0⟩ .leaf) 32 ⟨.func, 1, 8, .nilFunc⟩ (.node .leaf 34 ⟨.func, 1, 8, .nilFunc⟩ .leaf))) 36 ⟨.func, 1, 8, .nilFunc⟩ (.node (.node (.node (.node .leaf 37 ⟨.struct [(3, 0), (3, 1)], 2, 16, .agg #[.int .i64 0, .int .i64 0]⟩ .leaf) 38 ⟨.struct [(3, 0), (3, 1)], 2, 16, .agg #[.int .i64 0, .int .i64 0]⟩ .leaf) 40 ⟨.func, 1, 8, .nilFunc⟩ (.node .leaf 42 ⟨.func, 1, 8, .nilFunc⟩ .leaf)) 43 ⟨.func, 1, 8, .nilFunc⟩ (.node (.node .leaf 44 ⟨.struct [(3, 0), (3, 1), (3, 2), (3, 3), (3, 4)], 5, 40, .agg #[.int .i64 0, .int .i64 0, .int .i64 0, .int .i64 0, .int .i64 0]⟩ .leaf) 45 ⟨.struct [(3, 0), (3, 1), (3, 2), (3, 3), (3, 4)], 5, 40, .agg #[.int .i64 0, .int .i64 0, .int .i64 0, .int .i64 0, .int .i64 0]⟩ (.node .leaf 46 ⟨.slice 22, 1, 24, .slice none 0 0⟩ .leaf))))) 47 ⟨.slice 22, 1, 24, .slice none 0 0⟩ (.node (.node (.node (.node (.node (.node .leaf 49 ⟨.func, 1, 8, .nilFunc⟩ .leaf) 50 ⟨.func, 1, 8, .nilFunc⟩ .leaf) 51 ⟨.func, 1, 8, .nilFunc⟩ (.node .leaf 52 ⟨.func, 1, 8, .nilFunc⟩ .leaf)) 53 ⟨.func, 1, 8, .nilFunc⟩ (.node (.node .leaf 54 ⟨.func, 1, 8, .nilFunc⟩ .leaf) 55 ⟨.int .i16, 1, 2, .int .i16 0⟩ (.node .leaf 56 ⟨.func, 1, 8, .nilFunc⟩ .leaf))) 57 ⟨.struct [(3, 0), (3, 1), (3, 2), (3, 3), (3, 4)], 5, 40, .agg #[.int .i64 0, .int .i64 0, .int .i64 0, .int .i64 0, .int .i64 0]⟩ (.node (.node (.node (.node .leaf 58 ⟨.struct [(3, 0), (3, 1), (3, 2), (3, 3), (3, 4)], 5, 40, .agg #[.int .i64 0, .int .i64 0, .int .i64 0, .int .i64 0, .int .i64 0]⟩ .leaf) 59 ⟨.struct [(3, 0), (3, 1)], 2, 16, .agg #[.int .i64 0, .int .i64 0]⟩ .leaf) 60 ⟨.struct [(3, 0), (3, 1)], 2, 16, .agg #[.int .i64 0, .int .i64 0]⟩ (.node .leaf 61 ⟨.slice 65, 1, 24, .slice none 0 0⟩ .leaf)) 62 ⟨.struct [(58, 0), (3, 5), (3, 6), (3, 7), (60, 8), (3, 10), (3, 11), (61, 12)], 13, 120, .agg #[.int .i64 0, .int .i64 0, .int .i64 0, .int .i64 0, .int .i64 0, .int .i64 0, .int .i64 0, .int .i64 0, .int .i64 0, .int .i64 0, .int .i64 0, .int .i64 0, .slice none 0 0]⟩ (.node (.node .leaf 63 ⟨.struct [(58, 0), (3, 5), (3, 6), (3, 7), (60, 8), (3, 10), (3, 11), (61, 12)], 13, 120, .agg #[.int .i64 0, .int .i64 0, .int .i64 0, .int .i64 0, .int .i64 0, .int .i64 0, .int .i64 0, .int .i64 0, .int .i64 0, .int .i64 0, .int .i64 0, .int .i64 0, .slice none 0 0]⟩ .leaf) 64 ⟨.struct [(30, 0), (3, 1), (4, 2)], 3, 40, .agg #[.slice none 0 0, .int .i64 0, .bool false]⟩ (.node .leaf 65 ⟨.struct [(30, 0), (3, 1), (4, 2)], 3, 40, .agg #[.slice none 0 0, .int .i64 0, .bool false]⟩ .leaf)))) 66 ⟨.slice 104, 1, 24, .slice none 0 0⟩ (.node (.node (.node (.node (.node .leaf 68 ⟨.func, 1, 8, .nilFunc⟩ .leaf) 69 ⟨.func, 1, 8, .nilFunc⟩ .leaf) 70 ⟨.func, 1, 8, .nilFunc⟩ (.node .leaf 71 ⟨.func, 1, 8, .nilFunc⟩ .leaf)) 72 ⟨.ptr 78, 1, 8, .pointer none⟩ (.node (.node .leaf 74 ⟨.func, 1, 8, .nilFunc⟩ .leaf) 75 ⟨.func, 1, 8, .nilFunc⟩ (.node .leaf 76 ⟨.array 13 3, 13, 104, .agg #[.int .i64 0, .int .i64 0, .int .i64 0, .int .i64 0, .int .i64 0, .int .i64 0, .int .i64 0, .int .i64 0, .int .i64 0, .int .i64 0, .int .i64 0, .int .i64 0, .int .i64 0]⟩ .leaf))) 77 ⟨.struct [(24, 0), (22, 6), (3, 7), (3, 8), (3, 9), (76, 10)], 23, 248, .agg #[.slice none 0 0, .slice none 0 0, .int .i64 0, .int .i64 0, .int .i64 0, .slice none 0 0, .slice none 0 0, .int .i64 0, .int .i64 0, .int .i64 0, .int .i64 0, .int .i64 0, .int .i64 0, .int .i64 0, .int .i64 0, .int .i64 0, .int .i64 0, .int .i64 0, .int .i64 0, .int .i64 0, .int .i64 0, .int .i64 0, .int .i64 0]⟩ (.node (.node (.node (.node .leaf 78 ⟨.struct [(24, 0), (22, 6), (3, 7), (3, 8), (3, 9), (76, 10)], 23, 248, .agg #[.slice none 0 0, .slice none 0 0, .int .i64 0, .int .i64 0, .int .i64 0, .slice none 0 0, .slice none 0 0, .int .i64 0, .int .i64 0, .int .i64 0, .int .i64 0, .int .i64 0, .int .i64 0, .int .i64 0, .int .i64 0, .int .i64 0, .int .i64 0, .int .i64 0, .int .i64 0, .int .i64 0, .int .i64 0, .int .i64 0, .int .i64 0]⟩ .leaf) 79 ⟨.func, 1, 8, .nilFunc⟩ .leaf) 80 ⟨.func, 1, 8, .nilFunc⟩ (.node .leaf 81 ⟨.slice 30, 1, 24, .slice none 0 0⟩ .leaf)) 82 ⟨.func, 1, 8, .nilFunc⟩ (.node (.node .leaf 83 ⟨.func, 1, 8, .nilFunc⟩ .leaf) 84 ⟨.struct [(3, 0), (3, 1)], 2, 16, .agg #[.int .i64 0, .int .i64 0]⟩ (.node .leaf 85 ⟨.struct [(3, 0), (3, 1)], 2, 16, .agg #[.int .i64 0, .int .i64 0]⟩ .leaf)))))) 86 ⟨.slice 60, 1, 24, .slice none 0 0⟩ (.node (.node (.node (.node (.node (.node (.node .leaf 87 ⟨.func, 1, 8, .nilFunc⟩ .leaf) 88 ⟨.func, 1, 8, .nilFunc⟩ .leaf) 89 ⟨.func, 1, 8, .nilFunc⟩ (.node .leaf 90 ⟨.func, 1, 8, .nilFunc⟩ .leaf)) 91 ⟨.func, 1, 8, .nilFunc⟩ (.node (.node .leaf 92 ⟨.slice 119, 1, 24, .slice none 0 0⟩ .leaf) 93 ⟨.func, 1, 8, .nilFunc⟩ (.node .leaf 94 ⟨.func, 1, 8, .nilFunc⟩ .leaf))) 95 ⟨.func, 1, 8, .nilFunc⟩ (.node (.node (.node (.node .leaf 96 ⟨.func, 1, 8, .nilFunc⟩ .leaf) 97 ⟨.func, 1, 8, .nilFunc⟩ .leaf) 98 ⟨.func, 1, 8, .nilFunc⟩ (.node .leaf 99 ⟨.slice 102, 1, 24, .slice none 0 0⟩ .leaf)) 100 ⟨.func, 1, 8, .nilFunc⟩ (.node (.node .leaf 101 ⟨.struct [(86, 0), (86, 1), (3, 2), (3, 3), (3, 4), (4, 5)], 6, 80, .agg #[.slice none 0 0, .slice none 0 0, .int .i64 0, .int .i64 0, .int .i64 0, .bool false]⟩ .leaf) 102 ⟨.struct [(86, 0), (86, 1), (3, 2), (3, 3), (3, 4), (4, 5)], 6, 80, .agg #[.slice none 0 0, .slice none 0 0, .int .i64 0, .int .i64 0, .int .i64 0, .bool false]⟩ (.node .leaf 103 ⟨.struct [(3, 0), (3, 1)], 2, 16, .agg #[.int .i64 0, .int .i64 0]⟩ .leaf)))) 104 ⟨.struct [(3, 0), (3, 1)], 2, 16, .agg #[.int .i64 0, .int .i64 0]⟩ (.node (.node (.node (.node (.node .leaf 105 ⟨.func, 1, 8, .nilFunc⟩ .leaf) 106 ⟨.func, 1, 8, .nilFunc⟩ .leaf) 107 ⟨.func, 1, 8, .nilFunc⟩ (.node .leaf 108 ⟨.func, 1, 8, .nilFunc⟩ .leaf)) 109 ⟨.func, 1, 8, .nilFunc⟩ (.node (.node .leaf 110 ⟨.func, 1, 8, .nilFunc⟩ .leaf) 111 ⟨.func, 1, 8, .nilFunc⟩ (.node .leaf 112 ⟨.func, 1, 8, .nilFunc⟩ .leaf))) 113 ⟨.func, 1, 8, .nilFunc⟩ (.node (.node (.node (.node .leaf 114 ⟨.array 4 85, 8, 64, .agg #[.int .i64 0, .int .i64 0, .int .i64 0, .int .i64 0, .int .i64 0, .int .i64 0, .int .i64 0, .int .i64 0]⟩ .leaf) 115 ⟨.func, 1, 8, .nilFunc⟩ .leaf) 116 ⟨.func, 1, 8, .nilFunc⟩ (.node .leaf 117 ⟨.func, 1, 8, .nilFunc⟩ .leaf)) 118 ⟨.struct [(3, 0), (3, 1), (3, 2)], 3, 24, .agg #[.int .i64 0, .int .i64 0, .int .i64 0]⟩ (.node (.node .leaf 119 ⟨.struct [(3, 0), (3, 1), (3, 2)], 3, 24, .agg #[.int .i64 0, .int .i64 0, .int .i64 0]⟩ .leaf) 120 ⟨.func, 1, 8, .nilFunc⟩ (.node .leaf 121 ⟨.func, 1, 8, .nilFunc⟩ .leaf))))) 122 ⟨.func, 1, 8, .nilFunc⟩ (.node (.node (.node (.node (.node (.node .leaf 123 ⟨.func, 1, 8, .nilFunc⟩ .leaf) 125 ⟨.func, 1, 8, .nilFunc⟩ .leaf) 126 ⟨.func, 1, 8, .nilFunc⟩ (.node .leaf 127 ⟨.func, 1, 8, .nilFunc⟩ .leaf)) 128 ⟨.func, 1, 8, .nilFunc⟩ (.node (.node .leaf 129 ⟨.int .u64, 1, 8, .int .u64 0⟩ .leaf) 131 ⟨.func, 1, 8, .nilFunc⟩ (.node .leaf 132 ⟨.func, 1, 8, .nilFunc⟩ .leaf))) 133 ⟨.struct [(3, 0), (3, 1)], 2, 16, .agg #[.int .i64 0, .int .i64 0]⟩ (.node (.node (.node (.node .leaf 134 ⟨.struct [(3, 0), (3, 1)], 2, 16, .agg #[.int .i64 0, .int .i64 0]⟩ .leaf) 135 ⟨.func, 1, 8, .nilFunc⟩ .leaf) 136 ⟨.func, 1, 8, .nilFunc⟩ (.node .leaf 137 ⟨.func, 1, 8, .nilFunc⟩ .leaf)) 138 ⟨.slice 128, 1, 24, .slice none 0 0⟩ (.node (.node .leaf 139 ⟨.func, 1, 8, .nilFunc⟩ .leaf) 140 ⟨.func, 1, 8, .nilFunc⟩ (.node .leaf 141 ⟨.func, 1, 8, .nilFunc⟩ .leaf)))) 142 ⟨.func, 1, 8, .nilFunc⟩ (.node (.node (.node (.node (.node .leaf 143 ⟨.int .u64, 1, 8, .int .u64 0⟩ .leaf) 144 ⟨.func, 1, 8, .nilFunc⟩ .leaf) 145 ⟨.func, 1, 8, .nilFunc⟩ (.node .leaf 146 ⟨.func, 1, 8, .nilFunc⟩ .leaf)) 147 ⟨.func, 1, 8, .nilFunc⟩ (.node (.node .leaf 148 ⟨.func, 1, 8, .nilFunc⟩ .leaf) 149 ⟨.func, 1, 8, .nilFunc⟩ (.node .leaf 155 ⟨.int .u32, 1, 4, .int .u32 0⟩ .leaf))) 156 ⟨.int .u8, 1, 1, .int .u8 0⟩ (.node (.node (.node .leaf 157 ⟨.int .u8, 1, 1, .int .u8 0⟩ .leaf) 158 ⟨.func, 1, 8, .nilFunc⟩ (.node .leaf 159 ⟨.ptr 5, 1, 8, .pointer none⟩ .leaf)) 160 ⟨.int .i32, 1, 4, .int .i32 0⟩ (.node (.node .leaf 161 ⟨.int .i32, 1, 4, .int .i32 0⟩ .leaf) 162 ⟨.struct [(12, 0), (12, 1), (155, 2), (156, 3), (5, 4), (5, 5), (157, 6), (158, 7), (159, 8), (160, 9), (161, 10)], 11, 48, .agg #[.int .u64 0, .int .u64 0, .int .u32 0, .int .u8 0, .int .u8 0, .int .u8 0, .int .u8 0, .nilFunc, .pointer none, .int .i32 0, .int .i32 0]⟩ (.node .leaf 163 ⟨.struct [(12, 0), (12, 1), (155, 2), (156, 3), (5, 4), (5, 5), (157, 6), (158, 7), (159, 8), (160, 9), (161, 10)], 11, 48, .agg #[.int .u64 0, .int .u64 0, .int .u32 0, .int .u8 0, .int .u8 0, .int .u8 0, .int .u8 0, .nilFunc, .pointer none, .int .i32 0, .int .i32 0]⟩ .leaf)))))))
def lookT : TyT → Nat → Option TyD
  | .leaf, _ => none
  | .node l k d r, t => bif Nat.blt t k then lookT l t else bif Nat.beq k t then some d else lookT r t
def AllTy (P : Program) : TyT → Prop
  | .leaf => True
  | .node l k d r => AllTy P l ∧ TyIs P k d ∧ AllTy P r
theorem allTy_look {P : Program} : ∀ {l : TyT} {T : Nat} {d : TyD}, AllTy P l → lookT l T = some d → TyIs P T d
  | .leaf, _, _, _, h => by cases h
  | .node l k v r, T, d, ha, h => by
    simp only [lookT] at h
    cases hc : Nat.blt T k
    · rw [hc] at h
      cases hb : Nat.beq k T
      · rw [hb] at h; exact allTy_look ha.2.2 h
      · rw [hb] at h; cases h; rw [← Nat.eq_of_beq_eq_true hb]; exact ha.2.1
    · rw [hc] at h; exact allTy_look ha.1 h
theorem tyL_ok : AllTy Try.prog tyL := ⟨⟨⟨⟨⟨⟨⟨⟨trivial, ty1, trivial⟩, ty2, trivial⟩, ty3, ⟨trivial, ty4, trivial⟩⟩, ty5, ⟨⟨trivial, ty6, trivial⟩, ty7, ⟨trivial, ty8, trivial⟩⟩⟩, ty12, ⟨⟨⟨⟨trivial, ty15, trivial⟩, ty16, trivial⟩, ty17, ⟨trivial, ty18, trivial⟩⟩, ty19, ⟨⟨trivial, ty20, trivial⟩, ty21, ⟨trivial, ty22, trivial⟩⟩⟩⟩, ty23, ⟨⟨⟨⟨⟨trivial, ty24, trivial⟩, ty25, trivial⟩, ty26, ⟨trivial, ty27, trivial⟩⟩, ty29, ⟨⟨trivial, ty30, trivial⟩, ty32, ⟨trivial, ty34, trivial⟩⟩⟩, ty36, ⟨⟨⟨⟨trivial, ty37, trivial⟩, ty38, trivial⟩, ty40, ⟨trivial, ty42, trivial⟩⟩, ty43, ⟨⟨trivial, ty44, trivial⟩, ty45, ⟨trivial, ty46, trivial⟩⟩⟩⟩⟩, ty47, ⟨⟨⟨⟨⟨⟨trivial, ty49, trivial⟩, ty50, trivial⟩, ty51, ⟨trivial, ty52, trivial⟩⟩, ty53, ⟨⟨trivial, ty54, trivial⟩, ty55, ⟨trivial, ty56, trivial⟩⟩⟩, ty57, ⟨⟨⟨⟨trivial, ty58, trivial⟩, ty59, trivial⟩, ty60, ⟨trivial, ty61, trivial⟩⟩, ty62, ⟨⟨trivial, ty63, trivial⟩, ty64, ⟨trivial, ty65, trivial⟩⟩⟩⟩, ty66, ⟨⟨⟨⟨⟨trivial, ty68, trivial⟩, ty69, trivial⟩, ty70, ⟨trivial, ty71, trivial⟩⟩, ty72, ⟨⟨trivial, ty74, trivial⟩, ty75, ⟨trivial, ty76, trivial⟩⟩⟩, ty77, ⟨⟨⟨⟨trivial, ty78, trivial⟩, ty79, trivial⟩, ty80, ⟨trivial, ty81, trivial⟩⟩, ty82, ⟨⟨trivial, ty83, trivial⟩, ty84, ⟨trivial, ty85, trivial⟩⟩⟩⟩⟩⟩, ty86, ⟨⟨⟨⟨⟨⟨⟨trivial, ty87, trivial⟩, ty88, trivial⟩, ty89, ⟨trivial, ty90, trivial⟩⟩, ty91, ⟨⟨trivial, ty92, trivial⟩, ty93, ⟨trivial, ty94, trivial⟩⟩⟩, ty95, ⟨⟨⟨⟨trivial, ty96, trivial⟩, ty97, trivial⟩, ty98, ⟨trivial, ty99, trivial⟩⟩, ty100, ⟨⟨trivial, ty101, trivial⟩, ty102, ⟨trivial, ty103, trivial⟩⟩⟩⟩, ty104, ⟨⟨⟨⟨⟨trivial, ty105, trivial⟩, ty106, trivial⟩, ty107, ⟨trivial, ty108, trivial⟩⟩, ty109, ⟨⟨trivial, ty110, trivial⟩, ty111, ⟨trivial, ty112, trivial⟩⟩⟩, ty113, ⟨⟨⟨⟨trivial, ty114, trivial⟩, ty115, trivial⟩, ty116, ⟨trivial, ty117, trivial⟩⟩, ty118, ⟨⟨trivial, ty119, trivial⟩, ty120, ⟨trivial, ty121, trivial⟩⟩⟩⟩⟩, ty122, ⟨⟨⟨⟨⟨⟨trivial, ty123, trivial⟩, ty125, trivial⟩, ty126, ⟨trivial, ty127, trivial⟩⟩, ty128, ⟨⟨trivial, ty129, trivial⟩, ty131, ⟨trivial, ty132, trivial⟩⟩⟩, ty133, ⟨⟨⟨⟨trivial, ty134, trivial⟩, ty135, trivial⟩, ty136, ⟨trivial, ty137, trivial⟩⟩, ty138, ⟨⟨trivial, ty139, trivial⟩, ty140, ⟨trivial, ty141, trivial⟩⟩⟩⟩, ty142, ⟨⟨⟨⟨⟨trivial, ty143, trivial⟩, ty144, trivial⟩, ty145, ⟨trivial, ty146, trivial⟩⟩, ty147, ⟨⟨trivial, ty148, trivial⟩, ty149, ⟨trivial, ty155, trivial⟩⟩⟩, ty156, ⟨⟨⟨trivial, ty157, trivial⟩, ty158, ⟨trivial, ty159, trivial⟩⟩, ty160, ⟨⟨trivial, ty161, trivial⟩, ty162, ⟨trivial, ty163, trivial⟩⟩⟩⟩⟩⟩⟩
def sizesL : List (TypeId × Nat) → Option (List Nat)
  | [] => some []
  | (E, _) :: fs => match lookT tyL E, sizesL fs with
    | some d, some ns => some (d.size :: ns)
    | _, _ => none
theorem sizes : ∀ {fs : List (TypeId × Nat)} {ns : List Nat}, sizesL fs = some ns → SizesAre Try.prog fs ns
  | [], ns, h => by cases h; trivial
  | (E, _) :: fs, ns, h => by
    simp only [sizesL] at h
    cases h1 : lookT tyL E with
    | none => rw [h1] at h; cases h
    | some d =>
      cases h2 : sizesL fs with
      | none => rw [h1, h2] at h; cases h
      | some ms => rw [h1, h2] at h; cases h; exact ⟨⟨d, allTy_look tyL_ok h1, rfl⟩, sizes h2⟩
theorem ty {T : TypeId} {d : TyD} (h : lookT tyL T = some d) : TyIs Try.prog T d := allTy_look tyL_ok h
def seqL : List (Nat × List (TypeId × Nat × Bool)) := [(7, [(2, 0, false), (3, 1, false), (4, 2, false), (6, 3, false)]), (8, [(2, 0, false), (3, 1, false), (4, 2, false), (6, 3, false)]), (37, [(3, 0, false), (3, 1, false)]), (38, [(3, 0, false), (3, 1, false)]), (44, [(3, 0, false), (3, 1, false), (3, 2, false), (3, 3, false), (3, 4, false)]), (45, [(3, 0, false), (3, 1, false), (3, 2, false), (3, 3, false), (3, 4, false)]), (57, [(3, 0, false), (3, 1, false), (3, 2, false), (3, 3, false), (3, 4, false)]), (58, [(3, 0, false), (3, 1, false), (3, 2, false), (3, 3, false), (3, 4, false)]), (59, [(3, 0, false), (3, 1, false)]), (60, [(3, 0, false), (3, 1, false)]), (84, [(3, 0, false), (3, 1, false)]), (85, [(3, 0, false), (3, 1, false)]), (103, [(3, 0, false), (3, 1, false)]), (104, [(3, 0, false), (3, 1, false)]), (118, [(3, 0, false), (3, 1, false), (3, 2, false)]), (119, [(3, 0, false), (3, 1, false), (3, 2, false)]), (133, [(3, 0, false), (3, 1, false)]), (134, [(3, 0, false), (3, 1, false)])]
def lookS : List (Nat × List (TypeId × Nat × Bool)) → Nat → Option (List (TypeId × Nat × Bool))
  | [], _ => none
  | (k, v) :: e, t => bif Nat.beq k t then some v else lookS e t
def AllSeq (P : Program) : List (Nat × List (TypeId × Nat × Bool)) → Prop
  | [] => True
  | (k, v) :: e => SeqOk P k v ∧ AllSeq P e
theorem allSeq_look {P : Program} : ∀ {l : List (Nat × List (TypeId × Nat × Bool))} {T : Nat} {d : List (TypeId × Nat × Bool)}, AllSeq P l → lookS l T = some d → SeqOk P T d
  | [], _, _, _, h => by cases h
  | (k, v) :: e, T, d, ha, h => by
    simp only [lookS] at h
    cases hb : Nat.beq k T
    · rw [hb] at h; exact allSeq_look ha.2 h
    · rw [hb] at h; cases h; rw [← Nat.eq_of_beq_eq_true hb]; exact ha.1
theorem seqL_ok : AllSeq Try.prog seqL := ⟨sq7, sq8, sq37, sq38, sq44, sq45, sq57, sq58, sq59, sq60, sq84, sq85, sq103, sq104, sq118, sq119, sq133, sq134, trivial⟩
theorem seq {T : TypeId} {d : List (TypeId × Nat × Bool)} (h : lookS seqL T = some d) : SeqOk Try.prog T d := allSeq_look seqL_ok h
theorem fn7 : FnOk Try.prog 7 := fnOk Try.func7 rfl (by kernel_rfl)
theorem fn8 : FnOk Try.prog 8 := fnOk Try.func8 rfl (by kernel_rfl)
theorem fn11 : FnOk Try.prog 11 := fnOk Try.func11 rfl (by kernel_rfl)
theorem fn12 : FnOk Try.prog 12 := fnOk Try.func12 rfl (by kernel_rfl)
theorem fn21 : FnOk Try.prog 21 := fnOk Try.func21 rfl (by kernel_rfl)
theorem fn22 : FnOk Try.prog 22 := fnOk Try.func22 rfl (by kernel_rfl)
theorem fn23 : FnOk Try.prog 23 := fnOk Try.func23 rfl (by kernel_rfl)
theorem fn25 : FnOk Try.prog 25 := fnOk Try.func25 rfl (by kernel_rfl)
theorem fn26 : FnOk Try.prog 26 := fnOk Try.func26 rfl (by kernel_rfl)
theorem fn27 : FnOk Try.prog 27 := fnOk Try.func27 rfl (by kernel_rfl)
theorem fn28 : FnOk Try.prog 28 := fnOk Try.func28 rfl (by kernel_rfl)
theorem fn29 : FnOk Try.prog 29 := fnOk Try.func29 rfl (by kernel_rfl)
theorem fn30 : FnOk Try.prog 30 := fnOk Try.func30 rfl (by kernel_rfl)
theorem fn31 : FnOk Try.prog 31 := fnOk Try.func31 rfl (by kernel_rfl)
theorem fn32 : FnOk Try.prog 32 := fnOk Try.func32 rfl (by kernel_rfl)
theorem fn33 : FnOk Try.prog 33 := fnOk Try.func33 rfl (by kernel_rfl)
theorem fn34 : FnOk Try.prog 34 := fnOk Try.func34 rfl (by kernel_rfl)
theorem fn41 : FnOk Try.prog 41 := fnOk Try.func41 rfl (by kernel_rfl)
theorem fn42 : FnOk Try.prog 42 := fnOk Try.func42 rfl (by kernel_rfl)
theorem fn43 : FnOk Try.prog 43 := fnOk Try.func43 rfl (by kernel_rfl)
theorem fn44 : FnOk Try.prog 44 := fnOk Try.func44 rfl (by kernel_rfl)
theorem fn45 : FnOk Try.prog 45 := fnOk Try.func45 rfl (by kernel_rfl)
theorem fn46 : FnOk Try.prog 46 := fnOk Try.func46 rfl (by kernel_rfl)
theorem fn47 : FnOk Try.prog 47 := fnOk Try.func47 rfl (by kernel_rfl)
theorem fn48 : FnOk Try.prog 48 := fnOk Try.func48 rfl (by kernel_rfl)
theorem fn49 : FnOk Try.prog 49 := fnOk Try.func49 rfl (by kernel_rfl)
theorem fn50 : FnOk Try.prog 50 := fnOk Try.func50 rfl (by kernel_rfl)
theorem fn51 : FnOk Try.prog 51 := fnOk Try.func51 rfl (by kernel_rfl)
theorem fn52 : FnOk Try.prog 52 := fnOk Try.func52 rfl (by kernel_rfl)
theorem fn53 : FnOk Try.prog 53 := fnOk Try.func53 rfl (by kernel_rfl)
theorem fn60 : FnOk Try.prog 60 := fnOk Try.func60 rfl (by kernel_rfl)
theorem fn61 : FnOk Try.prog 61 := fnOk Try.func61 rfl (by kernel_rfl)
theorem fn62 : FnOk Try.prog 62 := fnOk Try.func62 rfl (by kernel_rfl)
theorem fn63 : FnOk Try.prog 63 := fnOk Try.func63 rfl (by kernel_rfl)
theorem fn64 : FnOk Try.prog 64 := fnOk Try.func64 rfl (by kernel_rfl)
theorem fn65 : FnOk Try.prog 65 := fnOk Try.func65 rfl (by kernel_rfl)
theorem fn66 : FnOk Try.prog 66 := fnOk Try.func66 rfl (by kernel_rfl)
theorem fn67 : FnOk Try.prog 67 := fnOk Try.func67 rfl (by kernel_rfl)
theorem fn68 : FnOk Try.prog 68 := fnOk Try.func68 rfl (by kernel_rfl)
theorem fn69 : FnOk Try.prog 69 := fnOk Try.func69 rfl (by kernel_rfl)
theorem fn70 : FnOk Try.prog 70 := fnOk Try.func70 rfl (by kernel_rfl)
theorem fn71 : FnOk Try.prog 71 := fnOk Try.func71 rfl (by kernel_rfl)
theorem fn72 : FnOk Try.prog 72 := fnOk Try.func72 rfl (by kernel_rfl)
theorem fn73 : FnOk Try.prog 73 := fnOk Try.func73 rfl (by kernel_rfl)
theorem fn74 : FnOk Try.prog 74 := fnOk Try.func74 rfl (by kernel_rfl)
theorem fn76 : FnOk Try.prog 76 := fnOk Try.func76 rfl (by kernel_rfl)
theorem fn77 : FnOk Try.prog 77 := fnOk Try.func77 rfl (by kernel_rfl)
theorem fn78 : FnOk Try.prog 78 := fnOk Try.func78 rfl (by kernel_rfl)
theorem fn79 : FnOk Try.prog 79 := fnOk Try.func79 rfl (by kernel_rfl)
theorem fn80 : FnOk Try.prog 80 := fnOk Try.func80 rfl (by kernel_rfl)
theorem fn81 : FnOk Try.prog 81 := fnOk Try.func81 rfl (by kernel_rfl)
theorem fn82 : FnOk Try.prog 82 := fnOk Try.func82 rfl (by kernel_rfl)
theorem fn83 : FnOk Try.prog 83 := fnOk Try.func83 rfl (by kernel_rfl)
theorem fn84 : FnOk Try.prog 84 := fnOk Try.func84 rfl (by kernel_rfl)
theorem fn85 : FnOk Try.prog 85 := fnOk Try.func85 rfl (by kernel_rfl)
theorem fn86 : FnOk Try.prog 86 := fnOk Try.func86 rfl (by kernel_rfl)
theorem fn87 : FnOk Try.prog 87 := fnOk Try.func87 rfl (by kernel_rfl)
theorem mixed : Try.prog.follows .mixedOrders = true := by kernel_rfl
end Go.Proofs.Ytloaefllpokkaaa
namespace Go.Proofs.Ytloaefllpokkaaa
open Go.RowKit
/-- What a test tells. -/
class HG (p : Prop) (q : outParam Prop) : Prop where
  out : p → q
instance hgi1 {p : Prop} [Decidable p] : HG (decide p = true) p := ⟨of_decide_eq_true⟩
instance hgi2 {p : Prop} [Decidable p] : HG (decide p = false) (¬ p) := ⟨of_decide_eq_false⟩
instance hgi3 {p : Prop} [Decidable p] : HG ((!decide p) = true) (¬ p) := ⟨hgNT⟩
instance hgi4 {p : Prop} [Decidable p] : HG ((!decide p) = false) p := ⟨hgNF⟩
instance hgi5 {p : Prop} [Decidable p] : HG (decide p = !false) p := ⟨of_decide_eq_true⟩
instance hgi6 {p : Prop} [Decidable p] : HG (decide p = !true) (¬ p) := ⟨of_decide_eq_false⟩
instance hgi7 {p : Prop} [Decidable p] : HG ((!decide p) = !false) (¬ p) := ⟨hgNT⟩
instance hgi8 {p : Prop} [Decidable p] : HG ((!decide p) = !true) p := ⟨hgNF⟩
instance (priority := low) hgj1 {b : Bool} : HG ((!b) = true) (b = false) := ⟨hgBT⟩
instance (priority := low) hgj2 {b : Bool} : HG ((!b) = false) (b = true) := ⟨hgBF⟩
instance (priority := low) hgj3 {b : Bool} : HG ((!b) = !false) (b = false) := ⟨hgBT⟩
instance (priority := low) hgj4 {b : Bool} : HG ((!b) = !true) (b = true) := ⟨hgBF⟩
instance (priority := low) hgj5 {b : Bool} : HG (b = !true) (b = false) := ⟨fun h => h⟩
instance (priority := low) hgj6 {b : Bool} : HG (b = !false) (b = true) := ⟨fun h => h⟩
variable {r : Option Nat} {m nt i e : Nat} {Q : Post} {env : Env} {H : Heap} {ops : Array Oper} {l : List Stp} {ty : TypeId} {pos : String} {after : Array Edge} {x y c : Operand} {T T2 E : TypeId} {d de : TyD} {v : V} {keep : Bool}
theorem zmv  (hk : AR Try.prog r m nt ops Q l ((e, v) :: env) H) (hx : eo env x = some v := by exact rfl) (hd : e < nt := by exact dc rfl) :
    AR Try.prog r m nt ops Q (.q i ⟨some e, .move x, ty, pos, after, none⟩ :: l) env H := ar_q (qs_move hx) hd hk
theorem zas  (hk : AR Try.prog r m nt ops Q l ((e, v) :: env) H) (hx : eo env x = some v := by exact rfl) (hd : e < nt := by exact dc rfl) :
    AR Try.prog r m nt ops Q (.q i ⟨some e, .assign x, ty, pos, after, none⟩ :: l) env H := ar_q (qs_assign hx) hd hk
theorem zlp {sz b j off n : Nat} {f : Nat → V} (hk : AR Try.prog r m nt ops Q l ((e, v) :: env) H) (ht : TyIs Try.prog T d := by exact ty rfl) (hx : eo env x = some (.ptr sz b j off) := by exact rfl) (hH : H[b]? = some (.arr sz n f) := by exact rfl) (hi : j < n := by first | exact Nat.one_pos | assumption | omega) (hv : partV d.tk.agg (f j).cells off d.size = some v := by exact rfl) (hd : e < nt := by exact dc rfl) :
    AR Try.prog r m nt ops Q (.q i ⟨some e, .load T x, ty, pos, after, none⟩ :: l) env H := ar_q (qs_load_ptr ht hx hH hi hv) hd hk
theorem zlr {w : V} {off : Nat} (hk : AR Try.prog r m nt ops Q l ((e, v) :: env) H) (ht : TyIs Try.prog T d := by exact ty rfl) (hx : eo env x = some (.ref w off) := by exact rfl) (hv : partV d.tk.agg w.cells off d.size = some v := by exact rfl) (hd : e < nt := by exact dc rfl) :
    AR Try.prog r m nt ops Q (.q i ⟨some e, .load T x, ty, pos, after, none⟩ :: l) env H := ar_q (qs_load_ref ht hx hv) hd hk
theorem zlss {k : IntKind} {a b : Int} (hk : AR Try.prog r m nt ops Q l ((e, .s (.bool (decide (a < b)))) :: env) H) (hx : eo env x = some (.s (.int k a)) := by exact rfl) (hy : eo env y = some (.s (.int k b)) := by exact rfl) (hd : e < nt := by exact dc rfl) :
    AR Try.prog r m nt ops Q (.q i ⟨some e, .binOp .lss T x y T2, ty, pos, after, none⟩ :: l) env H := ar_q (qs_lss hx hy) hd hk
theorem zleq {k : IntKind} {a b : Int} (hk : AR Try.prog r m nt ops Q l ((e, .s (.bool (decide (a ≤ b)))) :: env) H) (hx : eo env x = some (.s (.int k a)) := by exact rfl) (hy : eo env y = some (.s (.int k b)) := by exact rfl) (hd : e < nt := by exact dc rfl) :
    AR Try.prog r m nt ops Q (.q i ⟨some e, .binOp .leq T x y T2, ty, pos, after, none⟩ :: l) env H := ar_q (qs_leq hx hy) hd hk
theorem zgtr {k : IntKind} {a b : Int} (hk : AR Try.prog r m nt ops Q l ((e, .s (.bool (decide (b < a)))) :: env) H) (hx : eo env x = some (.s (.int k a)) := by exact rfl) (hy : eo env y = some (.s (.int k b)) := by exact rfl) (hd : e < nt := by exact dc rfl) :
    AR Try.prog r m nt ops Q (.q i ⟨some e, .binOp .gtr T x y T2, ty, pos, after, none⟩ :: l) env H := ar_q (qs_gtr hx hy) hd hk
theorem zgeq {k : IntKind} {a b : Int} (hk : AR Try.prog r m nt ops Q l ((e, .s (.bool (decide (b ≤ a)))) :: env) H) (hx : eo env x = some (.s (.int k a)) := by exact rfl) (hy : eo env y = some (.s (.int k b)) := by exact rfl) (hd : e < nt := by exact dc rfl) :
    AR Try.prog r m nt ops Q (.q i ⟨some e, .binOp .geq T x y T2, ty, pos, after, none⟩ :: l) env H := ar_q (qs_geq hx hy) hd hk
theorem zeql {k : IntKind} {a b : Int} (hk : AR Try.prog r m nt ops Q l ((e, .s (.bool (decide (a = b)))) :: env) H) (hx : eo env x = some (.s (.int k a)) := by exact rfl) (hy : eo env y = some (.s (.int k b)) := by exact rfl) (hd : e < nt := by exact dc rfl) :
    AR Try.prog r m nt ops Q (.q i ⟨some e, .binOp .eql T x y T2, ty, pos, after, none⟩ :: l) env H := ar_q (qs_eql hx hy) hd hk
theorem zneq {k : IntKind} {a b : Int} (hk : AR Try.prog r m nt ops Q l ((e, .s (.bool (!decide (a = b)))) :: env) H) (hx : eo env x = some (.s (.int k a)) := by exact rfl) (hy : eo env y = some (.s (.int k b)) := by exact rfl) (hd : e < nt := by exact dc rfl) :
    AR Try.prog r m nt ops Q (.q i ⟨some e, .binOp .neq T x y T2, ty, pos, after, none⟩ :: l) env H := ar_q (qs_neq hx hy) hd hk
theorem zadd {a b c : Int} (hk : AR Try.prog r m nt ops Q l ((e, .s (.int .i64 c)) :: env) H) (hx : eo env x = some (.s (.int .i64 a)) := by exact rfl) (hy : eo env y = some (.s (.int .i64 b)) := by exact rfl) (hr : IntKind.i64.wrap (a + b) = c := by exact wrap64 (by omega)) (hd : e < nt := by exact dc rfl) :
    AR Try.prog r m nt ops Q (.q i ⟨some e, .binOp .add T x y T2, ty, pos, after, none⟩ :: l) env H := ar_q (qs_add hx hy hr) hd hk
theorem zsub {a b c : Int} (hk : AR Try.prog r m nt ops Q l ((e, .s (.int .i64 c)) :: env) H) (hx : eo env x = some (.s (.int .i64 a)) := by exact rfl) (hy : eo env y = some (.s (.int .i64 b)) := by exact rfl) (hr : IntKind.i64.wrap (a - b) = c := by exact wrap64 (by omega)) (hd : e < nt := by exact dc rfl) :
    AR Try.prog r m nt ops Q (.q i ⟨some e, .binOp .sub T x y T2, ty, pos, after, none⟩ :: l) env H := ar_q (qs_sub hx hy hr) hd hk
theorem zmul {a b c : Int} (hk : AR Try.prog r m nt ops Q l ((e, .s (.int .i64 c)) :: env) H) (hx : eo env x = some (.s (.int .i64 a)) := by exact rfl) (hy : eo env y = some (.s (.int .i64 b)) := by exact rfl) (hr : IntKind.i64.wrap (a * b) = c := by exact wrap64 (by omega)) (hd : e < nt := by exact dc rfl) :
    AR Try.prog r m nt ops Q (.q i ⟨some e, .binOp .mul T x y T2, ty, pos, after, none⟩ :: l) env H := ar_q (qs_mul hx hy hr) hd hk
theorem zaddu64 {a b c : Int} (hk : AR Try.prog r m nt ops Q l ((e, .s (.int .u64 c)) :: env) H) (hx : eo env x = some (.s (.int .u64 a)) := by exact rfl) (hy : eo env y = some (.s (.int .u64 b)) := by exact rfl) (hr : IntKind.u64.wrap (a + b) = c := by exact wrapU (by omega)) (hd : e < nt := by exact dc rfl) :
    AR Try.prog r m nt ops Q (.q i ⟨some e, .binOp .add T x y T2, ty, pos, after, none⟩ :: l) env H := ar_q (qs_add hx hy hr) hd hk
theorem zmulu64 {a b c : Int} (hk : AR Try.prog r m nt ops Q l ((e, .s (.int .u64 c)) :: env) H) (hx : eo env x = some (.s (.int .u64 a)) := by exact rfl) (hy : eo env y = some (.s (.int .u64 b)) := by exact rfl) (hr : IntKind.u64.wrap (a * b) = c := by exact wrapU (by omega)) (hd : e < nt := by exact dc rfl) :
    AR Try.prog r m nt ops Q (.q i ⟨some e, .binOp .mul T x y T2, ty, pos, after, none⟩ :: l) env H := ar_q (qs_mul hx hy hr) hd hk
theorem zbneq {a b : Bool} (hk : AR Try.prog r m nt ops Q l ((e, .s (.bool (!(a == b)))) :: env) H) (ht : TyIs Try.prog T d := by exact ty rfl) (hk1 : d.tk = .bool := by exact rfl) (hx : eo env x = some (.s (.bool a)) := by exact rfl) (hy : eo env y = some (.s (.bool b)) := by exact rfl) (hd : e < nt := by exact dc rfl) :
    AR Try.prog r m nt ops Q (.q i ⟨some e, .binOp .neq T x y T2, ty, pos, after, none⟩ :: l) env H := ar_q (qs_bneq ht hk1 hx hy) hd hk
theorem zquo {a b c : Int} (hk : AR Try.prog r m nt ops Q l ((e, .s (.int .i64 c)) :: env) H) (hx : eo env x = some (.s (.int .i64 a)) := by exact rfl) (hy : eo env y = some (.s (.int .i64 b)) := by exact rfl) (hn : b ≠ 0 := by omega) (hr : IntKind.i64.wrap (a.tdiv b) = c := by exact quo64 (by omega) (by omega)) (hd : e < nt := by exact dc rfl) :
    AR Try.prog r m nt ops Q (.q i ⟨some e, .binOp .quo T x y T2, ty, pos, after, none⟩ :: l) env H := ar_q (qs_quo hx hy hn hr) hd hk
theorem zrem {a b c : Int} (hk : AR Try.prog r m nt ops Q l ((e, .s (.int .i64 c)) :: env) H) (hx : eo env x = some (.s (.int .i64 a)) := by exact rfl) (hy : eo env y = some (.s (.int .i64 b)) := by exact rfl) (hn : b ≠ 0 := by omega) (hr : a.tmod b = c := by exact rem64 (by omega)) (hd : e < nt := by exact dc rfl) :
    AR Try.prog r m nt ops Q (.q i ⟨some e, .binOp .rem T x y T2, ty, pos, after, none⟩ :: l) env H := ar_q (qs_rem hx hy hn hr) hd hk
theorem zfp {fs : List (TypeId × Nat)} {k o : Nat} {sz b j off : Nat} (hk : AR Try.prog r m nt ops Q l ((e, .ptr sz b j (off + o)) :: env) H) (ht : TyIs Try.prog T d := by exact ty rfl) (hk1 : d.tk = .struct fs := by exact rfl) (hf : fs[k]? = some (E, o) := by exact rfl) (he : TyIs Try.prog E de := by exact ty rfl) (hz : de.size ≠ 0 := by exact Nat.succ_ne_zero _) (hx : eo env x = some (.ptr sz b j off) := by exact rfl) (hd : e < nt := by exact dc rfl) :
    AR Try.prog r m nt ops Q (.q i ⟨some e, .fieldAddr T x k, ty, pos, after, none⟩ :: l) env H := ar_q (qs_faddr_ptr ht hk1 hf he hz hx) hd hk
theorem zfr {fs : List (TypeId × Nat)} {k o : Nat} {w : V} {off : Nat} (hk : AR Try.prog r m nt ops Q l ((e, .ref w (off + o)) :: env) H) (ht : TyIs Try.prog T d := by exact ty rfl) (hk1 : d.tk = .struct fs := by exact rfl) (hf : fs[k]? = some (E, o) := by exact rfl) (he : TyIs Try.prog E de := by exact ty rfl) (hz : de.size ≠ 0 := by exact Nat.succ_ne_zero _) (hx : eo env x = some (.ref w off) := by exact rfl) (hd : e < nt := by exact dc rfl) :
    AR Try.prog r m nt ops Q (.q i ⟨some e, .fieldAddr T x k, ty, pos, after, none⟩ :: l) env H := ar_q (qs_faddr_ref ht hk1 hf he hz hx) hd hk
theorem zil {sz n j : Nat} {f : Nat → V} {k : IntKind} {a : Int} (hk : AR Try.prog r m nt ops Q l ((e, .ref (f j) 0) :: env) H) (ht : TyIs Try.prog T d := by exact ty rfl) (hk1 : d.tk = .slice E := by exact rfl) (he : TyIs Try.prog E de := by exact ty rfl) (hs : de.size = sz := by exact rfl) (hx : eo env x = some (.list sz n f) := by exact rfl) (hy : eo env y = some (.s (.int k a)) := by exact rfl) (hm : a = (j : Int) := by first | exact rfl | omega) (hj : j < n := by omega) (hd : e < nt := by exact dc rfl) :
    AR Try.prog r m nt ops Q (.q i ⟨some e, .indexAddr T x y, ty, pos, after, none⟩ :: l) env H := ar_q (qs_iaddr_list ht hk1 he hs hx hy hm hj) hd hk
theorem zis {sz b n j : Nat} {k : IntKind} {a : Int} (hk : AR Try.prog r m nt ops Q l ((e, .ptr sz b j 0) :: env) H) (ht : TyIs Try.prog T d := by exact ty rfl) (hk1 : d.tk = .slice E := by exact rfl) (he : TyIs Try.prog E de := by exact ty rfl) (hs : de.size = sz := by exact rfl) (hx : eo env x = some (.sl sz b 0 n) := by exact rfl) (hy : eo env y = some (.s (.int k a)) := by exact rfl) (hm : a = (j : Int) := by first | exact rfl | omega) (hj : j < n := by omega) (hd : e < nt := by exact dc rfl) :
    AR Try.prog r m nt ops Q (.q i ⟨some e, .indexAddr T x y, ty, pos, after, none⟩ :: l) env H := ar_q (qs_iaddr_sl0 ht hk1 he hs hx hy hm hj) hd hk
theorem zit {sz b o n j : Nat} {k : IntKind} {a : Int} (hk : AR Try.prog r m nt ops Q l ((e, .ptr sz b (o + j) 0) :: env) H) (ht : TyIs Try.prog T d := by exact ty rfl) (hk1 : d.tk = .slice E := by exact rfl) (he : TyIs Try.prog E de := by exact ty rfl) (hs : de.size = sz := by exact rfl) (hx : eo env x = some (.sl sz b o n) := by exact rfl) (hy : eo env y = some (.s (.int k a)) := by exact rfl) (hm : a = (j : Int) := by first | exact rfl | omega) (hj : j < n := by omega) (hd : e < nt := by exact dc rfl) :
    AR Try.prog r m nt ops Q (.q i ⟨some e, .indexAddr T x y, ty, pos, after, none⟩ :: l) env H := ar_q (qs_iaddr_sl ht hk1 he hs hx hy hm hj) hd hk
theorem zia {sz b o off n j : Nat} {k : IntKind} {a : Int} (hk : AR Try.prog r m nt ops Q l ((e, .ptr sz b o (off + j * de.size)) :: env) H) (ht : TyIs Try.prog T d := by exact ty rfl) (hk1 : d.tk = .array n E := by exact rfl) (he : TyIs Try.prog E de := by exact ty rfl) (hx : eo env x = some (.ptr sz b o off) := by exact rfl) (hy : eo env y = some (.s (.int k a)) := by exact rfl) (hm : a = (j : Int) := by first | exact rfl | omega) (hj : j < n := by omega) (hd : e < nt := by exact dc rfl) :
    AR Try.prog r m nt ops Q (.q i ⟨some e, .indexAddr T x y, ty, pos, after, none⟩ :: l) env H := ar_q (qs_iaddr_aptr ht hk1 he hx hy hm hj) hd hk
theorem zir {w : V} {off n j : Nat} {k : IntKind} {a : Int} (hk : AR Try.prog r m nt ops Q l ((e, .ref w (off + j * de.size)) :: env) H) (ht : TyIs Try.prog T d := by exact ty rfl) (hk1 : d.tk = .array n E := by exact rfl) (he : TyIs Try.prog E de := by exact ty rfl) (hx : eo env x = some (.ref w off) := by exact rfl) (hy : eo env y = some (.s (.int k a)) := by exact rfl) (hm : a = (j : Int) := by first | exact rfl | omega) (hj : j < n := by omega) (hd : e < nt := by exact dc rfl) :
    AR Try.prog r m nt ops Q (.q i ⟨some e, .indexAddr T x y, ty, pos, after, none⟩ :: l) env H := ar_q (qs_iaddr_aref ht hk1 he hx hy hm hj) hd hk
theorem zxl {sz n : Nat} {f : Nat → V} {k : IntKind} {a : Int} (h : ∀ j : Nat, a = (j : Int) → j < n → AR Try.prog r m nt ops Q l ((e, .ref (f j) 0) :: env) H) (ht : TyIs Try.prog T d := by exact ty rfl) (hk1 : d.tk = .slice E := by exact rfl) (he : TyIs Try.prog E de := by exact ty rfl) (hs : de.size = sz := by exact rfl) (hx : eo env x = some (.list sz n f) := by exact rfl) (hy : eo env y = some (.s (.int k a)) := by exact rfl) (h0 : 0 ≤ a ∧ a < (n : Int) := by omega) (hd : e < nt := by exact dc rfl) :
    AR Try.prog r m nt ops Q (.q i ⟨some e, .indexAddr T x y, ty, pos, after, none⟩ :: l) env H := ar_idx_list ht hk1 he hs hx hy hd h0 h
theorem zxs {sz b o n : Nat} {k : IntKind} {a : Int} (h : ∀ j : Nat, a = (j : Int) → j < n → AR Try.prog r m nt ops Q l ((e, .ptr sz b (o + j) 0) :: env) H) (ht : TyIs Try.prog T d := by exact ty rfl) (hk1 : d.tk = .slice E := by exact rfl) (he : TyIs Try.prog E de := by exact ty rfl) (hs : de.size = sz := by exact rfl) (hx : eo env x = some (.sl sz b o n) := by exact rfl) (hy : eo env y = some (.s (.int k a)) := by exact rfl) (h0 : 0 ≤ a ∧ a < (n : Int) := by omega) (hd : e < nt := by exact dc rfl) :
    AR Try.prog r m nt ops Q (.q i ⟨some e, .indexAddr T x y, ty, pos, after, none⟩ :: l) env H := ar_idx_sl ht hk1 he hs hx hy hd h0 h
theorem zll {sz n : Nat} {f : Nat → V} {ats : Array TypeId} (hk : AR Try.prog r m nt ops Q l ((e, .s (.int .i64 (n : Int))) :: env) H) (h0 : ats[0]? = some T := by exact rfl) (ht : TyIs Try.prog T d := by exact ty rfl) (hk1 : d.tk = .slice E := by exact rfl) (hx : eo env x = some (.list sz n f) := by exact rfl) (hd : e < nt := by exact dc rfl) :
    AR Try.prog r m nt ops Q (.q i ⟨some e, .call ⟨.builtin .len, #[x], ats⟩, ty, pos, after, none⟩ :: l) env H := ar_q (qs_len_list ht hk1 h0 hx) hd hk
theorem zls {sz b o n : Nat} {ats : Array TypeId} (hk : AR Try.prog r m nt ops Q l ((e, .s (.int .i64 (n : Int))) :: env) H) (h0 : ats[0]? = some T := by exact rfl) (ht : TyIs Try.prog T d := by exact ty rfl) (hk1 : d.tk = .slice E := by exact rfl) (hx : eo env x = some (.sl sz b o n) := by exact rfl) (hd : e < nt := by exact dc rfl) :
    AR Try.prog r m nt ops Q (.q i ⟨some e, .call ⟨.builtin .len, #[x], ats⟩, ty, pos, after, none⟩ :: l) env H := ar_q (qs_len_sl ht hk1 h0 hx) hd hk
theorem zln  {ats : Array TypeId} (hk : AR Try.prog r m nt ops Q l ((e, .s (.int .i64 0)) :: env) H) (h0 : ats[0]? = some T := by exact rfl) (ht : TyIs Try.prog T d := by exact ty rfl) (hk1 : d.tk = .slice E := by exact rfl) (hx : eo env x = some (.s (.slice none 0 0)) := by exact rfl) (hd : e < nt := by exact dc rfl) :
    AR Try.prog r m nt ops Q (.q i ⟨some e, .call ⟨.builtin .len, #[x], ats⟩, ty, pos, after, none⟩ :: l) env H := ar_q (qs_len_nil ht hk1 h0 hx) hd hk
theorem zle  {ats : Array TypeId} (hk : AR Try.prog r m nt ops Q l ((e, .s (.int .i64 0)) :: env) H) (h0 : ats[0]? = some T := by exact rfl) (ht : TyIs Try.prog T d := by exact ty rfl) (hk1 : d.tk = .slice E := by exact rfl) (hx : eo env x = some (.emp) := by exact rfl) (hd : e < nt := by exact dc rfl) :
    AR Try.prog r m nt ops Q (.q i ⟨some e, .call ⟨.builtin .len, #[x], ats⟩, ty, pos, after, none⟩ :: l) env H := ar_q (qs_len_emp ht hk1 h0 hx) hd hk
theorem zmin {k : IntKind} {a b : Int} {ats : Array TypeId} (hk : AR Try.prog r m nt ops Q l ((e, .s (.int k (min a b))) :: env) H) (hx : eo env x = some (.s (.int k a)) := by exact rfl) (hy : eo env y = some (.s (.int k b)) := by exact rfl) (hd : e < nt := by exact dc rfl) :
    AR Try.prog r m nt ops Q (.q i ⟨some e, .call ⟨.builtin .min, #[x, y], ats⟩, ty, pos, after, none⟩ :: l) env H := ar_q (qs_min hx hy) hd hk
theorem zmax {k : IntKind} {a b : Int} {ats : Array TypeId} (hk : AR Try.prog r m nt ops Q l ((e, .s (.int k (max a b))) :: env) H) (hx : eo env x = some (.s (.int k a)) := by exact rfl) (hy : eo env y = some (.s (.int k b)) := by exact rfl) (hd : e < nt := by exact dc rfl) :
    AR Try.prog r m nt ops Q (.q i ⟨some e, .call ⟨.builtin .max, #[x, y], ats⟩, ty, pos, after, none⟩ :: l) env H := ar_q (qs_max hx hy) hd hk
theorem zpt  (hk : AR Try.prog r m nt ops Q l ((e, v) :: env) H) (hc : eo env c = some (.s (.bool true)) := by exact rfl) (hx : eo env x = some v := by exact rfl) (hd : e < nt := by exact dc rfl) :
    AR Try.prog r m nt ops Q (.q i ⟨some e, .pick c x y, ty, pos, after, none⟩ :: l) env H := ar_q (qs_pick_t hc hx) hd hk
theorem zpf  (hk : AR Try.prog r m nt ops Q l ((e, v) :: env) H) (hc : eo env c = some (.s (.bool false)) := by exact rfl) (hx : eo env y = some v := by exact rfl) (hd : e < nt := by exact dc rfl) :
    AR Try.prog r m nt ops Q (.q i ⟨some e, .pick c x y, ty, pos, after, none⟩ :: l) env H := ar_q (qs_pick_f hc hx) hd hk
theorem zex {cs : List V} {k : Nat} (hk : AR Try.prog r m nt ops Q l ((e, v) :: env) H) (hx : eo env x = some (.tup cs) := by exact rfl) (hv : cs[k]? = some v := by exact rfl) (hd : e < nt := by exact dc rfl) :
    AR Try.prog r m nt ops Q (.q i ⟨some e, .extract x k, ty, pos, after, none⟩ :: l) env H := ar_q (qs_extract hx hv) hd hk
theorem znt {b : Bool} (hk : AR Try.prog r m nt ops Q l ((e, .s (.bool !b)) :: env) H) (hx : eo env x = some (.s (.bool b)) := by exact rfl) (hd : e < nt := by exact dc rfl) :
    AR Try.prog r m nt ops Q (.q i ⟨some e, .unOp .not T x, ty, pos, after, none⟩ :: l) env H := ar_q (qs_not hx) hd hk
theorem zng {a b : Int} (hk : AR Try.prog r m nt ops Q l ((e, .s (.int .i64 b)) :: env) H) (hx : eo env x = some (.s (.int .i64 a)) := by exact rfl) (hr : IntKind.i64.wrap (0 - a) = b := by exact wrap64n (by omega)) (hd : e < nt := by exact dc rfl) :
    AR Try.prog r m nt ops Q (.q i ⟨some e, .unOp .neg T x, ty, pos, after, none⟩ :: l) env H := ar_q (qs_neg hx hr) hd hk
theorem zncp {sz b j off : Nat} (hk : AR Try.prog r m nt ops Q l ((e, .ptr sz b j off) :: env) H) (hx : eo env x = some (.ptr sz b j off) := by exact rfl) (hd : e < nt := by exact dc rfl) :
    AR Try.prog r m nt ops Q (.q i ⟨some e, .nilCheck x, ty, pos, after, none⟩ :: l) env H := ar_q (qs_nck_ptr hx) hd hk
theorem zncr {w : V} {off : Nat} (hk : AR Try.prog r m nt ops Q l ((e, .ref w off) :: env) H) (hx : eo env x = some (.ref w off) := by exact rfl) (hd : e < nt := by exact dc rfl) :
    AR Try.prog r m nt ops Q (.q i ⟨some e, .nilCheck x, ty, pos, after, none⟩ :: l) env H := ar_q (qs_nck_ref hx) hd hk
theorem zmf {g : Fn} {us ws : Array Operand} {vs vs2 : List V} (hk : AR Try.prog r m nt ops Q l ((e, .fn g vs vs2) :: env) H) (h1 : us.toList.mapM (eo env) = some vs := by exact rfl) (h2 : ws.toList.mapM (eo env) = some vs2 := by exact rfl) (hd : e < nt := by exact dc rfl) :
    AR Try.prog r m nt ops Q (.q i ⟨some e, .makeFunc g us ws, ty, pos, after, none⟩ :: l) env H := ar_q (qs_makeFunc h1 h2) hd hk
theorem zix {cs : List V} {n j : Nat} {k : IntKind} {a : Int} (hk : AR Try.prog r m nt ops Q l ((e, v) :: env) H) (ht : TyIs Try.prog T d := by exact ty rfl) (hk1 : d.tk = .array n E := by exact rfl) (he : TyIs Try.prog E de := by exact ty rfl) (hx : eo env x = some (.agg cs) := by exact rfl) (hy : eo env y = some (.s (.int k a)) := by exact rfl) (hm : a = (j : Int) := by first | exact rfl | omega) (hj : j < n := by omega) (hv : partV de.tk.agg cs (j * de.size) de.size = some v := by exact rfl) (hd : e < nt := by exact dc rfl) :
    AR Try.prog r m nt ops Q (.q i ⟨some e, .index T x y, ty, pos, after, none⟩ :: l) env H := ar_q (qs_index ht hk1 he hx hy hm hj hv) hd hk
theorem zcv {k : IntKind} {a b : Int} (hk : AR Try.prog r m nt ops Q l ((e, .s (.int .i64 b)) :: env) H) (ht : TyIs Try.prog T d := by exact ty rfl) (hk0 : d.tk = .int k := by exact rfl) (he : TyIs Try.prog E de := by exact ty rfl) (hk1 : de.tk = .int .i64 := by exact rfl) (hx : eo env x = some (.s (.int k a)) := by exact rfl) (hr : IntKind.i64.wrap a = b := by exact wrap64 (by omega)) (hd : e < nt := by exact dc rfl) :
    AR Try.prog r m nt ops Q (.q i ⟨some e, .convert T E x, ty, pos, after, none⟩ :: l) env H := ar_q (qs_conv ht hk0 he hk1 hx hr) hd hk
theorem zcvu64 {k : IntKind} {a b : Int} (hk : AR Try.prog r m nt ops Q l ((e, .s (.int .u64 b)) :: env) H) (ht : TyIs Try.prog T d := by exact ty rfl) (hk0 : d.tk = .int k := by exact rfl) (he : TyIs Try.prog E de := by exact ty rfl) (hk1 : de.tk = .int .u64 := by exact rfl) (hx : eo env x = some (.s (.int k a)) := by exact rfl) (hr : IntKind.u64.wrap a = b := by exact wrapU (by omega)) (hd : e < nt := by exact dc rfl) :
    AR Try.prog r m nt ops Q (.q i ⟨some e, .convert T E x, ty, pos, after, none⟩ :: l) env H := ar_q (qs_conv ht hk0 he hk1 hx hr) hd hk
theorem zcl {sz n a b : Nat} {f : Nat → V} {lo hi : Option Operand} (hk : AR Try.prog r m nt ops Q l ((e, .list sz (b - a) (fun k => f (a + k))) :: env) H) (ht : TyIs Try.prog T d := by exact ty rfl) (hk1 : d.tk = .slice E := by exact rfl) (he : TyIs Try.prog E de := by exact ty rfl) (hs : de.size = sz := by exact rfl) (hx : eo env x = some (.list sz n f) := by exact rfl) (hl : bnd env lo 0 a := by first | exact rfl | exact ⟨_, rfl⟩ | exact bnd_some rfl (by omega)) (hh : bnd env hi n b := by first | exact rfl | exact ⟨_, rfl⟩ | exact bnd_some rfl (by omega)) (h1 : a ≤ b := by omega) (h2 : b ≤ n := by omega) (hd : e < nt := by exact dc rfl) :
    AR Try.prog r m nt ops Q (.q i ⟨some e, .slice T x lo hi none, ty, pos, after, none⟩ :: l) env H := ar_q (qs_slice_list ht hk1 he hs hx hl hh h1 h2) hd hk
theorem zcs {sz g o n a b : Nat} {lo hi : Option Operand} (hk : AR Try.prog r m nt ops Q l ((e, .sl sz g (o + a) (b - a)) :: env) H) (ht : TyIs Try.prog T d := by exact ty rfl) (hk1 : d.tk = .slice E := by exact rfl) (he : TyIs Try.prog E de := by exact ty rfl) (hs : de.size = sz := by exact rfl) (hx : eo env x = some (.sl sz g o n) := by exact rfl) (hl : bnd env lo 0 a := by first | exact rfl | exact ⟨_, rfl⟩ | exact bnd_some rfl (by omega)) (hh : bnd env hi n b := by first | exact rfl | exact ⟨_, rfl⟩ | exact bnd_some rfl (by omega)) (h1 : a ≤ b := by omega) (h2 : b ≤ n := by omega) (h3 : a < n ∨ a = 0 := by omega) (hd : e < nt := by exact dc rfl) :
    AR Try.prog r m nt ops Q (.q i ⟨some e, .slice T x lo hi none, ty, pos, after, none⟩ :: l) env H := ar_q (qs_slice_sl ht hk1 he hs hx hl hh h1 h2 h3) hd hk
theorem zbx  (h : AR Try.prog r m nt ops Q l ((e, .ptr v.cells.length H.length 0 0) :: env) (H ++ [.arr v.cells.length 1 (fun _ => v)])) (hx : eo env x = some v := by exact rfl) (hok : v.ok = true := by exact rfl) (hd : e < nt := by exact dc rfl) :
    AR Try.prog r m nt ops Q (.l i ⟨some e, .box T x, ty, pos, after, none⟩ keep :: l) env H := ar_boxf hx hok hd h
theorem zal  (h : AR Try.prog r m nt ops Q l ((e, .ptr (constV d.zero).cells.length H.length 0 0) :: env) (H ++ [.arr (constV d.zero).cells.length 1 (fun _ => constV d.zero)])) (ht : TyIs Try.prog T d := by exact ty rfl) (hok : (constV d.zero).ok = true := by exact rfl) (hd : e < nt := by exact dc rfl) :
    AR Try.prog r m nt ops Q (.l i ⟨some e, .alloc T, ty, pos, after, none⟩ keep :: l) env H := ar_alloc ht hok hd h
theorem zb1  (h : AR Try.prog r m nt ops Q l ((e, .sl de.size H.length 0 1) :: env) (H ++ [.arr de.size 1 (fun _ => v)])) (ht : TyIs Try.prog T d := by exact ty rfl) (hk1 : d.tk = .slice E := by exact rfl) (he : TyIs Try.prog E de := by exact ty rfl) (hx : eo env x = some v := by exact rfl) (hz : (constV de.zero).ok = true := by exact rfl) (hzs : de.zero.cells.size = de.size := by exact rfl) (hn : 1 * de.size ≤ 16777216 := by exact Nat.le_of_ble_eq_true rfl) (hs : v.cells.length = de.size := by exact rfl) (hok : v.ok = true := by exact rfl) (hd : e < nt := by exact dc rfl) :
    AR Try.prog r m nt ops Q (.l i ⟨some e, .buildSlice T 1 #[(0, x)], ty, pos, after, none⟩ keep :: l) env H := ar_build1 ht hk1 he hx hz hzs hn hs hok hd h
theorem zb0  (h : AR Try.prog r m nt ops Q l ((e, .emp) :: env) H) (ht : TyIs Try.prog T d := by exact ty rfl) (hk1 : d.tk = .slice E := by exact rfl) (he : TyIs Try.prog E de := by exact ty rfl) (hd : e < nt := by exact dc rfl) :
    AR Try.prog r m nt ops Q (.l i ⟨some e, .buildSlice T 0 #[], ty, pos, after, none⟩ keep :: l) env H := ar_build0 ht hk1 he hd h
theorem zapoo {dv yv : V} {sz n k : Nat} {f g : Nat → V} {H0 : Heap} (h : AR Try.prog r m nt ops Q l ((e, .sl sz H.length 0 (n + k)) :: env) (H0 ++ [.arr sz (n + k) (appF n f g)])) (ht : TyIs Try.prog T d := by exact ty rfl) (hk1 : d.tk = .slice E := by exact rfl) (he : TyIs Try.prog E de := by exact ty rfl) (hs : de.size = sz := by exact rfl) (hpos : 0 < sz := by exact Nat.succ_pos _) (hz : de.zero.cells.size = sz := by exact rfl) (hx : eo env x = some dv := by exact rfl) (hy : eo env y = some yv := by exact rfl) (hg : Grow H dv sz n f H0 := by exact (.inr (.inr ⟨_, rfl, rfl, rfl⟩))) (hsr : Src H yv sz k g := by exact (.inr (.inl ⟨_, _, _, _, rfl, rfl, (by omega), rfl⟩))) (hone : ∀ j, j < k → (g j).cells.all V.one = true := by exact fun _ _ => rfl) (hm : n + k ≤ maxLen := by first | exact maxLen_ok (by omega) | (unfold maxLen; omega)) (hb : (n + k) * de.bytes ≤ 140737488355328 := by (dsimp only; omega)) (hd : e < nt := by exact dc rfl) :
    AR Try.prog r m nt ops Q (.l i ⟨some e, .call ⟨.builtin .append, #[x, y], #[T, T]⟩, ty, pos, after, none⟩ keep :: l) env H := ar_append ht hk1 he hs hpos hz hx hy hg hsr hd hone hm hb h
theorem zapol {dv yv : V} {sz n k : Nat} {f g : Nat → V} {H0 : Heap} (h : AR Try.prog r m nt ops Q l ((e, .sl sz H.length 0 (n + k)) :: env) (H0 ++ [.arr sz (n + k) (appF n f g)])) (ht : TyIs Try.prog T d := by exact ty rfl) (hk1 : d.tk = .slice E := by exact rfl) (he : TyIs Try.prog E de := by exact ty rfl) (hs : de.size = sz := by exact rfl) (hpos : 0 < sz := by exact Nat.succ_pos _) (hz : de.zero.cells.size = sz := by exact rfl) (hx : eo env x = some dv := by exact rfl) (hy : eo env y = some yv := by exact rfl) (hg : Grow H dv sz n f H0 := by exact (.inr (.inr ⟨_, rfl, rfl, rfl⟩))) (hsr : Src H yv sz k g := by exact (.inl rfl)) (hone : ∀ j, j < k → (g j).cells.all V.one = true := by exact fun _ _ => rfl) (hm : n + k ≤ maxLen := by first | exact maxLen_ok (by omega) | (unfold maxLen; omega)) (hb : (n + k) * de.bytes ≤ 140737488355328 := by (dsimp only; omega)) (hd : e < nt := by exact dc rfl) :
    AR Try.prog r m nt ops Q (.l i ⟨some e, .call ⟨.builtin .append, #[x, y], #[T, T]⟩, ty, pos, after, none⟩ keep :: l) env H := ar_append ht hk1 he hs hpos hz hx hy hg hsr hd hone hm hb h
theorem zapno {dv yv : V} {sz n k : Nat} {g : Nat → V} {H0 : Heap} (h : AR Try.prog r m nt ops Q l ((e, .sl sz H.length 0 (n + k)) :: env) (H0 ++ [.arr sz (n + k) (appF n (fun _ => vnil) g)])) (ht : TyIs Try.prog T d := by exact ty rfl) (hk1 : d.tk = .slice E := by exact rfl) (he : TyIs Try.prog E de := by exact ty rfl) (hs : de.size = sz := by exact rfl) (hpos : 0 < sz := by exact Nat.succ_pos _) (hz : de.zero.cells.size = sz := by exact rfl) (hx : eo env x = some dv := by exact rfl) (hy : eo env y = some yv := by exact rfl) (hg : Grow H dv sz n (fun _ => vnil) H0 := by exact (.inl ⟨rfl, rfl, rfl⟩)) (hsr : Src H yv sz k g := by exact (.inr (.inl ⟨_, _, _, _, rfl, rfl, (by omega), rfl⟩))) (hone : ∀ j, j < k → (g j).cells.all V.one = true := by exact fun _ _ => rfl) (hm : n + k ≤ maxLen := by first | exact maxLen_ok (by omega) | (unfold maxLen; omega)) (hb : (n + k) * de.bytes ≤ 140737488355328 := by (dsimp only; omega)) (hd : e < nt := by exact dc rfl) :
    AR Try.prog r m nt ops Q (.l i ⟨some e, .call ⟨.builtin .append, #[x, y], #[T, T]⟩, ty, pos, after, none⟩ keep :: l) env H := ar_append ht hk1 he hs hpos hz hx hy hg hsr hd hone hm hb h
theorem zapnl {dv yv : V} {sz n k : Nat} {g : Nat → V} {H0 : Heap} (h : AR Try.prog r m nt ops Q l ((e, .sl sz H.length 0 (n + k)) :: env) (H0 ++ [.arr sz (n + k) (appF n (fun _ => vnil) g)])) (ht : TyIs Try.prog T d := by exact ty rfl) (hk1 : d.tk = .slice E := by exact rfl) (he : TyIs Try.prog E de := by exact ty rfl) (hs : de.size = sz := by exact rfl) (hpos : 0 < sz := by exact Nat.succ_pos _) (hz : de.zero.cells.size = sz := by exact rfl) (hx : eo env x = some dv := by exact rfl) (hy : eo env y = some yv := by exact rfl) (hg : Grow H dv sz n (fun _ => vnil) H0 := by exact (.inl ⟨rfl, rfl, rfl⟩)) (hsr : Src H yv sz k g := by exact (.inl rfl)) (hone : ∀ j, j < k → (g j).cells.all V.one = true := by exact fun _ _ => rfl) (hm : n + k ≤ maxLen := by first | exact maxLen_ok (by omega) | (unfold maxLen; omega)) (hb : (n + k) * de.bytes ≤ 140737488355328 := by (dsimp only; omega)) (hd : e < nt := by exact dc rfl) :
    AR Try.prog r m nt ops Q (.l i ⟨some e, .call ⟨.builtin .append, #[x, y], #[T, T]⟩, ty, pos, after, none⟩ keep :: l) env H := ar_append ht hk1 he hs hpos hz hx hy hg hsr hd hone hm hb h
theorem zapeo {dv yv : V} {sz n k : Nat} {g : Nat → V} {H0 : Heap} (h : AR Try.prog r m nt ops Q l ((e, .sl sz H.length 0 (n + k)) :: env) (H0 ++ [.arr sz (n + k) (appF n (fun _ => vnil) g)])) (ht : TyIs Try.prog T d := by exact ty rfl) (hk1 : d.tk = .slice E := by exact rfl) (he : TyIs Try.prog E de := by exact ty rfl) (hs : de.size = sz := by exact rfl) (hpos : 0 < sz := by exact Nat.succ_pos _) (hz : de.zero.cells.size = sz := by exact rfl) (hx : eo env x = some dv := by exact rfl) (hy : eo env y = some yv := by exact rfl) (hg : Grow H dv sz n (fun _ => vnil) H0 := by exact (.inr (.inl ⟨rfl, rfl, rfl⟩))) (hsr : Src H yv sz k g := by exact (.inr (.inl ⟨_, _, _, _, rfl, rfl, (by omega), rfl⟩))) (hone : ∀ j, j < k → (g j).cells.all V.one = true := by exact fun _ _ => rfl) (hm : n + k ≤ maxLen := by first | exact maxLen_ok (by omega) | (unfold maxLen; omega)) (hb : (n + k) * de.bytes ≤ 140737488355328 := by (dsimp only; omega)) (hd : e < nt := by exact dc rfl) :
    AR Try.prog r m nt ops Q (.l i ⟨some e, .call ⟨.builtin .append, #[x, y], #[T, T]⟩, ty, pos, after, none⟩ keep :: l) env H := ar_append ht hk1 he hs hpos hz hx hy hg hsr hd hone hm hb h
theorem zapel {dv yv : V} {sz n k : Nat} {g : Nat → V} {H0 : Heap} (h : AR Try.prog r m nt ops Q l ((e, .sl sz H.length 0 (n + k)) :: env) (H0 ++ [.arr sz (n + k) (appF n (fun _ => vnil) g)])) (ht : TyIs Try.prog T d := by exact ty rfl) (hk1 : d.tk = .slice E := by exact rfl) (he : TyIs Try.prog E de := by exact ty rfl) (hs : de.size = sz := by exact rfl) (hpos : 0 < sz := by exact Nat.succ_pos _) (hz : de.zero.cells.size = sz := by exact rfl) (hx : eo env x = some dv := by exact rfl) (hy : eo env y = some yv := by exact rfl) (hg : Grow H dv sz n (fun _ => vnil) H0 := by exact (.inr (.inl ⟨rfl, rfl, rfl⟩))) (hsr : Src H yv sz k g := by exact (.inl rfl)) (hone : ∀ j, j < k → (g j).cells.all V.one = true := by exact fun _ _ => rfl) (hm : n + k ≤ maxLen := by first | exact maxLen_ok (by omega) | (unfold maxLen; omega)) (hb : (n + k) * de.bytes ≤ 140737488355328 := by (dsimp only; omega)) (hd : e < nt := by exact dc rfl) :
    AR Try.prog r m nt ops Q (.l i ⟨some e, .call ⟨.builtin .append, #[x, y], #[T, T]⟩, ty, pos, after, none⟩ keep :: l) env H := ar_append ht hk1 he hs hpos hz hx hy hg hsr hd hone hm hb h
theorem zsvs {sz b off : Nat} {f : Nat → V} (h : AR Try.prog r m nt ops Q l env (H.set b (.arr sz 1 (fun _ => putPart (f 0) off v)))) (ht : TyIs Try.prog T d := by exact ty rfl) (hx : eo env x = some (.ptr sz b 0 off) := by exact rfl) (hy : eo env y = some v := by exact rfl) (hH : H[b]? = some (.arr sz 1 f) := by exact rfl) (hok : v.ok = true := by exact rfl) (hone : v.cells.all V.one = true := by exact rfl) (hsz : v.cells.length = d.size := by exact rfl) (hoff : off + d.size ≤ sz := by first | (dsimp only; omega) | exact dc rfl) (ha : (∃ cs, f 0 = .agg cs) ∨ (off = 0 ∧ v.cells.length = 1 ∧ (f 0).cells.length = 1 ∧ ∀ cs, v ≠ .agg cs) := by exact (.inr ⟨rfl, rfl, rfl, fun _ h => by cases h⟩))  :
    AR Try.prog r m nt ops Q (.l i ⟨none, .store T x y, ty, pos, after, none⟩ false :: l) env H := ar_store_var ht hx hy hH hok hone hsz hoff ha h
theorem zses {sz b j off n : Nat} {f : Nat → V} (h : AR Try.prog r m nt ops Q l env (H.set b (.arr sz n (upd f j (putPart (f j) off v))))) (ht : TyIs Try.prog T d := by exact ty rfl) (hx : eo env x = some (.ptr sz b j off) := by exact rfl) (hy : eo env y = some v := by exact rfl) (hH : H[b]? = some (.arr sz n f) := by exact rfl) (hok : v.ok = true := by exact rfl) (hone : v.cells.all V.one = true := by exact rfl) (hsz : v.cells.length = d.size := by exact rfl) (hi : j < n := by first | exact Nat.one_pos | assumption | omega) (hoff : off + d.size ≤ sz := by first | (dsimp only; omega) | exact dc rfl) (ha : (∃ cs, f j = .agg cs) ∨ (off = 0 ∧ v.cells.length = 1 ∧ (f j).cells.length = 1 ∧ ∀ cs, v ≠ .agg cs) := by exact (.inr ⟨rfl, rfl, rfl, fun _ h => by cases h⟩))  :
    AR Try.prog r m nt ops Q (.l i ⟨none, .store T x y, ty, pos, after, none⟩ false :: l) env H := ar_store_elt ht hx hy hH hok hone hsz hi hoff ha h
theorem zsva {sz b off : Nat} {f : Nat → V} (h : AR Try.prog r m nt ops Q l env (H.set b (.arr sz 1 (fun _ => putPart (f 0) off v)))) (ht : TyIs Try.prog T d := by exact ty rfl) (hx : eo env x = some (.ptr sz b 0 off) := by exact rfl) (hy : eo env y = some v := by exact rfl) (hH : H[b]? = some (.arr sz 1 f) := by exact rfl) (hok : v.ok = true := by exact rfl) (hone : v.cells.all V.one = true := by exact rfl) (hsz : v.cells.length = d.size := by exact rfl) (hoff : off + d.size ≤ sz := by first | (dsimp only; omega) | exact dc rfl) (ha : (∃ cs, f 0 = .agg cs) ∨ (off = 0 ∧ v.cells.length = 1 ∧ (f 0).cells.length = 1 ∧ ∀ cs, v ≠ .agg cs) := by exact (.inl ⟨_, rfl⟩))  :
    AR Try.prog r m nt ops Q (.l i ⟨none, .store T x y, ty, pos, after, none⟩ false :: l) env H := ar_store_var ht hx hy hH hok hone hsz hoff ha h
theorem zsea {sz b j off n : Nat} {f : Nat → V} (h : AR Try.prog r m nt ops Q l env (H.set b (.arr sz n (upd f j (putPart (f j) off v))))) (ht : TyIs Try.prog T d := by exact ty rfl) (hx : eo env x = some (.ptr sz b j off) := by exact rfl) (hy : eo env y = some v := by exact rfl) (hH : H[b]? = some (.arr sz n f) := by exact rfl) (hok : v.ok = true := by exact rfl) (hone : v.cells.all V.one = true := by exact rfl) (hsz : v.cells.length = d.size := by exact rfl) (hi : j < n := by first | exact Nat.one_pos | assumption | omega) (hoff : off + d.size ≤ sz := by first | (dsimp only; omega) | exact dc rfl) (ha : (∃ cs, f j = .agg cs) ∨ (off = 0 ∧ v.cells.length = 1 ∧ (f j).cells.length = 1 ∧ ∀ cs, v ≠ .agg cs) := by exact (.inl ⟨_, rfl⟩))  :
    AR Try.prog r m nt ops Q (.l i ⟨none, .store T x y, ty, pos, after, none⟩ false :: l) env H := ar_store_elt ht hx hy hH hok hone hsz hi hoff ha h
theorem zgu {s : Stp} {g t : Nat} {want : Bool} (h : AR Try.prog r m nt ops Q l ((e, .s undef) :: env) H) (hg : s.oper.guard = some (g, want) := by exact rfl) (ht : (ops[g]?).bind (·.dst) = some t := by exact rfl) (hd : s.oper.dst = some e := by exact rfl) (hb : look env t = some (.s undef) := by exact rfl) (hdn : e < nt := by exact dc rfl) : AR Try.prog r m nt ops Q (s :: l) env H := ar_guard_u hg ht hd hb hdn h
theorem zg {s : Stp} {g t : Nat} {b want : Bool} (hy : b = want → AR Try.prog r m nt ops Q (s.bare :: l) ((t, .s (.bool want)) :: env) H) (hn : b = !want → AR Try.prog r m nt ops Q l ((e, .s undef) :: (t, .s (.bool !want)) :: env) H) (hg : s.oper.guard = some (g, want) := by exact rfl) (ht : (ops[g]?).bind (·.dst) = some t := by exact rfl) (hb : look env t = some (.s (.bool b)) := by exact rfl) (hd : s.oper.dst = some e := by exact rfl) (hdn : e < nt := by exact dc rfl) : AR Try.prog r m nt ops Q (s :: l) env H := ar_guard hg ht hb hd hdn hy hn
theorem zco {x : Operand} {c1 c2 : Code} {b : Bool} (hy : b = true → AW Try.prog r m nt c1 Q env H) (hn : b = false → AW Try.prog r m nt c2 Q env H) (hc : eo env x = some (.s (.bool b)) := by exact rfl) : AW Try.prog r m nt (.cond x c1 c2) Q env H := aw_cond hc hy hn
end Go.Proofs.Ytloaefllpokkaaa
namespace Go.Proofs.Ytloaefllpokkaaa
open Go.RowKit
abbrev encInts (l : List Int) : V := LV 1 vi l
abbrev encRows (b : List (List Int)) : V := LV 1 encInts b
structure Sheet where
  cols : Int
  rows : Int
  weight : Int
  clear : Int
  lean : Int
def Sheet.enc (s : Sheet) : V := .agg [vi s.cols, vi s.rows, vi s.weight, vi s.clear, vi s.lean]
def withinB (n lo hi : Int) : Bool := decide (lo ≤ n) && decide (n ≤ hi)
theorem withinB_iff {n lo hi : Int} : withinB n lo hi = true ↔ lo ≤ n ∧ n ≤ hi := by simp [withinB]
theorem withinB_no {n lo hi : Int} : withinB n lo hi = false ↔ ¬ (lo ≤ n ∧ n ≤ hi) := by rw [← withinB_iff]; simp
def Sheet.ok (s : Sheet) : Bool := withinB s.cols 1 40 && withinB s.rows 1 60 && withinB s.weight 1 8 && withinB s.clear 0 20 && withinB s.lean 0 8
def Sheet.err (s : Sheet) : Int := if s.ok then 0 else 70
end Go.Proofs.Ytloaefllpokkaaa
namespace Go.Proofs.Ytloaefllpokkaaa
open Go.RowKit
section
variable {H : Heap} {σ : List (Option Nat)} {fr : Nat → Prop} {α : Type} [Inhabited α]
theorem frz_as {b sz n N : Nat} {e : α → V} {l : List α} {f : Nat → V} (hf : fr b) (hb : H[b]? = some (.arr sz N f)) (hn : n = N) (hl : l.length = N) (hg : ∀ i, i < N → f i = e (el l i)) (hc : ∀ y, V.closed.all (e y).cells = true) : VSub H σ fr (.sl sz b 0 n) (LV sz e l) := by
  subst hn hl
  exact .frz hf hb (by omega) (fun i hi => by rw [hg i hi]; exact hc _) (fun i hi => by rw [Nat.zero_add]; exact (hg i hi).symm)
end
section
variable {P : Program} {r : Option Nat} {m nt : Nat} {Q : Post} {env : Env} {H : Heap} {ops : Array Oper} {l : List Stp} {ty : TypeId} {pos : String} {after : Array Edge} {x y : Operand} {T E : TypeId} {d de : TyD} {i dst : Nat} {keep : Bool}
theorem ar_make_v {n : Nat} {kl kc : IntKind} {v v' : Int} (ht : TyIs P T d) (hk : d.tk = .slice E) (he : TyIs P E de) (hx : eo env x = some (.s (.int kl v))) (hy : eo env y = some (.s (.int kc v'))) (hv : v = (n : Int)) (hv' : v' = (n : Int)) (hd : dst < nt) (hok : (constV de.zero).ok = true) (hz : (constV de.zero).cells.length = de.size) (hb : de.bytes * n ≤ 281474976710656) (hm : n ≤ maxLen)
    (h : AR P r m nt ops Q l ((dst, .sl de.size H.length 0 n) :: env) (H ++ [.arr de.size n (fun _ => constV de.zero)])) : AR P r m nt ops Q (.l i ⟨some dst, .makeSlice T x y, ty, pos, after, none⟩ keep :: l) env H := by
  subst hv hv'
  exact ar_make ht hk he hx hy hd hok hz hb hm h
end
section
variable {P : Program} {r : Option Nat} {m nt : Nat} {Q : Post} {env env' : Env} {H H' : Heap} {ops : Array Oper} {l : List Stp} {ty : TypeId} {pos : String} {after : Array Edge} {i dst : Nat} {op : Op}
/-- Other words for what is known, ahead of an operation behind which nothing need stand avs it stood. -/
theorem ar_sub_l (hs : SubOf m nt env H env' H') (h : AR P r m nt ops Q (.l i ⟨some dst, op, ty, pos, after, none⟩ false :: l) env' H') : AR P r m nt ops Q (.l i ⟨some dst, op, ty, pos, after, none⟩ false :: l) env H := .mk fun X I ρ a w hX hst => by
  obtain ⟨I', ρ', _, h2⟩ := hs.1 X I ρ a w hX hst
  have h3 := h.1 X I' ρ' a w hX h2
  refine ⟨fun hw => ?_, fun hw => by rw [wanted_none rfl] at hw; cases hw⟩
  refine Oper.wpIn_mono (fun a' w' ⟨S', h4, _, h5⟩ => ⟨S', h4, (fun h => by cases h), h5⟩) (h3.1 hw)
end
end Go.Proofs.Ytloaefllpokkaaa
namespace Go.Proofs.Ytloaefllpokkaaa
open Go.RowKit
section
variable {X : Ctx} {I J K : Imm} {ρ : List (Option (Nat × Nat))} {H : Heap} {w w' : World}
theorem WOk.grown {row : Option Nat} (h : WOk X I ρ H w) (hg : w.grownBy w' row) (hrow : ∀ r, row = some r → X.w.heap.size ≤ r ∧ I r = Option.none ∧ ∃ o : Obj, w.heap[r]? = some o ∧ o.isCells = false) (hm : ∀ (k : Nat) m, H[k]? ≠ some (.map m)) : WOk X I ρ H w' := by
  have blk : ∀ b o, w.heap[b]? = some o → (row ≠ some b) → w'.heap[b]? = some o := fun b o hb hr => (hg.block b (Array.getElem?_eq_some_iff.1 hb).1 (Ne.symm hr)).trans hb
  exact { len := h.len, inj := h.inj
          imm := fun b o hb => blk b o (h.imm b o hb) fun e => by rw [(hrow b e).2.1] at hb; cases hb
          apart := h.apart, size := h.size, none := h.none
          arr := fun k sz n f b z hk hρ => by
            obtain ⟨cs, ty, h1, h2⟩ := h.arr k sz n f b z hk hρ
            exact ⟨cs, ty, blk b _ h1 (fun e => by obtain ⟨_, _, o, h3, h4⟩ := hrow b e; rw [h1] at h3; cases h3; cases h4), h2⟩
          map := fun k m hk => (hm k m hk).elim
          mine := h.mine, news := h.news, le := h.le, pre := h.pre, os := hg.os.trans h.os, tape := hg.tape.trans h.tape, out := hg.output.trans h.out, grow := Nat.le_trans h.grow hg.size
          keep := fun b hb hl => (hg.block b (Nat.lt_of_lt_of_le hb h.grow) fun e => by have := (hrow b e.symm).1; omega).trans (h.keep b hb hl) }
theorem WOk.cut (h : WOk X I ρ H w) (hJ : J.le I) (hX : X.I.le J) (hc : ∀ b cs ty fz, I b = some (.cells cs ty fz) → J b = some (.cells cs ty fz)) : WOk X J ρ H w :=
  { len := h.len, inj := h.inj, imm := fun b o hb => h.imm b o (hJ b o hb)
    apart := fun b hb => by
      cases e : J b with
      | none => rfl
      | some o => have := hJ b o e; rw [h.apart b hb] at this; cases this
    size := h.size, none := h.none
    arr := fun k sz n f b z hk hρ => by
      obtain ⟨cs, ty, h1, h2, h3, h4⟩ := h.arr k sz n f b z hk hρ
      exact ⟨cs, ty, h1, h2, h3, fun i j v hi hv => by obtain ⟨u, h5, h6⟩ := h4 i j v hi hv; exact ⟨u, h5, h6.cut hc⟩⟩
    map := fun k m hk => by
      obtain ⟨b, h1, es, clk, h2, h3, h4⟩ := h.map k m hk
      exact ⟨b, h1, es, clk, h2, h3, fun i e x he hx => ⟨(h4 i e x he hx).1, (h4 i e x he hx).2.cut hc⟩⟩
    mine := h.mine
    news := fun b hb => h.news b fun e => by
      cases e' : J b with
      | none => exact hb e'
      | some o => rw [hJ b o e'] at e; cases e
    le := hX, pre := h.pre, os := h.os, tape := h.tape, out := h.out, grow := h.grow, keep := h.keep }
theorem WOk.more (h : WOk X I ρ H w) (hI : I.le J) (hJ : ∀ b o, J b = some o → w.heap[b]? = some o) (hn : ∀ b, J b ≠ Option.none → I b ≠ Option.none ∨ (X.w.heap.size ≤ b ∧ ¬ Live H ρ b)) : WOk X J ρ H w :=
  { len := h.len, inj := h.inj, imm := hJ
    apart := fun b hb => by
      cases e : J b with
      | none => rfl
      | some o =>
        rcases hn b (by rw [e]; simp) with h1 | h1
        · exact (h1 (h.apart b hb)).elim
        · exact (h1.2 hb).elim
    size := h.size, none := h.none
    arr := fun k sz n f b z hk hρ => (h.arr k sz n f b z hk hρ).mono hI (Pre.refl _) rfl
    map := fun k m hk => by
      obtain ⟨b, h1, h2⟩ := h.map k m hk
      exact ⟨b, h1, h2.mono hI (Pre.refl _) rfl⟩
    mine := h.mine
    news := fun b hb => by
      rcases hn b hb with h1 | h1
      · exact h.news b h1
      · exact .inr (.inl h1.1)
    le := Imm.le_trans h.le hI, pre := h.pre, os := h.os, tape := h.tape, out := h.out, grow := h.grow, keep := h.keep }
theorem WOk.ctx (h : WOk X I ρ H w) : WOk ⟨X.w, X.ρ, X.H, I, X.base⟩ I ρ H w :=
  { h with news := fun _ hb => .inl hb, le := Imm.le_refl _ }
theorem WOk.unctx (h : WOk ⟨X.w, X.ρ, X.H, K, X.base⟩ I ρ H w) (hX : X.I.le K) (hn : ∀ b, K b ≠ Option.none → X.I b ≠ Option.none ∨ X.w.heap.size ≤ b ∨ Live X.H X.ρ b) : WOk X I ρ H w :=
  { h with le := Imm.le_trans hX h.le
           news := fun b hb => by
            rcases h.news b hb with h1 | h1
            · exact hn b h1
            · exact .inr h1 }
end
def setsE : List (Nat × Value) → Env → Env
  | [], env => env
  | (p, v) :: l, env => setsE l ((p, .s v) :: env)
def movesE (nt : Nat) : List Oper → Env → Option Env
  | [], env => some env
  | o :: l, env => match o.op, o.dst, o.guard with
    | .move x, some d, none => bif Nat.blt d nt then (eo env x).bind fun v => movesE nt l ((d, v) :: env) else none
    | .assign x, some d, none => bif Nat.blt d nt then (eo env x).bind fun v => movesE nt l ((d, v) :: env) else none
    | _, _, _ => none
def movesC (nt : Nat) : Code → Env → Option Env
  | .skip, env => some env
  | .region _ ops false, env => movesE nt ops.toList env
  | .seq x y, env => (movesC nt x env).bind (movesC nt y)
  | _, _ => none
section
variable {P : Program} {r : Option Nat} {I : Imm} {ρ : List (Option (Nat × Nat))} {nt : Nat} {env env' : Env} {a : Act} {w : World} {ops : Array Oper} {Q : Exit → Act → World → Prop}
theorem env_sets : ∀ (l : List (Nat × Value)) (env : Env) (t : Array Value), EnvOk I ρ nt env { tmps := t, defers := [] } → (∀ p ∈ l, p.1 < nt) → EnvOk I ρ nt (setsE l env) { tmps := l.foldl (fun t pv => t.setIfInBounds pv.1 pv.2) t, defers := [] }
  | [], _, _, h, _ => h
  | (p, v) :: l, _, _, h, hp => env_sets l _ _ (h.put (d := p) (.s v) (hp (p, v) List.mem_cons_self)) (fun q hq => hp q (List.mem_cons_of_mem _ hq))
theorem runP_moves : ∀ (l : List Oper) (i : Nat) (env : Env) (a : Act), movesE nt l env = some env' → EnvOk I ρ nt env a → (∀ a', EnvOk I ρ nt env' a' → a'.defers = a.defers → Q .normal a' w) → runP P r ops Q (textPlan l i) (fun _ => True) a w
  | [], _, _, a, h, he, hk => by cases h; exact hk a he rfl
  | o :: l, i, env, a, h, he, hk => by
    have step : ∀ (x : Operand) (d : Nat) (v : V), o.dst = some d → o.guard = none → plainOp o.op = true → (∀ w', (execOp a.eval o).run P w' = .ok (.value (a.eval x)) w') → d < nt → eo env x = some v → movesE nt l ((d, v) :: env) = some env' → runP P r ops Q (textPlan (o :: l) i) (fun _ => True) a w := by
      intro x d v hd hg hp hr hlt hx hm
      simp only [textPlan, hp, cond_true]
      refine ⟨fun _ => ⟨a.eval x, fun w' _ => hr w', ?_⟩, fun hw => by rw [wanted_none hg] at hw; cases hw⟩
      rw [hd]
      exact runP_moves l (i + 1) _ _ hm (he.put (eo_rel he hx) hlt) hk
    simp only [movesE] at h
    split at h
    · rename_i x d ho hd hg
      cases hb : Nat.blt d nt <;> rw [hb] at h
      · cases h
      · obtain ⟨v, hv, hm⟩ := Option.bind_eq_some_iff.1 h
        exact step x d v hd hg (by rw [ho]; rfl) (fun w' => by simp [execOp, ho]) (by rwa [Nat.blt_eq] at hb) hv hm
    · rename_i x d ho hd hg
      cases hb : Nat.blt d nt <;> rw [hb] at h
      · cases h
      · obtain ⟨v, hv, hm⟩ := Option.bind_eq_some_iff.1 h
        exact step x d v hd hg (by rw [ho]; rfl) (fun w' => by simp [execOp, ho]) (by rwa [Nat.blt_eq] at hb) hv hm
    · cases h
theorem wp_moves {c : Code} (h : movesC nt c env = some env') (he : EnvOk I ρ nt env a) (hk : ∀ a', EnvOk I ρ nt env' a' → a'.defers = a.defers → Q .normal a' w) : c.wpIn (Fw r) 0 P Q a w := by
  induction c generalizing env env' a Q with
  | skip => cases h; exact wpIn_skip (hk a he rfl)
  | region id ops b =>
    cases b with
    | true => cases h
    | false =>
      rw [show ops = ops.toList.toArray from (Array.toArray_toList).symm]
      exact region_text (fun _ => True) trivial (runP_moves ops.toList 0 env a h he hk)
  | seq x y ihx ihy =>
    obtain ⟨e1, h1, h2⟩ := Option.bind_eq_some_iff.1 h
    exact wpIn_seq (ihx h1 he fun a1 ha1 hd1 => ihy h2 ha1 fun a' ha' hd' => hk a' ha' (hd'.trans hd1))
  | _ => cases h
end
def KpI (I : Imm) (W W' : World) : Prop := ∀ b o, I b = some o → W.heap[b]? = some o → W'.heap[b]? = some o
/-- An iterator whose closure holds 'vs': it hands over 'el 0', 'el 1', .. 'el (N - 1)', avs long avs the loop goes on. -/
structure Iter (P : Program) (gf : FuncId) (vs : List V) (N : Nat) (el : Nat → List Value) : Prop where
  out : ∀ (I : Imm) us (l : Nat) (J : Nat → World → Prop) (W : World), (∀ b o, I b = some o → W.heap[b]? = some o) → VRels I [] vs us → (∀ k W W', J k W → W.grownBy W' none → J k W') →
    (∀ k W1, J k W1 → k < N → YieldAt Fence.wide 0 P l (el k).toArray W1 fun e W' => e = .returned (.bool true) ∧ J (k + 1) W' ∧ KpI I W1 W') → J 0 W →
    CallsIn Fence.wide 1 P gf (#[.func (.yield l) #[] #[]] ++ us) W fun e W' => (∃ v, e = .returned v) ∧ J N W'
def RangeQ (m nt : Nat) (G' : Heap) : Post
  | .normal, env, H => SubOf m nt env H [] G'
  | _, _, _ => False
set_option maxHeartbeats 1000000 in
theorem aw_range {P : Program} {m nt : Nat} {Q : Post} {env : Env} {H : Heap} {g : Operand} {ps : Array Tmp} {assign body : Code} {gf : FuncId} {vs : List V} {N : Nat} {el : Nat → List Value} (G : Nat → Heap) (E1 : Nat → Env)
    (hg : eo env g = some (.fn (.func gf) [] vs)) (hvs : V.closed.all vs = true) (hfn : FnOk P gf) (hit : Iter P gf vs N el) (hps : ∀ k, k < N → (el k).length = ps.size) (hpn : ∀ p ∈ ps.toList, p < nt)
    (hmv : ∀ k, k < N → movesC nt assign (setsE (ps.toList.zip (el k)) env) = some (E1 k)) (hmaps : ∀ (k b : Nat) ms, (G k)[b]? ≠ some (.map ms)) (h0 : SubOf H.length nt env H [] (G 0))
    (round : ∀ k lp, k < N → AW P (some lp) H.length nt body (RangeQ H.length nt (G (k + 1))) (E1 k) (G k)) (hdone : Q .normal env (G N)) : AW P none m nt (.rangeFunc g ps assign body) Q env H := by
  classical
  refine ⟨fun X I ρ a w hX hst => ?_⟩
  obtain ⟨hE, hw, hD⟩ := hst
  refine (wpIn_wide (n := 0)).2 ((wpIn_wide (n := 2)).1 (wpIn_rangeFunc (F := Fence.wide) ?_))
  intro fn hfn'
  have hIlt : ∀ b o, I b = some o → b < w.heap.size := fun b o hb => (Array.getElem?_eq_some_iff.1 (hw.imm b o hb)).1
  -- the iterator's value
  have hgv := eo_rel hE hg
  obtain ⟨lb, hev, hrel⟩ : ∃ lb, a.eval g = .func (.func gf) #[] lb ∧ VRels I [] vs lb := by
    cases e : a.eval g <;> rw [e] at hgv <;> cases hgv
    rename_i us ws h1 h2 h3 h4
    have : us = #[] := by cases us; simp at h1; simp [h1]
    subst this
    exact ⟨ws, rfl, h3, fun j v u hj hu => (h4 j v u hj hu).close (closed_all hvs hj)⟩
  obtain ⟨rec, hrec⟩ : ∃ rec : LoopState → Option Code → Loop, rec = fun st pe => { state := st, pending := pe, fn, tmps := a.tmps, params := ps, assign, body, defers := w.heap.size } := ⟨_, rfl⟩
  obtain ⟨W1, hW1⟩ : ∃ W1, (w.alloc (.deferred (some []))).alloc (.loop (rec .ready none)) = W1 := ⟨_, rfl⟩
  have hL1 : W1.heap[w.heap.size + 1]? = some (.loop (rec .ready none)) := by
    rw [← hW1]; have := World.alloc_heap_new (w.alloc (.deferred (some []))) (.loop (rec .ready none)); rwa [World.size_alloc] at this
  have hK1 : W1.heap[w.heap.size]? = some (.deferred (some [])) := by
    rw [← hW1]; exact (Below.heap_alloc _ _ _ (by simp)).trans (World.alloc_heap_new w _)
  -- between two rounds
  let Inv : Nat → World → Prop := fun k W => ∃ I' ρ', WOk (Ctx.self w ρ H I) I' ρ' (G k) W ∧ ∀ b o, I' b = some o → I b = some o ∨ o.isCells = true
  have invGrow : ∀ k W W' row, Inv k W → W.grownBy W' row → (∀ r, row = some r → w.heap.size ≤ r ∧ ∃ o : Obj, W.heap[r]? = some o ∧ o.isCells = false) → Inv k W' := by
    rintro k W W' row ⟨I', ρ', h1, h2⟩ hg hr
    refine ⟨I', ρ', h1.grown hg (fun r e => ?_) (hmaps k), h2⟩
    obtain ⟨h3, o, h4, h5⟩ := hr r e
    refine ⟨h3, ?_, o, h4, h5⟩
    cases e' : I' r with
    | none => rfl
    | some o' =>
      have h6 := h1.imm r o' e'
      rw [h4] at h6; cases h6
      rcases h2 r _ e' with h7 | h7
      · have := hIlt r _ h7; omega
      · rw [h5] at h7; cases h7
  have cutInv : ∀ k W I' ρ', WOk (Ctx.self w ρ H I) I' ρ' (G k) W → Inv k W := fun k W I' ρ' h1 => by
    let I4 : Imm := fun b => if I b = none ∧ (∀ o, I' b = some o → o.isCells = false) then none else I' b
    refine ⟨I4, ρ', h1.cut (fun b o hb => ?_) (fun b o hb => ?_) (fun b cs ty fz hb => ?_), fun b o hb => ?_⟩
    · have hb : (if I b = none ∧ (∀ o, I' b = some o → o.isCells = false) then none else I' b) = some o := hb
      split at hb
      · cases hb
      · exact hb
    · show (if I b = none ∧ (∀ o, I' b = some o → o.isCells = false) then none else I' b) = some o
      have hb' : I b = some o := hb
      rw [if_neg (fun h => by rw [hb'] at h; cases h.1)]
      exact h1.le b o hb
    · show (if I b = none ∧ (∀ o, I' b = some o → o.isCells = false) then none else I' b) = _
      rw [if_neg (fun h => by have := h.2 _ hb; cases this)]
      exact hb
    · have hb : (if I b = none ∧ (∀ o, I' b = some o → o.isCells = false) then none else I' b) = some o := hb
      split at hb
      · cases hb
      · rename_i hno
        cases hI : I b with
        | none =>
          right
          cases ho : o.isCells with
          | true => rfl
          | false => exact (hno ⟨hI, fun o' ho' => by rw [hb] at ho'; cases ho'; exact ho⟩).elim
        | some o2 =>
          have := h1.le b o2 hI
          rw [hb] at this; cases this
          exact .inl rfl
  have hInv0 : Inv 0 W1 := by
    have hself : St (Ctx.self w ρ H I) nt env H I ρ { a with defers := [] } w := ⟨hE, hw.self, DOk.nil rfl⟩
    obtain ⟨I1, ρ1, hle, h2⟩ := h0.1 (Ctx.self w ρ H I) I ρ _ w hw.len hself
    have h3 := cutInv 0 w I1 ρ1 h2.2.1
    rw [← hW1]
    refine invGrow 0 _ _ none (invGrow 0 _ _ none h3 (World.grownBy_alloc _ _ none) (fun r e => by cases e)) (World.grownBy_alloc _ _ none) (fun r e => by cases e)
  refine ⟨w.heap.size + 1, [{ target := .collected w.heap.size, args := #[] }], W1, { target := .fn (.func gf) lb, args := #[.func (.yield (w.heap.size + 1)) #[] #[]] }, W1, gf,
    #[.func (.yield (w.heap.size + 1)) #[] #[]] ++ lb, W1, ?_, ?_, ?_, ?_, fun _ => by omega, ?_⟩
  · rw [← hW1, hrec]; exact run_enterLoop_outer _ _ _ _ _
  · simp only [resolve, hev]
    simp [go_sem]
  · intro f' hf'; simp [Target.leads] at hf'; subst hf'; exact trivial
  · have := hfn
    simp only [FnOk] at this
    simp [invoke, go_sem, this]
  · refine (hit.out I lb (w.heap.size + 1) (fun k W => Inv k W ∧ W.heap[w.heap.size + 1]? = some (.loop (rec .ready none)) ∧ W.heap[w.heap.size]? = some (.deferred (some []))) W1 ?_ hrel ?_ ?_ ⟨hInv0, hL1, hK1⟩).mono ?_
    · intro b o hb
      have hlt := hIlt b o hb
      rw [← hW1]
      exact (Below.heap_alloc _ _ _ (by simp; omega)).trans ((Below.heap_alloc _ _ _ hlt).trans (hw.imm b o hb))
    · rintro k W W' ⟨h1, h2, h3⟩ hg
      refine ⟨invGrow k W W' none h1 hg (fun r e => by cases e), ?_, ?_⟩
      · exact (hg.block _ (Array.getElem?_eq_some_iff.1 h2).1 (by simp)).trans h2
      · exact (hg.block _ (Array.getElem?_eq_some_iff.1 h3).1 (by simp)).trans h3
    · -- one round
      rintro k W ⟨hi, hl, hk⟩ hlen
      have hlt : w.heap.size + 1 < W.heap.size := (Array.getElem?_eq_some_iff.1 hl).1
      have hy := run_yield (P := P) (args := (el k).toArray) hl (by rw [hrec]; simpa using hps k hlen)
      rw [hrec] at hy
      refine ⟨fn, _, assign, body, hy, roundIn_of_wpIn hfn' ?_⟩
      have hE1 : EnvOk I ρ nt (setsE (ps.toList.zip (el k)) env) { tmps := (ps.toList.zip (el k)).foldl (fun t pv => t.setIfInBounds pv.1 pv.2) a.tmps, defers := [] } :=
        env_sets _ _ _ hE fun p hp => hpn p.1 (List.of_mem_zip hp).1
      have etmps : (ps.zip (el k).toArray).foldl (fun t (p, v) => t.setIfInBounds p v) a.tmps = (ps.toList.zip (el k)).foldl (fun t pv => t.setIfInBounds pv.1 pv.2) a.tmps := by
        rw [← Array.foldl_toList, Array.toList_zip]
      refine wp_moves (r := some (w.heap.size + 1)) (I := I) (ρ := ρ) (hmv k hlen) (by rw [← etmps] at hE1; exact hE1) fun a' ha' hd' => ?_
      refine ⟨_, run_beginRound hl (by rw [hrec]), ?_⟩
      obtain ⟨W2, hW2⟩ : ∃ W2, W.putObj (w.heap.size + 1) (.loop { rec .ready none with state := .busy }) = W2 := ⟨_, rfl⟩
      rw [hW2]
      have hl2 : W2.heap[w.heap.size + 1]? = some (.loop { rec .ready none with state := .busy }) := by rw [← hW2]; exact World.putObj_heap_same hlt
      have hk2 : W2.heap[w.heap.size]? = some (.deferred (some [])) := by rw [← hW2]; exact (World.putObj_heap_other (by omega)).trans hk
      obtain ⟨I', ρ', hwk, hcells⟩ : Inv k W2 := by
        rw [← hW2]
        exact invGrow k W _ (some (w.heap.size + 1)) hi (grownBy_putObj' W _ _) (fun r e => by cases e; exact ⟨by omega, _, hl, rfl⟩)
      let I2 : Imm := fun b => if I' b = none ∧ w.heap.size ≤ b ∧ (∃ o, W2.heap[b]? = some o ∧ o.isCells = false) then W2.heap[b]? else I' b
      have hle2 : I'.le I2 := fun b o hb => by
        show (if I' b = none ∧ w.heap.size ≤ b ∧ (∃ o, W2.heap[b]? = some o ∧ o.isCells = false) then W2.heap[b]? else I' b) = some o
        rw [if_neg (fun h => by rw [hb] at h; cases h.1)]
        exact hb
      have notLive : ∀ b o, W2.heap[b]? = some o → o.isCells = false → ¬ Live (G k) ρ' b := by
        rintro b o hb ho ⟨j, blk, h1, h2, z, h3⟩
        cases blk with
        | dead => exact h2 rfl
        | map ms => exact hmaps k j ms h1
        | arr sz n f =>
          obtain ⟨cs, ty, h4, _⟩ := hwk.arr _ _ _ _ _ _ h1 h3
          rw [hb] at h4; cases h4; cases ho
      have hwk2 : WOk (Ctx.self w ρ H I) I2 ρ' (G k) W2 := hwk.more hle2 (fun b o hb => by
          have hb : (if I' b = none ∧ w.heap.size ≤ b ∧ (∃ o, W2.heap[b]? = some o ∧ o.isCells = false) then W2.heap[b]? else I' b) = some o := hb
          split at hb
          · exact hb
          · exact hwk.imm b o hb) (fun b hb => by
          have hb : (if I' b = none ∧ w.heap.size ≤ b ∧ (∃ o, W2.heap[b]? = some o ∧ o.isCells = false) then W2.heap[b]? else I' b) ≠ none := hb
          split at hb
          · rename_i h
            obtain ⟨_, h1, o, h2, h3⟩ := h
            exact .inr ⟨h1, notLive b o h2 h3⟩
          · exact .inl hb)
      have inI2 : ∀ b o, w.heap.size ≤ b → W2.heap[b]? = some o → o.isCells = false → I2 b = some o := fun b o h1 h2 h3 => by
        show (if I' b = none ∧ w.heap.size ≤ b ∧ (∃ o, W2.heap[b]? = some o ∧ o.isCells = false) then W2.heap[b]? else I' b) = some o
        split
        · exact h2
        · rename_i hno
          cases e : I' b with
          | none => exact (hno ⟨e, h1, o, h2, h3⟩).elim
          | some o' => have := hwk.imm b o' e; rw [h2] at this; cases this; rfl
      have hbody := (round k (w.heap.size + 1) hlen).1 ⟨w, ρ, H, I2, []⟩ I2 ρ' a' W2 hw.len ⟨(ha'.mono hwk.le hwk.pre).mono hle2 (Pre.refl _), hwk2.ctx, DOk.nil hd'⟩
      refine wpIn_mono hbody fun e a3 W3 hq => ?_
      cases e with
      | normal =>
        obtain ⟨env3, H3, I3, ρ3, hst3, hsub⟩ := hq
        obtain ⟨I4, ρ4, _, hst4⟩ := hsub.1 ⟨w, ρ, H, I2, []⟩ I3 ρ3 a3 W3 hw.len hst3
        have hw4 := hst4.2.1
        have hl3 : W3.heap[w.heap.size + 1]? = some (.loop { rec .ready none with state := .busy }) := hw4.imm _ _ (hw4.le _ _ (inI2 _ _ (by omega) hl2 rfl))
        have hk3 : W3.heap[w.heap.size]? = some (.deferred (some [])) := hw4.imm _ _ (hw4.le _ _ (inI2 _ _ (Nat.le_refl _) hk2 rfl))
        have hw5 : WOk (Ctx.self w ρ H I) I4 ρ4 (G (k + 1)) W3 := WOk.unctx (X := Ctx.self w ρ H I) (K := I2) hw4 (Imm.le_trans hwk.le hle2) fun b hb => hwk2.news b hb
        have hinv := cutInv (k + 1) W3 I4 ρ4 hw5
        have hend := run_endRound (P := P) none hl3
        rw [hrec] at hend
        have hlt3 := (Array.getElem?_eq_some_iff.1 hl3).1
        refine ⟨_, _, hend, rfl, ⟨?_, ?_, ?_⟩, ?_⟩
        · exact invGrow (k + 1) W3 _ (some (w.heap.size + 1)) hinv (grownBy_putObj' W3 _ _) (fun r e => by cases e; exact ⟨by omega, _, hl3, rfl⟩)
        · rw [hrec]; exact World.putObj_heap_same hlt3
        · exact (World.putObj_heap_other (by omega)).trans hk3
        · intro b o hb hWb
          have hlt := hIlt b o hb
          refine (World.putObj_heap_other (by omega)).trans (hw5.imm b o (hw5.le b o hb))
      | exit id => obtain ⟨_, _, _, _, _, h⟩ := hq; exact h.elim
      | goto t => obtain ⟨_, _, _, _, _, h⟩ := hq; exact h.elim
      | ret => obtain ⟨_, _, _, _, _, h⟩ := hq; exact h.elim
      | panic c => obtain ⟨_, _, _, _, _, _, _, _, _, h⟩ := hq; exact h.elim
      | outgrown => exact hq.elim
    · -- behind the iterator
      rintro e W2 ⟨⟨v, rfl⟩, hi, hl, hk⟩
      have hend := run_endLoop (P := P) hl (by rw [hrec]; simp)
      rw [hrec] at hend
      obtain ⟨o4, hend4⟩ : ∃ o4, (Instr.endLoop (w.heap.size + 1)).run P W2 = .ok none (W2.putObj (w.heap.size + 1) o4) := ⟨_, hend⟩
      refine ⟨none, _, hend4, ?_⟩
      obtain ⟨I', ρ', h1, h2⟩ := invGrow N W2 _ (some (w.heap.size + 1)) hi (grownBy_putObj' W2 _ o4) (fun r e => by cases e; exact ⟨by omega, _, hl, rfl⟩)
      have hkk : (W2.putObj (w.heap.size + 1) o4).heap[w.heap.size]? = some (.deferred (some [])) := (World.putObj_heap_other (by omega)).trans hk
      let I2 : Imm := fun b => if b = w.heap.size then some (.deferred (some [])) else I' b
      have hIn : I' w.heap.size = none := by
        cases e : I' w.heap.size with
        | none => rfl
        | some o =>
          have h3 := h1.imm _ o e
          rw [hkk] at h3; cases h3
          rcases h2 _ _ e with h4 | h4
          · have := hIlt _ _ h4; omega
          · cases h4
      have hle2 : I'.le I2 := fun b o hb => by
        show (if b = w.heap.size then some (.deferred (some [])) else I' b) = some o
        rw [if_neg (fun e => by subst e; rw [hIn] at hb; cases hb)]
        exact hb
      have h3 := h1.more hle2 (fun b o hb => by
        have hb' : (if b = w.heap.size then some (.deferred (some [])) else I' b) = some o := hb
        clear hb
        split at hb'
        · rename_i e; rw [e, ← hb']; exact hkk
        · exact h1.imm b o hb') (fun b hb => by
        have hb : (if b = w.heap.size then some (Obj.deferred (some [])) else I' b) ≠ none := hb
        split at hb
        · rename_i e
          subst e
          refine .inr ⟨Nat.le_refl _, ?_⟩
          rintro ⟨j, blk, g1, g2, z, g3⟩
          cases blk with
          | dead => exact g2 rfl
          | map ms => exact hmaps N j ms g1
          | arr sz n f =>
            obtain ⟨cs, ty, g4, _⟩ := h1.arr _ _ _ _ _ _ g1 g3
            rw [hkk] at g4; cases g4
        · exact .inl hb)
      obtain ⟨Ds, d1, d2, d3⟩ := hD
      refine ⟨env, G N, I2, ρ', ⟨hE.mono (Imm.le_trans h1.le hle2) h1.pre, hw.trans h3, w.heap.size :: Ds, ?_, ?_, ?_⟩, hdone⟩
      · rw [List.nodup_cons]
        exact ⟨fun hd => by have := hIlt _ _ (d3 _ hd).2; omega, d1⟩
      · show [_] ++ a.defers = _
        rw [d2]; rfl
      · intro D hD
        rcases List.mem_cons.1 hD with e | e
        · subst e
          refine ⟨hw.grow, ?_⟩
          show (if w.heap.size = w.heap.size then some (Obj.deferred (some [])) else _) = _
          rw [if_pos rfl]
        · exact ⟨(d3 D e).1, hle2 _ _ (h1.le _ _ (d3 D e).2)⟩
end Go.Proofs.Ytloaefllpokkaaa
namespace Go.Proofs.Ytloaefllpokkaaa.It
open Go.RowKit
/-- What an iterator is handed: the loop, and what a round makes true. -/
structure Cx (P : Program) where
  l : Nat
  I : Imm
  J : Nat → World → Prop
  N : Nat
  el : Nat → List Value
  round : ∀ k W1, J k W1 → k < N → YieldAt Fence.wide 0 P l (el k).toArray W1 fun e W' => e = .returned (.bool true) ∧ J (k + 1) W' ∧ KpI I W1 W'
abbrev Post := AE → Env → Nat → Prop
section
variable {P : Program} (C : Cx P)
def St (nt : Nat) (env : Env) (k : Nat) (a : Act) (w : World) : Prop := EnvOk C.I [] nt env a ∧ (∀ b o, C.I b = some o → w.heap[b]? = some o) ∧ a.defers = [] ∧ C.J k w
def Lift (nt : Nat) (Q : Post) : Exit → Act → World → Prop
  | .normal, a, w => ∃ env k, St C nt env k a w ∧ Q .normal env k
  | .exit id, a, w => ∃ env k, St C nt env k a w ∧ Q (.exit id) env k
  | .goto l, a, w => ∃ env k, St C nt env k a w ∧ Q (.goto l) env k
  | .ret, a, w => ∃ env k, St C nt env k a w ∧ Q .ret env k
  | .panic _, _, _ => False
  | .outgrown, _, _ => False
structure AW (nt : Nat) (c : Code) (Q : Post) (env : Env) (k : Nat) : Prop where
  out : ∀ a w, St C nt env k a w → c.wpIn (Fw none) 0 P (Lift C nt Q) a w
structure AR (nt : Nat) (ops : Array Oper) (Q : Post) (l : List Stp) (env : Env) (k : Nat) : Prop where
  out : ∀ a w, St C nt env k a w → runP P none ops (Lift C nt Q) l (Keeps C.I [] [] w) a w
end
def thenP (next : Env → Nat → Prop) (Q : Post) : Post
  | .normal, env, k => next env k
  | e, env, k => Q e env k
def inBlockP (id : Nat) (Q : Post) : Post
  | .exit id', env, k => bif Nat.beq id' id then Q .normal env k else Q (.exit id') env k
  | e, env, k => Q e env k
def Has (env : Env) : Env → Prop
  | [] => True
  | (t, v) :: l => look env t = some v ∧ Has env l
section
variable {P : Program} {C : Cx P} {nt : Nat} {Q Q' : Post} {env env' : Env} {k : Nat} {ops : Array Oper} {l : List Stp} {dst : Nat} {ty : TypeId} {pos : String} {after : Array Edge}
theorem has_look : ∀ {e : Env} {t : Nat} {v : V}, Has env e → look e t = some v → look env t = some v
  | [], _, _, _, h => by simp [look] at h
  | (k, y) :: l, t, v, hs, h => by
    rw [look_cons] at h
    split at h
    · rename_i e; subst e; cases h; exact hs.1
    · exact has_look hs.2 h
theorem St.has {a : Act} {w : World} (h : St C nt env k a w) (he : Has env env') : St C nt env' k a w := ⟨⟨h.1.1, fun t v ht => h.1.2 t v (has_look he ht)⟩, h.2⟩
theorem Lift.mono (h : ∀ e env k, Q e env k → Q' e env k) : ∀ e a w, Lift C nt Q e a w → Lift C nt Q' e a w
  | .normal, _, _, ⟨a, b, c, d⟩ => ⟨a, b, c, h _ _ _ d⟩
  | .exit _, _, _, ⟨a, b, c, d⟩ => ⟨a, b, c, h _ _ _ d⟩
  | .goto _, _, _, ⟨a, b, c, d⟩ => ⟨a, b, c, h _ _ _ d⟩
  | .ret, _, _, ⟨a, b, c, d⟩ => ⟨a, b, c, h _ _ _ d⟩
  | .panic _, _, _, h => h
  | .outgrown, _, _, h => h
theorem aw_skip (h : Q .normal env k) : AW C nt .skip Q env k := .mk fun _ _ hs => wpIn_skip ⟨env, k, hs, h⟩
theorem aw_exit {id : Nat} (h : Q (.exit id) env k) : AW C nt (.exit id) Q env k := .mk fun _ _ hs => wpIn_exit ⟨env, k, hs, h⟩
theorem aw_ret (h : Q .ret env k) : AW C nt .ret Q env k := .mk fun _ _ hs => wpIn_ret ⟨env, k, hs, h⟩
theorem lift_then {nxt : Env → Nat → Prop} {K : Act → World → Prop} (h : ∀ env k a w, St C nt env k a w → nxt env k → K a w) : ∀ e a w, Lift C nt (thenP nxt Q) e a w → Exit.then K (Lift C nt Q) e a w
  | .normal, _, _, ⟨_, _, c, d⟩ => h _ _ _ _ c d
  | .exit _, _, _, h => h
  | .goto _, _, _, h => h
  | .ret, _, _, h => h
  | .panic _, _, _, h => h
  | .outgrown, _, _, h => h
theorem aw_seq {x y : Code} (h : AW C nt x (thenP (AW C nt y Q) Q) env k) : AW C nt (.seq x y) Q env k := .mk
  fun a w hs => wpIn_seq (wpIn_mono (h.1 a w hs) (lift_then fun _ _ a w hs h => h.1 a w hs))
theorem aw_cond {c : Operand} {x y : Code} {b : Bool} (hc : eo env c = some (.s (.bool b))) (ht : b = true → AW C nt x Q env k) (hf : b = false → AW C nt y Q env k) : AW C nt (.cond c x y) Q env k := .mk
  fun a w hs => wpIn_cond_split (eo_bool hs.1 hc) (fun e => (ht e).1 a w hs) (fun e => (hf e).1 a w hs)
theorem aw_block {id : Nat} {c : Code} (h : AW C nt c (inBlockP id Q) env k) : AW C nt (.block id c) Q env k := .mk
  fun a w hs => wpIn_block (wpIn_mono (h.1 a w hs) fun e a w h => by
    cases e with
    | exit id' =>
      obtain ⟨env, k, hs, hq⟩ := h
      simp only [inBlockP] at hq
      simp only [Exit.inBlock]
      cases hb : Nat.beq id' id
      · rw [hb] at hq
        rw [if_neg (fun e => by rw [e, Nat.beq_refl] at hb; cases hb)]
        exact ⟨env, k, hs, hq⟩
      · rw [hb] at hq
        rw [if_pos (Nat.eq_of_beq_eq_true hb)]
        exact ⟨env, k, hs, hq⟩
    | normal => exact h
    | goto _ => exact h
    | ret => exact h
    | panic _ => exact h
    | outgrown => exact h)
/-- A loop that hands over one element in each round. -/
theorem aw_for {c : Code} (M : Nat) (E : Nat → Env) (hk : k ≤ M) (h0 : Has env (E k)) (round : ∀ j, j ≤ M → AW C nt c (thenP (fun env' k' => j < M ∧ k' = j + 1 ∧ Has env' (E (j + 1))) Q) (E j) j) : AW C nt (.loop c) Q env k := .mk fun a w hs =>
  wpIn_loopN (fun n a w => ∃ j, j ≤ M ∧ n = M - j ∧ St C nt (E j) j a w) (M - k) ⟨k, hk, rfl, hs.has h0⟩ fun n a w ⟨j, hj, hn, hs⟩ =>
    wpIn_mono ((round j hj).1 a w hs) (lift_then fun env' k' a' w' hs' h => by
      obtain ⟨h1, rfl, h3⟩ := h
      exact ⟨M - (j + 1), by omega, j + 1, h1, rfl, hs'.has h3⟩)
theorem wok {I : Imm} {w : World} (h : ∀ b o, I b = some o → w.heap[b]? = some o) : WOk (Ctx.self w [] [] I) I [] [] w := WOk.begin h
theorem aw_region {l : List Oper} {id : Nat} (h : AR C nt l.toArray Q (textPlan l 0) env k) : AW C nt (.region id l.toArray false) Q env k := .mk
  fun a w hs => region_text (Keeps C.I [] [] w) (Keeps.refl (wok hs.2.1)) (h.1 a w hs)
theorem ar_nil (h : Q .normal env k) : AR C nt ops Q [] env k := .mk fun _ _ hs => ⟨env, k, hs, h⟩
theorem ar_q {i d : Nat} {op : Op} {v : V} (h : QS P nt env [] ⟨some d, op, ty, pos, after, none⟩ v) (hd : d < nt) (hk : AR C nt ops Q l ((d, v) :: env) k) :
    AR C nt ops Q (.q i ⟨some d, op, ty, pos, after, none⟩ :: l) env k := .mk fun a w hs => by
  refine ⟨fun _ => ?_, fun hw => by rw [wanted_none rfl] at hw; cases hw⟩
  obtain ⟨u, h1, h2⟩ := h.1 _ C.I [] a w hs.1 (wok hs.2.1)
  exact ⟨u, h2, hk.1 _ w ⟨hs.1.put h1 hd, hs.2⟩⟩
theorem ar_guard {s : Stp} {g t d : Nat} {b want : Bool} (hg : s.oper.guard = some (g, want)) (ht : (ops[g]?).bind (·.dst) = some t) (hb : look env t = some (.s (.bool b))) (hd : s.oper.dst = some d) (hdn : d < nt)
    (hy : b = want → AR C nt ops Q (s.bare :: l) ((t, .s (.bool want)) :: env) k) (hn : b = !want → AR C nt ops Q l ((d, .s undef) :: (t, .s (.bool !want)) :: env) k) : AR C nt ops Q (s :: l) env k := .mk fun a w hs => by
  obtain ⟨h1, h2⟩ := hs.1.2 t _ hb
  have ev : a.tmps.getD t undef = .bool b := by cases h2' : a.tmps.getD t undef <;> rw [h2'] at h2 <;> cases h2; rfl
  have ey : yielded ops a.tmps g = some b := by
    unfold yielded
    have hlt : t < a.tmps.size := by rw [hs.1.1]; exact h1
    simp only [ht, Option.bind_some]
    simp [hlt] at ev
    simp [hlt, ev]
  have hw : Region.wanted s.oper (yielded ops a.tmps) = (b == want) := by
    unfold Region.wanted
    rw [hg]
    simp only [ey]
    cases b <;> cases want <;> rfl
  have sub : ∀ b', b = b' → EnvOk C.I [] nt ((t, .s (.bool b')) :: env) a := fun b' e => by
    subst e
    refine ⟨hs.1.1, fun t' v' h' => ?_⟩
    rw [look_cons] at h'
    split at h'
    · rename_i e; subst e; cases h'; exact ⟨h1, h2⟩
    · exact hs.1.2 t' v' h'
  by_cases e : b = want
  · have ih := (hy e).1 a w ⟨sub _ e, hs.2⟩
    clear hy hn
    have hwt : Region.wanted s.oper (yielded ops a.tmps) = true := by rw [hw, e]; simp
    cases s with
    | q i o =>
      have ih : (Region.wanted { o with guard := none } (yielded ops a.tmps) = true → _) ∧ _ := ih
      exact ⟨fun _ => ih.1 (wanted_none rfl), fun h' => absurd (h'.symm.trans hwt) (by decide)⟩
    | l i o k =>
      have ih : (Region.wanted { o with guard := none } (yielded ops a.tmps) = true → _) ∧ _ := ih
      exact ⟨fun _ => ih.1 (wanted_none rfl), fun h' => absurd (h'.symm.trans hwt) (by decide)⟩
    | fork ps => cases hg
  · have e' : b = !want := by cases b <;> cases want <;> simp_all
    have hwf : Region.wanted s.oper (yielded ops a.tmps) = false := by rw [hw, e']; cases want <;> rfl
    have ih : runP P none ops (Lift C nt Q) l (Keeps C.I [] [] w) (a.put (some d) undef) w := (hn e').1 _ w ⟨(sub _ e').put (.s _) hdn, hs.2⟩
    rw [← hd] at ih
    cases s with
    | q i o => exact ⟨fun h' => absurd (h'.symm.trans hwf) (by decide), fun _ => ih⟩
    | l i o k => exact ⟨fun h' => absurd (h'.symm.trans hwf) (by decide), fun _ => ih⟩
    | fork ps => cases hg
theorem ar_guard_u {s : Stp} {g t e : Nat} {want : Bool} (hg : s.oper.guard = some (g, want)) (ht : (ops[g]?).bind (·.dst) = some t) (hd : s.oper.dst = some e) (hb : look env t = some (.s undef)) (hdn : e < nt) (h : AR C nt ops Q l ((e, .s undef) :: env) k) : AR C nt ops Q (s :: l) env k := .mk fun a w hs => by
  obtain ⟨h1, h2⟩ := hs.1.2 t _ hb
  have ev : a.tmps.getD t undef = undef := by generalize a.tmps.getD t undef = u at h2; cases h2; rfl
  have hwf : Region.wanted s.oper (yielded ops a.tmps) = false := by
    unfold Region.wanted
    rw [hg]
    have : yielded ops a.tmps g = none := by
      unfold yielded
      have hlt : t < a.tmps.size := by rw [hs.1.1]; exact h1
      simp only [ht, Option.bind_some]
      simp [hlt] at ev
      simp [hlt, ev, undef]
    simp only [this]
    cases want <;> rfl
  have ih : runP P none ops (Lift C nt Q) l (Keeps C.I [] [] w) (a.put (some e) undef) w := h.1 _ w ⟨hs.1.put (.s _) hdn, hs.2⟩
  rw [← hd] at ih
  cases s with
  | q i o => exact ⟨fun h' => absurd (h'.symm.trans hwf) (by decide), fun _ => ih⟩
  | l i o k => exact ⟨fun h' => absurd (h'.symm.trans hwf) (by decide), fun _ => ih⟩
  | fork ps => cases hg
theorem evals_s {I : Imm} {a : Act} (he : EnvOk I [] nt env a) : ∀ {xs : List Operand} {us : List Value}, xs.mapM (eo env) = some (us.map V.s) → xs.map a.eval = us
  | [], us, h => by cases us <;> simp at h; rfl
  | x :: xs, us, h => by
    simp only [List.mapM_cons, Option.pure_def, Option.bind_eq_bind, Option.bind_eq_some_iff] at h
    obtain ⟨v0, hv0, vs', hvs, h'⟩ := h
    cases us with
    | nil => simp at h'
    | cons u us =>
      simp at h'
      obtain ⟨rfl, rfl⟩ := h'
      rw [List.map_cons, evals_s he hvs]
      have := eo_rel he hv0
      generalize a.eval x = y at this ⊢
      cases this
      rfl
theorem yield_run {fo : Operand} {args : List Operand} {ats : Array TypeId} {lp : Nat} {a : Act} {w : World} {res : Result Next} {d : Option Tmp} {guard : Option (Nat × Bool)} (hv : a.eval fo = .func (.yield lp) #[] #[]) (hr : (Instr.yield lp (args.map a.eval).toArray).run P w = res) :
    (execOp a.eval ⟨d, .call ⟨.value fo, args.toArray, ats⟩, ty, pos, after, guard⟩).run P w = res := by
  simp only [execOp, resolve, Sem.run_bind, hv, Deferred.ofValue, Sem.run_pure, Result.andThen_ok, invoke]
  rw [show (args.toArray.map a.eval) = (args.map a.eval).toArray by simp]
  simpa using hr
/-- yield. -/
theorem ar_yield {i d : Nat} {fo : Operand} {args : List Operand} {ats : Array TypeId} {us : List Value} (hf : eo env fo = some (.s (.func (.yield C.l) #[] #[]))) (hargs : args.mapM (eo env) = some (us.map V.s)) (hk : k < C.N) (hel : C.el k = us) (hd : d < nt)
    (h : AR C nt ops Q l ((d, .s (.bool true)) :: env) (k + 1)) : AR C nt ops Q (.l i ⟨some d, .call ⟨.value fo, args.toArray, ats⟩, ty, pos, after, none⟩ false :: l) env k := .mk fun a w hs => by
  refine ⟨fun _ => ?_, fun hw => by rw [wanted_none rfl] at hw; cases hw⟩
  have h1 := eo_rel hs.1 hf
  have ev : a.eval fo = .func (.yield C.l) #[] #[] := by generalize a.eval fo = y at h1; cases h1; rfl
  obtain ⟨fn, tmps, assign, body, hy, hR⟩ := C.round k w hs.2.2.2 hk
  rw [hel, ← evals_s hs.1 hargs] at hy
  refine wpIn_of_run (by simp) (yield_run ev hy) ⟨fun h => by simp [Fw, Fence.wide] at h, ?_⟩
  refine RoundIn.mono hR fun e w' ⟨he, hJ, hK⟩ => ?_
  subst he
  exact ⟨Keeps C.I [] [] w', Keeps.refl (wok fun b o hb => hK b o hb (hs.2.1 b o hb)), (fun h => by cases h), h.1 _ w' ⟨hs.1.put (.s _) hd, fun b o hb => hK b o hb (hs.2.1 b o hb), hs.2.2.1, hJ⟩⟩
theorem ar_isq {i d : Nat} {op : Op} (h : AR C nt ops Q (.q i ⟨some d, op, ty, pos, after, none⟩ :: l) env k) : AR C nt ops Q (.q i ⟨some d, op, ty, pos, after, none⟩ :: l) env k := h
theorem is_load {i d : Nat} {T : TypeId} {x : Operand} (h : AR C nt ops Q (.q i ⟨some d, .load T x, ty, pos, after, none⟩ :: l) env k) : AR C nt ops Q (.q i ⟨some d, .load T x, ty, pos, after, none⟩ :: l) env k := h
theorem is_binOp {i d : Nat} {o : BinOp} {T : TypeId} {x y : Operand} {T2 : TypeId} (h : AR C nt ops Q (.q i ⟨some d, .binOp o T x y T2, ty, pos, after, none⟩ :: l) env k) : AR C nt ops Q (.q i ⟨some d, .binOp o T x y T2, ty, pos, after, none⟩ :: l) env k := h
theorem is_fieldAddr {i d : Nat} {T : TypeId} {x : Operand} {j : Nat} (h : AR C nt ops Q (.q i ⟨some d, .fieldAddr T x j, ty, pos, after, none⟩ :: l) env k) : AR C nt ops Q (.q i ⟨some d, .fieldAddr T x j, ty, pos, after, none⟩ :: l) env k := h
theorem is_indexAddr {i d : Nat} {T : TypeId} {x y : Operand} (h : AR C nt ops Q (.q i ⟨some d, .indexAddr T x y, ty, pos, after, none⟩ :: l) env k) : AR C nt ops Q (.q i ⟨some d, .indexAddr T x y, ty, pos, after, none⟩ :: l) env k := h
theorem is_call {i d : Nat} {c : Call} (h : AR C nt ops Q (.q i ⟨some d, .call c, ty, pos, after, none⟩ :: l) env k) : AR C nt ops Q (.q i ⟨some d, .call c, ty, pos, after, none⟩ :: l) env k := h
theorem is_pick {i d : Nat} {c x y : Operand} (h : AR C nt ops Q (.q i ⟨some d, .pick c x y, ty, pos, after, none⟩ :: l) env k) : AR C nt ops Q (.q i ⟨some d, .pick c x y, ty, pos, after, none⟩ :: l) env k := h
theorem ret_then {K : Env → Nat → Prop} (h : Q .ret env k) : thenP K Q .ret env k := h
theorem ret_block {id : Nat} (h : Q .ret env k) : inBlockP id Q .ret env k := h
theorem loop_next {N j : Nat} {E : Env} (h1 : j < N) (h2 : k = j + 1) (h3 : Has env E) : thenP (fun env' k' => j < N ∧ k' = j + 1 ∧ Has env' E) Q .normal env k := ⟨h1, h2, h3⟩
end
/-- All has come. -/
def EndQ (N : Nat) : Post
  | .normal, _, k => k = N
  | .ret, _, k => k = N
  | _, _, _ => False
theorem iter_of_aw {P : Program} {gf : FuncId} {fn : Func} {c : Code} {vs : List V} {N : Nat} {el : Nat → List Value} (hf : P.funcs[gf]? = some fn) (hb : fn.body = some c) (hn : vs.length + 1 ≤ fn.ntmps) (hres : fn.results = #[])
    (h : ∀ C : Cx P, C.N = N → C.el = el → AW C fn.ntmps c (EndQ N) (argEnv (.s (.func (.yield C.l) #[] #[]) :: vs) 0) 0) : Iter P gf vs N el := by
  refine ⟨fun I us l J W hI hv _ hY h0 => ?_⟩
  refine callsIn_wide.2 ((callsIn_wide (n := 0)).1 (callsIn_of_wp hf hb trivial ?_ rfl))
  have hrel : VRels I [] (.s (.func (.yield l) #[] #[]) :: vs) (#[.func (.yield l) #[] #[]] ++ us) := by
    refine ⟨by simp [hv.1]; omega, fun j v u hj hu => ?_⟩
    cases j with
    | zero =>
      rw [Array.getElem?_append_left (by simp)] at hu
      simp at hj hu; subst hj hu; exact .s _
    | succ j =>
      rw [List.getElem?_cons_succ] at hj
      rw [Array.getElem?_append_right (by simp)] at hu
      exact hv.2 j v u hj (by simpa using hu)
  have h1 := (h ⟨l, I, J, N, el, hY⟩ rfl rfl).1 _ W ⟨argEnv_ok hrel (by rw [hrel.1]; simpa using hn), hI, rfl, h0⟩
  refine wpIn_mono h1 fun e a' w' hl => ?_
  have hr : (results fn a'.tmps).run P w' = .ok (.tuple #[]) w' := by
    unfold results
    rw [hres]
    simp
  cases e with
  | normal => obtain ⟨_, k, hs, rfl⟩ := hl; exact ⟨hs.2.2.1, _, hr, ⟨_, rfl⟩, hs.2.2.2⟩
  | ret => obtain ⟨_, k, hs, rfl⟩ := hl; exact ⟨hs.2.2.1, _, hr, ⟨_, rfl⟩, hs.2.2.2⟩
  | exit id => obtain ⟨_, _, _, h⟩ := hl; exact h.elim
  | goto id => obtain ⟨_, _, _, h⟩ := hl; exact h.elim
  | panic ch => exact hl.elim
  | outgrown => exact hl.elim
end Go.Proofs.Ytloaefllpokkaaa.It
namespace Go.Proofs.Ytloaefllpokkaaa
open Go.RowKit
section
variable {P : Program} {r : Option Nat} {m nt : Nat} {Q : Post} {env : Env} {H : Heap} {ops : Array Oper} {l : List Stp} {t : Nat} {v v' : V}
theorem EnvOk.re {I : Imm} {ρ : List (Option (Nat × Nat))} {a : Act} (he : EnvOk I ρ nt env a) (h : look env t = some v) (e : v = v') : EnvOk I ρ nt ((t, v') :: env) a := by
  subst e
  refine ⟨he.1, fun t' x hx => ?_⟩
  rw [look_cons] at hx
  split at hx
  · rename_i e; subst e; cases hx; exact he.2 t v h
  · exact he.2 t' x hx
/-- A value said in other words, within a region. -/
theorem ar_re (h : look env t = some v) (e : v = v') (hk : AR P r m nt ops Q l ((t, v') :: env) H) : AR P r m nt ops Q l env H := .mk fun X I ρ a w hX hs => hk.1 X I ρ a w hX ⟨hs.1.re h e, hs.2⟩
end
end Go.Proofs.Ytloaefllpokkaaa
namespace Go.Proofs.Ytloaefllpokkaaa
open Go.RowKit
structure Spt where
  x : Int
  y : Int
instance : Inhabited Spt := ⟨⟨0, 0⟩⟩
abbrev Spt.enc (s : Spt) : V := .agg [vi s.x, vi s.y]
def dotF (a b c d : Spt) : Int := (b.x - a.x) * (d.x - c.x) + (b.y - a.y) * (d.y - c.y)
def crossF (a b c d : Spt) : Int := (b.x - a.x) * (d.y - c.y) - (b.y - a.y) * (d.x - c.x)
/-- The square of the distance of a spot from a segment. -/
def spotF (p a b : Spt) : Int × Int :=
  if dotF a b a p ≤ 0 then (dotF a p a p, 1) else if dotF a b a b ≤ dotF a b a p then (dotF b p b p, 1) else (crossF a b a p * crossF a b a p, dotF a b a b)
def crossB (a b c d : Spt) : Bool := (decide (0 < crossF a b a c) != decide (0 < crossF a b a d)) && (decide (crossF a b a c ≠ 0) && decide (crossF a b a d ≠ 0))
theorem sq_pos (a : Int) : 0 ≤ a * a := by
  rcases Int.le_total 0 a with h | h
  · exact Int.mul_nonneg h h
  · have := Int.mul_nonneg (show 0 ≤ -a by omega) (show 0 ≤ -a by omega)
    rwa [Int.neg_mul_neg] at this
theorem spot_den (p a b : Spt) : 0 < (spotF p a b).2 ∧ 0 ≤ (spotF p a b).1 := by
  have h1 := sq_pos (b.x - a.x)
  have h2 := sq_pos (b.y - a.y)
  have h3 := sq_pos (p.x - a.x)
  have h4 := sq_pos (p.y - a.y)
  have h5 := sq_pos (p.x - b.x)
  have h6 := sq_pos (p.y - b.y)
  have h7 := sq_pos (crossF a b a p)
  unfold spotF
  split
  · exact ⟨Int.one_pos, by simp only [dotF]; omega⟩
  · split
    · exact ⟨Int.one_pos, by simp only [dotF]; omega⟩
    · exact ⟨by dsimp only; omega, h7⟩
end Go.Proofs.Ytloaefllpokkaaa
namespace Go.Proofs.Ytloaefllpokkaaa
open Go.RowKit
def takeF (l s : Int × Int) : Int × Int := if l.2 = 0 ∨ s.1 * l.2 < l.1 * s.2 then s else l
def take4 (l : Int × Int) (a b c d : Spt) : Int × Int := takeF (takeF (takeF (takeF l (spotF a c d)) (spotF b c d)) (spotF c a b)) (spotF d a b)
def segN (l : List Spt) : Nat := if l.length = 1 then 1 else l.length - 1
def segA (l : List Spt) (j : Nat) : Spt := el l j
def segB (l : List Spt) (j : Nat) : Spt := if l.length = 1 then el l j else el l (j + 1)
def dfarJ (q : List Spt) (a b : Spt) (l : Int × Int) : Nat → Int × Int
  | 0 => l
  | j + 1 => take4 (dfarJ q a b l j) a b (segA q j) (segB q j)
def dfarI (p q : List Spt) : Nat → Int × Int
  | 0 => (1, 0)
  | i + 1 => dfarJ q (segA p i) (segB p i) (dfarI p q i) (segN q)
/-- The square of the distance of two lines that do not cross. -/
def dfarF (p q : List Spt) : Int × Int := dfarI p q (segN p)
section
variable {C : Int × Int → Prop} {l s : Int × Int} {a b c d : Spt} {p q : List Spt}
def Cand (C : Int × Int → Prop) (a b c d : Spt) : Prop := C (spotF a c d) ∧ C (spotF b c d) ∧ C (spotF c a b) ∧ C (spotF d a b)
end
end Go.Proofs.Ytloaefllpokkaaa
namespace Go.Proofs.Ytloaefllpokkaaa
open Go.RowKit
def vu (n : Int) : V := .s (.int .u64 n)
end Go.Proofs.Ytloaefllpokkaaa
namespace Go.Proofs.Ytloaefllpokkaaa
open Go.RowKit
/-- The place of the first number that is so; -1: none. -/
def idxF (p : Int → Bool) (l : List Int) : Int := match (List.range l.length).find? (fun i => p (el l i)) with | some i => (i : Int) | none => -1
theorem idxF_at {p : Int → Bool} {l : List Int} {i : Nat} (hi : i < l.length) (h0 : ∀ j, j < i → p (el l j) = false) (h : p (el l i) = true) : idxF p l = i := by
  have : (List.range l.length).find? (fun i => p (el l i)) = some i := by
    rw [List.find?_range_eq_some]
    exact ⟨h, by simpa using hi, fun j hj => by simp [h0 j hj]⟩
  unfold idxF
  rw [this]
theorem idxF_none {p : Int → Bool} {l : List Int} (h0 : ∀ j, j < l.length → p (el l j) = false) : idxF p l = -1 := by
  have : (List.range l.length).find? (fun i => p (el l i)) = none := by
    rw [List.find?_eq_none]
    intro j hj
    rw [List.mem_range] at hj
    simp [h0 j hj]
  unfold idxF
  rw [this]
theorem idxF_any (p : Int → Bool) (l : List Int) : decide (0 ≤ idxF p l) = l.any p := by
  cases h : l.any p
  · rw [List.any_eq_false] at h
    rw [idxF_none fun j hj => by simpa using h _ (el_mem hj)]
    rfl
  · rw [List.any_eq_true] at h
    obtain ⟨x, hx, hp⟩ := h
    obtain ⟨i, hi, rfl⟩ := mem_el hx
    unfold idxF
    split
    · simp
    · rename_i h0
      rw [List.find?_eq_none] at h0
      have := h0 i (by simpa using hi)
      simp [hp] at this
def fromB (lo hi : Int) (l : List Int) : Bool := l.all fun n => withinB n lo hi
def outB (lo hi n : Int) : Bool := decide (n < lo) || decide (hi < n)
theorem any_out (lo hi : Int) (l : List Int) : (!l.any (outB lo hi)) = fromB lo hi l := by
  induction l with
  | nil => rfl
  | cons x l ih =>
    simp only [List.any_cons, Bool.not_or, fromB, List.all_cons] at *
    rw [ih]
    congr 1
    simp only [outB, withinB]
    grind
set_option maxHeartbeats 1000000 in
theorem indexInts_p (l : List Int) {g : FuncId} {cap : List V} (hfn : FnOk Try.prog g) (hcap : V.closed.all cap = true) (p : Int → Bool) (hc : ∀ x, x ∈ l → PCalls Try.prog g (vi x :: cap) (· = vb (p x))) :
    PCalls Try.prog 61 [encInts l, .fn (.func g) [] cap] (· = vi (idxF p l)) := by
  (refine pcalls_know (fun I us h => rel_len (rel_arg h (j := 0) rfl)) fun hlen0 => ?_)
  refine pcalls_of_aw Try.func61 rfl (Nat.le_of_ble_eq_true rfl) ?_
  (repeat' (first | (refine ar_isq ?_; first | refine zmv ?_ | refine zas ?_ | (refine is_load ?_; first | refine zlp ?_ | refine zlr ?_) | (refine is_binOp ?_; first | refine zlss ?_ | refine zadd ?_) | (refine is_indexAddr ?_; first | refine zil ?_ | refine zis ?_ | refine zit ?_ | refine zia ?_ | refine zir ?_ | (refine zxl ?_; intro _ _ _) | (refine zxs ?_; intro _ _ _)) | (refine is_call ?_; first | refine zll ?_ | refine zls ?_ | refine zln ?_ | refine zle ?_)) | (refine ar_nil ?_) | (refine aw_seq ?_) | (refine aw_skip ?_) | (refine aw_block ?_) | (refine aw_exit ?_) | (refine aw_region ?_) | (refine zco ?_ ?_ <;> intro hg <;> first | exact absurd hg (by decide) | ((try replace hg := HG.out hg); (try dsimp only at hg); (try (have _h : True := hg; clear _h hg)); first | (exfalso; omega) | skip))))
  refine aw_for l.length (fun k => ∀ j, j < k → p (el l j) = false) (fun k => [(0, encInts l), (1, .fn (.func g) [] cap), (7, vi l.length), (8, vi k)]) (fun _ => []) (fun j hj => by omega) ?_ ?_
  · (refine sub_to [] [] rfl ?_ ?_ <;> (repeat' (first | exact trivial | refine ⟨⟨_, rfl, ?_⟩, ?_⟩ | refine ⟨bsub_snoc rfl rfl (fun _ => rfl) ?_, ?_⟩ | refine ⟨bsub_one rfl rfl ?_, ?_⟩ | refine ⟨bsub_all rfl rfl (fun _ _ => rfl) (fun _ => rfl), ?_⟩ | refine ⟨bsub_updL rfl rfl ?_ (fun _ _ _ => rfl) (fun _ => rfl), ?_⟩ | refine ⟨.inl ⟨_, _, rfl, rfl, ?_⟩, ?_⟩ | exact ⟨.inr ⟨rfl, rfl⟩, trivial⟩ | refine ⟨.inr ⟨rfl, rfl⟩, ?_⟩ | (intro _ _) | exact vz1 | exact vz2 | fail)))
  intro k hk hJ
  by_cases hkn : k < l.length
  · (repeat' (first | (refine ar_isq ?_; first | refine zmv ?_ | refine zas ?_ | (refine is_load ?_; first | refine zlp ?_ | refine zlr ?_) | (refine is_binOp ?_; first | refine zlss ?_ | refine zadd ?_) | (refine is_indexAddr ?_; first | refine zil ?_ | refine zis ?_ | refine zit ?_ | refine zia ?_ | refine zir ?_ | (refine zxl ?_; intro _ _ _) | (refine zxs ?_; intro _ _ _)) | (refine is_call ?_; first | refine zll ?_ | refine zls ?_ | refine zln ?_ | refine zle ?_)) | (refine ar_pcall (own := false) hfn rfl rfl (args_closed hcap) (hc _ (el_mem hkn)) (by simp) (dc rfl) ?_; intro _ hv; subst hv) | (refine ar_nil ?_) | (refine aw_seq ?_) | (refine aw_skip ?_) | (refine aw_block ?_) | (refine aw_exit ?_) | (refine aw_region ?_) | (refine zco ?_ ?_ <;> intro hg <;> first | exact absurd hg (by decide) | ((try replace hg := HG.out hg); (try dsimp only at hg); (try (have _h : True := hg; clear _h hg)); first | (exfalso; omega) | skip))))
    all_goals first
      | (exfalso; omega)
      | ((first | refine loop_next (by omega) ?_ ?_ | refine (show _ ∧ _ ∧ SubOf _ _ _ _ _ _ from And.intro (by omega) (And.intro ?_ ?_))); (focus ((exact all_step hJ (by assumption)); done)); (focus ((refine sub_to [] [] rfl ?_ ?_ <;> (repeat' (first | exact trivial | refine ⟨⟨_, rfl, ?_⟩, ?_⟩ | refine ⟨bsub_snoc rfl rfl (fun _ => rfl) ?_, ?_⟩ | refine ⟨bsub_one rfl rfl ?_, ?_⟩ | refine ⟨bsub_all rfl rfl (fun _ _ => rfl) (fun _ => rfl), ?_⟩ | refine ⟨bsub_updL rfl rfl ?_ (fun _ _ _ => rfl) (fun _ => rfl), ?_⟩ | refine ⟨.inl ⟨_, _, rfl, rfl, ?_⟩, ?_⟩ | exact ⟨.inr ⟨rfl, rfl⟩, trivial⟩ | refine ⟨.inr ⟨rfl, rfl⟩, ?_⟩ | (intro _ _) | exact vz1 | exact vz2 | fail))); done)))
      | ((refine aw_ret ?_; (repeat (first | refine ret_then ?_ | refine ret_block ?_)); refine bq1 rfl ⟨?_, rfl⟩); rw [idxF_at hkn hJ (by assumption)]; try rfl)
  · (repeat' (first | (refine ar_isq ?_; first | refine zmv ?_ | refine zas ?_ | (refine is_load ?_; first | refine zlp ?_ | refine zlr ?_) | (refine is_binOp ?_; first | refine zlss ?_ | refine zadd ?_) | (refine is_indexAddr ?_; first | refine zil ?_ | refine zis ?_ | refine zit ?_ | refine zia ?_ | refine zir ?_ | (refine zxl ?_; intro _ _ _) | (refine zxs ?_; intro _ _ _)) | (refine is_call ?_; first | refine zll ?_ | refine zls ?_ | refine zln ?_ | refine zle ?_)) | (refine ar_nil ?_) | (refine aw_seq ?_) | (refine aw_skip ?_) | (refine aw_block ?_) | (refine aw_exit ?_) | (refine aw_region ?_) | (refine zco ?_ ?_ <;> intro hg <;> first | exact absurd hg (by decide) | ((try replace hg := HG.out hg); (try dsimp only at hg); (try (have _h : True := hg; clear _h hg)); first | (exfalso; omega) | skip))))
    all_goals first
      | (exfalso; omega)
      | ((refine aw_ret ?_; (repeat (first | refine ret_then ?_ | refine ret_block ?_)); refine bq1 rfl ⟨?_, rfl⟩); rw [idxF_none (fun j hj => hJ j (by omega))]; try rfl)
theorem containsInts_p (l : List Int) {g : FuncId} {cap : List V} (hfn : FnOk Try.prog g) (hcap : V.closed.all cap = true) (p : Int → Bool) (hc : ∀ x, x ∈ l → PCalls Try.prog g (vi x :: cap) (· = vb (p x))) :
    PCalls Try.prog 44 [encInts l, .fn (.func g) [] cap] (· = vb (l.any p)) := by
  refine pcalls_of_aw Try.func44 rfl (Nat.le_of_ble_eq_true rfl) ?_
  (repeat' (first | (refine ar_isq ?_; first | refine zmv ?_ | refine zas ?_ | refine zgeq ?_) | (refine ar_pcall (own := false) fn61 rfl rfl (.cons (.closed rfl) (.cons (.closed hcap) .nil)) (indexInts_p l hfn hcap p hc) (by simp) (dc rfl) ?_; intro _ hv; subst hv) | (refine ar_nil ?_) | (refine aw_seq ?_) | (refine aw_skip ?_) | (refine aw_block ?_) | (refine aw_exit ?_) | (refine aw_region ?_) | (refine zco ?_ ?_ <;> intro hg <;> first | exact absurd hg (by decide) | ((try replace hg := HG.out hg); (try dsimp only at hg); (try (have _h : True := hg; clear _h hg)); first | (exfalso; omega) | skip))))
  (refine aw_ret ?_; (repeat (first | refine ret_then ?_ | refine ret_block ?_)); refine bq1 rfl ⟨?_, rfl⟩)
  rw [← idxF_any]
  rfl
end Go.Proofs.Ytloaefllpokkaaa
