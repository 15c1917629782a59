/- Parts of the proof: a layer of values over the model, and contracts of functions. No condition. -/
import Derived.Test.YtccidiflnmchiaaKWo2
namespace Go.Proofs.Ytccidiflnmchiaa
open Go.RowKit
theorem ty1 : TyIs Try.prog 1 ⟨.func, 1, 8, .nilFunc⟩ := ⟨by kernel_rfl, by kernel_rfl⟩
theorem ty2 : TyIs Try.prog 2 ⟨.int .i64, 1, 8, .int .i64 0⟩ := ⟨by kernel_rfl, by kernel_rfl⟩
theorem ty3 : TyIs Try.prog 3 ⟨.int .i64, 1, 8, .int .i64 0⟩ := ⟨by kernel_rfl, by kernel_rfl⟩
theorem ty4 : TyIs Try.prog 4 ⟨.bool, 1, 1, .bool false⟩ := ⟨by kernel_rfl, by kernel_rfl⟩
theorem ty5 : TyIs Try.prog 5 ⟨.int .u8, 1, 1, .int .u8 0⟩ := ⟨by kernel_rfl, by kernel_rfl⟩
theorem ty6 : TyIs Try.prog 6 ⟨.int .u8, 1, 1, .int .u8 0⟩ := ⟨by kernel_rfl, by kernel_rfl⟩
theorem ty7 : TyIs Try.prog 7 ⟨.struct [(2, 0), (3, 1), (4, 2), (6, 3)], 4, 24, .agg #[.int .i64 0, .int .i64 0, .bool false, .int .u8 0]⟩ := ⟨by kernel_rfl, by kernel_rfl⟩
theorem ty8 : TyIs Try.prog 8 ⟨.struct [(2, 0), (3, 1), (4, 2), (6, 3)], 4, 24, .agg #[.int .i64 0, .int .i64 0, .bool false, .int .u8 0]⟩ := ⟨by kernel_rfl, by kernel_rfl⟩
theorem ty12 : TyIs Try.prog 12 ⟨.int .u64, 1, 8, .int .u64 0⟩ := ⟨by kernel_rfl, by kernel_rfl⟩
theorem ty15 : TyIs Try.prog 15 ⟨.ptr 146, 1, 8, .pointer none⟩ := ⟨by kernel_rfl, by kernel_rfl⟩
theorem ty16 : TyIs Try.prog 16 ⟨.ptr 149, 1, 8, .pointer none⟩ := ⟨by kernel_rfl, by kernel_rfl⟩
theorem ty17 : TyIs Try.prog 17 ⟨.ptr 157, 1, 8, .pointer none⟩ := ⟨by kernel_rfl, by kernel_rfl⟩
theorem ty18 : TyIs Try.prog 18 ⟨.struct [(17, 0)], 1, 8, .agg #[.pointer none]⟩ := ⟨by kernel_rfl, by kernel_rfl⟩
theorem ty19 : TyIs Try.prog 19 ⟨.struct [(17, 0)], 1, 8, .agg #[.pointer none]⟩ := ⟨by kernel_rfl, by kernel_rfl⟩
theorem ty20 : TyIs Try.prog 20 ⟨.iface true, 1, 16, .nilIface⟩ := ⟨by kernel_rfl, by kernel_rfl⟩
theorem ty21 : TyIs Try.prog 21 ⟨.int .i32, 1, 4, .int .i32 0⟩ := ⟨by kernel_rfl, by kernel_rfl⟩
theorem ty22 : TyIs Try.prog 22 ⟨.struct [(3, 0), (3, 1), (3, 2), (3, 3), (3, 4)], 5, 40, .agg #[.int .i64 0, .int .i64 0, .int .i64 0, .int .i64 0, .int .i64 0]⟩ := ⟨by kernel_rfl, by kernel_rfl⟩
theorem ty23 : TyIs Try.prog 23 ⟨.struct [(3, 0), (3, 1), (3, 2), (3, 3), (3, 4)], 5, 40, .agg #[.int .i64 0, .int .i64 0, .int .i64 0, .int .i64 0, .int .i64 0]⟩ := ⟨by kernel_rfl, by kernel_rfl⟩
theorem ty24 : TyIs Try.prog 24 ⟨.slice 3, 1, 24, .slice none 0 0⟩ := ⟨by kernel_rfl, by kernel_rfl⟩
theorem ty25 : TyIs Try.prog 25 ⟨.slice 24, 1, 24, .slice none 0 0⟩ := ⟨by kernel_rfl, by kernel_rfl⟩
theorem ty26 : TyIs Try.prog 26 ⟨.slice 24, 1, 24, .slice none 0 0⟩ := ⟨by kernel_rfl, by kernel_rfl⟩
theorem ty27 : TyIs Try.prog 27 ⟨.int .i64, 1, 8, .int .i64 0⟩ := ⟨by kernel_rfl, by kernel_rfl⟩
theorem ty29 : TyIs Try.prog 29 ⟨.func, 1, 8, .nilFunc⟩ := ⟨by kernel_rfl, by kernel_rfl⟩
theorem ty31 : TyIs Try.prog 31 ⟨.func, 1, 8, .nilFunc⟩ := ⟨by kernel_rfl, by kernel_rfl⟩
theorem ty33 : TyIs Try.prog 33 ⟨.func, 1, 8, .nilFunc⟩ := ⟨by kernel_rfl, by kernel_rfl⟩
theorem ty35 : TyIs Try.prog 35 ⟨.func, 1, 8, .nilFunc⟩ := ⟨by kernel_rfl, by kernel_rfl⟩
theorem ty36 : TyIs Try.prog 36 ⟨.func, 1, 8, .nilFunc⟩ := ⟨by kernel_rfl, by kernel_rfl⟩
theorem ty37 : TyIs Try.prog 37 ⟨.func, 1, 8, .nilFunc⟩ := ⟨by kernel_rfl, by kernel_rfl⟩
theorem ty38 : TyIs Try.prog 38 ⟨.func, 1, 8, .nilFunc⟩ := ⟨by kernel_rfl, by kernel_rfl⟩
theorem ty39 : TyIs Try.prog 39 ⟨.func, 1, 8, .nilFunc⟩ := ⟨by kernel_rfl, by kernel_rfl⟩
theorem ty40 : TyIs Try.prog 40 ⟨.slice 89, 1, 24, .slice none 0 0⟩ := ⟨by kernel_rfl, by kernel_rfl⟩
theorem ty42 : TyIs Try.prog 42 ⟨.func, 1, 8, .nilFunc⟩ := ⟨by kernel_rfl, by kernel_rfl⟩
theorem ty44 : TyIs Try.prog 44 ⟨.func, 1, 8, .nilFunc⟩ := ⟨by kernel_rfl, by kernel_rfl⟩
theorem ty45 : TyIs Try.prog 45 ⟨.slice 4, 1, 24, .slice none 0 0⟩ := ⟨by kernel_rfl, by kernel_rfl⟩
theorem ty47 : TyIs Try.prog 47 ⟨.func, 1, 8, .nilFunc⟩ := ⟨by kernel_rfl, by kernel_rfl⟩
theorem ty49 : TyIs Try.prog 49 ⟨.func, 1, 8, .nilFunc⟩ := ⟨by kernel_rfl, by kernel_rfl⟩
theorem ty50 : TyIs Try.prog 50 ⟨.func, 1, 8, .nilFunc⟩ := ⟨by kernel_rfl, by kernel_rfl⟩
theorem ty51 : TyIs Try.prog 51 ⟨.func, 1, 8, .nilFunc⟩ := ⟨by kernel_rfl, by kernel_rfl⟩
theorem ty52 : TyIs Try.prog 52 ⟨.func, 1, 8, .nilFunc⟩ := ⟨by kernel_rfl, by kernel_rfl⟩
theorem ty53 : TyIs Try.prog 53 ⟨.func, 1, 8, .nilFunc⟩ := ⟨by kernel_rfl, by kernel_rfl⟩
theorem ty54 : TyIs Try.prog 54 ⟨.func, 1, 8, .nilFunc⟩ := ⟨by kernel_rfl, by kernel_rfl⟩
theorem ty55 : TyIs Try.prog 55 ⟨.func, 1, 8, .nilFunc⟩ := ⟨by kernel_rfl, by kernel_rfl⟩
theorem ty56 : TyIs Try.prog 56 ⟨.func, 1, 8, .nilFunc⟩ := ⟨by kernel_rfl, by kernel_rfl⟩
theorem ty57 : TyIs Try.prog 57 ⟨.slice 45, 1, 24, .slice none 0 0⟩ := ⟨by kernel_rfl, by kernel_rfl⟩
theorem ty58 : TyIs Try.prog 58 ⟨.func, 1, 8, .nilFunc⟩ := ⟨by kernel_rfl, by kernel_rfl⟩
theorem ty60 : TyIs Try.prog 60 ⟨.func, 1, 8, .nilFunc⟩ := ⟨by kernel_rfl, by kernel_rfl⟩
theorem ty62 : TyIs Try.prog 62 ⟨.func, 1, 8, .nilFunc⟩ := ⟨by kernel_rfl, by kernel_rfl⟩
theorem ty64 : TyIs Try.prog 64 ⟨.func, 1, 8, .nilFunc⟩ := ⟨by kernel_rfl, by kernel_rfl⟩
theorem ty66 : TyIs Try.prog 66 ⟨.func, 1, 8, .nilFunc⟩ := ⟨by kernel_rfl, by kernel_rfl⟩
theorem ty67 : TyIs Try.prog 67 ⟨.func, 1, 8, .nilFunc⟩ := ⟨by kernel_rfl, by kernel_rfl⟩
theorem ty68 : TyIs Try.prog 68 ⟨.func, 1, 8, .nilFunc⟩ := ⟨by kernel_rfl, by kernel_rfl⟩
theorem ty69 : TyIs Try.prog 69 ⟨.func, 1, 8, .nilFunc⟩ := ⟨by kernel_rfl, by kernel_rfl⟩
theorem ty70 : TyIs Try.prog 70 ⟨.struct [(3, 0), (3, 1)], 2, 16, .agg #[.int .i64 0, .int .i64 0]⟩ := ⟨by kernel_rfl, by kernel_rfl⟩
theorem ty71 : TyIs Try.prog 71 ⟨.struct [(3, 0), (3, 1)], 2, 16, .agg #[.int .i64 0, .int .i64 0]⟩ := ⟨by kernel_rfl, by kernel_rfl⟩
theorem ty72 : TyIs Try.prog 72 ⟨.func, 1, 8, .nilFunc⟩ := ⟨by kernel_rfl, by kernel_rfl⟩
theorem ty73 : TyIs Try.prog 73 ⟨.func, 1, 8, .nilFunc⟩ := ⟨by kernel_rfl, by kernel_rfl⟩
theorem ty74 : TyIs Try.prog 74 ⟨.func, 1, 8, .nilFunc⟩ := ⟨by kernel_rfl, by kernel_rfl⟩
theorem ty76 : TyIs Try.prog 76 ⟨.func, 1, 8, .nilFunc⟩ := ⟨by kernel_rfl, by kernel_rfl⟩
theorem ty78 : TyIs Try.prog 78 ⟨.func, 1, 8, .nilFunc⟩ := ⟨by kernel_rfl, by kernel_rfl⟩
theorem ty79 : TyIs Try.prog 79 ⟨.func, 1, 8, .nilFunc⟩ := ⟨by kernel_rfl, by kernel_rfl⟩
theorem ty80 : TyIs Try.prog 80 ⟨.func, 1, 8, .nilFunc⟩ := ⟨by kernel_rfl, by kernel_rfl⟩
theorem ty81 : TyIs Try.prog 81 ⟨.func, 1, 8, .nilFunc⟩ := ⟨by kernel_rfl, by kernel_rfl⟩
theorem ty82 : TyIs Try.prog 82 ⟨.func, 1, 8, .nilFunc⟩ := ⟨by kernel_rfl, by kernel_rfl⟩
theorem ty83 : TyIs Try.prog 83 ⟨.func, 1, 8, .nilFunc⟩ := ⟨by kernel_rfl, by kernel_rfl⟩
theorem ty84 : TyIs Try.prog 84 ⟨.func, 1, 8, .nilFunc⟩ := ⟨by kernel_rfl, by kernel_rfl⟩
theorem ty85 : TyIs Try.prog 85 ⟨.func, 1, 8, .nilFunc⟩ := ⟨by kernel_rfl, by kernel_rfl⟩
theorem ty86 : TyIs Try.prog 86 ⟨.func, 1, 8, .nilFunc⟩ := ⟨by kernel_rfl, by kernel_rfl⟩
theorem ty87 : TyIs Try.prog 87 ⟨.func, 1, 8, .nilFunc⟩ := ⟨by kernel_rfl, by kernel_rfl⟩
theorem ty88 : TyIs Try.prog 88 ⟨.struct [(3, 0), (3, 1), (3, 2)], 3, 24, .agg #[.int .i64 0, .int .i64 0, .int .i64 0]⟩ := ⟨by kernel_rfl, by kernel_rfl⟩
theorem ty89 : TyIs Try.prog 89 ⟨.struct [(3, 0), (3, 1), (3, 2)], 3, 24, .agg #[.int .i64 0, .int .i64 0, .int .i64 0]⟩ := ⟨by kernel_rfl, by kernel_rfl⟩
theorem ty90 : TyIs Try.prog 90 ⟨.func, 1, 8, .nilFunc⟩ := ⟨by kernel_rfl, by kernel_rfl⟩
theorem ty91 : TyIs Try.prog 91 ⟨.func, 1, 8, .nilFunc⟩ := ⟨by kernel_rfl, by kernel_rfl⟩
theorem ty92 : TyIs Try.prog 92 ⟨.func, 1, 8, .nilFunc⟩ := ⟨by kernel_rfl, by kernel_rfl⟩
theorem ty93 : TyIs Try.prog 93 ⟨.func, 1, 8, .nilFunc⟩ := ⟨by kernel_rfl, by kernel_rfl⟩
theorem ty94 : TyIs Try.prog 94 ⟨.func, 1, 8, .nilFunc⟩ := ⟨by kernel_rfl, by kernel_rfl⟩
theorem ty95 : TyIs Try.prog 95 ⟨.func, 1, 8, .nilFunc⟩ := ⟨by kernel_rfl, by kernel_rfl⟩
theorem ty96 : TyIs Try.prog 96 ⟨.slice 26, 1, 24, .slice none 0 0⟩ := ⟨by kernel_rfl, by kernel_rfl⟩
theorem ty97 : TyIs Try.prog 97 ⟨.slice 27, 1, 24, .slice none 0 0⟩ := ⟨by kernel_rfl, by kernel_rfl⟩
theorem ty98 : TyIs Try.prog 98 ⟨.func, 1, 8, .nilFunc⟩ := ⟨by kernel_rfl, by kernel_rfl⟩
theorem ty99 : TyIs Try.prog 99 ⟨.func, 1, 8, .nilFunc⟩ := ⟨by kernel_rfl, by kernel_rfl⟩
theorem ty100 : TyIs Try.prog 100 ⟨.func, 1, 8, .nilFunc⟩ := ⟨by kernel_rfl, by kernel_rfl⟩
theorem ty101 : TyIs Try.prog 101 ⟨.func, 1, 8, .nilFunc⟩ := ⟨by kernel_rfl, by kernel_rfl⟩
theorem ty102 : TyIs Try.prog 102 ⟨.func, 1, 8, .nilFunc⟩ := ⟨by kernel_rfl, by kernel_rfl⟩
theorem ty103 : TyIs Try.prog 103 ⟨.func, 1, 8, .nilFunc⟩ := ⟨by kernel_rfl, by kernel_rfl⟩
theorem ty104 : TyIs Try.prog 104 ⟨.func, 1, 8, .nilFunc⟩ := ⟨by kernel_rfl, by kernel_rfl⟩
theorem ty105 : TyIs Try.prog 105 ⟨.func, 1, 8, .nilFunc⟩ := ⟨by kernel_rfl, by kernel_rfl⟩
theorem ty106 : TyIs Try.prog 106 ⟨.func, 1, 8, .nilFunc⟩ := ⟨by kernel_rfl, by kernel_rfl⟩
theorem ty107 : TyIs Try.prog 107 ⟨.func, 1, 8, .nilFunc⟩ := ⟨by kernel_rfl, by kernel_rfl⟩
theorem ty108 : TyIs Try.prog 108 ⟨.func, 1, 8, .nilFunc⟩ := ⟨by kernel_rfl, by kernel_rfl⟩
theorem ty109 : TyIs Try.prog 109 ⟨.func, 1, 8, .nilFunc⟩ := ⟨by kernel_rfl, by kernel_rfl⟩
theorem ty110 : TyIs Try.prog 110 ⟨.func, 1, 8, .nilFunc⟩ := ⟨by kernel_rfl, by kernel_rfl⟩
theorem ty111 : TyIs Try.prog 111 ⟨.array 3 4, 3, 3, .agg #[.bool false, .bool false, .bool false]⟩ := ⟨by kernel_rfl, by kernel_rfl⟩
theorem ty112 : TyIs Try.prog 112 ⟨.array 5 111, 15, 15, .agg #[.bool false, .bool false, .bool false, .bool false, .bool false, .bool false, .bool false, .bool false, .bool false, .bool false, .bool false, .bool false, .bool false, .bool false, .bool false]⟩ := ⟨by kernel_rfl, by kernel_rfl⟩
theorem ty113 : TyIs Try.prog 113 ⟨.array 5 111, 15, 15, .agg #[.bool false, .bool false, .bool false, .bool false, .bool false, .bool false, .bool false, .bool false, .bool false, .bool false, .bool false, .bool false, .bool false, .bool false, .bool false]⟩ := ⟨by kernel_rfl, by kernel_rfl⟩
theorem ty114 : TyIs Try.prog 114 ⟨.func, 1, 8, .nilFunc⟩ := ⟨by kernel_rfl, by kernel_rfl⟩
theorem ty115 : TyIs Try.prog 115 ⟨.func, 1, 8, .nilFunc⟩ := ⟨by kernel_rfl, by kernel_rfl⟩
theorem ty116 : TyIs Try.prog 116 ⟨.func, 1, 8, .nilFunc⟩ := ⟨by kernel_rfl, by kernel_rfl⟩
theorem ty117 : TyIs Try.prog 117 ⟨.func, 1, 8, .nilFunc⟩ := ⟨by kernel_rfl, by kernel_rfl⟩
theorem ty118 : TyIs Try.prog 118 ⟨.func, 1, 8, .nilFunc⟩ := ⟨by kernel_rfl, by kernel_rfl⟩
theorem ty119 : TyIs Try.prog 119 ⟨.func, 1, 8, .nilFunc⟩ := ⟨by kernel_rfl, by kernel_rfl⟩
theorem ty120 : TyIs Try.prog 120 ⟨.func, 1, 8, .nilFunc⟩ := ⟨by kernel_rfl, by kernel_rfl⟩
theorem ty121 : TyIs Try.prog 121 ⟨.func, 1, 8, .nilFunc⟩ := ⟨by kernel_rfl, by kernel_rfl⟩
theorem ty122 : TyIs Try.prog 122 ⟨.func, 1, 8, .nilFunc⟩ := ⟨by kernel_rfl, by kernel_rfl⟩
theorem ty123 : TyIs Try.prog 123 ⟨.func, 1, 8, .nilFunc⟩ := ⟨by kernel_rfl, by kernel_rfl⟩
theorem ty124 : TyIs Try.prog 124 ⟨.func, 1, 8, .nilFunc⟩ := ⟨by kernel_rfl, by kernel_rfl⟩
theorem ty125 : TyIs Try.prog 125 ⟨.func, 1, 8, .nilFunc⟩ := ⟨by kernel_rfl, by kernel_rfl⟩
theorem ty126 : TyIs Try.prog 126 ⟨.func, 1, 8, .nilFunc⟩ := ⟨by kernel_rfl, by kernel_rfl⟩
theorem ty127 : TyIs Try.prog 127 ⟨.func, 1, 8, .nilFunc⟩ := ⟨by kernel_rfl, by kernel_rfl⟩
theorem ty128 : TyIs Try.prog 128 ⟨.func, 1, 8, .nilFunc⟩ := ⟨by kernel_rfl, by kernel_rfl⟩
theorem ty129 : TyIs Try.prog 129 ⟨.func, 1, 8, .nilFunc⟩ := ⟨by kernel_rfl, by kernel_rfl⟩
theorem ty130 : TyIs Try.prog 130 ⟨.int .u64, 1, 8, .int .u64 0⟩ := ⟨by kernel_rfl, by kernel_rfl⟩
theorem ty132 : TyIs Try.prog 132 ⟨.func, 1, 8, .nilFunc⟩ := ⟨by kernel_rfl, by kernel_rfl⟩
theorem ty133 : TyIs Try.prog 133 ⟨.func, 1, 8, .nilFunc⟩ := ⟨by kernel_rfl, by kernel_rfl⟩
theorem ty134 : TyIs Try.prog 134 ⟨.func, 1, 8, .nilFunc⟩ := ⟨by kernel_rfl, by kernel_rfl⟩
theorem ty135 : TyIs Try.prog 135 ⟨.func, 1, 8, .nilFunc⟩ := ⟨by kernel_rfl, by kernel_rfl⟩
theorem ty136 : TyIs Try.prog 136 ⟨.int .u32, 1, 4, .int .u32 0⟩ := ⟨by kernel_rfl, by kernel_rfl⟩
theorem ty138 : TyIs Try.prog 138 ⟨.func, 1, 8, .nilFunc⟩ := ⟨by kernel_rfl, by kernel_rfl⟩
theorem ty139 : TyIs Try.prog 139 ⟨.int .u64, 1, 8, .int .u64 0⟩ := ⟨by kernel_rfl, by kernel_rfl⟩
theorem ty141 : TyIs Try.prog 141 ⟨.func, 1, 8, .nilFunc⟩ := ⟨by kernel_rfl, by kernel_rfl⟩
theorem ty142 : TyIs Try.prog 142 ⟨.func, 1, 8, .nilFunc⟩ := ⟨by kernel_rfl, by kernel_rfl⟩
theorem ty143 : TyIs Try.prog 143 ⟨.func, 1, 8, .nilFunc⟩ := ⟨by kernel_rfl, by kernel_rfl⟩
theorem ty144 : TyIs Try.prog 144 ⟨.func, 1, 8, .nilFunc⟩ := ⟨by kernel_rfl, by kernel_rfl⟩
theorem ty150 : TyIs Try.prog 150 ⟨.int .u8, 1, 1, .int .u8 0⟩ := ⟨by kernel_rfl, by kernel_rfl⟩
theorem ty151 : TyIs Try.prog 151 ⟨.int .u8, 1, 1, .int .u8 0⟩ := ⟨by kernel_rfl, by kernel_rfl⟩
theorem ty152 : TyIs Try.prog 152 ⟨.func, 1, 8, .nilFunc⟩ := ⟨by kernel_rfl, by kernel_rfl⟩
theorem ty153 : TyIs Try.prog 153 ⟨.ptr 5, 1, 8, .pointer none⟩ := ⟨by kernel_rfl, by kernel_rfl⟩
theorem ty154 : TyIs Try.prog 154 ⟨.int .i32, 1, 4, .int .i32 0⟩ := ⟨by kernel_rfl, by kernel_rfl⟩
theorem ty155 : TyIs Try.prog 155 ⟨.int .i32, 1, 4, .int .i32 0⟩ := ⟨by kernel_rfl, by kernel_rfl⟩
theorem ty156 : TyIs Try.prog 156 ⟨.struct [(12, 0), (12, 1), (136, 2), (150, 3), (5, 4), (5, 5), (151, 6), (152, 7), (153, 8), (154, 9), (155, 10)], 11, 48, .agg #[.int .u64 0, .int .u64 0, .int .u32 0, .int .u8 0, .int .u8 0, .int .u8 0, .int .u8 0, .nilFunc, .pointer none, .int .i32 0, .int .i32 0]⟩ := ⟨by kernel_rfl, by kernel_rfl⟩
theorem ty157 : TyIs Try.prog 157 ⟨.struct [(12, 0), (12, 1), (136, 2), (150, 3), (5, 4), (5, 5), (151, 6), (152, 7), (153, 8), (154, 9), (155, 10)], 11, 48, .agg #[.int .u64 0, .int .u64 0, .int .u32 0, .int .u8 0, .int .u8 0, .int .u8 0, .int .u8 0, .nilFunc, .pointer none, .int .i32 0, .int .i32 0]⟩ := ⟨by kernel_rfl, by kernel_rfl⟩
theorem sq7 : SeqOk Try.prog 7 [(2, 0, false), (3, 1, false), (4, 2, false), (6, 3, false)] := ⟨by kernel_rfl, by kernel_rfl, by kernel_rfl, by kernel_rfl⟩
theorem sq8 : SeqOk Try.prog 8 [(2, 0, false), (3, 1, false), (4, 2, false), (6, 3, false)] := ⟨by kernel_rfl, by kernel_rfl, by kernel_rfl, by kernel_rfl⟩
theorem sq22 : SeqOk Try.prog 22 [(3, 0, false), (3, 1, false), (3, 2, false), (3, 3, false), (3, 4, false)] := ⟨by kernel_rfl, by kernel_rfl, by kernel_rfl, by kernel_rfl⟩
theorem sq23 : SeqOk Try.prog 23 [(3, 0, false), (3, 1, false), (3, 2, false), (3, 3, false), (3, 4, false)] := ⟨by kernel_rfl, by kernel_rfl, by kernel_rfl, by kernel_rfl⟩
theorem sq70 : SeqOk Try.prog 70 [(3, 0, false), (3, 1, false)] := ⟨by kernel_rfl, by kernel_rfl, by kernel_rfl, by kernel_rfl⟩
theorem sq71 : SeqOk Try.prog 71 [(3, 0, false), (3, 1, false)] := ⟨by kernel_rfl, by kernel_rfl, by kernel_rfl, by kernel_rfl⟩
theorem sq88 : SeqOk Try.prog 88 [(3, 0, false), (3, 1, false), (3, 2, false)] := ⟨by kernel_rfl, by kernel_rfl, by kernel_rfl, by kernel_rfl⟩
theorem sq89 : SeqOk Try.prog 89 [(3, 0, false), (3, 1, false), (3, 2, false)] := ⟨by kernel_rfl, by kernel_rfl, by kernel_rfl, by kernel_rfl⟩
def tyL : List (Nat × TyD) := [(1, ⟨.func, 1, 8, .nilFunc⟩), (2, ⟨.int .i64, 1, 8, .int .i64 0⟩), (3, ⟨.int .i64, 1, 8, .int .i64 0⟩), (4, ⟨.bool, 1, 1, .bool false⟩), (5, ⟨.int .u8, 1, 1, .int .u8 0⟩), (6, ⟨.int .u8, 1, 1, .int .u8 0⟩), (7, ⟨.struct [(2, 0), (3, 1), (4, 2), (6, 3)], 4, 24, .agg #[.int .i64 0, .int .i64 0, .bool false, .int .u8 0]⟩), (8, ⟨.struct [(2, 0), (3, 1), (4, 2), (6, 3)], 4, 24, .agg #[.int .i64 0, .int .i64 0, .bool false, .int .u8 0]⟩), (12, ⟨.int .u64, 1, 8, .int .u64 0⟩), (15, ⟨.ptr 146, 1, 8, .pointer none⟩), (16, ⟨.ptr 149, 1, 8, .pointer none⟩), (17, ⟨.ptr 157, 1, 8, .pointer none⟩), (18, ⟨.struct [(17, 0)], 1, 8, .agg #[.pointer none]⟩), (19, ⟨.struct [(17, 0)], 1, 8, .agg #[.pointer none]⟩), (20, ⟨.iface true, 1, 16, .nilIface⟩), (21, ⟨.int .i32, 1, 4, .int .i32 0⟩), (22, ⟨.struct [(3, 0), (3, 1), (3, 2), (3, 3), (3, 4)], 5, 40, .agg #[.int .i64 0, .int .i64 0, .int .i64 0, .int .i64 0, .int .i64 0]⟩), (23, ⟨.struct [(3, 0), (3, 1), (3, 2), (3, 3), (3, 4)], 5, 40, .agg #[.int .i64 0, .int .i64 0, .int .i64 0, .int .i64 0, .int .i64 0]⟩), (24, ⟨.slice 3, 1, 24, .slice none 0 0⟩), (25, ⟨.slice 24, 1, 24, .slice none 0 0⟩), (26, ⟨.slice 24, 1, 24, .slice none 0 0⟩), (27, ⟨.int .i64, 1, 8, .int .i64 0⟩), (29, ⟨.func, 1, 8, .nilFunc⟩), (31, ⟨.func, 1, 8, .nilFunc⟩), (33, ⟨.func, 1, 8, .nilFunc⟩), (35, ⟨.func, 1, 8, .nilFunc⟩), (36, ⟨.func, 1, 8, .nilFunc⟩), (37, ⟨.func, 1, 8, .nilFunc⟩), (38, ⟨.func, 1, 8, .nilFunc⟩), (39, ⟨.func, 1, 8, .nilFunc⟩), (40, ⟨.slice 89, 1, 24, .slice none 0 0⟩), (42, ⟨.func, 1, 8, .nilFunc⟩), (44, ⟨.func, 1, 8, .nilFunc⟩), (45, ⟨.slice 4, 1, 24, .slice none 0 0⟩), (47, ⟨.func, 1, 8, .nilFunc⟩), (49, ⟨.func, 1, 8, .nilFunc⟩), (50, ⟨.func, 1, 8, .nilFunc⟩), (51, ⟨.func, 1, 8, .nilFunc⟩), (52, ⟨.func, 1, 8, .nilFunc⟩), (53, ⟨.func, 1, 8, .nilFunc⟩), (54, ⟨.func, 1, 8, .nilFunc⟩), (55, ⟨.func, 1, 8, .nilFunc⟩), (56, ⟨.func, 1, 8, .nilFunc⟩), (57, ⟨.slice 45, 1, 24, .slice none 0 0⟩), (58, ⟨.func, 1, 8, .nilFunc⟩), (60, ⟨.func, 1, 8, .nilFunc⟩), (62, ⟨.func, 1, 8, .nilFunc⟩), (64, ⟨.func, 1, 8, .nilFunc⟩), (66, ⟨.func, 1, 8, .nilFunc⟩), (67, ⟨.func, 1, 8, .nilFunc⟩), (68, ⟨.func, 1, 8, .nilFunc⟩), (69, ⟨.func, 1, 8, .nilFunc⟩), (70, ⟨.struct [(3, 0), (3, 1)], 2, 16, .agg #[.int .i64 0, .int .i64 0]⟩), (71, ⟨.struct [(3, 0), (3, 1)], 2, 16, .agg #[.int .i64 0, .int .i64 0]⟩), (72, ⟨.func, 1, 8, .nilFunc⟩), (73, ⟨.func, 1, 8, .nilFunc⟩), (74, ⟨.func, 1, 8, .nilFunc⟩), (76, ⟨.func, 1, 8, .nilFunc⟩), (78, ⟨.func, 1, 8, .nilFunc⟩), (79, ⟨.func, 1, 8, .nilFunc⟩), (80, ⟨.func, 1, 8, .nilFunc⟩), (81, ⟨.func, 1, 8, .nilFunc⟩), (82, ⟨.func, 1, 8, .nilFunc⟩), (83, ⟨.func, 1, 8, .nilFunc⟩), (84, ⟨.func, 1, 8, .nilFunc⟩), (85, ⟨.func, 1, 8, .nilFunc⟩), (86, ⟨.func, 1, 8, .nilFunc⟩), (87, ⟨.func, 1, 8, .nilFunc⟩), (88, ⟨.struct [(3, 0), (3, 1), (3, 2)], 3, 24, .agg #[.int .i64 0, .int .i64 0, .int .i64 0]⟩), (89, ⟨.struct [(3, 0), (3, 1), (3, 2)], 3, 24, .agg #[.int .i64 0, .int .i64 0, .int .i64 0]⟩), (90, ⟨.func, 1, 8, .nilFunc⟩), (91, ⟨.func, 1, 8, .nilFunc⟩), (92, ⟨.func, 1, 8, .nilFunc⟩), (93, ⟨.func, 1, 8, .nilFunc⟩), (94, ⟨.func, 1, 8, .nilFunc⟩), (95, ⟨.func, 1, 8, .nilFunc⟩), (96, ⟨.slice 26, 1, 24, .slice none 0 0⟩), (97, ⟨.slice 27, 1, 24, .slice none 0 0⟩), (98, ⟨.func, 1, 8, .nilFunc⟩), (99, ⟨.func, 1, 8, .nilFunc⟩), (100, ⟨.func, 1, 8, .nilFunc⟩), (101, ⟨.func, 1, 8, .nilFunc⟩), (102, ⟨.func, 1, 8, .nilFunc⟩), (103, ⟨.func, 1, 8, .nilFunc⟩), (104, ⟨.func, 1, 8, .nilFunc⟩), (105, ⟨.func, 1, 8, .nilFunc⟩), (106, ⟨.func, 1, 8, .nilFunc⟩), (107, ⟨.func, 1, 8, .nilFunc⟩), (108, ⟨.func, 1, 8, .nilFunc⟩), (109, ⟨.func, 1, 8, .nilFunc⟩), (110, ⟨.func, 1, 8, .nilFunc⟩), (111, ⟨.array 3 4, 3, 3, .agg #[.bool false, .bool false, .bool false]⟩), (112, ⟨.array 5 111, 15, 15, .agg #[.bool false, .bool false, .bool false, .bool false, .bool false, .bool false, .bool false, .bool false, .bool false, .bool false, .bool false, .bool false, .bool false, .bool false, .bool false]⟩), (113, ⟨.array 5 111, 15, 15, .agg #[.bool false, .bool false, .bool false, .bool false, .bool false, .bool false, .bool false, .bool false, .bool false, .bool false, .bool false, .bool false, .bool false, .bool false, .bool false]⟩), (114, ⟨.func, 1, 8, .nilFunc⟩), (115, ⟨.func, 1, 8, .nilFunc⟩), (116, ⟨.func, 1, 8, .nilFunc⟩), (117, ⟨.func, 1, 8, .nilFunc⟩), (118, ⟨.func, 1, 8, .nilFunc⟩), (119, ⟨.func, 1, 8, .nilFunc⟩), (120, ⟨.func, 1, 8, .nilFunc⟩), (121, ⟨.func, 1, 8, .nilFunc⟩), (122, ⟨.func, 1, 8, .nilFunc⟩), (123, ⟨.func, 1, 8, .nilFunc⟩), (124, ⟨.func, 1, 8, .nilFunc⟩), (125, ⟨.func, 1, 8, .nilFunc⟩), (126, ⟨.func, 1, 8, .nilFunc⟩), (127, ⟨.func, 1, 8, .nilFunc⟩), (128, ⟨.func, 1, 8, .nilFunc⟩), (129, ⟨.func, 1, 8, .nilFunc⟩), (130, ⟨.int .u64, 1, 8, .int .u64 0⟩), (132, ⟨.func, 1, 8, .nilFunc⟩), (133, ⟨.func, 1, 8, .nilFunc⟩), (134, ⟨.func, 1, 8, .nilFunc⟩), (135, ⟨.func, 1, 8, .nilFunc⟩), (136, ⟨.int .u32, 1, 4, .int .u32 0⟩), (138, ⟨.func, 1, 8, .nilFunc⟩), (139, ⟨.int .u64, 1, 8, .int .u64 0⟩), (141, ⟨.func, 1, 8, .nilFunc⟩), (142, ⟨.func, 1, 8, .nilFunc⟩), (143, ⟨.func, 1, 8, .nilFunc⟩), (144, ⟨.func, 1, 8, .nilFunc⟩), (150, ⟨.int .u8, 1, 1, .int .u8 0⟩), (151, ⟨.int .u8, 1, 1, .int .u8 0⟩), (152, ⟨.func, 1, 8, .nilFunc⟩), (153, ⟨.ptr 5, 1, 8, .pointer none⟩), (154, ⟨.int .i32, 1, 4, .int .i32 0⟩), (155, ⟨.int .i32, 1, 4, .int .i32 0⟩), (156, ⟨.struct [(12, 0), (12, 1), (136, 2), (150, 3), (5, 4), (5, 5), (151, 6), (152, 7), (153, 8), (154, 9), (155, 10)], 11, 48, .agg #[.int .u64 0, .int .u64 0, .int .u32 0, .int .u8 0, .int .u8 0, .int .u8 0, .int .u8 0, .nilFunc, .pointer none, .int .i32 0, .int .i32 0]⟩), (157, ⟨.struct [(12, 0), (12, 1), (136, 2), (150, 3), (5, 4), (5, 5), (151, 6), (152, 7), (153, 8), (154, 9), (155, 10)], 11, 48, .agg #[.int .u64 0, .int .u64 0, .int .u32 0, .int .u8 0, .int .u8 0, .int .u8 0, .int .u8 0, .nilFunc, .pointer none, .int .i32 0, .int .i32 0]⟩)]
def lookT : List (Nat × TyD) → Nat → Option TyD
  | [], _ => none
  | (k, v) :: e, t => bif Nat.beq k t then some v else lookT e t
def AllTy (P : Program) : List (Nat × TyD) → Prop
  | [] => True
  | (k, v) :: e => TyIs P k v ∧ AllTy P e
theorem allTy_look {P : Program} : ∀ {l : List (Nat × TyD)} {T : Nat} {d : TyD}, AllTy P l → lookT l T = some d → TyIs P T d
  | [], _, _, _, h => by cases h
  | (k, v) :: e, T, d, ha, h => by
    simp only [lookT] at h
    cases hb : Nat.beq k T
    · rw [hb] at h; exact allTy_look ha.2 h
    · rw [hb] at h; cases h; rw [← Nat.eq_of_beq_eq_true hb]; exact ha.1
theorem tyL_ok : AllTy Try.prog tyL := ⟨ty1, ty2, ty3, ty4, ty5, ty6, ty7, ty8, ty12, ty15, ty16, ty17, ty18, ty19, ty20, ty21, ty22, ty23, ty24, ty25, ty26, ty27, ty29, ty31, ty33, ty35, ty36, ty37, ty38, ty39, ty40, ty42, ty44, ty45, ty47, ty49, ty50, ty51, ty52, ty53, ty54, ty55, ty56, ty57, ty58, ty60, ty62, ty64, ty66, ty67, ty68, ty69, ty70, ty71, ty72, ty73, ty74, ty76, ty78, ty79, ty80, ty81, ty82, ty83, ty84, ty85, ty86, ty87, ty88, ty89, ty90, ty91, ty92, ty93, ty94, ty95, ty96, ty97, ty98, ty99, ty100, ty101, ty102, ty103, ty104, ty105, ty106, ty107, ty108, ty109, ty110, ty111, ty112, ty113, ty114, ty115, ty116, ty117, ty118, ty119, ty120, ty121, ty122, ty123, ty124, ty125, ty126, ty127, ty128, ty129, ty130, ty132, ty133, ty134, ty135, ty136, ty138, ty139, ty141, ty142, ty143, ty144, ty150, ty151, ty152, ty153, ty154, ty155, ty156, ty157, trivial⟩
theorem ty {T : TypeId} {d : TyD} (h : lookT tyL T = some d) : TyIs Try.prog T d := allTy_look tyL_ok h
def seqL : List (Nat × List (TypeId × Nat × Bool)) := [(7, [(2, 0, false), (3, 1, false), (4, 2, false), (6, 3, false)]), (8, [(2, 0, false), (3, 1, false), (4, 2, false), (6, 3, false)]), (22, [(3, 0, false), (3, 1, false), (3, 2, false), (3, 3, false), (3, 4, false)]), (23, [(3, 0, false), (3, 1, false), (3, 2, false), (3, 3, false), (3, 4, false)]), (70, [(3, 0, false), (3, 1, false)]), (71, [(3, 0, false), (3, 1, false)]), (88, [(3, 0, false), (3, 1, false), (3, 2, false)]), (89, [(3, 0, false), (3, 1, false), (3, 2, false)])]
def lookS : List (Nat × List (TypeId × Nat × Bool)) → Nat → Option (List (TypeId × Nat × Bool))
  | [], _ => none
  | (k, v) :: e, t => bif Nat.beq k t then some v else lookS e t
def AllSeq (P : Program) : List (Nat × List (TypeId × Nat × Bool)) → Prop
  | [] => True
  | (k, v) :: e => SeqOk P k v ∧ AllSeq P e
theorem allSeq_look {P : Program} : ∀ {l : List (Nat × List (TypeId × Nat × Bool))} {T : Nat} {d : List (TypeId × Nat × Bool)}, AllSeq P l → lookS l T = some d → SeqOk P T d
  | [], _, _, _, h => by cases h
  | (k, v) :: e, T, d, ha, h => by
    simp only [lookS] at h
    cases hb : Nat.beq k T
    · rw [hb] at h; exact allSeq_look ha.2 h
    · rw [hb] at h; cases h; rw [← Nat.eq_of_beq_eq_true hb]; exact ha.1
theorem seqL_ok : AllSeq Try.prog seqL := ⟨sq7, sq8, sq22, sq23, sq70, sq71, sq88, sq89, trivial⟩
theorem seq {T : TypeId} {d : List (TypeId × Nat × Bool)} (h : lookS seqL T = some d) : SeqOk Try.prog T d := allSeq_look seqL_ok h
theorem fn34 : FnOk Try.prog 34 := fnOk Try.func34 rfl (by kernel_rfl)
theorem fn35 : FnOk Try.prog 35 := fnOk Try.func35 rfl (by kernel_rfl)
theorem fn36 : FnOk Try.prog 36 := fnOk Try.func36 rfl (by kernel_rfl)
theorem fn37 : FnOk Try.prog 37 := fnOk Try.func37 rfl (by kernel_rfl)
theorem fn38 : FnOk Try.prog 38 := fnOk Try.func38 rfl (by kernel_rfl)
theorem fn39 : FnOk Try.prog 39 := fnOk Try.func39 rfl (by kernel_rfl)
theorem fn40 : FnOk Try.prog 40 := fnOk Try.func40 rfl (by kernel_rfl)
theorem fn57 : FnOk Try.prog 57 := fnOk Try.func57 rfl (by kernel_rfl)
theorem fn61 : FnOk Try.prog 61 := fnOk Try.func61 rfl (by kernel_rfl)
theorem fn70 : FnOk Try.prog 70 := fnOk Try.func70 rfl (by kernel_rfl)
theorem fn71 : FnOk Try.prog 71 := fnOk Try.func71 rfl (by kernel_rfl)
theorem fn72 : FnOk Try.prog 72 := fnOk Try.func72 rfl (by kernel_rfl)
theorem fn73 : FnOk Try.prog 73 := fnOk Try.func73 rfl (by kernel_rfl)
theorem fn74 : FnOk Try.prog 74 := fnOk Try.func74 rfl (by kernel_rfl)
theorem fn75 : FnOk Try.prog 75 := fnOk Try.func75 rfl (by kernel_rfl)
theorem fn76 : FnOk Try.prog 76 := fnOk Try.func76 rfl (by kernel_rfl)
theorem fn77 : FnOk Try.prog 77 := fnOk Try.func77 rfl (by kernel_rfl)
theorem fn78 : FnOk Try.prog 78 := fnOk Try.func78 rfl (by kernel_rfl)
theorem fn93 : FnOk Try.prog 93 := fnOk Try.func93 rfl (by kernel_rfl)
theorem fn100 : FnOk Try.prog 100 := fnOk Try.func100 rfl (by kernel_rfl)
theorem mixed : Try.prog.follows .mixedOrders = true := by kernel_rfl
end Go.Proofs.Ytccidiflnmchiaa
namespace Go.Proofs.Ytccidiflnmchiaa
open Go.RowKit
abbrev encInts (l : List Int) : V := LV 1 vi l
abbrev encBools (l : List Bool) : V := LV 1 vb l
abbrev encMask (b : List (List Bool)) : V := LV 1 encBools b
structure Sheet where
  cols : Int
  rows : Int
  weight : Int
  clear : Int
  lean : Int
def Sheet.enc (s : Sheet) : V := .agg [vi s.cols, vi s.rows, vi s.weight, vi s.clear, vi s.lean]
def withinB (n lo hi : Int) : Bool := decide (lo ≤ n) && decide (n ≤ hi)
theorem withinB_iff {n lo hi : Int} : withinB n lo hi = true ↔ lo ≤ n ∧ n ≤ hi := by simp [withinB]
theorem withinB_no {n lo hi : Int} : withinB n lo hi = false ↔ ¬ (lo ≤ n ∧ n ≤ hi) := by rw [← withinB_iff]; simp
def Sheet.ok (s : Sheet) : Bool := withinB s.cols 1 40 && withinB s.rows 1 60 && withinB s.weight 1 8 && withinB s.clear 0 20 && withinB s.lean 0 8
set_option maxHeartbeats 400000 in
theorem within_p (n lo hi : Int) : PCalls Try.prog 57 [vi n, vi lo, vi hi] (· = vb (withinB n lo hi)) := by
  refine pcalls_of_aw Try.func57 rfl (Nat.le_of_ble_eq_true rfl) ?_
  (repeat' (first | (refine ar_isq ?_; first | refine ar_q (qs_move rfl) (dc rfl) ?_ | refine ar_q (qs_assign rfl) (dc rfl) ?_ | (refine is_binOp ?_; first | refine ar_q (qs_leq rfl rfl) (dc rfl) ?_ | refine ar_q (qs_geq rfl rfl) (dc rfl) ?_) | (refine is_pick ?_; first | refine ar_q (qs_pick_t rfl rfl) (dc rfl) ?_ | refine ar_q (qs_pick_f rfl rfl) (dc rfl) ?_)) | (refine ar_guard rfl rfl rfl rfl (dc rfl) ?_ ?_ <;> intro hg <;> first | exact absurd hg (by decide) | ((first | replace hg := hgT hg | replace hg := hgF hg | replace hg := hgNT hg | replace hg := hgNF hg | replace hg := hgBT hg | replace hg := hgBF hg | replace hg := hgV hg | replace hg := hgW hg | skip); (try dsimp only at hg); (try (have _h : True := hg; clear _h hg)); first | (exfalso; omega) | skip)) | (refine ar_guard_u rfl rfl rfl rfl (dc rfl) ?_) | (refine ar_nil ?_) | (refine aw_seq ?_) | (refine aw_skip ?_) | (refine aw_block ?_) | (refine aw_exit ?_) | (refine aw_region ?_) | (refine aw_cond rfl ?_ ?_ <;> intro hg <;> first | exact absurd hg (by decide) | ((first | replace hg := hgT hg | replace hg := hgF hg | replace hg := hgNT hg | replace hg := hgNF hg | replace hg := hgBT hg | replace hg := hgBF hg | replace hg := hgV hg | replace hg := hgW hg | skip); (try dsimp only at hg); (try (have _h : True := hg; clear _h hg)); first | (exfalso; omega) | skip))))
  all_goals (refine aw_ret ?_; (repeat (first | refine ret_then ?_ | refine ret_block ?_)); refine bq1 rfl ⟨?_, rfl⟩)
  all_goals (simp only [vb, constV, withinB]; congr 2; simp; try omega)
end Go.Proofs.Ytccidiflnmchiaa
namespace Go.Proofs.Ytccidiflnmchiaa
open Go.RowKit
structure Clash where
  upper : Int
  lower : Int
  col : Int
instance : Inhabited Clash := ⟨⟨0, 0, 0⟩⟩
def Clash.enc (x : Clash) : V := .agg [vi x.upper, vi x.lower, vi x.col]
end Go.Proofs.Ytccidiflnmchiaa
namespace Go.Proofs.Ytccidiflnmchiaa
open Go.RowKit
set_option maxHeartbeats 400000 in
theorem rwithin_p (n lo hi : Int) : PCalls Try.prog 61 [vi n, vi lo, vi hi] (· = vb (withinB n lo hi)) := by
  refine pcalls_of_aw Try.func61 rfl (Nat.le_of_ble_eq_true rfl) ?_
  (repeat' (first | (refine ar_isq ?_; first | refine ar_q (qs_move rfl) (dc rfl) ?_ | refine ar_q (qs_assign rfl) (dc rfl) ?_ | (refine is_binOp ?_; first | refine ar_q (qs_leq rfl rfl) (dc rfl) ?_ | refine ar_q (qs_geq rfl rfl) (dc rfl) ?_) | (refine is_pick ?_; first | refine ar_q (qs_pick_t rfl rfl) (dc rfl) ?_ | refine ar_q (qs_pick_f rfl rfl) (dc rfl) ?_)) | (refine ar_guard rfl rfl rfl rfl (dc rfl) ?_ ?_ <;> intro hg <;> first | exact absurd hg (by decide) | ((try simp only [Bool.not_eq_true', Bool.not_eq_false', Bool.not_true, Bool.not_false, decide_eq_true_eq, decide_eq_false_iff_not, not_true_eq_false, Int.not_lt, Int.not_le, withinB_iff, withinB_no] at hg); (try (have _h : True := hg; clear _h hg)); first | (exfalso; omega) | skip)) | (refine ar_guard_u rfl rfl rfl rfl (dc rfl) ?_) | (refine ar_nil ?_) | (refine aw_seq ?_) | (refine aw_skip ?_) | (refine aw_block ?_) | (refine aw_exit ?_) | (refine aw_region ?_) | (refine aw_cond rfl ?_ ?_ <;> intro hg <;> first | exact absurd hg (by decide) | ((try simp only [Bool.not_eq_true', Bool.not_eq_false', Bool.not_true, Bool.not_false, decide_eq_true_eq, decide_eq_false_iff_not, not_true_eq_false, Int.not_lt, Int.not_le, withinB_iff, withinB_no] at hg); (try (have _h : True := hg; clear _h hg)); first | (exfalso; omega) | skip))))
  all_goals (refine aw_ret ?_; (repeat (first | refine ret_then ?_ | refine ret_block ?_)); refine bq1 rfl ⟨?_, rfl⟩)
  all_goals (simp only [vb, constV, withinB]; congr 2; simp; try omega)
end Go.Proofs.Ytccidiflnmchiaa
namespace Go.Proofs.Ytccidiflnmchiaa
open Go.ChangeShapes Go.WideShapes Go.ChangeAt Go.RowKit Go.Deep
theorem own_knob : ownKnob Try.prog.godebug = none := by kernel_rfl
theorem laid_out : laidOutB Try.prog = true := by kernel_rfl
/-- All memory avs it stands. -/
def snap (w : World) : Imm := fun b => w.heap[b]?
/-- The cells of a value. -/
def CellsAre (I : Imm) (v : V) (cs : List Value) : Prop := v.cells.length = cs.length ∧ ∀ (j : Nat) x u, v.cells[j]? = some x → cs[j]? = some u → VRel I [] x u
/-- A type whose values, read avs data, are elements of 'α'. -/
structure ReadsV (P : Program) (t : TypeId) {α : Type} (e : α → V) (ok : α → Prop) (sz : Nat) : Prop where
  cells : P.cellsOf t = sz
  pos : 0 < sz
  read : ∀ {H : Type} {enc : TypeId × Value → H} {w : World} {base : Nat} {spare : Nat → Bool} {held : Bool} {fuel : Nat} {cs : List Value} {x : DataW H × List MemPlace},
    DataW.trod enc P w base spare held fuel t cs = some x → ∃ a : α, ok a ∧ cs.length = sz ∧ CellsAre (snap w) (e a) cs
def i64ok (n : Int) : Prop := -9223372036854775808 ≤ n ∧ n ≤ 9223372036854775807
theorem rv_int {P : Program} {t : TypeId} (ht : P.underlying t = some (.int .i64)) (hc : P.cellsOf t = 1) : ReadsV P t vi i64ok 1 :=
  ⟨hc, by omega, fun h => by
    obtain ⟨n, rfl, _, hw⟩ := DataW.trod_int ht h
    exact ⟨n, bounds_i64 hw, rfl, rfl, fun j x u hx hu => by
      cases j with
      | zero => simp [cells_vi] at hx hu; subst hx hu; exact .s _
      | succ j => simp at hu⟩⟩
theorem rv_bool {P : Program} {t : TypeId} (ht : P.underlying t = some .bool) (hc : P.cellsOf t = 1) : ReadsV P t vb (fun _ => True) 1 :=
  ⟨hc, by omega, fun h => by
    obtain ⟨n, rfl, _⟩ := DataW.trod_bool ht h
    exact ⟨n, trivial, rfl, rfl, fun j x u hx hu => by
      cases j with
      | zero => simp [cells_vb] at hx hu; subst hx hu; exact .s _
      | succ j => simp at hu⟩⟩
theorem cell_block {w : World} {b i : Nat} {sp : Option Nat} {v : Value} (h : w.cell? ⟨b, i, sp⟩ = some v) : ∃ cs ty fz, w.heap[b]? = some (.cells cs ty fz) ∧ cs[i]? = some v := by
  unfold World.cell? at h
  simp only at h
  split at h
  · rename_i c ty fz hb
    split at h
    · cases h
    · exact ⟨c, ty, fz, hb, h⟩
  · cases h
theorem add_none (b off n : Nat) : (⟨b, off, none⟩ : Addr).add n = ⟨b, off + n, none⟩ := by
  unfold Addr.add
  split
  · rename_i h; subst h; rfl
  · rfl
theorem read_list {α : Type} [Inhabited α] {P : Program} {t e : TypeId} {ea : α → V} {ok : α → Prop} {sz : Nat} (ht : P.underlying t = some (.slice e)) (R : ReadsV P e ea ok sz)
    {H : Type} {enc : TypeId × Value → H} {w : World} {base : Nat} {spare : Nat → Bool} {held : Bool} {fuel : Nat} {cs : List Value} {x : DataW H × List MemPlace}
    (h : DataW.trod enc P w base spare held fuel t cs = some x) : ∃ (l : List α) (u : Value), (∀ y, y ∈ l → ok y) ∧ cs = [u] ∧ VRel (snap w) [] (LV sz ea l) u := by
  rcases open_slice ht h with ⟨rfl, _⟩ | ⟨a, len, cap, m, n, D, Pl, rfl, _, hl, hc, hm, _, hi⟩
  · exact ⟨[], _, (fun y hy => by cases hy), rfl, VRel.none_list none⟩
  · have hml : len ≤ m := by rw [hm]; split <;> omega
    have hex : ∀ i : Fin len, ∃ y : α, ∃ cs', w.cells? base (a.add (i * P.cellsOf e)) (P.cellsOf e) = some cs' ∧ ok y ∧ cs'.length = sz ∧ CellsAre (snap w) (ea y) cs' := fun i => by
      obtain ⟨cs', h1, h2⟩ := hi i (by omega)
      obtain ⟨y, hy⟩ := R.read h2
      exact ⟨y, cs', h1, hy⟩
    obtain ⟨f, hf⟩ := Classical.skolem.1 hex
    obtain ⟨g, hg⟩ := Classical.skolem.1 hf
    have hel : ∀ i (hi : i < len), el (List.ofFn f) i = f ⟨i, hi⟩ := fun i hi => by rw [el_eq (by simpa using hi)]; simp
    refine ⟨List.ofFn f, _, fun y hy => ?_, rfl, ?_⟩
    · obtain ⟨k, hk, rfl⟩ := mem_el hy
      rw [hel k (by simpa using hk)]
      exact (hg _).2.1
    obtain ⟨b, off, sp⟩ := a
    have hspot : 0 < len → sp = none := fun h0 => by
      obtain ⟨h1, _, h3, _⟩ := hg ⟨0, h0⟩
      obtain ⟨_, hcl, hat⟩ := World.cells?_some h1
      have hpos := R.pos
      have h5 := hat 0 (by rw [R.cells]; exact hpos)
      rw [List.getElem?_eq_getElem (by omega)] at h5
      simpa [Addr.add] using World.cell?_spot h5
    have hcell : ∀ (i : Nat) (hi : i < len) (j : Nat), j < sz → ∃ cs' ty fz, w.heap[b]? = some (.cells cs' ty fz) ∧ sp = none ∧ cs'[off + i * sz + j]? = some ((g ⟨i, hi⟩).getD j undef) := by
      intro i hi j hj
      obtain ⟨h1, _, h3, _⟩ := hg ⟨i, hi⟩
      obtain ⟨_, hcl, hat⟩ := World.cells?_some h1
      have hu : (g ⟨i, hi⟩)[j]? = some ((g ⟨i, hi⟩).getD j undef) := by simp [show j < (g ⟨i, hi⟩).length by omega]
      have h5 := hat j (by rw [R.cells]; exact hj)
      rw [hu] at h5
      have hsp : sp = none := hspot (by omega)
      subst hsp
      rw [add_none, add_none, R.cells] at h5
      obtain ⟨cs', ty, fz, h6, h7⟩ := cell_block h5
      exact ⟨cs', ty, fz, h6, rfl, h7⟩
    have hsz : ∀ i (hi : i < len), (ea (el (List.ofFn f) i)).cells.length = sz := fun i hi => by
      rw [hel i hi]
      obtain ⟨_, _, h3, h4⟩ := hg ⟨i, hi⟩
      rw [h4.1, h3]
    have hlen : (List.ofFn f).length = len := by simp
    show VRel (snap w) [] (.list sz (List.ofFn f).length fun i => ea (el (List.ofFn f) i)) _
    rw [hlen]
    refine .list (us := fun i j => if hi : i < len then (g ⟨i, hi⟩).getD j undef else undef) hl (by first | exact hc | (have h : cap ≤ 2 ^ 63 - 1 := hc; show cap ≤ maxLen; unfold maxLen; omega)) (fun h0 => ?_) (fun i hi => hsz i hi) (fun i j v hi hj => ?_)
    · obtain ⟨cs', ty, fz, h6, rfl, _⟩ := hcell 0 h0 0 R.pos
      refine ⟨b, off, rfl, fun i hi => ⟨cs', ty, fz, h6, fun j hj => ?_⟩⟩
      obtain ⟨cs2, ty2, fz2, h8, _, h9⟩ := hcell i hi j hj
      rw [h6] at h8
      cases h8
      simpa [hi] using h9
    · obtain ⟨_, _, h3, h4⟩ := hg ⟨i, hi⟩
      have hj2 := (List.getElem?_eq_some_iff.1 hj).1
      rw [hsz i hi] at hj2
      rw [hel i hi] at hj
      have := h4.2 j v ((g ⟨i, hi⟩).getD j undef) hj (by simp [show j < (g ⟨i, hi⟩).length by omega])
      simpa [hi] using this
theorem rv_list {α : Type} [Inhabited α] {P : Program} {t e : TypeId} {ea : α → V} {ok : α → Prop} {sz : Nat} (ht : P.underlying t = some (.slice e)) (hc : P.cellsOf t = 1) (R : ReadsV P e ea ok sz) : ReadsV P t (LV sz ea) (fun l => ∀ y, y ∈ l → ok y) 1 :=
  ⟨hc, by omega, fun h => by
    obtain ⟨l, u, h1, rfl, h2⟩ := read_list ht R h
    exact ⟨l, h1, rfl, rfl, fun j x u' hx hu => by
      cases j with
      | zero => simp [LV_cells] at hx hu; subst hx hu; exact h2
      | succ j => simp at hu⟩⟩
section
variable {P : Program} {H : Type} {enc : TypeId × Value → H} {w : World} {base : Nat} {spare : Nat → Bool} {held : Bool} {r : Reach} {b0 : Nat} {v : Value} {d : DataW H} {p : List MemPlace} {t e : TypeId}
theorem arg_list {α : Type} [Inhabited α] {ea : α → V} {ok : α → Prop} {sz : Nat} (ht : P.underlying t = some (.slice e)) (R : ReadsV P e ea ok sz) (hv : Value.okWide P w r b0 t v) (h : DataW.Trod enc P w base spare held t v d p) : ∃ l : List α, (∀ y, y ∈ l → ok y) ∧ VRel (snap w) [] (LV sz ea l) v := by
  obtain ⟨a, len, cap, rfl⟩ := okWide_slice ht hv
  obtain ⟨fuel, hf⟩ := h
  obtain ⟨l, u, h1, h2, h3⟩ := read_list ht R hf
  simp only [Value.cells, List.cons.injEq, and_true] at h2
  exact ⟨l, h1, h2 ▸ h3⟩
theorem arg_int (ht : P.underlying t = some (.int .i64)) (hv : Value.okWide P w r b0 t v) (h : DataW.Trod enc P w base spare held t v d p) : ∃ n : Int, i64ok n ∧ VRel (snap w) [] (vi n) v := by
  obtain ⟨n, rfl, _, _, hw⟩ := open_int ht hv h
  exact ⟨n, bounds_i64 hw, .s _⟩
theorem rels_nil {I : Imm} : VRels I [] [] #[] := ⟨rfl, fun j v u h => by simp at h⟩
theorem rels_cons {I : Imm} {x : V} {u : Value} {vs : List V} {us : List Value} (h : VRel I [] x u) (k : VRels I [] vs us.toArray) : VRels I [] (x :: vs) (u :: us).toArray := by
  refine ⟨by have := k.1; simpa using this, fun j v y hj hu => ?_⟩
  cases j with
  | zero => simp at hj hu; subst hj hu; exact h
  | succ j => exact k.2 j v y (by simpa using hj) (by simpa using hu)
end
end Go.Proofs.Ytccidiflnmchiaa
namespace Go.Proofs.Ytccidiflnmchiaa
open Go.ChangeShapes Go.WideShapes Go.ChangeAt Go.RowKit Go.Deep
structure Screen where
  period : Int
  phase : Int
def Screen.enc (s : Screen) : V := .agg [vi s.period, vi s.phase]
theorem rv_Int : ReadsV Try.prog 3 vi i64ok 1 := rv_int Try.underlying3 (by kernel_rfl)
theorem rv_Bool : ReadsV Try.prog 4 vb (fun _ => True) 1 := rv_bool Try.underlying4 (by kernel_rfl)
theorem rv_bools : ReadsV Try.prog 45 (LV 1 vb) (fun l => ∀ y, y ∈ l → True) 1 := rv_list Try.underlying45 (by kernel_rfl) rv_Bool
end Go.Proofs.Ytccidiflnmchiaa
namespace Go.Proofs.Ytccidiflnmchiaa
open Go.RowKit
section
variable {H : Heap} {σ : List (Option Nat)} {fr : Nat → Prop} {α : Type} [Inhabited α]
theorem frz_as {b sz n N : Nat} {e : α → V} {l : List α} {f : Nat → V} (hf : fr b) (hb : H[b]? = some (.arr sz N f)) (hn : n = N) (hl : l.length = N) (hg : ∀ i, i < N → f i = e (el l i)) (hc : ∀ y, V.closed.all (e y).cells = true) : VSub H σ fr (.sl sz b 0 n) (LV sz e l) := by
  subst hn hl
  exact .frz hf hb (by omega) (fun i hi => by rw [hg i hi]; exact hc _) (fun i hi => by rw [Nat.zero_add]; exact (hg i hi).symm)
end
theorem part_of_eq {agg : Bool} {x v v' : V} {off size : Nat} (h : x = v) (hv : partV agg v.cells off size = some v') : partV agg x.cells off size = some v' := by subst h; exact hv
section
variable {P : Program} {r : Option Nat} {m nt : Nat} {Q : Post} {env : Env} {H : Heap} {ops : Array Oper} {l : List Stp} {ty : TypeId} {pos : String} {after : Array Edge} {x y : Operand} {T E : TypeId} {d de : TyD} {i dst : Nat} {keep : Bool}
theorem ar_make_v {n : Nat} {kl kc : IntKind} {v v' : Int} (ht : TyIs P T d) (hk : d.tk = .slice E) (he : TyIs P E de) (hx : eo env x = some (.s (.int kl v))) (hy : eo env y = some (.s (.int kc v'))) (hv : v = (n : Int)) (hv' : v' = (n : Int)) (hd : dst < nt) (hok : (constV de.zero).ok = true) (hz : (constV de.zero).cells.length = de.size) (hb : de.bytes * n ≤ 281474976710656) (hm : n ≤ maxLen)
    (h : AR P r m nt ops Q l ((dst, .sl de.size H.length 0 n) :: env) (H ++ [.arr de.size n (fun _ => constV de.zero)])) : AR P r m nt ops Q (.l i ⟨some dst, .makeSlice T x y, ty, pos, after, none⟩ keep :: l) env H := by
  subst hv hv'
  exact ar_make ht hk he hx hy hd hok hz hb hm h
end
section
variable {P : Program} {r : Option Nat} {m nt : Nat} {Q : Post} {env : Env} {H : Heap} {ops : Array Oper} {l : List Stp} {ty : TypeId} {pos : String} {after : Array Edge} {i : Nat} {T : TypeId} {d : TyD} {x y : Operand}
theorem putPart_one {x v : V} (h : ∀ cs, x ≠ .agg cs) : putPart x 0 v = v := by
  unfold putPart
  split
  · exact (h _ rfl).elim
  · rfl
/-- A store of a whole element of one cell, the row said in new words. -/
theorem ar_store_as {v : V} {sz b j n : Nat} {f : Nat → V} (g : Nat → V) (ht : TyIs P T d) (hx : eo env x = some (.ptr sz b j 0)) (hy : eo env y = some v) (hH : H[b]? = some (.arr sz n f)) (hok : v.ok = true) (hone : v.cells.all V.one = true)
    (hsz : v.cells.length = d.size) (hi : j < n) (hoff : 0 + d.size ≤ sz) (hv : ∀ cs, v ≠ .agg cs) (hv1 : v.cells.length = 1) (hf1 : (f j).cells.length = 1) (hf : ∀ cs, f j ≠ .agg cs) (hgj : g j = v) (hg : ∀ i, i < n → i ≠ j → g i = f i) (h : AR P r m nt ops Q l env (H.set b (.arr sz n g))) :
    AR P r m nt ops Q (.l i ⟨none, .store T x y, ty, pos, after, none⟩ false :: l) env H :=
  ar_l0 (ls_store_g ht hx hy hok hone hH hi hsz hoff (.inr ⟨rfl, hv1, hf1, hv⟩) (by rw [putPart_one hf, hgj]) hg) (fun v H' a => by subst a; exact h) (fun _ _ h => h.elim)
end
end Go.Proofs.Ytccidiflnmchiaa
namespace Go.Proofs.Ytccidiflnmchiaa
open Go.RowKit
section
variable {X : Ctx} {I J K : Imm} {ρ : List (Option (Nat × Nat))} {H : Heap} {w w' : World}
theorem WOk.grown {row : Option Nat} (h : WOk X I ρ H w) (hg : w.grownBy w' row) (hrow : ∀ r, row = some r → X.w.heap.size ≤ r ∧ I r = Option.none ∧ ∃ o : Obj, w.heap[r]? = some o ∧ o.isCells = false) (hm : ∀ (k : Nat) m, H[k]? ≠ some (.map m)) : WOk X I ρ H w' := by
  have blk : ∀ b o, w.heap[b]? = some o → (row ≠ some b) → w'.heap[b]? = some o := fun b o hb hr => (hg.block b (Array.getElem?_eq_some_iff.1 hb).1 (Ne.symm hr)).trans hb
  exact { len := h.len, inj := h.inj
          imm := fun b o hb => blk b o (h.imm b o hb) fun e => by rw [(hrow b e).2.1] at hb; cases hb
          apart := h.apart, size := h.size, none := h.none
          arr := fun k sz n f b z hk hρ => by
            obtain ⟨cs, ty, h1, h2⟩ := h.arr k sz n f b z hk hρ
            exact ⟨cs, ty, blk b _ h1 (fun e => by obtain ⟨_, _, o, h3, h4⟩ := hrow b e; rw [h1] at h3; cases h3; cases h4), h2⟩
          map := fun k m hk => (hm k m hk).elim
          mine := h.mine, news := h.news, le := h.le, pre := h.pre, os := hg.os.trans h.os, tape := hg.tape.trans h.tape, out := hg.output.trans h.out, grow := Nat.le_trans h.grow hg.size
          keep := fun b hb hl => (hg.block b (Nat.lt_of_lt_of_le hb h.grow) fun e => by have := (hrow b e.symm).1; omega).trans (h.keep b hb hl) }
theorem WOk.cut (h : WOk X I ρ H w) (hJ : J.le I) (hX : X.I.le J) (hc : ∀ b cs ty fz, I b = some (.cells cs ty fz) → J b = some (.cells cs ty fz)) : WOk X J ρ H w :=
  { len := h.len, inj := h.inj, imm := fun b o hb => h.imm b o (hJ b o hb)
    apart := fun b hb => by
      cases e : J b with
      | none => rfl
      | some o => have := hJ b o e; rw [h.apart b hb] at this; cases this
    size := h.size, none := h.none
    arr := fun k sz n f b z hk hρ => by
      obtain ⟨cs, ty, h1, h2, h3, h4⟩ := h.arr k sz n f b z hk hρ
      exact ⟨cs, ty, h1, h2, h3, fun i j v hi hv => by obtain ⟨u, h5, h6⟩ := h4 i j v hi hv; exact ⟨u, h5, h6.cut hc⟩⟩
    map := fun k m hk => by
      obtain ⟨b, h1, es, clk, h2, h3, h4⟩ := h.map k m hk
      exact ⟨b, h1, es, clk, h2, h3, fun i e x he hx => ⟨(h4 i e x he hx).1, (h4 i e x he hx).2.cut hc⟩⟩
    mine := h.mine
    news := fun b hb => h.news b fun e => by
      cases e' : J b with
      | none => exact hb e'
      | some o => rw [hJ b o e'] at e; cases e
    le := hX, pre := h.pre, os := h.os, tape := h.tape, out := h.out, grow := h.grow, keep := h.keep }
end
def KpI (I : Imm) (W W' : World) : Prop := ∀ b o, I b = some o → W.heap[b]? = some o → W'.heap[b]? = some o
end Go.Proofs.Ytccidiflnmchiaa
namespace Go.Proofs.Ytccidiflnmchiaa.It
open Go.RowKit
/-- What an iterator is handed: the loop, and what a round makes true. -/
structure Cx (P : Program) where
  l : Nat
  I : Imm
  J : Nat → World → Prop
  N : Nat
  el : Nat → List Value
  round : ∀ k W1, J k W1 → k < N → YieldAt Fence.wide 0 P l (el k).toArray W1 fun e W' => e = .returned (.bool true) ∧ J (k + 1) W' ∧ KpI I W1 W'
abbrev Post := AE → Env → Nat → Prop
section
variable {P : Program} (C : Cx P)
def St (nt : Nat) (env : Env) (k : Nat) (a : Act) (w : World) : Prop := EnvOk C.I [] nt env a ∧ (∀ b o, C.I b = some o → w.heap[b]? = some o) ∧ a.defers = [] ∧ C.J k w
def Lift (nt : Nat) (Q : Post) : Exit → Act → World → Prop
  | .normal, a, w => ∃ env k, St C nt env k a w ∧ Q .normal env k
  | .exit id, a, w => ∃ env k, St C nt env k a w ∧ Q (.exit id) env k
  | .goto l, a, w => ∃ env k, St C nt env k a w ∧ Q (.goto l) env k
  | .ret, a, w => ∃ env k, St C nt env k a w ∧ Q .ret env k
  | .panic _, _, _ => False
  | .outgrown, _, _ => False
structure AW (nt : Nat) (c : Code) (Q : Post) (env : Env) (k : Nat) : Prop where
  out : ∀ a w, St C nt env k a w → c.wpIn (Fw none) 0 P (Lift C nt Q) a w
structure AR (nt : Nat) (ops : Array Oper) (Q : Post) (l : List Stp) (env : Env) (k : Nat) : Prop where
  out : ∀ a w, St C nt env k a w → runP P none ops (Lift C nt Q) l (Keeps C.I [] [] w) a w
end
def thenP (next : Env → Nat → Prop) (Q : Post) : Post
  | .normal, env, k => next env k
  | e, env, k => Q e env k
def inBlockP (id : Nat) (Q : Post) : Post
  | .exit id', env, k => bif Nat.beq id' id then Q .normal env k else Q (.exit id') env k
  | e, env, k => Q e env k
def Has (env : Env) : Env → Prop
  | [] => True
  | (t, v) :: l => look env t = some v ∧ Has env l
section
variable {P : Program} {C : Cx P} {nt : Nat} {Q Q' : Post} {env env' : Env} {k : Nat} {ops : Array Oper} {l : List Stp} {dst : Nat} {ty : TypeId} {pos : String} {after : Array Edge}
theorem has_look : ∀ {e : Env} {t : Nat} {v : V}, Has env e → look e t = some v → look env t = some v
  | [], _, _, _, h => by simp [look] at h
  | (k, y) :: l, t, v, hs, h => by
    rw [look_cons] at h
    split at h
    · rename_i e; subst e; cases h; exact hs.1
    · exact has_look hs.2 h
theorem St.has {a : Act} {w : World} (h : St C nt env k a w) (he : Has env env') : St C nt env' k a w := ⟨⟨h.1.1, fun t v ht => h.1.2 t v (has_look he ht)⟩, h.2⟩
theorem Lift.mono (h : ∀ e env k, Q e env k → Q' e env k) : ∀ e a w, Lift C nt Q e a w → Lift C nt Q' e a w
  | .normal, _, _, ⟨a, b, c, d⟩ => ⟨a, b, c, h _ _ _ d⟩
  | .exit _, _, _, ⟨a, b, c, d⟩ => ⟨a, b, c, h _ _ _ d⟩
  | .goto _, _, _, ⟨a, b, c, d⟩ => ⟨a, b, c, h _ _ _ d⟩
  | .ret, _, _, ⟨a, b, c, d⟩ => ⟨a, b, c, h _ _ _ d⟩
  | .panic _, _, _, h => h
  | .outgrown, _, _, h => h
theorem aw_skip (h : Q .normal env k) : AW C nt .skip Q env k := .mk fun _ _ hs => wpIn_skip ⟨env, k, hs, h⟩
theorem aw_exit {id : Nat} (h : Q (.exit id) env k) : AW C nt (.exit id) Q env k := .mk fun _ _ hs => wpIn_exit ⟨env, k, hs, h⟩
theorem aw_ret (h : Q .ret env k) : AW C nt .ret Q env k := .mk fun _ _ hs => wpIn_ret ⟨env, k, hs, h⟩
theorem lift_then {nxt : Env → Nat → Prop} {K : Act → World → Prop} (h : ∀ env k a w, St C nt env k a w → nxt env k → K a w) : ∀ e a w, Lift C nt (thenP nxt Q) e a w → Exit.then K (Lift C nt Q) e a w
  | .normal, _, _, ⟨_, _, c, d⟩ => h _ _ _ _ c d
  | .exit _, _, _, h => h
  | .goto _, _, _, h => h
  | .ret, _, _, h => h
  | .panic _, _, _, h => h
  | .outgrown, _, _, h => h
theorem aw_seq {x y : Code} (h : AW C nt x (thenP (AW C nt y Q) Q) env k) : AW C nt (.seq x y) Q env k := .mk
  fun a w hs => wpIn_seq (wpIn_mono (h.1 a w hs) (lift_then fun _ _ a w hs h => h.1 a w hs))
theorem aw_cond {c : Operand} {x y : Code} {b : Bool} (hc : eo env c = some (.s (.bool b))) (ht : b = true → AW C nt x Q env k) (hf : b = false → AW C nt y Q env k) : AW C nt (.cond c x y) Q env k := .mk
  fun a w hs => wpIn_cond_split (eo_bool hs.1 hc) (fun e => (ht e).1 a w hs) (fun e => (hf e).1 a w hs)
theorem aw_block {id : Nat} {c : Code} (h : AW C nt c (inBlockP id Q) env k) : AW C nt (.block id c) Q env k := .mk
  fun a w hs => wpIn_block (wpIn_mono (h.1 a w hs) fun e a w h => by
    cases e with
    | exit id' =>
      obtain ⟨env, k, hs, hq⟩ := h
      simp only [inBlockP] at hq
      simp only [Exit.inBlock]
      cases hb : Nat.beq id' id
      · rw [hb] at hq
        rw [if_neg (fun e => by rw [e, Nat.beq_refl] at hb; cases hb)]
        exact ⟨env, k, hs, hq⟩
      · rw [hb] at hq
        rw [if_pos (Nat.eq_of_beq_eq_true hb)]
        exact ⟨env, k, hs, hq⟩
    | normal => exact h
    | goto _ => exact h
    | ret => exact h
    | panic _ => exact h
    | outgrown => exact h)
/-- A loop that hands over one element in each round. -/
theorem aw_for {c : Code} (M : Nat) (E : Nat → Env) (hk : k ≤ M) (h0 : Has env (E k)) (round : ∀ j, j ≤ M → AW C nt c (thenP (fun env' k' => j < M ∧ k' = j + 1 ∧ Has env' (E (j + 1))) Q) (E j) j) : AW C nt (.loop c) Q env k := .mk fun a w hs =>
  wpIn_loopN (fun n a w => ∃ j, j ≤ M ∧ n = M - j ∧ St C nt (E j) j a w) (M - k) ⟨k, hk, rfl, hs.has h0⟩ fun n a w ⟨j, hj, hn, hs⟩ =>
    wpIn_mono ((round j hj).1 a w hs) (lift_then fun env' k' a' w' hs' h => by
      obtain ⟨h1, rfl, h3⟩ := h
      exact ⟨M - (j + 1), by omega, j + 1, h1, rfl, hs'.has h3⟩)
theorem wok {I : Imm} {w : World} (h : ∀ b o, I b = some o → w.heap[b]? = some o) : WOk (Ctx.self w [] [] I) I [] [] w := WOk.begin h
theorem aw_region {l : List Oper} {id : Nat} (h : AR C nt l.toArray Q (textPlan l 0) env k) : AW C nt (.region id l.toArray false) Q env k := .mk
  fun a w hs => region_text (Keeps C.I [] [] w) (Keeps.refl (wok hs.2.1)) (h.1 a w hs)
theorem ar_nil (h : Q .normal env k) : AR C nt ops Q [] env k := .mk fun _ _ hs => ⟨env, k, hs, h⟩
theorem ar_q {i d : Nat} {op : Op} {v : V} (h : QS P nt env [] ⟨some d, op, ty, pos, after, none⟩ v) (hd : d < nt) (hk : AR C nt ops Q l ((d, v) :: env) k) :
    AR C nt ops Q (.q i ⟨some d, op, ty, pos, after, none⟩ :: l) env k := .mk fun a w hs => by
  refine ⟨fun _ => ?_, fun hw => by rw [wanted_none rfl] at hw; cases hw⟩
  obtain ⟨u, h1, h2⟩ := h.1 _ C.I [] a w hs.1 (wok hs.2.1)
  exact ⟨u, h2, hk.1 _ w ⟨hs.1.put h1 hd, hs.2⟩⟩
theorem ar_guard {s : Stp} {g t d : Nat} {b want : Bool} (hg : s.oper.guard = some (g, want)) (ht : (ops[g]?).bind (·.dst) = some t) (hb : look env t = some (.s (.bool b))) (hd : s.oper.dst = some d) (hdn : d < nt)
    (hy : b = want → AR C nt ops Q (s.bare :: l) ((t, .s (.bool want)) :: env) k) (hn : b = !want → AR C nt ops Q l ((d, .s undef) :: (t, .s (.bool !want)) :: env) k) : AR C nt ops Q (s :: l) env k := .mk fun a w hs => by
  obtain ⟨h1, h2⟩ := hs.1.2 t _ hb
  have ev : a.tmps.getD t undef = .bool b := by cases h2' : a.tmps.getD t undef <;> rw [h2'] at h2 <;> cases h2; rfl
  have ey : yielded ops a.tmps g = some b := by
    unfold yielded
    have hlt : t < a.tmps.size := by rw [hs.1.1]; exact h1
    simp only [ht, Option.bind_some]
    simp [hlt] at ev
    simp [hlt, ev]
  have hw : Region.wanted s.oper (yielded ops a.tmps) = (b == want) := by
    unfold Region.wanted
    rw [hg]
    simp only [ey]
    cases b <;> cases want <;> rfl
  have sub : ∀ b', b = b' → EnvOk C.I [] nt ((t, .s (.bool b')) :: env) a := fun b' e => by
    subst e
    refine ⟨hs.1.1, fun t' v' h' => ?_⟩
    rw [look_cons] at h'
    split at h'
    · rename_i e; subst e; cases h'; exact ⟨h1, h2⟩
    · exact hs.1.2 t' v' h'
  by_cases e : b = want
  · have ih := (hy e).1 a w ⟨sub _ e, hs.2⟩
    clear hy hn
    have hwt : Region.wanted s.oper (yielded ops a.tmps) = true := by rw [hw, e]; simp
    cases s with
    | q i o =>
      have ih : (Region.wanted { o with guard := none } (yielded ops a.tmps) = true → _) ∧ _ := ih
      exact ⟨fun _ => ih.1 (wanted_none rfl), fun h' => absurd (h'.symm.trans hwt) (by decide)⟩
    | l i o k =>
      have ih : (Region.wanted { o with guard := none } (yielded ops a.tmps) = true → _) ∧ _ := ih
      exact ⟨fun _ => ih.1 (wanted_none rfl), fun h' => absurd (h'.symm.trans hwt) (by decide)⟩
  · have e' : b = !want := by cases b <;> cases want <;> simp_all
    have hwf : Region.wanted s.oper (yielded ops a.tmps) = false := by rw [hw, e']; cases want <;> rfl
    have ih : runP P none ops (Lift C nt Q) l (Keeps C.I [] [] w) (a.put (some d) undef) w := (hn e').1 _ w ⟨(sub _ e').put (.s _) hdn, hs.2⟩
    rw [← hd] at ih
    cases s with
    | q i o => exact ⟨fun h' => absurd (h'.symm.trans hwf) (by decide), fun _ => ih⟩
    | l i o k => exact ⟨fun h' => absurd (h'.symm.trans hwf) (by decide), fun _ => ih⟩
theorem ar_guard_u {s : Stp} {g t e : Nat} {want : Bool} (hg : s.oper.guard = some (g, want)) (ht : (ops[g]?).bind (·.dst) = some t) (hd : s.oper.dst = some e) (hb : look env t = some (.s undef)) (hdn : e < nt) (h : AR C nt ops Q l ((e, .s undef) :: env) k) : AR C nt ops Q (s :: l) env k := .mk fun a w hs => by
  obtain ⟨h1, h2⟩ := hs.1.2 t _ hb
  have ev : a.tmps.getD t undef = undef := by generalize a.tmps.getD t undef = u at h2; cases h2; rfl
  have hwf : Region.wanted s.oper (yielded ops a.tmps) = false := by
    unfold Region.wanted
    rw [hg]
    have : yielded ops a.tmps g = none := by
      unfold yielded
      have hlt : t < a.tmps.size := by rw [hs.1.1]; exact h1
      simp only [ht, Option.bind_some]
      simp [hlt] at ev
      simp [hlt, ev, undef]
    simp only [this]
    cases want <;> rfl
  have ih : runP P none ops (Lift C nt Q) l (Keeps C.I [] [] w) (a.put (some e) undef) w := h.1 _ w ⟨hs.1.put (.s _) hdn, hs.2⟩
  rw [← hd] at ih
  cases s with
  | q i o => exact ⟨fun h' => absurd (h'.symm.trans hwf) (by decide), fun _ => ih⟩
  | l i o k => exact ⟨fun h' => absurd (h'.symm.trans hwf) (by decide), fun _ => ih⟩
theorem ar_isq {i d : Nat} {op : Op} (h : AR C nt ops Q (.q i ⟨some d, op, ty, pos, after, none⟩ :: l) env k) : AR C nt ops Q (.q i ⟨some d, op, ty, pos, after, none⟩ :: l) env k := h
theorem is_load {i d : Nat} {T : TypeId} {x : Operand} (h : AR C nt ops Q (.q i ⟨some d, .load T x, ty, pos, after, none⟩ :: l) env k) : AR C nt ops Q (.q i ⟨some d, .load T x, ty, pos, after, none⟩ :: l) env k := h
theorem is_binOp {i d : Nat} {o : BinOp} {T : TypeId} {x y : Operand} {T2 : TypeId} (h : AR C nt ops Q (.q i ⟨some d, .binOp o T x y T2, ty, pos, after, none⟩ :: l) env k) : AR C nt ops Q (.q i ⟨some d, .binOp o T x y T2, ty, pos, after, none⟩ :: l) env k := h
theorem is_indexAddr {i d : Nat} {T : TypeId} {x y : Operand} (h : AR C nt ops Q (.q i ⟨some d, .indexAddr T x y, ty, pos, after, none⟩ :: l) env k) : AR C nt ops Q (.q i ⟨some d, .indexAddr T x y, ty, pos, after, none⟩ :: l) env k := h
theorem is_call {i d : Nat} {c : Call} (h : AR C nt ops Q (.q i ⟨some d, .call c, ty, pos, after, none⟩ :: l) env k) : AR C nt ops Q (.q i ⟨some d, .call c, ty, pos, after, none⟩ :: l) env k := h
theorem is_pick {i d : Nat} {c x y : Operand} (h : AR C nt ops Q (.q i ⟨some d, .pick c x y, ty, pos, after, none⟩ :: l) env k) : AR C nt ops Q (.q i ⟨some d, .pick c x y, ty, pos, after, none⟩ :: l) env k := h
theorem ret_then {K : Env → Nat → Prop} (h : Q .ret env k) : thenP K Q .ret env k := h
theorem ret_block {id : Nat} (h : Q .ret env k) : inBlockP id Q .ret env k := h
theorem loop_next {N j : Nat} {E : Env} (h1 : j < N) (h2 : k = j + 1) (h3 : Has env E) : thenP (fun env' k' => j < N ∧ k' = j + 1 ∧ Has env' E) Q .normal env k := ⟨h1, h2, h3⟩
end
end Go.Proofs.Ytccidiflnmchiaa.It
namespace Go.Proofs.Ytccidiflnmchiaa
open Go.RowKit
section
variable {P : Program} {r : Option Nat} {m nt : Nat} {Q : Post} {env : Env} {H : Heap} {ops : Array Oper} {l : List Stp} {t : Nat} {v v' : V}
theorem EnvOk.re {I : Imm} {ρ : List (Option (Nat × Nat))} {a : Act} (he : EnvOk I ρ nt env a) (h : look env t = some v) (e : v = v') : EnvOk I ρ nt ((t, v') :: env) a := by
  subst e
  refine ⟨he.1, fun t' x hx => ?_⟩
  rw [look_cons] at hx
  split at hx
  · rename_i e; subst e; cases hx; exact he.2 t v h
  · exact he.2 t' x hx
/-- A value said in other words, within a region. -/
theorem ar_re (h : look env t = some v) (e : v = v') (hk : AR P r m nt ops Q l ((t, v') :: env) H) : AR P r m nt ops Q l env H := .mk fun X I ρ a w hX hs => hk.1 X I ρ a w hX ⟨hs.1.re h e, hs.2⟩
end
end Go.Proofs.Ytccidiflnmchiaa
namespace Go.Proofs.Ytccidiflnmchiaa
open Go.RowKit
def Screen.ok (c : Screen) : Bool := withinB c.period 2 16 && withinB c.phase 0 (c.period - 1)
end Go.Proofs.Ytccidiflnmchiaa
namespace Go.Proofs.Ytccidiflnmchiaa
open Go.RowKit
section
variable {P : Program} {nt : Nat} {Q : Post} {env : Env} {H : Heap} {R Rp : V → Heap → Prop} {a t2 t3 : Nat} {v v2 v3 : V}
theorem bq1c {T : TypeId} {d : TyD} {sz b i off n : Nat} {f : Nat → V} (hT : TyIs P T d) (ha : look env a = some (.ptr sz b i off)) (hH : H[b]? = some (.arr sz n f)) (hi : i < n) (hv : partV d.tk.agg (f i).cells off d.size = some v)
    (hR : R v H) : BodyQ P #[.cell a T] R Rp .ret env H := ⟨_, .inl ⟨_, rfl, ⟨d, sz, b, i, off, n, f, hT, ha, hH, hi, hv⟩⟩, hR⟩
end
end Go.Proofs.Ytccidiflnmchiaa
namespace Go.Proofs.Ytccidiflnmchiaa
open Go.RowKit
set_option maxHeartbeats 1000000 in
theorem everyInts_p (b : List Int) {g : FuncId} {cap : List V} (hfn : FnOk Try.prog g) (hcap : V.closed.all cap = true) (p : Int → Bool) (hc : ∀ l, l ∈ b → PCalls Try.prog g (vi l :: cap) (· = vb (p l))) :
    PCalls Try.prog 70 [encInts b, .fn (.func g) [] cap] (· = vb (b.all p)) := by
  (refine pcalls_know (fun I us h => rel_len (rel_arg h (j := 0) rfl)) fun hlen0 => ?_)
  refine pcalls_of_aw Try.func70 rfl (Nat.le_of_ble_eq_true rfl) ?_
  (repeat' (first | (refine ar_isq ?_; first | refine ar_q (qs_move rfl) (dc rfl) ?_ | refine ar_q (qs_assign rfl) (dc rfl) ?_ | (refine is_load ?_; first | refine ar_q (qs_load_ptr (ty rfl) rfl rfl (by first | exact Nat.one_pos | assumption | omega) rfl) (dc rfl) ?_ | refine ar_q (qs_load_ref (ty rfl) rfl rfl) (dc rfl) ?_) | (refine is_binOp ?_; first | refine ar_q (qs_lss rfl rfl) (dc rfl) ?_ | refine ar_q (qs_add rfl rfl (wrap64 (by omega))) (dc rfl) ?_) | (refine is_indexAddr ?_; first | refine ar_q (qs_iaddr_list (ty rfl) rfl (ty rfl) rfl rfl rfl rfl (by omega)) (dc rfl) ?_ | refine ar_q (qs_iaddr_sl0 (ty rfl) rfl (ty rfl) rfl rfl rfl rfl (by omega)) (dc rfl) ?_ | refine ar_q (qs_iaddr_sl (ty rfl) rfl (ty rfl) rfl rfl rfl rfl (by omega)) (dc rfl) ?_ | refine ar_q (qs_iaddr_aptr (ty rfl) rfl (ty rfl) rfl rfl rfl (by omega)) (dc rfl) ?_ | refine ar_q (qs_iaddr_aref (ty rfl) rfl (ty rfl) rfl rfl rfl (by omega)) (dc rfl) ?_ | (refine ar_idx_list (ty rfl) rfl (ty rfl) rfl rfl rfl (dc rfl) (by omega) ?_; intro _ _ _) | (refine ar_idx_sl (ty rfl) rfl (ty rfl) rfl rfl rfl (dc rfl) (by omega) ?_; intro _ _ _)) | (refine is_call ?_; first | refine ar_q (qs_len_list (ty rfl) rfl rfl rfl) (dc rfl) ?_ | refine ar_q (qs_len_sl (ty rfl) rfl rfl rfl) (dc rfl) ?_ | refine ar_q (qs_len_nil (ty rfl) rfl rfl rfl) (dc rfl) ?_ | refine ar_q (qs_len_emp (ty rfl) rfl rfl rfl) (dc rfl) ?_) | refine ar_q (qs_not rfl) (dc rfl) ?_) | (refine ar_nil ?_) | (refine aw_seq ?_) | (refine aw_skip ?_) | (refine aw_block ?_) | (refine aw_exit ?_) | (refine aw_region ?_) | (refine aw_cond rfl ?_ ?_ <;> intro hg <;> first | exact absurd hg (by decide) | ((first | replace hg := hgT hg | replace hg := hgF hg | replace hg := hgNT hg | replace hg := hgNF hg | replace hg := hgBT hg | replace hg := hgBF hg | replace hg := hgV hg | replace hg := hgW hg | skip); (try dsimp only at hg); (try (have _h : True := hg; clear _h hg)); first | (exfalso; omega) | skip))))
  refine aw_for b.length (fun k => ∀ j, j < k → p (el b j) = true) (fun k => [(1, .fn (.func g) [] cap), (7, encInts b), (8, vi b.length), (9, vi k)]) (fun _ => []) (fun j hj => by omega) ?_ ?_
  · (refine sub_to [] [] rfl ?_ ?_ <;> (repeat' (first | exact trivial | refine ⟨⟨_, rfl, ?_⟩, ?_⟩ | refine ⟨bsub_snoc rfl rfl (fun _ => rfl) ?_, ?_⟩ | refine ⟨bsub_one rfl rfl ?_, ?_⟩ | refine ⟨bsub_all rfl rfl (fun _ _ => rfl) (fun _ => rfl), ?_⟩ | refine ⟨bsub_updL rfl rfl ?_ (fun _ _ _ => rfl) (fun _ => rfl), ?_⟩ | refine ⟨.inl ⟨_, _, rfl, rfl, ?_⟩, ?_⟩ | exact ⟨.inr ⟨rfl, rfl⟩, trivial⟩ | refine ⟨.inr ⟨rfl, rfl⟩, ?_⟩ | (intro _ _) | exact .closed rfl | exact .sl rfl | exact .ptr rfl | exact .map rfl | exact .nil rfl | exact .emp rfl | exact .nilList | exact .empList | exact frzPtr' (by simp; done) rfl (by omega) rfl rfl | exact frzLB (by simp; done) rfl (fun _ => rfl) rfl | exact frz_all (by simp; done) rfl (fun _ _ => rfl) (fun _ => rfl) rfl | exact .frz (by simp; done) rfl (by omega) (fun _ _ => rfl) (fun _ _ => rfl) | exact slEq rfl (by first | (simp; done) | (simp; omega)) | exact siEq (by omega) | exact .of_eq (by refine (show V.agg _ = V.agg _ from ?_); (try dsimp only); congr <;> first | rfl | omega) rfl | exact .closed (by simp [V.closed, V.closed.all, *]; done) | fail)))
  intro k hk hJ
  by_cases hkn : k < b.length
  · (repeat' (first | (refine ar_isq ?_; first | refine ar_q (qs_move rfl) (dc rfl) ?_ | refine ar_q (qs_assign rfl) (dc rfl) ?_ | (refine is_load ?_; first | refine ar_q (qs_load_ptr (ty rfl) rfl rfl (by first | exact Nat.one_pos | assumption | omega) rfl) (dc rfl) ?_ | refine ar_q (qs_load_ref (ty rfl) rfl rfl) (dc rfl) ?_) | (refine is_binOp ?_; first | refine ar_q (qs_lss rfl rfl) (dc rfl) ?_ | refine ar_q (qs_add rfl rfl (wrap64 (by omega))) (dc rfl) ?_) | (refine is_indexAddr ?_; first | refine ar_q (qs_iaddr_list (ty rfl) rfl (ty rfl) rfl rfl rfl rfl (by omega)) (dc rfl) ?_ | refine ar_q (qs_iaddr_sl0 (ty rfl) rfl (ty rfl) rfl rfl rfl rfl (by omega)) (dc rfl) ?_ | refine ar_q (qs_iaddr_sl (ty rfl) rfl (ty rfl) rfl rfl rfl rfl (by omega)) (dc rfl) ?_ | refine ar_q (qs_iaddr_aptr (ty rfl) rfl (ty rfl) rfl rfl rfl (by omega)) (dc rfl) ?_ | refine ar_q (qs_iaddr_aref (ty rfl) rfl (ty rfl) rfl rfl rfl (by omega)) (dc rfl) ?_ | (refine ar_idx_list (ty rfl) rfl (ty rfl) rfl rfl rfl (dc rfl) (by omega) ?_; intro _ _ _) | (refine ar_idx_sl (ty rfl) rfl (ty rfl) rfl rfl rfl (dc rfl) (by omega) ?_; intro _ _ _)) | (refine is_call ?_; first | refine ar_q (qs_len_list (ty rfl) rfl rfl rfl) (dc rfl) ?_ | refine ar_q (qs_len_sl (ty rfl) rfl rfl rfl) (dc rfl) ?_ | refine ar_q (qs_len_nil (ty rfl) rfl rfl rfl) (dc rfl) ?_ | refine ar_q (qs_len_emp (ty rfl) rfl rfl rfl) (dc rfl) ?_) | refine ar_q (qs_not rfl) (dc rfl) ?_) | (refine ar_pcall (own := false) hfn rfl rfl (args_closed hcap) (hc _ (el_mem hkn)) (by simp) (dc rfl) ?_; intro _ hv; subst hv) | (refine ar_nil ?_) | (refine aw_seq ?_) | (refine aw_skip ?_) | (refine aw_block ?_) | (refine aw_exit ?_) | (refine aw_region ?_) | (refine aw_cond rfl ?_ ?_ <;> intro hg <;> first | exact absurd hg (by decide) | ((first | replace hg := hgT hg | replace hg := hgF hg | replace hg := hgNT hg | replace hg := hgNF hg | replace hg := hgBT hg | replace hg := hgBF hg | replace hg := hgV hg | replace hg := hgW hg | skip); (try dsimp only at hg); (try (have _h : True := hg; clear _h hg)); first | (exfalso; omega) | skip))))
    all_goals first
      | (exfalso; omega)
      | ((first | refine loop_next (by omega) ?_ ?_ | refine (show _ ∧ _ ∧ SubOf _ _ _ _ _ _ from And.intro (by omega) (And.intro ?_ ?_))); (focus ((exact all_step hJ (by assumption)); done)); (focus ((refine sub_to [] [] rfl ?_ ?_ <;> (repeat' (first | exact trivial | refine ⟨⟨_, rfl, ?_⟩, ?_⟩ | refine ⟨bsub_snoc rfl rfl (fun _ => rfl) ?_, ?_⟩ | refine ⟨bsub_one rfl rfl ?_, ?_⟩ | refine ⟨bsub_all rfl rfl (fun _ _ => rfl) (fun _ => rfl), ?_⟩ | refine ⟨bsub_updL rfl rfl ?_ (fun _ _ _ => rfl) (fun _ => rfl), ?_⟩ | refine ⟨.inl ⟨_, _, rfl, rfl, ?_⟩, ?_⟩ | exact ⟨.inr ⟨rfl, rfl⟩, trivial⟩ | refine ⟨.inr ⟨rfl, rfl⟩, ?_⟩ | (intro _ _) | exact .closed rfl | exact .sl rfl | exact .ptr rfl | exact .map rfl | exact .nil rfl | exact .emp rfl | exact .nilList | exact .empList | exact frzPtr' (by simp; done) rfl (by omega) rfl rfl | exact frzLB (by simp; done) rfl (fun _ => rfl) rfl | exact frz_all (by simp; done) rfl (fun _ _ => rfl) (fun _ => rfl) rfl | exact .frz (by simp; done) rfl (by omega) (fun _ _ => rfl) (fun _ _ => rfl) | exact slEq rfl (by first | (simp; done) | (simp; omega)) | exact siEq (by omega) | exact .of_eq (by refine (show V.agg _ = V.agg _ from ?_); (try dsimp only); congr <;> first | rfl | omega) rfl | exact .closed (by simp [V.closed, V.closed.all, *]; done) | fail))); done)))
      | ((refine aw_ret ?_; (repeat (first | refine ret_then ?_ | refine ret_block ?_)); refine bq1 rfl ⟨?_, rfl⟩); rw [not_all_el hkn (by simp_all)]; rfl)
  · (repeat' (first | (refine ar_isq ?_; first | refine ar_q (qs_move rfl) (dc rfl) ?_ | refine ar_q (qs_assign rfl) (dc rfl) ?_ | (refine is_load ?_; first | refine ar_q (qs_load_ptr (ty rfl) rfl rfl (by first | exact Nat.one_pos | assumption | omega) rfl) (dc rfl) ?_ | refine ar_q (qs_load_ref (ty rfl) rfl rfl) (dc rfl) ?_) | (refine is_binOp ?_; first | refine ar_q (qs_lss rfl rfl) (dc rfl) ?_ | refine ar_q (qs_add rfl rfl (wrap64 (by omega))) (dc rfl) ?_) | (refine is_indexAddr ?_; first | refine ar_q (qs_iaddr_list (ty rfl) rfl (ty rfl) rfl rfl rfl rfl (by omega)) (dc rfl) ?_ | refine ar_q (qs_iaddr_sl0 (ty rfl) rfl (ty rfl) rfl rfl rfl rfl (by omega)) (dc rfl) ?_ | refine ar_q (qs_iaddr_sl (ty rfl) rfl (ty rfl) rfl rfl rfl rfl (by omega)) (dc rfl) ?_ | refine ar_q (qs_iaddr_aptr (ty rfl) rfl (ty rfl) rfl rfl rfl (by omega)) (dc rfl) ?_ | refine ar_q (qs_iaddr_aref (ty rfl) rfl (ty rfl) rfl rfl rfl (by omega)) (dc rfl) ?_ | (refine ar_idx_list (ty rfl) rfl (ty rfl) rfl rfl rfl (dc rfl) (by omega) ?_; intro _ _ _) | (refine ar_idx_sl (ty rfl) rfl (ty rfl) rfl rfl rfl (dc rfl) (by omega) ?_; intro _ _ _)) | (refine is_call ?_; first | refine ar_q (qs_len_list (ty rfl) rfl rfl rfl) (dc rfl) ?_ | refine ar_q (qs_len_sl (ty rfl) rfl rfl rfl) (dc rfl) ?_ | refine ar_q (qs_len_nil (ty rfl) rfl rfl rfl) (dc rfl) ?_ | refine ar_q (qs_len_emp (ty rfl) rfl rfl rfl) (dc rfl) ?_) | refine ar_q (qs_not rfl) (dc rfl) ?_) | (refine ar_nil ?_) | (refine aw_seq ?_) | (refine aw_skip ?_) | (refine aw_block ?_) | (refine aw_exit ?_) | (refine aw_region ?_) | (refine aw_cond rfl ?_ ?_ <;> intro hg <;> first | exact absurd hg (by decide) | ((first | replace hg := hgT hg | replace hg := hgF hg | replace hg := hgNT hg | replace hg := hgNF hg | replace hg := hgBT hg | replace hg := hgBF hg | replace hg := hgV hg | replace hg := hgW hg | skip); (try dsimp only at hg); (try (have _h : True := hg; clear _h hg)); first | (exfalso; omega) | skip))))
    all_goals first | omega | ((refine aw_ret ?_; (repeat (first | refine ret_then ?_ | refine ret_block ?_)); refine bq1 rfl ⟨?_, rfl⟩); rw [all_el (fun j hj => hJ j (by omega))]; rfl)
end Go.Proofs.Ytccidiflnmchiaa
namespace Go.Proofs.Ytccidiflnmchiaa
open Go.RowKit
theorem ofInt_toNat {k : Nat} (h : k < 18446744073709551616) : (BitVec.ofInt IntKind.i64.bits (k : Int)).toNat = k := by
  show (BitVec.ofInt 64 (k : Int)).toNat = k
  simp
  omega
theorem ofInt_one : (BitVec.ofInt IntKind.i64.bits 1).toNat = 1 := by decide
theorem andOne {m : Int} (h : 0 ≤ m ∧ m ≤ 1000000000) : IntKind.i64.wrap ((BitVec.ofInt IntKind.i64.bits m &&& BitVec.ofInt IntKind.i64.bits 1).toNat : Int) = m % 2 := by
  obtain ⟨k, rfl⟩ := Int.eq_ofNat_of_zero_le h.1
  rw [BitVec.toNat_and, ofInt_toNat (by omega), ofInt_one, Nat.and_one_is_mod, wrap64 (by omega)]
  omega
theorem orOne {m : Int} (h : 0 ≤ m ∧ m ≤ 1000000000) (he : m % 2 = 0) : IntKind.i64.wrap ((BitVec.ofInt IntKind.i64.bits m ||| BitVec.ofInt IntKind.i64.bits 1).toNat : Int) = m + 1 := by
  obtain ⟨k, rfl⟩ := Int.eq_ofNat_of_zero_le h.1
  obtain ⟨q, rfl⟩ : ∃ q, k = 2 * q := ⟨k / 2, by omega⟩
  have e : (2 * q) ||| 1 = 2 * q + 1 := by
    have := Nat.two_pow_add_eq_or_of_lt (i := 1) (b := 1) (by decide) q
    simpa using this.symm
  rw [BitVec.toNat_or, ofInt_toNat (by omega), ofInt_one, e, wrap64 (by omega)]
  omega
theorem shrOne {m : Int} (h : 0 ≤ m) : m.fdiv (2 ^ (min (1 : Int).toNat IntKind.i64.bits)) = m / 2 := by
  have e : (2 : Int) ^ (min (1 : Int).toNat IntKind.i64.bits) = 2 := by decide
  rw [e, Int.fdiv_eq_ediv_of_nonneg _ (by omega)]
theorem shlOne {m : Int} (h : 0 ≤ m ∧ m ≤ 1000000000) : IntKind.i64.wrap (m * 2 ^ (min (1 : Int).toNat IntKind.i64.bits)) = 2 * m := by
  have e : (2 : Int) ^ (min (1 : Int).toNat IntKind.i64.bits) = 2 := by decide
  rw [e, wrap64 (by omega)]
  omega
/-- Before all rows are there. -/
def famTo (L C k : Nat) (F : Nat → Nat → V) : Heap := .arr 1 L (fun r => if r < k then .sl 1 (1 + r) 0 C else vnil) :: (List.range k).map fun r => .arr 1 C (F r)
theorem famTo_len (L C k : Nat) (F : Nat → Nat → V) : (famTo L C k F).length = 1 + k := by simp [famTo, Nat.add_comm]
theorem famTo_snoc {L C k : Nat} {F : Nat → Nat → V} : (famTo L C k F ++ [Blk.arr 1 C (F k)]).set 0 (Blk.arr 1 L (fun r => if r < k + 1 then .sl 1 (1 + r) 0 C else vnil)) = famTo L C (k + 1) F := by
  simp [famTo, List.range_succ]
end Go.Proofs.Ytccidiflnmchiaa
namespace Go.Proofs.Ytccidiflnmchiaa
open Go.RowKit
def pow2 : Nat → Nat
  | 0 => 1
  | k + 1 => 2 * pow2 k
theorem pow2_pos : ∀ k, 0 < pow2 k
  | 0 => by decide
  | k + 1 => by have := pow2_pos k; simp only [pow2]; omega
theorem pow2_le : ∀ {k}, k ≤ 15 → pow2 k ≤ 32768 := by
  intro k hk
  have : ∀ k : Fin 16, pow2 k.val ≤ 32768 := by decide
  exact this ⟨k, by omega⟩
/-- Bit number j from the left of 15. -/
def bitB (n j : Nat) : Bool := decide (n / pow2 (14 - j) % 2 = 1)
def gF (n d j : Nat) : Bool := decide (15 ≤ j + d) && bitB n j
def gAgg (f : Nat → Bool) : V := .agg ((List.range 15).map fun j => vb (f j))
theorem gAgg_ext {f g : Nat → Bool} (h : ∀ j, j < 15 → f j = g j) : gAgg f = gAgg g := by
  unfold gAgg
  congr 1
  exact List.map_congr_left fun j hj => by rw [h j (List.mem_range.1 hj)]
theorem gAgg_put (f : Nat → Bool) (b : Bool) {o : Nat} (h : o < 15) : putPart (gAgg f) o (vb b) = gAgg (fun j => if j = o then b else f j) := by
  have key : ∀ o : Fin 15, putPart (gAgg f) o.val (vb b) = gAgg (fun j => if j = o.val then b else f j) := by
    intro o
    unfold gAgg putPart
    simp only [cells_vb, List.length_cons, List.length_nil]
    congr 1
    refine List.ext_getElem? fun i => ?_
    have ho := o.isLt
    by_cases h1 : i < o.val
    · rw [List.append_assoc, List.getElem?_append_left (by simp; omega), List.getElem?_take, if_pos h1]
      simp [show i < 15 by omega, show i ≠ o.val by omega]
    · by_cases h2 : i = o.val
      · rw [List.append_assoc, List.getElem?_append_right (by simp; omega), List.getElem?_append_left (by simp; omega)]
        simp [h2]
      · rw [List.getElem?_append_right (by simp; omega), List.getElem?_drop]
        by_cases h3 : i < 15
        · have : (o.val + (0 + 1) + (i - (List.take o.val ((List.range 15).map fun j => vb (f j)) ++ [vb b]).length)) = i := by simp; omega
          rw [this]
          simp [h3, h2]
        · rw [List.getElem?_eq_none (by simp; omega), List.getElem?_eq_none (by simp; omega)]
  exact key ⟨o, h⟩
def shN (n d : Nat) : Nat := n / pow2 d
theorem half_pow (n d : Nat) : shN n (d + 1) = shN n d / 2 := by simp only [shN, pow2]; rw [Nat.mul_comm, Nat.div_div_eq_div_mul]
theorem bit_at {n d : Nat} (h : d < 15) : decide (((shN n d : Nat) : Int) % 2 = 1) = bitB n (14 - d) := by
  unfold bitB
  change _ = decide (shN n _ % 2 = 1)
  rw [show 14 - (14 - d) = d by omega, decide_eq_decide]
  omega
theorem gF_step {n d o : Nat} {b : Bool} (h : d < 15) (ho : o = 14 - d) (hb : b = bitB n (14 - d)) : putPart (gAgg (gF n d)) o (vb b) = gAgg (gF n (d + 1)) := by
  rw [gAgg_put _ _ (by omega)]
  refine gAgg_ext fun j hj => ?_
  by_cases e : j = o
  · rw [if_pos e, hb, e, ho]
    unfold gF
    rw [show decide (15 ≤ 14 - d + (d + 1)) = true by simp; omega, Bool.true_and]
  · rw [if_neg e]
    unfold gF
    rw [show decide (15 ≤ j + (d + 1)) = decide (15 ≤ j + d) by rw [decide_eq_decide]; omega]
theorem gF_end {n d : Nat} (h : 15 ≤ d) : gAgg (gF n d) = gAgg (bitB n) := gAgg_ext fun j hj => by
  unfold gF
  rw [show decide (15 ≤ j + d) = true by simp; omega, Bool.true_and]
def rowV (f : Nat → Bool) (i : Nat) : V := .agg [vb (f (3 * i)), vb (f (3 * i + 1)), vb (f (3 * i + 2))]
theorem rowV_part (f : Nat → Bool) {i : Nat} (h : i < 5) : partV true (gAgg f).cells (i * 3) 3 = some (rowV f i) := by
  match i, h with
  | 0, _ => rfl
  | 1, _ => rfl
  | 2, _ => rfl
  | 3, _ => rfl
  | 4, _ => rfl
theorem cellV_part (f : Nat → Bool) (i : Nat) {k : Nat} (h : k < 3) : partV false (rowV f i).cells (k * 1) 1 = some (vb (f (3 * i + k))) := by
  match k, h with
  | 0, _ => rfl
  | 1, _ => rfl
  | 2, _ => rfl
def numTo (f : Nat → Bool) : Nat → Nat
  | 0 => 0
  | j + 1 => 2 * numTo f j + (if f j = true then 1 else 0)
theorem numTo_lt (f : Nat → Bool) : ∀ j, numTo f j < pow2 j
  | 0 => Nat.zero_lt_one
  | j + 1 => by
    have := numTo_lt f j
    simp only [numTo, pow2]
    split <;> omega
theorem wide_p (size glyphs : Int) (hs : -1000 ≤ size ∧ size ≤ 1000) (hg : 0 ≤ glyphs ∧ glyphs ≤ 1000) (hm : -10000000 ≤ size * (4 * glyphs - 1) ∧ size * (4 * glyphs - 1) ≤ 10000000) : PCalls Try.prog 72 [vi size, vi glyphs] (· = vi (size * (4 * glyphs - 1))) := by
  refine pcalls_of_aw Try.func72 rfl (Nat.le_of_ble_eq_true rfl) ?_
  (repeat' (first | (refine ar_isq ?_; first | refine ar_q (qs_move rfl) (dc rfl) ?_ | refine ar_q (qs_assign rfl) (dc rfl) ?_ | (refine is_binOp ?_; first | refine ar_q (qs_sub rfl rfl (wrap64 (by omega))) (dc rfl) ?_ | refine ar_q (qs_mul rfl rfl (wrap64 (by omega))) (dc rfl) ?_)) | (refine ar_nil ?_) | (refine aw_seq ?_) | (refine aw_skip ?_) | (refine aw_block ?_) | (refine aw_exit ?_) | (refine aw_region ?_) | (refine aw_cond rfl ?_ ?_ <;> intro hg <;> first | exact absurd hg (by decide) | ((first | replace hg := hgT hg | replace hg := hgF hg | replace hg := hgNT hg | replace hg := hgNF hg | replace hg := hgBT hg | replace hg := hgBF hg | replace hg := hgV hg | replace hg := hgW hg | skip); (try dsimp only at hg); (try (have _h : True := hg; clear _h hg)); first | (exfalso; omega) | skip))))
  (refine aw_ret ?_; (repeat (first | refine ret_then ?_ | refine ret_block ?_)); refine bq1 rfl ⟨?_, rfl⟩)
  rfl
set_option maxHeartbeats 1000000 in
theorem rcell_p (n row k : Nat) (hn : n ≤ 32767) (hr : row < 5) (hk : k < 3) : PCalls Try.prog 75 [vi n, vi row, vi k] (· = vb (bitB n (row * 3 + k))) := by
  refine pcalls_of_aw Try.func75 rfl (Nat.le_of_ble_eq_true rfl) ?_
  (repeat' (first | (refine ar_isq ?_; first | refine ar_q (qs_move rfl) (dc rfl) ?_ | refine ar_q (qs_assign rfl) (dc rfl) ?_ | (refine is_binOp ?_; first | refine ar_q (qs_lss rfl rfl) (dc rfl) ?_ | refine ar_q (qs_eql rfl rfl) (dc rfl) ?_ | refine ar_q (qs_add rfl rfl (wrap64 (by omega))) (dc rfl) ?_ | refine ar_q (qs_sub rfl rfl (wrap64 (by omega))) (dc rfl) ?_ | refine ar_q (qs_mul rfl rfl (wrap64 (by omega))) (dc rfl) ?_ | refine ar_q (qs_quo rfl rfl (by omega) (quo64 (by omega) (by omega))) (dc rfl) ?_ | refine ar_q (qs_rem rfl rfl (by omega) (rem64 (by omega))) (dc rfl) ?_)) | (refine ar_nil ?_) | (refine aw_seq ?_) | (refine aw_skip ?_) | (refine aw_block ?_) | (refine aw_exit ?_) | (refine aw_region ?_) | (refine aw_cond rfl ?_ ?_ <;> intro hg <;> first | exact absurd hg (by decide) | ((first | replace hg := hgT hg | replace hg := hgF hg | replace hg := hgNT hg | replace hg := hgNF hg | replace hg := hgBT hg | replace hg := hgBF hg | replace hg := hgV hg | replace hg := hgW hg | skip); (try dsimp only at hg); (try (have _h : True := hg; clear _h hg)); first | (exfalso; omega) | skip))))
  refine aw_for (14 - (row * 3 + k)) (fun _ => True) (fun i => [(0, vi n), (1, vi row), (2, vi k), (7, vi ((pow2 i : Nat) : Int)), (8, vi i)]) (fun _ => []) trivial ?_ ?_
  · (refine sub_to [] [] rfl ?_ ?_ <;> (repeat' (first | exact trivial | refine ⟨⟨_, rfl, ?_⟩, ?_⟩ | refine ⟨bsub_snoc rfl rfl (fun _ => rfl) ?_, ?_⟩ | refine ⟨bsub_one rfl rfl ?_, ?_⟩ | refine ⟨bsub_all rfl rfl (fun _ _ => rfl) (fun _ => rfl), ?_⟩ | refine ⟨bsub_updL rfl rfl ?_ (fun _ _ _ => rfl) (fun _ => rfl), ?_⟩ | refine ⟨.inl ⟨_, _, rfl, rfl, ?_⟩, ?_⟩ | exact ⟨.inr ⟨rfl, rfl⟩, trivial⟩ | refine ⟨.inr ⟨rfl, rfl⟩, ?_⟩ | (intro _ _) | exact .closed rfl | exact .sl rfl | exact .ptr rfl | exact .map rfl | exact .nil rfl | exact .emp rfl | exact .nilList | exact .empList | exact frzPtr' (by simp; done) rfl (by omega) rfl rfl | exact frzLB (by simp; done) rfl (fun _ => rfl) rfl | exact frz_all (by simp; done) rfl (fun _ _ => rfl) (fun _ => rfl) rfl | exact .frz (by simp; done) rfl (by omega) (fun _ _ => rfl) (fun _ _ => rfl) | exact slEq rfl (by first | (simp; done) | (simp; omega)) | exact siEq (by omega) | exact .of_eq (by refine (show V.agg _ = V.agg _ from ?_); (try dsimp only); congr <;> first | rfl | omega) rfl | exact .closed (by simp [V.closed, V.closed.all, *]; done) | fail)))
  intro i hi _
  have hp := pow2_le (k := i) (by omega)
  have hp0 := pow2_pos i
  by_cases hlt : i < 14 - (row * 3 + k)
  · (repeat' (first | (refine ar_isq ?_; first | refine ar_q (qs_move rfl) (dc rfl) ?_ | refine ar_q (qs_assign rfl) (dc rfl) ?_ | (refine is_binOp ?_; first | refine ar_q (qs_lss rfl rfl) (dc rfl) ?_ | refine ar_q (qs_eql rfl rfl) (dc rfl) ?_ | refine ar_q (qs_add rfl rfl (wrap64 (by omega))) (dc rfl) ?_ | refine ar_q (qs_sub rfl rfl (wrap64 (by omega))) (dc rfl) ?_ | refine ar_q (qs_mul rfl rfl (wrap64 (by omega))) (dc rfl) ?_ | refine ar_q (qs_quo rfl rfl (by omega) (quo64 (by omega) (by omega))) (dc rfl) ?_ | refine ar_q (qs_rem rfl rfl (by omega) (rem64 (by omega))) (dc rfl) ?_)) | (refine ar_nil ?_) | (refine aw_seq ?_) | (refine aw_skip ?_) | (refine aw_block ?_) | (refine aw_exit ?_) | (refine aw_region ?_) | (refine aw_cond rfl ?_ ?_ <;> intro hg <;> first | exact absurd hg (by decide) | ((first | replace hg := hgT hg | replace hg := hgF hg | replace hg := hgNT hg | replace hg := hgNF hg | replace hg := hgBT hg | replace hg := hgBF hg | replace hg := hgV hg | replace hg := hgW hg | skip); (try dsimp only at hg); (try (have _h : True := hg; clear _h hg)); first | (exfalso; omega) | skip))))
    all_goals first
      | (exfalso; omega)
      | ((first | refine loop_next (by omega) ?_ ?_ | refine (show _ ∧ _ ∧ SubOf _ _ _ _ _ _ from And.intro (by omega) (And.intro ?_ ?_))); (focus ((trivial); done)); (focus ((refine sub_to [] [] rfl ?_ ?_ <;> (repeat' (first | exact trivial | refine ⟨⟨_, rfl, ?_⟩, ?_⟩ | refine ⟨bsub_snoc rfl rfl (fun _ => rfl) ?_, ?_⟩ | refine ⟨bsub_one rfl rfl ?_, ?_⟩ | refine ⟨bsub_all rfl rfl (fun _ _ => rfl) (fun _ => rfl), ?_⟩ | refine ⟨bsub_updL rfl rfl ?_ (fun _ _ _ => rfl) (fun _ => rfl), ?_⟩ | refine ⟨.inl ⟨_, _, rfl, rfl, ?_⟩, ?_⟩ | exact ⟨.inr ⟨rfl, rfl⟩, trivial⟩ | refine ⟨.inr ⟨rfl, rfl⟩, ?_⟩ | (intro _ _) | exact .closed rfl | exact .sl rfl | exact .ptr rfl | exact .map rfl | exact .nil rfl | exact .emp rfl | exact .nilList | exact .empList | exact frzPtr' (by simp; done) rfl (by omega) rfl rfl | exact frzLB (by simp; done) rfl (fun _ => rfl) rfl | exact frz_all (by simp; done) rfl (fun _ _ => rfl) (fun _ => rfl) rfl | exact .frz (by simp; done) rfl (by omega) (fun _ _ => rfl) (fun _ _ => rfl) | exact slEq rfl (by first | (simp; done) | (simp; omega)) | exact siEq (by omega) | (exact siEq (by simp only [pow2]; omega)) | exact .of_eq (by refine (show V.agg _ = V.agg _ from ?_); (try dsimp only); congr <;> first | rfl | omega) rfl | exact .closed (by simp [V.closed, V.closed.all, *]; done) | fail))); done)))
  · obtain rfl : i = 14 - (row * 3 + k) := by omega
    have hdv : 0 ≤ (n : Int) / ((pow2 (14 - (row * 3 + k)) : Nat) : Int) := Int.ediv_nonneg (by omega) (by omega)
    (repeat' (first | (refine ar_isq ?_; first | refine ar_q (qs_move rfl) (dc rfl) ?_ | refine ar_q (qs_assign rfl) (dc rfl) ?_ | (refine is_binOp ?_; first | refine ar_q (qs_lss rfl rfl) (dc rfl) ?_ | refine ar_q (qs_eql rfl rfl) (dc rfl) ?_ | refine ar_q (qs_add rfl rfl (wrap64 (by omega))) (dc rfl) ?_ | refine ar_q (qs_sub rfl rfl (wrap64 (by omega))) (dc rfl) ?_ | refine ar_q (qs_mul rfl rfl (wrap64 (by omega))) (dc rfl) ?_ | refine ar_q (qs_quo rfl rfl (by omega) (quo64 (by omega) (by omega))) (dc rfl) ?_ | refine ar_q (qs_rem rfl rfl (by omega) (rem64 (by omega))) (dc rfl) ?_)) | (refine ar_nil ?_) | (refine aw_seq ?_) | (refine aw_skip ?_) | (refine aw_block ?_) | (refine aw_exit ?_) | (refine aw_region ?_) | (refine aw_cond rfl ?_ ?_ <;> intro hg <;> first | exact absurd hg (by decide) | ((first | replace hg := hgT hg | replace hg := hgF hg | replace hg := hgNT hg | replace hg := hgNF hg | replace hg := hgBT hg | replace hg := hgBF hg | replace hg := hgV hg | replace hg := hgW hg | skip); (try dsimp only at hg); (try (have _h : True := hg; clear _h hg)); first | (exfalso; omega) | skip))))
    all_goals first
      | (exfalso; omega)
      | ((refine aw_ret ?_; (repeat (first | refine ret_then ?_ | refine ret_block ?_)); refine bq1 rfl ⟨?_, rfl⟩); simp only [bitB, vb]; congr 2; rw [decide_eq_decide, ← Int.natCast_ediv]; omega)
set_option maxHeartbeats 2000000 in
theorem glyphOf_p (n : Nat) (hn : n ≤ 32767) : PCalls Try.prog 73 [vi n] (· = gAgg (bitB n)) := by
  have hdb : ∀ d, shN n d ≤ n := fun d => Nat.div_le_self _ _
  refine pcalls_of_aw Try.func73 rfl (Nat.le_of_ble_eq_true rfl) ?_
  (repeat' (first | (refine ar_isq ?_; first | refine ar_q (qs_move rfl) (dc rfl) ?_ | refine ar_q (qs_assign rfl) (dc rfl) ?_ | (refine is_load ?_; first | refine ar_q (qs_load_ptr (ty rfl) rfl rfl (by first | exact Nat.one_pos | assumption | omega) rfl) (dc rfl) ?_ | refine ar_q (qs_load_ref (ty rfl) rfl rfl) (dc rfl) ?_) | (refine is_binOp ?_; first | refine ar_q (qs_geq rfl rfl) (dc rfl) ?_ | refine ar_q (qs_eql rfl rfl) (dc rfl) ?_ | refine ar_q (qs_sub rfl rfl (wrap64 (by omega))) (dc rfl) ?_ | refine ar_q (qs_and rfl rfl (andMask (by omega))) (dc rfl) ?_ | refine ar_q (qs_shr rfl rfl (by omega) (shr0 (by omega))) (dc rfl) ?_) | (refine is_indexAddr ?_; first | refine ar_q (qs_iaddr_list (ty rfl) rfl (ty rfl) rfl rfl rfl rfl (by omega)) (dc rfl) ?_ | refine ar_q (qs_iaddr_sl0 (ty rfl) rfl (ty rfl) rfl rfl rfl rfl (by omega)) (dc rfl) ?_ | refine ar_q (qs_iaddr_sl (ty rfl) rfl (ty rfl) rfl rfl rfl rfl (by omega)) (dc rfl) ?_ | refine ar_q (qs_iaddr_aptr (ty rfl) rfl (ty rfl) rfl rfl rfl (by omega)) (dc rfl) ?_ | refine ar_q (qs_iaddr_aref (ty rfl) rfl (ty rfl) rfl rfl rfl (by omega)) (dc rfl) ?_ | (refine ar_idx_list (ty rfl) rfl (ty rfl) rfl rfl rfl (dc rfl) (by omega) ?_; intro _ _ _) | (refine ar_idx_sl (ty rfl) rfl (ty rfl) rfl rfl rfl (dc rfl) (by omega) ?_; intro _ _ _))) | (refine ar_alloc (ty rfl) rfl (dc rfl) ?_) | (refine ar_store_var (ty rfl) rfl rfl rfl rfl rfl rfl (by first | (dsimp only; omega) | exact dc rfl) (.inr ⟨rfl, rfl, rfl, fun _ h => by cases h⟩) ?_) | (refine ar_store_var (ty rfl) rfl rfl rfl rfl rfl rfl (by first | (dsimp only; omega) | exact dc rfl) (.inl ⟨_, rfl⟩) ?_) | (refine ar_store_elt (ty rfl) rfl rfl rfl rfl rfl rfl (by first | exact Nat.one_pos | assumption | omega) (by first | (dsimp only; omega) | exact dc rfl) (.inr ⟨rfl, rfl, rfl, fun _ h => by cases h⟩) ?_) | (refine ar_store_elt (ty rfl) rfl rfl rfl rfl rfl rfl (by first | exact Nat.one_pos | assumption | omega) (by first | (dsimp only; omega) | exact dc rfl) (.inl ⟨_, rfl⟩) ?_) | (refine ar_nil ?_) | (refine aw_seq ?_) | (refine aw_skip ?_) | (refine aw_block ?_) | (refine aw_exit ?_) | (refine aw_region ?_) | (refine aw_cond rfl ?_ ?_ <;> intro hg <;> first | exact absurd hg (by decide) | ((first | replace hg := hgT hg | replace hg := hgF hg | replace hg := hgNT hg | replace hg := hgNF hg | replace hg := hgBT hg | replace hg := hgBF hg | replace hg := hgV hg | replace hg := hgW hg | skip); (try dsimp only at hg); (try (have _h : True := hg; clear _h hg)); first | (exfalso; omega) | skip))))
  refine aw_for 5 (fun _ => True) (fun R => [(0, vi ((shN n (3 * R) : Nat) : Int)), (2, .ptr 15 0 0 0), (3, .ptr 15 1 0 0), (4, vi (4 - (R : Int)))]) (fun R => [.arr 15 1 (fun _ => gAgg fun _ => false), .arr 15 1 (fun _ => gAgg (gF n (3 * R)))]) trivial ?_ ?_
  · (refine sub_to [some 0, some 1] [] rfl ?_ ?_ <;> (repeat' (first | exact trivial | refine ⟨⟨_, rfl, ?_⟩, ?_⟩ | refine ⟨bsub_snoc rfl rfl (fun _ => rfl) ?_, ?_⟩ | refine ⟨bsub_one rfl rfl ?_, ?_⟩ | refine ⟨bsub_all rfl rfl (fun _ _ => rfl) (fun _ => rfl), ?_⟩ | refine ⟨bsub_updL rfl rfl ?_ (fun _ _ _ => rfl) (fun _ => rfl), ?_⟩ | refine ⟨.inl ⟨_, _, rfl, rfl, ?_⟩, ?_⟩ | exact ⟨.inr ⟨rfl, rfl⟩, trivial⟩ | refine ⟨.inr ⟨rfl, rfl⟩, ?_⟩ | (intro _ _) | exact .closed rfl | exact .sl rfl | exact .ptr rfl | exact .map rfl | exact .nil rfl | exact .emp rfl | exact .nilList | exact .empList | exact frzPtr' (by simp; done) rfl (by omega) rfl rfl | exact frzLB (by simp; done) rfl (fun _ => rfl) rfl | exact frz_all (by simp; done) rfl (fun _ _ => rfl) (fun _ => rfl) rfl | exact .frz (by simp; done) rfl (by omega) (fun _ _ => rfl) (fun _ _ => rfl) | exact slEq rfl (by first | (simp; done) | (simp; omega)) | exact siEq (by omega) | (first | exact siEq (by simp [shN, pow2]) | exact VSub.of_eq (gAgg_ext fun j hj => by simp [gF]; omega) rfl | exact VSub.of_eq rfl rfl) | exact .of_eq (by refine (show V.agg _ = V.agg _ from ?_); (try dsimp only); congr <;> first | rfl | omega) rfl | exact .closed (by simp [V.closed, V.closed.all, *]; done) | fail)))
  intro R hR _
  by_cases hlt : R < 5
  · (repeat' (first | (refine ar_isq ?_; first | refine ar_q (qs_move rfl) (dc rfl) ?_ | refine ar_q (qs_assign rfl) (dc rfl) ?_ | (refine is_load ?_; first | refine ar_q (qs_load_ptr (ty rfl) rfl rfl (by first | exact Nat.one_pos | assumption | omega) rfl) (dc rfl) ?_ | refine ar_q (qs_load_ref (ty rfl) rfl rfl) (dc rfl) ?_) | (refine is_binOp ?_; first | refine ar_q (qs_geq rfl rfl) (dc rfl) ?_ | refine ar_q (qs_eql rfl rfl) (dc rfl) ?_ | refine ar_q (qs_sub rfl rfl (wrap64 (by omega))) (dc rfl) ?_ | refine ar_q (qs_and rfl rfl (andMask (by omega))) (dc rfl) ?_ | refine ar_q (qs_shr rfl rfl (by omega) (shr0 (by omega))) (dc rfl) ?_) | (refine is_indexAddr ?_; first | refine ar_q (qs_iaddr_list (ty rfl) rfl (ty rfl) rfl rfl rfl rfl (by omega)) (dc rfl) ?_ | refine ar_q (qs_iaddr_sl0 (ty rfl) rfl (ty rfl) rfl rfl rfl rfl (by omega)) (dc rfl) ?_ | refine ar_q (qs_iaddr_sl (ty rfl) rfl (ty rfl) rfl rfl rfl rfl (by omega)) (dc rfl) ?_ | refine ar_q (qs_iaddr_aptr (ty rfl) rfl (ty rfl) rfl rfl rfl (by omega)) (dc rfl) ?_ | refine ar_q (qs_iaddr_aref (ty rfl) rfl (ty rfl) rfl rfl rfl (by omega)) (dc rfl) ?_ | (refine ar_idx_list (ty rfl) rfl (ty rfl) rfl rfl rfl (dc rfl) (by omega) ?_; intro _ _ _) | (refine ar_idx_sl (ty rfl) rfl (ty rfl) rfl rfl rfl (dc rfl) (by omega) ?_; intro _ _ _))) | (refine ar_alloc (ty rfl) rfl (dc rfl) ?_) | (refine ar_store_var (ty rfl) rfl rfl rfl rfl rfl rfl (by first | (dsimp only; omega) | exact dc rfl) (.inr ⟨rfl, rfl, rfl, fun _ h => by cases h⟩) ?_) | (refine ar_store_var (ty rfl) rfl rfl rfl rfl rfl rfl (by first | (dsimp only; omega) | exact dc rfl) (.inl ⟨_, rfl⟩) ?_) | (refine ar_store_elt (ty rfl) rfl rfl rfl rfl rfl rfl (by first | exact Nat.one_pos | assumption | omega) (by first | (dsimp only; omega) | exact dc rfl) (.inr ⟨rfl, rfl, rfl, fun _ h => by cases h⟩) ?_) | (refine ar_store_elt (ty rfl) rfl rfl rfl rfl rfl rfl (by first | exact Nat.one_pos | assumption | omega) (by first | (dsimp only; omega) | exact dc rfl) (.inl ⟨_, rfl⟩) ?_) | (refine ar_nil ?_) | (refine aw_seq ?_) | (refine aw_skip ?_) | (refine aw_block ?_) | (refine aw_exit ?_) | (refine aw_region ?_) | (refine aw_cond rfl ?_ ?_ <;> intro hg <;> first | exact absurd hg (by decide) | ((first | replace hg := hgT hg | replace hg := hgF hg | replace hg := hgNT hg | replace hg := hgNF hg | replace hg := hgBT hg | replace hg := hgBF hg | replace hg := hgV hg | replace hg := hgW hg | skip); (try dsimp only at hg); (try (have _h : True := hg; clear _h hg)); first | (exfalso; omega) | skip))))
    all_goals (try (exfalso; omega))
    refine aw_for 3 (fun _ => True) (fun K => [(0, vi ((shN n (3 * R + K) : Nat) : Int)), (2, .ptr 15 0 0 0), (3, .ptr 15 1 0 0), (4, vi (4 - (R : Int))), (5, vi (2 - (K : Int)))]) (fun K => [.arr 15 1 (fun _ => gAgg fun _ => false), .arr 15 1 (fun _ => gAgg (gF n (3 * R + K)))]) trivial ?_ ?_
    · (refine sub_to [some 0, some 1] [] rfl ?_ ?_ <;> (repeat' (first | exact trivial | refine ⟨⟨_, rfl, ?_⟩, ?_⟩ | refine ⟨bsub_snoc rfl rfl (fun _ => rfl) ?_, ?_⟩ | refine ⟨bsub_one rfl rfl ?_, ?_⟩ | refine ⟨bsub_all rfl rfl (fun _ _ => rfl) (fun _ => rfl), ?_⟩ | refine ⟨bsub_updL rfl rfl ?_ (fun _ _ _ => rfl) (fun _ => rfl), ?_⟩ | refine ⟨.inl ⟨_, _, rfl, rfl, ?_⟩, ?_⟩ | exact ⟨.inr ⟨rfl, rfl⟩, trivial⟩ | refine ⟨.inr ⟨rfl, rfl⟩, ?_⟩ | (intro _ _) | exact .closed rfl | exact .sl rfl | exact .ptr rfl | exact .map rfl | exact .nil rfl | exact .emp rfl | exact .nilList | exact .empList | exact frzPtr' (by simp; done) rfl (by omega) rfl rfl | exact frzLB (by simp; done) rfl (fun _ => rfl) rfl | exact frz_all (by simp; done) rfl (fun _ _ => rfl) (fun _ => rfl) rfl | exact .frz (by simp; done) rfl (by omega) (fun _ _ => rfl) (fun _ _ => rfl) | exact slEq rfl (by first | (simp; done) | (simp; omega)) | exact siEq (by omega) | exact .of_eq (by refine (show V.agg _ = V.agg _ from ?_); (try dsimp only); congr <;> first | rfl | omega) rfl | exact .closed (by simp [V.closed, V.closed.all, *]; done) | fail)))
    intro K hK _
    have hd := hdb (3 * R + K)
    have hhp := half_pow n (3 * R + K)
    by_cases hltk : K < 3
    · (repeat' (first | (refine ar_isq ?_; first | refine ar_q (qs_move rfl) (dc rfl) ?_ | refine ar_q (qs_assign rfl) (dc rfl) ?_ | (refine is_load ?_; first | refine ar_q (qs_load_ptr (ty rfl) rfl rfl (by first | exact Nat.one_pos | assumption | omega) rfl) (dc rfl) ?_ | refine ar_q (qs_load_ref (ty rfl) rfl rfl) (dc rfl) ?_) | (refine is_binOp ?_; first | refine ar_q (qs_geq rfl rfl) (dc rfl) ?_ | refine ar_q (qs_eql rfl rfl) (dc rfl) ?_ | refine ar_q (qs_sub rfl rfl (wrap64 (by omega))) (dc rfl) ?_ | refine ar_q (qs_and rfl rfl (andMask (by omega))) (dc rfl) ?_ | refine ar_q (qs_shr rfl rfl (by omega) (shr0 (by omega))) (dc rfl) ?_) | (refine is_indexAddr ?_; first | refine ar_q (qs_iaddr_list (ty rfl) rfl (ty rfl) rfl rfl rfl rfl (by omega)) (dc rfl) ?_ | refine ar_q (qs_iaddr_sl0 (ty rfl) rfl (ty rfl) rfl rfl rfl rfl (by omega)) (dc rfl) ?_ | refine ar_q (qs_iaddr_sl (ty rfl) rfl (ty rfl) rfl rfl rfl rfl (by omega)) (dc rfl) ?_ | refine ar_q (qs_iaddr_aptr (ty rfl) rfl (ty rfl) rfl rfl rfl (by omega)) (dc rfl) ?_ | refine ar_q (qs_iaddr_aref (ty rfl) rfl (ty rfl) rfl rfl rfl (by omega)) (dc rfl) ?_ | (refine ar_idx_list (ty rfl) rfl (ty rfl) rfl rfl rfl (dc rfl) (by omega) ?_; intro _ _ _) | (refine ar_idx_sl (ty rfl) rfl (ty rfl) rfl rfl rfl (dc rfl) (by omega) ?_; intro _ _ _))) | (refine ar_q (qs_and rfl rfl (andOne (by omega))) (dc rfl) ?_) | (refine ar_q (qs_shr rfl rfl (by omega) (shrOne (by omega))) (dc rfl) ?_) | (refine ar_q (qs_iaddr_aptr (j := 4 - R) (ty rfl) rfl (ty rfl) rfl rfl (by omega) (by omega)) (dc rfl) ?_) | (refine ar_q (qs_iaddr_aptr (j := 2 - K) (ty rfl) rfl (ty rfl) rfl rfl (by omega) (by omega)) (dc rfl) ?_) | (refine ar_alloc (ty rfl) rfl (dc rfl) ?_) | (refine ar_store_var (ty rfl) rfl rfl rfl rfl rfl rfl (by first | (dsimp only; omega) | exact dc rfl) (.inr ⟨rfl, rfl, rfl, fun _ h => by cases h⟩) ?_) | (refine ar_store_var (ty rfl) rfl rfl rfl rfl rfl rfl (by first | (dsimp only; omega) | exact dc rfl) (.inl ⟨_, rfl⟩) ?_) | (refine ar_store_elt (ty rfl) rfl rfl rfl rfl rfl rfl (by first | exact Nat.one_pos | assumption | omega) (by first | (dsimp only; omega) | exact dc rfl) (.inr ⟨rfl, rfl, rfl, fun _ h => by cases h⟩) ?_) | (refine ar_store_elt (ty rfl) rfl rfl rfl rfl rfl rfl (by first | exact Nat.one_pos | assumption | omega) (by first | (dsimp only; omega) | exact dc rfl) (.inl ⟨_, rfl⟩) ?_) | (refine ar_nil ?_) | (refine aw_seq ?_) | (refine aw_skip ?_) | (refine aw_block ?_) | (refine aw_exit ?_) | (refine aw_region ?_) | (refine aw_cond rfl ?_ ?_ <;> intro hg <;> first | exact absurd hg (by decide) | ((first | replace hg := hgT hg | replace hg := hgF hg | replace hg := hgNT hg | replace hg := hgNF hg | replace hg := hgBT hg | replace hg := hgBF hg | replace hg := hgV hg | replace hg := hgW hg | skip); (try dsimp only at hg); (try (have _h : True := hg; clear _h hg)); first | (exfalso; omega) | skip))))
      all_goals first
        | (exfalso; omega)
        | ((first | refine loop_next (by omega) ?_ ?_ | refine (show _ ∧ _ ∧ SubOf _ _ _ _ _ _ from And.intro (by omega) (And.intro ?_ ?_))); (focus ((trivial); done)); (focus ((refine sub_to [some 0, some 1] [] rfl ?_ ?_ <;> (repeat' (first | exact trivial | refine ⟨⟨_, rfl, ?_⟩, ?_⟩ | refine ⟨bsub_snoc rfl rfl (fun _ => rfl) ?_, ?_⟩ | refine ⟨bsub_one rfl rfl ?_, ?_⟩ | refine ⟨bsub_all rfl rfl (fun _ _ => rfl) (fun _ => rfl), ?_⟩ | refine ⟨bsub_updL rfl rfl ?_ (fun _ _ _ => rfl) (fun _ => rfl), ?_⟩ | refine ⟨.inl ⟨_, _, rfl, rfl, ?_⟩, ?_⟩ | exact ⟨.inr ⟨rfl, rfl⟩, trivial⟩ | refine ⟨.inr ⟨rfl, rfl⟩, ?_⟩ | (intro _ _) | exact .closed rfl | exact .sl rfl | exact .ptr rfl | exact .map rfl | exact .nil rfl | exact .emp rfl | exact .nilList | exact .empList | exact frzPtr' (by simp; done) rfl (by omega) rfl rfl | exact frzLB (by simp; done) rfl (fun _ => rfl) rfl | exact frz_all (by simp; done) rfl (fun _ _ => rfl) (fun _ => rfl) rfl | exact .frz (by simp; done) rfl (by omega) (fun _ _ => rfl) (fun _ _ => rfl) | exact slEq rfl (by first | (simp; done) | (simp; omega)) | exact siEq (by omega) | (first | exact siEq (by omega) | exact siEq (by rw [← Nat.add_assoc, hhp]; omega) | exact VSub.of_eq (gF_step (by omega) (by dsimp only; omega) (bit_at (by omega))) rfl) | exact .of_eq (by refine (show V.agg _ = V.agg _ from ?_); (try dsimp only); congr <;> first | rfl | omega) rfl | exact .closed (by simp [V.closed, V.closed.all, *]; done) | fail))); done)))
        | trace_state
    · obtain rfl : K = 3 := by omega
      (repeat' (first | (refine ar_isq ?_; first | refine ar_q (qs_move rfl) (dc rfl) ?_ | refine ar_q (qs_assign rfl) (dc rfl) ?_ | (refine is_load ?_; first | refine ar_q (qs_load_ptr (ty rfl) rfl rfl (by first | exact Nat.one_pos | assumption | omega) rfl) (dc rfl) ?_ | refine ar_q (qs_load_ref (ty rfl) rfl rfl) (dc rfl) ?_) | (refine is_binOp ?_; first | refine ar_q (qs_geq rfl rfl) (dc rfl) ?_ | refine ar_q (qs_eql rfl rfl) (dc rfl) ?_ | refine ar_q (qs_sub rfl rfl (wrap64 (by omega))) (dc rfl) ?_ | refine ar_q (qs_and rfl rfl (andMask (by omega))) (dc rfl) ?_ | refine ar_q (qs_shr rfl rfl (by omega) (shr0 (by omega))) (dc rfl) ?_) | (refine is_indexAddr ?_; first | refine ar_q (qs_iaddr_list (ty rfl) rfl (ty rfl) rfl rfl rfl rfl (by omega)) (dc rfl) ?_ | refine ar_q (qs_iaddr_sl0 (ty rfl) rfl (ty rfl) rfl rfl rfl rfl (by omega)) (dc rfl) ?_ | refine ar_q (qs_iaddr_sl (ty rfl) rfl (ty rfl) rfl rfl rfl rfl (by omega)) (dc rfl) ?_ | refine ar_q (qs_iaddr_aptr (ty rfl) rfl (ty rfl) rfl rfl rfl (by omega)) (dc rfl) ?_ | refine ar_q (qs_iaddr_aref (ty rfl) rfl (ty rfl) rfl rfl rfl (by omega)) (dc rfl) ?_ | (refine ar_idx_list (ty rfl) rfl (ty rfl) rfl rfl rfl (dc rfl) (by omega) ?_; intro _ _ _) | (refine ar_idx_sl (ty rfl) rfl (ty rfl) rfl rfl rfl (dc rfl) (by omega) ?_; intro _ _ _))) | (refine ar_alloc (ty rfl) rfl (dc rfl) ?_) | (refine ar_store_var (ty rfl) rfl rfl rfl rfl rfl rfl (by first | (dsimp only; omega) | exact dc rfl) (.inr ⟨rfl, rfl, rfl, fun _ h => by cases h⟩) ?_) | (refine ar_store_var (ty rfl) rfl rfl rfl rfl rfl rfl (by first | (dsimp only; omega) | exact dc rfl) (.inl ⟨_, rfl⟩) ?_) | (refine ar_store_elt (ty rfl) rfl rfl rfl rfl rfl rfl (by first | exact Nat.one_pos | assumption | omega) (by first | (dsimp only; omega) | exact dc rfl) (.inr ⟨rfl, rfl, rfl, fun _ h => by cases h⟩) ?_) | (refine ar_store_elt (ty rfl) rfl rfl rfl rfl rfl rfl (by first | exact Nat.one_pos | assumption | omega) (by first | (dsimp only; omega) | exact dc rfl) (.inl ⟨_, rfl⟩) ?_) | (refine ar_nil ?_) | (refine aw_seq ?_) | (refine aw_skip ?_) | (refine aw_block ?_) | (refine aw_exit ?_) | (refine aw_region ?_) | (refine aw_cond rfl ?_ ?_ <;> intro hg <;> first | exact absurd hg (by decide) | ((first | replace hg := hgT hg | replace hg := hgF hg | replace hg := hgNT hg | replace hg := hgNF hg | replace hg := hgBT hg | replace hg := hgBF hg | replace hg := hgV hg | replace hg := hgW hg | skip); (try dsimp only at hg); (try (have _h : True := hg; clear _h hg)); first | (exfalso; omega) | skip))))
      all_goals first
        | (exfalso; omega)
        | ((first | refine loop_next (by omega) ?_ ?_ | refine (show _ ∧ _ ∧ SubOf _ _ _ _ _ _ from And.intro (by omega) (And.intro ?_ ?_))); (focus ((trivial); done)); (focus ((refine sub_to [some 0, some 1] [] rfl ?_ ?_ <;> (repeat' (first | exact trivial | refine ⟨⟨_, rfl, ?_⟩, ?_⟩ | refine ⟨bsub_snoc rfl rfl (fun _ => rfl) ?_, ?_⟩ | refine ⟨bsub_one rfl rfl ?_, ?_⟩ | refine ⟨bsub_all rfl rfl (fun _ _ => rfl) (fun _ => rfl), ?_⟩ | refine ⟨bsub_updL rfl rfl ?_ (fun _ _ _ => rfl) (fun _ => rfl), ?_⟩ | refine ⟨.inl ⟨_, _, rfl, rfl, ?_⟩, ?_⟩ | exact ⟨.inr ⟨rfl, rfl⟩, trivial⟩ | refine ⟨.inr ⟨rfl, rfl⟩, ?_⟩ | (intro _ _) | exact .closed rfl | exact .sl rfl | exact .ptr rfl | exact .map rfl | exact .nil rfl | exact .emp rfl | exact .nilList | exact .empList | exact frzPtr' (by simp; done) rfl (by omega) rfl rfl | exact frzLB (by simp; done) rfl (fun _ => rfl) rfl | exact frz_all (by simp; done) rfl (fun _ _ => rfl) (fun _ => rfl) rfl | exact .frz (by simp; done) rfl (by omega) (fun _ _ => rfl) (fun _ _ => rfl) | exact slEq rfl (by first | (simp; done) | (simp; omega)) | exact siEq (by omega) | (first | exact siEq (by omega) | exact VSub.closed rfl) | exact .of_eq (by refine (show V.agg _ = V.agg _ from ?_); (try dsimp only); congr <;> first | rfl | omega) rfl | exact .closed (by simp [V.closed, V.closed.all, *]; done) | fail))); done)))
        | trace_state
  · obtain rfl : R = 5 := by omega
    (repeat' (first | (refine ar_isq ?_; first | refine ar_q (qs_move rfl) (dc rfl) ?_ | refine ar_q (qs_assign rfl) (dc rfl) ?_ | (refine is_load ?_; first | refine ar_q (qs_load_ptr (ty rfl) rfl rfl (by first | exact Nat.one_pos | assumption | omega) rfl) (dc rfl) ?_ | refine ar_q (qs_load_ref (ty rfl) rfl rfl) (dc rfl) ?_) | (refine is_binOp ?_; first | refine ar_q (qs_geq rfl rfl) (dc rfl) ?_ | refine ar_q (qs_eql rfl rfl) (dc rfl) ?_ | refine ar_q (qs_sub rfl rfl (wrap64 (by omega))) (dc rfl) ?_ | refine ar_q (qs_and rfl rfl (andMask (by omega))) (dc rfl) ?_ | refine ar_q (qs_shr rfl rfl (by omega) (shr0 (by omega))) (dc rfl) ?_) | (refine is_indexAddr ?_; first | refine ar_q (qs_iaddr_list (ty rfl) rfl (ty rfl) rfl rfl rfl rfl (by omega)) (dc rfl) ?_ | refine ar_q (qs_iaddr_sl0 (ty rfl) rfl (ty rfl) rfl rfl rfl rfl (by omega)) (dc rfl) ?_ | refine ar_q (qs_iaddr_sl (ty rfl) rfl (ty rfl) rfl rfl rfl rfl (by omega)) (dc rfl) ?_ | refine ar_q (qs_iaddr_aptr (ty rfl) rfl (ty rfl) rfl rfl rfl (by omega)) (dc rfl) ?_ | refine ar_q (qs_iaddr_aref (ty rfl) rfl (ty rfl) rfl rfl rfl (by omega)) (dc rfl) ?_ | (refine ar_idx_list (ty rfl) rfl (ty rfl) rfl rfl rfl (dc rfl) (by omega) ?_; intro _ _ _) | (refine ar_idx_sl (ty rfl) rfl (ty rfl) rfl rfl rfl (dc rfl) (by omega) ?_; intro _ _ _))) | (refine ar_alloc (ty rfl) rfl (dc rfl) ?_) | (refine ar_store_var (ty rfl) rfl rfl rfl rfl rfl rfl (by first | (dsimp only; omega) | exact dc rfl) (.inr ⟨rfl, rfl, rfl, fun _ h => by cases h⟩) ?_) | (refine ar_store_var (ty rfl) rfl rfl rfl rfl rfl rfl (by first | (dsimp only; omega) | exact dc rfl) (.inl ⟨_, rfl⟩) ?_) | (refine ar_store_elt (ty rfl) rfl rfl rfl rfl rfl rfl (by first | exact Nat.one_pos | assumption | omega) (by first | (dsimp only; omega) | exact dc rfl) (.inr ⟨rfl, rfl, rfl, fun _ h => by cases h⟩) ?_) | (refine ar_store_elt (ty rfl) rfl rfl rfl rfl rfl rfl (by first | exact Nat.one_pos | assumption | omega) (by first | (dsimp only; omega) | exact dc rfl) (.inl ⟨_, rfl⟩) ?_) | (refine ar_nil ?_) | (refine aw_seq ?_) | (refine aw_skip ?_) | (refine aw_block ?_) | (refine aw_exit ?_) | (refine aw_region ?_) | (refine aw_cond rfl ?_ ?_ <;> intro hg <;> first | exact absurd hg (by decide) | ((first | replace hg := hgT hg | replace hg := hgF hg | replace hg := hgNT hg | replace hg := hgNF hg | replace hg := hgBT hg | replace hg := hgBF hg | replace hg := hgV hg | replace hg := hgW hg | skip); (try dsimp only at hg); (try (have _h : True := hg; clear _h hg)); first | (exfalso; omega) | skip))))
    all_goals first
      | (exfalso; omega)
      | (refine aw_ret ?_; (repeat (first | refine ret_then ?_ | refine ret_block ?_)); refine bq1c (ty rfl) rfl rfl Nat.one_pos rfl ⟨?_, rfl⟩; exact (gF_end (n := n) (d := 3 * 5) (by omega)))
      | trace_state
set_option maxHeartbeats 2000000 in
theorem number_p (f : Nat → Bool) : PCalls Try.prog 78 [gAgg f] (· = vi ((numTo f 15 : Nat) : Int)) := by
  have hb : ∀ j, j ≤ 15 → numTo f j < 32769 := fun j hj => Nat.lt_of_lt_of_le (numTo_lt f j) (Nat.le_trans (pow2_le hj) (by decide))
  refine pcalls_of_aw Try.func78 rfl (Nat.le_of_ble_eq_true rfl) ?_
  (repeat' (first | (refine ar_isq ?_; first | refine ar_q (qs_move rfl) (dc rfl) ?_ | refine ar_q (qs_assign rfl) (dc rfl) ?_ | (refine is_load ?_; first | refine ar_q (qs_load_ptr (ty rfl) rfl rfl (by first | exact Nat.one_pos | assumption | omega) rfl) (dc rfl) ?_ | refine ar_q (qs_load_ref (ty rfl) rfl rfl) (dc rfl) ?_) | (refine is_binOp ?_; first | refine ar_q (qs_lss rfl rfl) (dc rfl) ?_ | refine ar_q (qs_add rfl rfl (wrap64 (by omega))) (dc rfl) ?_) | refine ar_q (qs_index (ty rfl) rfl (ty rfl) rfl rfl rfl (by omega) rfl) (dc rfl) ?_) | (refine ar_boxf rfl rfl (dc rfl) ?_) | (refine ar_alloc (ty rfl) rfl (dc rfl) ?_) | (refine ar_store_var (ty rfl) rfl rfl rfl rfl rfl rfl (by first | (dsimp only; omega) | exact dc rfl) (.inr ⟨rfl, rfl, rfl, fun _ h => by cases h⟩) ?_) | (refine ar_store_var (ty rfl) rfl rfl rfl rfl rfl rfl (by first | (dsimp only; omega) | exact dc rfl) (.inl ⟨_, rfl⟩) ?_) | (refine ar_store_elt (ty rfl) rfl rfl rfl rfl rfl rfl (by first | exact Nat.one_pos | assumption | omega) (by first | (dsimp only; omega) | exact dc rfl) (.inr ⟨rfl, rfl, rfl, fun _ h => by cases h⟩) ?_) | (refine ar_store_elt (ty rfl) rfl rfl rfl rfl rfl rfl (by first | exact Nat.one_pos | assumption | omega) (by first | (dsimp only; omega) | exact dc rfl) (.inl ⟨_, rfl⟩) ?_) | (refine ar_nil ?_) | (refine aw_seq ?_) | (refine aw_skip ?_) | (refine aw_block ?_) | (refine aw_exit ?_) | (refine aw_region ?_) | (refine aw_cond rfl ?_ ?_ <;> intro hg <;> first | exact absurd hg (by decide) | ((first | replace hg := hgT hg | replace hg := hgF hg | replace hg := hgNT hg | replace hg := hgNF hg | replace hg := hgBT hg | replace hg := hgBF hg | replace hg := hgV hg | replace hg := hgW hg | skip); (try dsimp only at hg); (try (have _h : True := hg; clear _h hg)); first | (exfalso; omega) | skip))))
  refine aw_for 5 (fun _ => True) (fun i => [(3, vi ((numTo f (3 * i) : Nat) : Int)), (8, gAgg f), (9, vi i)]) (fun _ => []) trivial ?_ ?_
  · (refine sub_to [] [] rfl ?_ ?_ <;> (repeat' (first | exact trivial | refine ⟨⟨_, rfl, ?_⟩, ?_⟩ | refine ⟨bsub_snoc rfl rfl (fun _ => rfl) ?_, ?_⟩ | refine ⟨bsub_one rfl rfl ?_, ?_⟩ | refine ⟨bsub_all rfl rfl (fun _ _ => rfl) (fun _ => rfl), ?_⟩ | refine ⟨bsub_updL rfl rfl ?_ (fun _ _ _ => rfl) (fun _ => rfl), ?_⟩ | refine ⟨.inl ⟨_, _, rfl, rfl, ?_⟩, ?_⟩ | exact ⟨.inr ⟨rfl, rfl⟩, trivial⟩ | refine ⟨.inr ⟨rfl, rfl⟩, ?_⟩ | (intro _ _) | exact .closed rfl | exact .sl rfl | exact .ptr rfl | exact .map rfl | exact .nil rfl | exact .emp rfl | exact .nilList | exact .empList | exact frzPtr' (by simp; done) rfl (by omega) rfl rfl | exact frzLB (by simp; done) rfl (fun _ => rfl) rfl | exact frz_all (by simp; done) rfl (fun _ _ => rfl) (fun _ => rfl) rfl | exact .frz (by simp; done) rfl (by omega) (fun _ _ => rfl) (fun _ _ => rfl) | exact slEq rfl (by first | (simp; done) | (simp; omega)) | exact siEq (by omega) | exact .of_eq (by refine (show V.agg _ = V.agg _ from ?_); (try dsimp only); congr <;> first | rfl | omega) rfl | exact .closed (by simp [V.closed, V.closed.all, *]; done) | fail)))
  intro i hi _
  by_cases hlt : i < 5
  · (repeat' (first | (refine ar_isq ?_; first | refine ar_q (qs_move rfl) (dc rfl) ?_ | refine ar_q (qs_assign rfl) (dc rfl) ?_ | (refine is_load ?_; first | refine ar_q (qs_load_ptr (ty rfl) rfl rfl (by first | exact Nat.one_pos | assumption | omega) rfl) (dc rfl) ?_ | refine ar_q (qs_load_ref (ty rfl) rfl rfl) (dc rfl) ?_) | (refine is_binOp ?_; first | refine ar_q (qs_lss rfl rfl) (dc rfl) ?_ | refine ar_q (qs_add rfl rfl (wrap64 (by omega))) (dc rfl) ?_) | refine ar_q (qs_index (ty rfl) rfl (ty rfl) rfl rfl rfl (by omega) rfl) (dc rfl) ?_) | (refine ar_q (qs_index (v := rowV f i) (j := i) (ty rfl) rfl (ty rfl) rfl rfl rfl (by omega) (rowV_part f hlt)) (dc rfl) ?_) | (refine ar_boxf rfl rfl (dc rfl) ?_) | (refine ar_alloc (ty rfl) rfl (dc rfl) ?_) | (refine ar_store_var (ty rfl) rfl rfl rfl rfl rfl rfl (by first | (dsimp only; omega) | exact dc rfl) (.inr ⟨rfl, rfl, rfl, fun _ h => by cases h⟩) ?_) | (refine ar_store_var (ty rfl) rfl rfl rfl rfl rfl rfl (by first | (dsimp only; omega) | exact dc rfl) (.inl ⟨_, rfl⟩) ?_) | (refine ar_store_elt (ty rfl) rfl rfl rfl rfl rfl rfl (by first | exact Nat.one_pos | assumption | omega) (by first | (dsimp only; omega) | exact dc rfl) (.inr ⟨rfl, rfl, rfl, fun _ h => by cases h⟩) ?_) | (refine ar_store_elt (ty rfl) rfl rfl rfl rfl rfl rfl (by first | exact Nat.one_pos | assumption | omega) (by first | (dsimp only; omega) | exact dc rfl) (.inl ⟨_, rfl⟩) ?_) | (refine ar_nil ?_) | (refine aw_seq ?_) | (refine aw_skip ?_) | (refine aw_block ?_) | (refine aw_exit ?_) | (refine aw_region ?_) | (refine aw_cond rfl ?_ ?_ <;> intro hg <;> first | exact absurd hg (by decide) | ((first | replace hg := hgT hg | replace hg := hgF hg | replace hg := hgNT hg | replace hg := hgNF hg | replace hg := hgBT hg | replace hg := hgBF hg | replace hg := hgV hg | replace hg := hgW hg | skip); (try dsimp only at hg); (try (have _h : True := hg; clear _h hg)); first | (exfalso; omega) | skip))))
    all_goals (try (exfalso; omega))
    refine aw_for 3 (fun _ => True) (fun k => [(3, vi ((numTo f (3 * i + k) : Nat) : Int)), (8, gAgg f), (9, vi i), (12, rowV f i), (13, vi k)]) (fun _ => []) trivial ?_ ?_
    · (refine sub_to [] [] rfl ?_ ?_ <;> (repeat' (first | exact trivial | refine ⟨⟨_, rfl, ?_⟩, ?_⟩ | refine ⟨bsub_snoc rfl rfl (fun _ => rfl) ?_, ?_⟩ | refine ⟨bsub_one rfl rfl ?_, ?_⟩ | refine ⟨bsub_all rfl rfl (fun _ _ => rfl) (fun _ => rfl), ?_⟩ | refine ⟨bsub_updL rfl rfl ?_ (fun _ _ _ => rfl) (fun _ => rfl), ?_⟩ | refine ⟨.inl ⟨_, _, rfl, rfl, ?_⟩, ?_⟩ | exact ⟨.inr ⟨rfl, rfl⟩, trivial⟩ | refine ⟨.inr ⟨rfl, rfl⟩, ?_⟩ | (intro _ _) | exact .closed rfl | exact .sl rfl | exact .ptr rfl | exact .map rfl | exact .nil rfl | exact .emp rfl | exact .nilList | exact .empList | exact frzPtr' (by simp; done) rfl (by omega) rfl rfl | exact frzLB (by simp; done) rfl (fun _ => rfl) rfl | exact frz_all (by simp; done) rfl (fun _ _ => rfl) (fun _ => rfl) rfl | exact .frz (by simp; done) rfl (by omega) (fun _ _ => rfl) (fun _ _ => rfl) | exact slEq rfl (by first | (simp; done) | (simp; omega)) | exact siEq (by omega) | exact .of_eq (by refine (show V.agg _ = V.agg _ from ?_); (try dsimp only); congr <;> first | rfl | omega) rfl | exact .closed (by simp [V.closed, V.closed.all, *]; done) | fail)))
    intro k hk _
    have hnb := hb (3 * i + k) (by omega)
    by_cases hltk : k < 3
    · (repeat' (first | (refine ar_isq ?_; first | refine ar_q (qs_move rfl) (dc rfl) ?_ | refine ar_q (qs_assign rfl) (dc rfl) ?_ | (refine is_load ?_; first | refine ar_q (qs_load_ptr (ty rfl) rfl rfl (by first | exact Nat.one_pos | assumption | omega) rfl) (dc rfl) ?_ | refine ar_q (qs_load_ref (ty rfl) rfl rfl) (dc rfl) ?_) | (refine is_binOp ?_; first | refine ar_q (qs_lss rfl rfl) (dc rfl) ?_ | refine ar_q (qs_add rfl rfl (wrap64 (by omega))) (dc rfl) ?_) | refine ar_q (qs_index (ty rfl) rfl (ty rfl) rfl rfl rfl (by omega) rfl) (dc rfl) ?_) | (refine ar_q (qs_index (v := vb (f (3 * i + k))) (j := k) (ty rfl) rfl (ty rfl) rfl rfl rfl (by omega) (cellV_part f i hltk)) (dc rfl) ?_) | (refine ar_q (qs_shl rfl rfl (by omega) (shlOne (by omega))) (dc rfl) ?_) | (refine ar_q (qs_or rfl rfl (orOne (by omega) (by omega))) (dc rfl) ?_) | (refine ar_boxf rfl rfl (dc rfl) ?_) | (refine ar_alloc (ty rfl) rfl (dc rfl) ?_) | (refine ar_store_var (ty rfl) rfl rfl rfl rfl rfl rfl (by first | (dsimp only; omega) | exact dc rfl) (.inr ⟨rfl, rfl, rfl, fun _ h => by cases h⟩) ?_) | (refine ar_store_var (ty rfl) rfl rfl rfl rfl rfl rfl (by first | (dsimp only; omega) | exact dc rfl) (.inl ⟨_, rfl⟩) ?_) | (refine ar_store_elt (ty rfl) rfl rfl rfl rfl rfl rfl (by first | exact Nat.one_pos | assumption | omega) (by first | (dsimp only; omega) | exact dc rfl) (.inr ⟨rfl, rfl, rfl, fun _ h => by cases h⟩) ?_) | (refine ar_store_elt (ty rfl) rfl rfl rfl rfl rfl rfl (by first | exact Nat.one_pos | assumption | omega) (by first | (dsimp only; omega) | exact dc rfl) (.inl ⟨_, rfl⟩) ?_) | (refine ar_nil ?_) | (refine aw_seq ?_) | (refine aw_skip ?_) | (refine aw_block ?_) | (refine aw_exit ?_) | (refine aw_region ?_) | (refine aw_cond rfl ?_ ?_ <;> intro hg <;> first | exact absurd hg (by decide) | ((first | replace hg := hgT hg | replace hg := hgF hg | replace hg := hgNT hg | replace hg := hgNF hg | replace hg := hgBT hg | replace hg := hgBF hg | replace hg := hgV hg | replace hg := hgW hg | skip); (try dsimp only at hg); (try (have _h : True := hg; clear _h hg)); first | (exfalso; omega) | skip))))
      all_goals first
        | (exfalso; omega)
        | ((first | refine loop_next (by omega) ?_ ?_ | refine (show _ ∧ _ ∧ SubOf _ _ _ _ _ _ from And.intro (by omega) (And.intro ?_ ?_))); (focus ((trivial); done)); (focus ((refine sub_to [] [] rfl ?_ ?_ <;> (repeat' (first | exact trivial | refine ⟨⟨_, rfl, ?_⟩, ?_⟩ | refine ⟨bsub_snoc rfl rfl (fun _ => rfl) ?_, ?_⟩ | refine ⟨bsub_one rfl rfl ?_, ?_⟩ | refine ⟨bsub_all rfl rfl (fun _ _ => rfl) (fun _ => rfl), ?_⟩ | refine ⟨bsub_updL rfl rfl ?_ (fun _ _ _ => rfl) (fun _ => rfl), ?_⟩ | refine ⟨.inl ⟨_, _, rfl, rfl, ?_⟩, ?_⟩ | exact ⟨.inr ⟨rfl, rfl⟩, trivial⟩ | refine ⟨.inr ⟨rfl, rfl⟩, ?_⟩ | (intro _ _) | exact .closed rfl | exact .sl rfl | exact .ptr rfl | exact .map rfl | exact .nil rfl | exact .emp rfl | exact .nilList | exact .empList | exact frzPtr' (by simp; done) rfl (by omega) rfl rfl | exact frzLB (by simp; done) rfl (fun _ => rfl) rfl | exact frz_all (by simp; done) rfl (fun _ _ => rfl) (fun _ => rfl) rfl | exact .frz (by simp; done) rfl (by omega) (fun _ _ => rfl) (fun _ _ => rfl) | exact slEq rfl (by first | (simp; done) | (simp; omega)) | exact siEq (by omega) | (first | exact siEq (by omega) | exact siEq (by rw [← Nat.add_assoc]; simp only [numTo]; rw [if_pos (by assumption)]; omega) | exact siEq (by rw [← Nat.add_assoc]; simp only [numTo]; rw [if_neg (by simp_all)]; omega)) | exact .of_eq (by refine (show V.agg _ = V.agg _ from ?_); (try dsimp only); congr <;> first | rfl | omega) rfl | exact .closed (by simp [V.closed, V.closed.all, *]; done) | fail))); done)))
        | trace_state
    · obtain rfl : k = 3 := by omega
      (repeat' (first | (refine ar_isq ?_; first | refine ar_q (qs_move rfl) (dc rfl) ?_ | refine ar_q (qs_assign rfl) (dc rfl) ?_ | (refine is_load ?_; first | refine ar_q (qs_load_ptr (ty rfl) rfl rfl (by first | exact Nat.one_pos | assumption | omega) rfl) (dc rfl) ?_ | refine ar_q (qs_load_ref (ty rfl) rfl rfl) (dc rfl) ?_) | (refine is_binOp ?_; first | refine ar_q (qs_lss rfl rfl) (dc rfl) ?_ | refine ar_q (qs_add rfl rfl (wrap64 (by omega))) (dc rfl) ?_) | refine ar_q (qs_index (ty rfl) rfl (ty rfl) rfl rfl rfl (by omega) rfl) (dc rfl) ?_) | (refine ar_boxf rfl rfl (dc rfl) ?_) | (refine ar_alloc (ty rfl) rfl (dc rfl) ?_) | (refine ar_store_var (ty rfl) rfl rfl rfl rfl rfl rfl (by first | (dsimp only; omega) | exact dc rfl) (.inr ⟨rfl, rfl, rfl, fun _ h => by cases h⟩) ?_) | (refine ar_store_var (ty rfl) rfl rfl rfl rfl rfl rfl (by first | (dsimp only; omega) | exact dc rfl) (.inl ⟨_, rfl⟩) ?_) | (refine ar_store_elt (ty rfl) rfl rfl rfl rfl rfl rfl (by first | exact Nat.one_pos | assumption | omega) (by first | (dsimp only; omega) | exact dc rfl) (.inr ⟨rfl, rfl, rfl, fun _ h => by cases h⟩) ?_) | (refine ar_store_elt (ty rfl) rfl rfl rfl rfl rfl rfl (by first | exact Nat.one_pos | assumption | omega) (by first | (dsimp only; omega) | exact dc rfl) (.inl ⟨_, rfl⟩) ?_) | (refine ar_nil ?_) | (refine aw_seq ?_) | (refine aw_skip ?_) | (refine aw_block ?_) | (refine aw_exit ?_) | (refine aw_region ?_) | (refine aw_cond rfl ?_ ?_ <;> intro hg <;> first | exact absurd hg (by decide) | ((first | replace hg := hgT hg | replace hg := hgF hg | replace hg := hgNT hg | replace hg := hgNF hg | replace hg := hgBT hg | replace hg := hgBF hg | replace hg := hgV hg | replace hg := hgW hg | skip); (try dsimp only at hg); (try (have _h : True := hg; clear _h hg)); first | (exfalso; omega) | skip))))
      all_goals first
        | (exfalso; omega)
        | ((first | refine loop_next (by omega) ?_ ?_ | refine (show _ ∧ _ ∧ SubOf _ _ _ _ _ _ from And.intro (by omega) (And.intro ?_ ?_))); (focus ((trivial); done)); (focus ((refine sub_to [] [] rfl ?_ ?_ <;> (repeat' (first | exact trivial | refine ⟨⟨_, rfl, ?_⟩, ?_⟩ | refine ⟨bsub_snoc rfl rfl (fun _ => rfl) ?_, ?_⟩ | refine ⟨bsub_one rfl rfl ?_, ?_⟩ | refine ⟨bsub_all rfl rfl (fun _ _ => rfl) (fun _ => rfl), ?_⟩ | refine ⟨bsub_updL rfl rfl ?_ (fun _ _ _ => rfl) (fun _ => rfl), ?_⟩ | refine ⟨.inl ⟨_, _, rfl, rfl, ?_⟩, ?_⟩ | exact ⟨.inr ⟨rfl, rfl⟩, trivial⟩ | refine ⟨.inr ⟨rfl, rfl⟩, ?_⟩ | (intro _ _) | exact .closed rfl | exact .sl rfl | exact .ptr rfl | exact .map rfl | exact .nil rfl | exact .emp rfl | exact .nilList | exact .empList | exact frzPtr' (by simp; done) rfl (by omega) rfl rfl | exact frzLB (by simp; done) rfl (fun _ => rfl) rfl | exact frz_all (by simp; done) rfl (fun _ _ => rfl) (fun _ => rfl) rfl | exact .frz (by simp; done) rfl (by omega) (fun _ _ => rfl) (fun _ _ => rfl) | exact slEq rfl (by first | (simp; done) | (simp; omega)) | exact siEq (by omega) | exact .of_eq (by refine (show V.agg _ = V.agg _ from ?_); (try dsimp only); congr <;> first | rfl | omega) rfl | exact .closed (by simp [V.closed, V.closed.all, *]; done) | fail))); done)))
        | trace_state
  · obtain rfl : i = 5 := by omega
    (repeat' (first | (refine ar_isq ?_; first | refine ar_q (qs_move rfl) (dc rfl) ?_ | refine ar_q (qs_assign rfl) (dc rfl) ?_ | (refine is_load ?_; first | refine ar_q (qs_load_ptr (ty rfl) rfl rfl (by first | exact Nat.one_pos | assumption | omega) rfl) (dc rfl) ?_ | refine ar_q (qs_load_ref (ty rfl) rfl rfl) (dc rfl) ?_) | (refine is_binOp ?_; first | refine ar_q (qs_lss rfl rfl) (dc rfl) ?_ | refine ar_q (qs_add rfl rfl (wrap64 (by omega))) (dc rfl) ?_) | refine ar_q (qs_index (ty rfl) rfl (ty rfl) rfl rfl rfl (by omega) rfl) (dc rfl) ?_) | (refine ar_boxf rfl rfl (dc rfl) ?_) | (refine ar_alloc (ty rfl) rfl (dc rfl) ?_) | (refine ar_store_var (ty rfl) rfl rfl rfl rfl rfl rfl (by first | (dsimp only; omega) | exact dc rfl) (.inr ⟨rfl, rfl, rfl, fun _ h => by cases h⟩) ?_) | (refine ar_store_var (ty rfl) rfl rfl rfl rfl rfl rfl (by first | (dsimp only; omega) | exact dc rfl) (.inl ⟨_, rfl⟩) ?_) | (refine ar_store_elt (ty rfl) rfl rfl rfl rfl rfl rfl (by first | exact Nat.one_pos | assumption | omega) (by first | (dsimp only; omega) | exact dc rfl) (.inr ⟨rfl, rfl, rfl, fun _ h => by cases h⟩) ?_) | (refine ar_store_elt (ty rfl) rfl rfl rfl rfl rfl rfl (by first | exact Nat.one_pos | assumption | omega) (by first | (dsimp only; omega) | exact dc rfl) (.inl ⟨_, rfl⟩) ?_) | (refine ar_nil ?_) | (refine aw_seq ?_) | (refine aw_skip ?_) | (refine aw_block ?_) | (refine aw_exit ?_) | (refine aw_region ?_) | (refine aw_cond rfl ?_ ?_ <;> intro hg <;> first | exact absurd hg (by decide) | ((first | replace hg := hgT hg | replace hg := hgF hg | replace hg := hgNT hg | replace hg := hgNF hg | replace hg := hgBT hg | replace hg := hgBF hg | replace hg := hgV hg | replace hg := hgW hg | skip); (try dsimp only at hg); (try (have _h : True := hg; clear _h hg)); first | (exfalso; omega) | skip))))
    all_goals first
      | (exfalso; omega)
      | ((refine aw_ret ?_; (repeat (first | refine ret_then ?_ | refine ret_block ?_)); refine bq1 rfl ⟨?_, rfl⟩); rfl)
      | trace_state
end Go.Proofs.Ytccidiflnmchiaa
